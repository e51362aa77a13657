/- The law BindForms holds of each program by numbers: where what is read is of bulk at most 1048576, the call says true and leaves its argument. -/
import Derived.Test.YtlfimpogphmbdaaGreatM36
import Derived.Test.YtlfimpogphmbdaaGreatM35
import Derived.Test.YtlfimpogphmbdaaGreatM01
set_option linter.all false
namespace Go.Proofs.YtlfimpogphmbdaaGreat
open Go.Proofs.Tryz
open Go Go.DL Go.ChangeShapes Go.WideShapes Go.ChangeAt Go.RowKit
set_option maxRecDepth 100000
theorem Nd(os:Os)(started:os.Started)(H:Type)(enc:TypeId×Value->H)(F:Stop.Interp):
  ReturnsInHanded {} checked os 5 .any ((Rows.OpenSpec.upto Rows.bindFormsSpec).pre6 enc prog f5 Rows.bindFormsUptoRow.domain false) (((Rows.OpenSpec.upto Rows.bindFormsSpec).at F).post enc prog f5 false true false false):=by
 refine returnsInHanded_of_cond (C:=checked) (s:=Rows.OpenSpec.upto Rows.bindFormsSpec) (k:=Rows.uptoSmall) rfl Go.DL.own started (by kernel_rfl) func5
  (OpenSpec.witness (enc:=enc) (C:=checked) (s:=Rows.OpenSpec.upto Rows.bindFormsSpec) (k:=Rows.uptoSmall) rfl false ⟨#[], #[.agg #[.slice none 0 0, .int .i64 0, .slice none 0 0, .slice none 0 0, .slice none 0 0, .int .i64 0]],[]⟩ 8 (by kernel_rfl) (by kernel_rfl) (by kernel_rfl)
   (x:=([.agg [.nil,.lit (.int .i64 0),.nil,.nil,.nil,.lit (.int .i64 0)]],[],[])) (by kernel_rfl) rfl (by kernel_rfl)) ?_
 intro W base args ds gs before hval hW _ hk _
 exact law1 params5 (by kernel_rfl) (fun p hp=>(T6 p _ (by omega)).mono fun _ _ h=>h.1) rfl (fun _=>rfl) hval hW hk
theorem OC:prog.funcNamed Rows.bindFormsUptoRow.func=some 5:=by kernel_rfl
theorem QB:f5.isInstance prog Rows.bindFormsUptoRow.origin Rows.bindFormsUptoRow.targs:=of_decide_eq_true (by kernel_rfl)
theorem Qz:f5.isWrapper prog Rows.bindFormsUptoRow.wrapper Rows.bindFormsUptoRow.mainSum:=by unfold Func.isWrapper;first|(rw[if_pos (by decide +kernel)];kernel_rfl)|(rw[if_neg (by decide +kernel)];exact⟨rfl,rfl⟩)
theorem forms_holds:Rows.BindFormsUptoSaid:=
 OpenClaim.holds_of_cond 5 f5 rfl rfl rfl rfl rfl rfl rfl ⟨rfl,rfl,rfl,rfl,rfl⟩ rfl rfl rfl rfl rfl OC func5 OD QB Qz
  (fun os started H enc _ F=>Nd os started H enc F)
end Go.Proofs.YtlfimpogphmbdaaGreat
