/- The law BindBinds holds of each program: where what is read is of bulk at most 1048576, the call says true and leaves its argument. -/
import Derived.Test.YtlfimpogphmbdaaGreatM34
set_option linter.all false
namespace Go.Proofs.YtlfimpogphmbdaaGreat
open Go.Proofs.Tryz
open Go Go.DL Go.ChangeShapes Go.WideShapes Go.ChangeAt Go.RowKit
set_option maxRecDepth 100000
theorem NY (os:Os) (started:os.Started) (H:Type) (enc:TypeId × Value->H) (F:Stop.Interp) :
  ReturnsInHanded {} checked os 4 .any ((Rows.OpenSpec.upto Rows.bindBindsSpec).pre6 enc prog f4 Rows.bindBindsUptoRow.domain false) (((Rows.OpenSpec.upto Rows.bindBindsSpec).at F).post enc prog f4 false true false false):=by
 refine returnsInHanded_of_cond (C:=checked) (s:=Rows.OpenSpec.upto Rows.bindBindsSpec) (k:=Rows.uptoSmall) rfl Go.DL.own started (by kernel_rfl) func4
  (OpenSpec.witness (enc:=enc) (C:=checked) (s:=Rows.OpenSpec.upto Rows.bindBindsSpec) (k:=Rows.uptoSmall) rfl false ⟨#[], #[.agg #[.slice none 0 0, .slice none 0 0, .int .i64 0, .int .i64 0, .string ⟨#[]⟩, .slice none 0 0]],[]⟩ 8 (by kernel_rfl) (by kernel_rfl) (by kernel_rfl)
   (x:=([.agg [.nil, .nil, .agg [.lit (.int .i64 0), .lit (.int .i64 0), .lit (.string []), .nil]]],[],[])) (by kernel_rfl) rfl (by kernel_rfl)) ?_
 intro W base args ds gs before hval hW _ hk _
 exact law1F params4 (by kernel_rfl) (fun p hp=>(SS p _ (by omega)).mono fun _ _ h=>h.1) rfl (fun _=>rfl) hval hW hk
theorem OF:prog.funcNamed Rows.bindBindsUptoRow.func=some 4:=by kernel_rfl
theorem OG:joinedFacts prog 4 f4 (Rows.OpenSpec.upto Rows.bindBindsSpec).bare Rows.bindBindsUptoRow=true:=by kernel_rfl
theorem Rf:f4.isInstance prog Rows.bindBindsUptoRow.origin Rows.bindBindsUptoRow.targs:=of_decide_eq_true (by kernel_rfl)
theorem Re:f4.isWrapper prog Rows.bindBindsUptoRow.wrapper Rows.bindBindsUptoRow.mainSum:=by unfold Func.isWrapper;first | (rw [if_pos (by decide +kernel)];kernel_rfl) | (rw [if_neg (by decide +kernel)];exact ⟨rfl,rfl⟩)
theorem binds_holds:Rows.BindBindsUptoSaid :=
 OpenClaim.holds_of_cond 4 f4 rfl rfl rfl rfl rfl rfl rfl ⟨rfl,rfl,rfl,rfl,rfl⟩ rfl rfl rfl rfl rfl OF func4 OG Rf Re
  (fun os started H enc _ F=>NY os started H enc F)
end Go.Proofs.YtlfimpogphmbdaaGreat
