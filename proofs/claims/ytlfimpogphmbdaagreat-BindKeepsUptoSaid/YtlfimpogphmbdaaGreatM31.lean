/- The law BindKeeps holds of each program by numbers: where what is read is of bulk at most 1048576, the call says true and leaves its argument. -/
import Derived.Test.YtlfimpogphmbdaaGreatM30
import Derived.Test.YtlfimpogphmbdaaGreatM01
set_option linter.all false
namespace Go.Proofs.YtlfimpogphmbdaaGreat
open Go.Proofs.Tryz
open Go Go.DL Go.ChangeShapes Go.WideShapes Go.ChangeAt Go.RowKit
set_option maxRecDepth 100000
theorem M2(os:Os)(started:os.Started)(H:Type)(enc:TypeId×Value->H)(F:Stop.Interp):
  ReturnsInHanded {} checked os 10 .any ((Rows.OpenSpec.upto Rows.bindKeepsSpec).pre6 enc prog f10 Rows.bindKeepsUptoRow.domain false) (((Rows.OpenSpec.upto Rows.bindKeepsSpec).at F).post enc prog f10 false true false false):=by
 refine returnsInHanded_of_cond (C:=checked) (s:=Rows.OpenSpec.upto Rows.bindKeepsSpec) (k:=Rows.uptoSmall) rfl Go.DL.own started (by kernel_rfl) func10
  (OpenSpec.witness (enc:=enc) (C:=checked) (s:=Rows.OpenSpec.upto Rows.bindKeepsSpec) (k:=Rows.uptoSmall) rfl false ⟨#[], #[.agg #[.slice none 0 0, .int .i64 0, .slice none 0 0, .slice none 0 0, .slice none 0 0, .int .i64 0]],[]⟩ 8 (by kernel_rfl) (by kernel_rfl) (by kernel_rfl)
   (x:=([.agg [.nil,.lit (.int .i64 0),.nil,.nil,.nil,.lit (.int .i64 0)]],[],[])) (by kernel_rfl) rfl (by kernel_rfl)) ?_
 intro W base args ds gs before hval hW _ hk _;exact law1 params10 (by kernel_rfl) (fun p hp=>(UI p _ hp).mono fun _ _ h=>h.1) rfl (fun _=>rfl) hval hW hk
theorem NJ:prog.funcNamed Rows.bindKeepsUptoRow.func=some 10:=by kernel_rfl
theorem PR:f10.isInstance prog Rows.bindKeepsUptoRow.origin Rows.bindKeepsUptoRow.targs:=of_decide_eq_true (by kernel_rfl)
theorem PQ:f10.isWrapper prog Rows.bindKeepsUptoRow.wrapper Rows.bindKeepsUptoRow.mainSum:=by unfold Func.isWrapper;first|(rw[if_pos (by decide +kernel)];kernel_rfl)|(rw[if_neg (by decide +kernel)];exact⟨rfl,rfl⟩)
theorem keeps_holds:Rows.BindKeepsUptoSaid:=
 OpenClaim.holds_of_cond 10 f10 rfl rfl rfl rfl rfl rfl rfl ⟨rfl,rfl,rfl,rfl,rfl⟩ rfl rfl rfl rfl rfl NJ func10 NK PR PQ
  (fun os started H enc _ F=>M2 os started H enc F)
end Go.Proofs.YtlfimpogphmbdaaGreat
