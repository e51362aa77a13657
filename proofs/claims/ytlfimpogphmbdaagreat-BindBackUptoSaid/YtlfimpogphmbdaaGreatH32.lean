/- The law BindBack d7 of each program: where what is read is of bulk at most 1048576, the call says true and leaves its argument. -/
import Derived.Test.YtlfimpogphmbdaaGreatH31
import Derived.Test.YtlfimpogphmbdaaGreatH01
set_option linter.all false
namespace Go.Proofs.YtlfimpogphmbdaaGreat
open Go.Proofs.Tryz
open Go Go.DL Go.ChangeShapes Go.WideShapes Go.ChangeAt Go.RowKit
set_option maxRecDepth 100000
theorem QK(os:Os)(started:os.Started)(H:Type)(enc:TypeId×Value->H)(F:Stop.Interp):
  ReturnsInHanded {} checked os 9 .any ((Rows.OpenSpec.upto Rows.bindBackSpec).pre6 enc prog f9 Rows.bindBackUptoRow.domain false) (((Rows.OpenSpec.upto Rows.bindBackSpec).at F).post enc prog f9 false true false false):=by
 refine returnsInHanded_of_cond (C:=checked) (s:=Rows.OpenSpec.upto Rows.bindBackSpec) (k:=Rows.uptoSmall) rfl Go.DL.own started (by kernel_rfl) func9
  (OpenSpec.witness (enc:=enc) (C:=checked) (s:=Rows.OpenSpec.upto Rows.bindBackSpec) (k:=Rows.uptoSmall) rfl false ⟨#[], #[.agg #[.slice none 0 0, .slice none 0 0, .int .i64 0, .int .i64 0, .string ⟨#[]⟩, .slice none 0 0]],[]⟩ 8 (by kernel_rfl) (by kernel_rfl) (by kernel_rfl)
   (x:=([.agg [.nil,.nil,.agg [.lit (.int .i64 0),.lit (.int .i64 0),.lit (.string []),.nil]]],[],[])) (by kernel_rfl) rfl (by kernel_rfl)) ?_
 intro W base args ds gs before d6 hW _ hk _;exact law1F params9 (by kernel_rfl) (fun p hp=>(f9_spec p _ k0).mono fun _ _ h=>h.1) rfl (fun _=>rfl) d6 hW hk
theorem U7:prog.funcNamed Rows.bindBackUptoRow.func=some 9:=by kernel_rfl
theorem XM:f9.isInstance prog Rows.bindBackUptoRow.origin Rows.bindBackUptoRow.targs:=bx (by kernel_rfl)
theorem XL:f9.isWrapper prog Rows.bindBackUptoRow.wrapper Rows.bindBackUptoRow.mainSum:=by unfold Func.isWrapper;first|(rw[aS (by decide +kernel)];kernel_rfl)|(rw[aQ (by decide +kernel)];exact⟨rfl,rfl⟩)
theorem back_holds:Rows.BindBackUptoSaid:=
 OpenClaim.holds_of_cond 9 f9 rfl rfl rfl rfl rfl rfl rfl ⟨rfl,rfl,rfl,rfl,rfl⟩ rfl rfl rfl rfl rfl U7 func9 U8 XM XL
  (fun os started H enc _ F=>QK os started H enc F)
end Go.Proofs.YtlfimpogphmbdaaGreat
