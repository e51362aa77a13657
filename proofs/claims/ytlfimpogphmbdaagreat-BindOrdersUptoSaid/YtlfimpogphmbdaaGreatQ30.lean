/- The law BindOrders d7 of each program by numbers: where what is read is of bulk at most 1048576, the call says true and leaves its argument. -/
import Derived.Test.YtlfimpogphmbdaaGreatQ29
import Derived.Test.YtlfimpogphmbdaaGreatQ01
set_option linter.all false
namespace Go.Proofs.YtlfimpogphmbdaaGreat
open Go.Proofs.Tryz
open Go Go.DL Go.ChangeShapes Go.WideShapes Go.ChangeAt Go.RowKit
set_option maxRecDepth 100000
theorem Mi(os:Os)(started:os.Started)(H:Type)(enc:TypeId×Value->H)(F:Stop.Interp):
  ReturnsInHanded {} checked os 8 .any ((Rows.OpenSpec.upto Rows.bindOrdersSpec).pre6 enc prog f8 Rows.bindOrdersUptoRow.domain false) (((Rows.OpenSpec.upto Rows.bindOrdersSpec).at F).post enc prog f8 false true false false):=by
 refine returnsInHanded_of_cond (C:=checked) (s:=Rows.OpenSpec.upto Rows.bindOrdersSpec) (k:=Rows.uptoSmall) rfl Go.DL.own started (by kernel_rfl) func8
  (OpenSpec.witness (enc:=enc) (C:=checked) (s:=Rows.OpenSpec.upto Rows.bindOrdersSpec) (k:=Rows.uptoSmall) rfl false ⟨#[], #[.agg #[.slice none 0 0, .int .i64 0, .slice none 0 0, .slice none 0 0, .slice none 0 0, .int .i64 0]],[]⟩ 8 (by kernel_rfl) (by kernel_rfl) (by kernel_rfl)
   (x:=([.agg [.nil,.lit (.int .i64 0),.nil,.nil,.nil,.lit (.int .i64 0)]],[],[])) (by kernel_rfl) rfl (by kernel_rfl)) ?_
 intro W base args ds gs before d6 hW _ hk _
 exact law1 params8 (by kernel_rfl) (fun p hp=>(f8_spec p _ hp).mono fun _ _ h=>h.1) rfl (fun _=>rfl) d6 hW hk
theorem Nv:prog.funcNamed Rows.bindOrdersUptoRow.func=some 8:=by kernel_rfl
theorem Ph:f8.isInstance prog Rows.bindOrdersUptoRow.origin Rows.bindOrdersUptoRow.targs:=cx (by kernel_rfl)
theorem Pg:f8.isWrapper prog Rows.bindOrdersUptoRow.wrapper Rows.bindOrdersUptoRow.mainSum:=by unfold Func.isWrapper;first|(rw[aS (by decide +kernel)];kernel_rfl)|(rw[aN (by decide +kernel)];exact⟨rfl,rfl⟩)
theorem orders_holds:Rows.BindOrdersUptoSaid:=
 OpenClaim.holds_of_cond 8 f8 rfl rfl rfl rfl rfl rfl rfl ⟨rfl,rfl,rfl,rfl,rfl⟩ rfl rfl rfl rfl rfl Nv func8 Nw Ph Pg
  (fun os started H enc _ F=>Mi os started H enc F)
end Go.Proofs.YtlfimpogphmbdaaGreat
