/- The law BindChecks holds of each program by numbers: where what is read is of bulk at most 1048576, the call says true and leaves its argument. -/
import Derived.Test.YtlfimpogphmbdaaGreatM29
import Derived.Test.YtlfimpogphmbdaaGreatM26
set_option linter.all false
namespace Go.Proofs.YtlfimpogphmbdaaGreat
open Go.Proofs.Tryz
open Go Go.DL Go.ChangeShapes Go.WideShapes Go.ChangeAt Go.RowKit
set_option maxRecDepth 100000
theorem Ls (os:Os) (started:os.Started) (H:Type) (enc:TypeId × Value->H) (F:Stop.Interp) :
  ReturnsInHanded {} checked os 3 .any ((Rows.OpenSpec.upto Rows.bindChecksSpec).pre6 enc prog f3 Rows.bindChecksUptoRow.domain false) (((Rows.OpenSpec.upto Rows.bindChecksSpec).at F).post enc prog f3 false true false false):=by
 refine returnsInHanded_of_cond (C:=checked) (s:=Rows.OpenSpec.upto Rows.bindChecksSpec) (k:=Rows.uptoSmall) rfl Go.DL.own started (by kernel_rfl) func3
  (OpenSpec.witness (enc:=enc) (C:=checked) (s:=Rows.OpenSpec.upto Rows.bindChecksSpec) (k:=Rows.uptoSmall) rfl false ⟨#[], #[.agg #[.slice none 0 0, .int .i64 0, .slice none 0 0, .slice none 0 0, .slice none 0 0, .int .i64 0]],[]⟩ 8 (by kernel_rfl) (by kernel_rfl) (by kernel_rfl)
   (x:=([.agg [.nil, .lit (.int .i64 0), .nil, .nil, .nil, .lit (.int .i64 0)]],[],[])) (by kernel_rfl) rfl (by kernel_rfl)) ?_
 intro W base args ds gs before hval hW _ hk _
 exact law1 params3 (by kernel_rfl) (fun p hp=>(Rt p _ (by omega) (HY p)).mono fun _ _ h=>h.1) rfl (fun _=>rfl) hval hW hk
theorem MU:prog.funcNamed Rows.bindChecksUptoRow.func=some 3:=by kernel_rfl
theorem MV:joinedFacts prog 3 f3 (Rows.OpenSpec.upto Rows.bindChecksSpec).bare Rows.bindChecksUptoRow=true:=by kernel_rfl
theorem NV:f3.isInstance prog Rows.bindChecksUptoRow.origin Rows.bindChecksUptoRow.targs:=of_decide_eq_true (by kernel_rfl)
theorem NU:f3.isWrapper prog Rows.bindChecksUptoRow.wrapper Rows.bindChecksUptoRow.mainSum:=by unfold Func.isWrapper;first | (rw [if_pos (by decide +kernel)];kernel_rfl) | (rw [if_neg (by decide +kernel)];exact ⟨rfl,rfl⟩)
theorem checks_holds:Rows.BindChecksUptoSaid :=
 OpenClaim.holds_of_cond 3 f3 rfl rfl rfl rfl rfl rfl rfl ⟨rfl,rfl,rfl,rfl,rfl⟩ rfl rfl rfl rfl rfl MU func3 MV NV NU
  (fun os started H enc _ F=>Ls os started H enc F)
end Go.Proofs.YtlfimpogphmbdaaGreat
