/- A part of the law BindBack: what its row says of its function is so. -/
import Derived.Test.YtlfimpogphmbdaaGreatRows
import Derived.WalkKit
import Derived.ProofKit
import Derived.OpenShut
import Derived.JoinedCond
set_option linter.all false
namespace Go.Proofs.YtlfimpogphmbdaaGreat
open Go.Proofs.Tryz
open Go Go.ChangeShapes Go.WideShapes Go.ChangeAt Go.RowKit
set_option maxRecDepth 100000
theorem back_f1:prog.inPlace 9=Rows.bindBackUptoRow.inPlace:=by kernel_rfl
theorem back_f2:prog.unfollowed 9=Rows.bindBackUptoRow.unfollowed:=by kernel_rfl
theorem back_f3:prog.recurses 9=Rows.bindBackUptoRow.recurses:=by kernel_rfl
theorem back_f4:prog.varsNamed 9=Rows.bindBackUptoRow.named:=by kernel_rfl
theorem U8:joinedFacts prog 9 f9 (Rows.OpenSpec.upto Rows.bindBackSpec).bare Rows.bindBackUptoRow=true:=by
 unfold joinedFacts;rw[back_f1,back_f2,back_f3,back_f4]
 kernel_rfl
end Go.Proofs.YtlfimpogphmbdaaGreat
