/- A part of the proof. -/
import Derived.Test.YteldimffglchkaaGreatDoorRows
import Derived.WalkKit
import Derived.ProofKit
import Derived.OpenShut
import Derived.JoinedCond
set_option linter.all false
namespace Go.Proofs.YteldimffglchkaaGreatDoor
open Go.Proofs.Tryz
open Go Go.ChangeShapes Go.WideShapes Go.ChangeAt Go.RowKit
set_option maxRecDepth 100000
theorem VW:prog.inPlace 3=Rows.codeStepsUptoRow.inPlace:=by kernel_rfl
theorem VV:prog.unfollowed 3=Rows.codeStepsUptoRow.unfollowed:=by kernel_rfl
theorem VU:prog.recurses 3=Rows.codeStepsUptoRow.recurses:=by kernel_rfl
theorem VT:prog.varsNamed 3=Rows.codeStepsUptoRow.named:=by kernel_rfl
theorem Ob:joinedFacts prog 3 f3 (Rows.OpenSpec.upto Rows.codeStepsSpec).bare Rows.codeStepsUptoRow=true:=by
 unfold joinedFacts;rw[VW,VV,VU,VT]
 kernel_rfl
end Go.Proofs.YteldimffglchkaaGreatDoor
