/- A part of the proof. -/
import Derived.Test.YteldimffglchkaaGreatDoorRows
import Derived.WalkKit
import Derived.ProofKit
import Derived.OpenShut
import Derived.JoinedCond
set_option linter.all false
namespace Go.Proofs.YteldimffglchkaaGreatDoor
open Go.Proofs.Tryz
open Go Go.ChangeShapes Go.WideShapes Go.ChangeAt Go.RowKit
set_option maxRecDepth 100000
theorem ways_f1:prog.inPlace 12=Rows.codeWaysUptoRow.inPlace:=by kernel_rfl
theorem ways_f2:prog.unfollowed 12=Rows.codeWaysUptoRow.unfollowed:=by kernel_rfl
theorem ways_f3:prog.recurses 12=Rows.codeWaysUptoRow.recurses:=by kernel_rfl
theorem ways_f4:prog.varsNamed 12=Rows.codeWaysUptoRow.named:=by kernel_rfl
theorem OU:joinedFacts prog 12 f12 (Rows.OpenSpec.upto Rows.codeWaysSpec).bare Rows.codeWaysUptoRow=true:=by
 unfold joinedFacts
 rw[ways_f1,ways_f2,ways_f3,ways_f4]
 kernel_rfl
end Go.Proofs.YteldimffglchkaaGreatDoor
