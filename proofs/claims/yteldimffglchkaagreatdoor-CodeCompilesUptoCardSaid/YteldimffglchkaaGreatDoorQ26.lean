/- A part of the proof. -/
import Derived.Test.YteldimffglchkaaGreatDoorRows
import Derived.WalkKit
import Derived.ProofKit
import Derived.OpenShut
import Derived.JoinedCond
set_option linter.all false
namespace Go.Proofs.YteldimffglchkaaGreatDoor
open Go.Proofs.Tryz
open Go Go.ChangeShapes Go.WideShapes Go.ChangeAt Go.RowKit
set_option maxRecDepth 100000
theorem NX:prog.inPlace 7=Rows.codeCompilesUptoRow.inPlace:=by kernel_rfl
theorem NW:prog.unfollowed 7=Rows.codeCompilesUptoRow.unfollowed:=by kernel_rfl
theorem NV:prog.recurses 7=Rows.codeCompilesUptoRow.recurses:=by kernel_rfl
theorem NU:prog.varsNamed 7=Rows.codeCompilesUptoRow.named:=by kernel_rfl
theorem K0:joinedFacts prog 7 f7 (Rows.OpenSpec.upto Rows.codeCompilesSpec).bare Rows.codeCompilesUptoRow=true:=by
 unfold joinedFacts
 rw[NX,NW,NV,NU]
 kernel_rfl
end Go.Proofs.YteldimffglchkaaGreatDoor
