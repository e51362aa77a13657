/- A part of the proof. -/
import Derived.Test.YteldimffglchkaaGreatDoorRows
import Derived.WalkKit
import Derived.ProofKit
import Derived.OpenShut
import Derived.JoinedCond
set_option linter.all false
namespace Go.Proofs.YteldimffglchkaaGreatDoor
open Go.Proofs.Tryz
open Go Go.ChangeShapes Go.WideShapes Go.ChangeAt Go.RowKit
set_option maxRecDepth 100000
theorem Uy:prog.inPlace 5=Rows.codeStaysUptoRow.inPlace:=by kernel_rfl
theorem Ux:prog.unfollowed 5=Rows.codeStaysUptoRow.unfollowed:=by kernel_rfl
theorem Uw:prog.recurses 5=Rows.codeStaysUptoRow.recurses:=by kernel_rfl
theorem Uv:prog.varsNamed 5=Rows.codeStaysUptoRow.named:=by kernel_rfl
theorem NE:joinedFacts prog 5 f5 (Rows.OpenSpec.upto Rows.codeStaysSpec).bare Rows.codeStaysUptoRow=true:=by
 unfold joinedFacts
 rw[Uy,Ux,Uw,Uv]
 kernel_rfl
end Go.Proofs.YteldimffglchkaaGreatDoor
