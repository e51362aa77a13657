/- A part of the proof. -/
import Derived.Test.YteldimffglchkaaGreatDoorRows
import Derived.WalkKit
import Derived.ProofKit
import Derived.OpenShut
import Derived.JoinedCond
set_option linter.all false
namespace Go.Proofs.YteldimffglchkaaGreatDoor
open Go.Proofs.Tryz
open Go Go.ChangeShapes Go.WideShapes Go.ChangeAt Go.RowKit
set_option maxRecDepth 100000
theorem Uy:prog.inPlace 6=Rows.codeLastsUptoRow.inPlace:=by kernel_rfl
theorem Ux:prog.unfollowed 6=Rows.codeLastsUptoRow.unfollowed:=by kernel_rfl
theorem Uw:prog.recurses 6=Rows.codeLastsUptoRow.recurses:=by kernel_rfl
theorem Uv:prog.varsNamed 6=Rows.codeLastsUptoRow.named:=by kernel_rfl
theorem Nw:joinedFacts prog 6 f6 (Rows.OpenSpec.upto Rows.codeLastsSpec).bare Rows.codeLastsUptoRow=true:=by
 unfold joinedFacts
 rw[Uy,Ux,Uw,Uv]
 kernel_rfl
end Go.Proofs.YteldimffglchkaaGreatDoor
