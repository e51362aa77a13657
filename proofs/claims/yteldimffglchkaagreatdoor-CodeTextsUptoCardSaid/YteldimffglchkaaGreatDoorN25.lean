/- A part of the proof. -/
import Derived.Test.YteldimffglchkaaGreatDoorRows
import Derived.WalkKit
import Derived.ProofKit
import Derived.OpenShut
import Derived.JoinedCond
set_option linter.all false
namespace Go.Proofs.YteldimffglchkaaGreatDoor
open Go.Proofs.Tryz
open Go Go.ChangeShapes Go.WideShapes Go.ChangeAt Go.RowKit
set_option maxRecDepth 100000
theorem TT:prog.inPlace 11=Rows.codeTextsUptoRow.inPlace:=by kernel_rfl
theorem TS:prog.unfollowed 11=Rows.codeTextsUptoRow.unfollowed:=by kernel_rfl
theorem TR:prog.recurses 11=Rows.codeTextsUptoRow.recurses:=by kernel_rfl
theorem TQ:prog.varsNamed 11=Rows.codeTextsUptoRow.named:=by kernel_rfl
theorem MX:joinedFacts prog 11 f11 (Rows.OpenSpec.upto Rows.codeTextsSpec).bare Rows.codeTextsUptoRow=true:=by
 unfold joinedFacts
 rw[TT,TS,TR,TQ]
 kernel_rfl
end Go.Proofs.YteldimffglchkaaGreatDoor
