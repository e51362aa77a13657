/- A part of the proof. -/
import Derived.Test.YteldimffglchkaaGreatDoorRows
import Derived.WalkKit
import Derived.ProofKit
import Derived.OpenShut
import Derived.JoinedCond
set_option linter.all false
namespace Go.Proofs.YteldimffglchkaaGreatDoor
open Go.Proofs.Tryz
open Go Go.ChangeShapes Go.WideShapes Go.ChangeAt Go.RowKit
set_option maxRecDepth 100000
theorem TZ:prog.inPlace 8=Rows.codeChecksUptoRow.inPlace:=by kernel_rfl
theorem TY:prog.unfollowed 8=Rows.codeChecksUptoRow.unfollowed:=by kernel_rfl
theorem TX:prog.recurses 8=Rows.codeChecksUptoRow.recurses:=by kernel_rfl
theorem TW:prog.varsNamed 8=Rows.codeChecksUptoRow.named:=by kernel_rfl
theorem N0:joinedFacts prog 8 f8 (Rows.OpenSpec.upto Rows.codeChecksSpec).bare Rows.codeChecksUptoRow=true:=by
 unfold joinedFacts
 rw[TZ,TY,TX,TW]
 kernel_rfl
end Go.Proofs.YteldimffglchkaaGreatDoor
