/- A part of the proof. -/
import Derived.Test.YteldimffglchkaaGreatDoorRows
import Derived.WalkKit
import Derived.ProofKit
import Derived.OpenShut
import Derived.JoinedCond
set_option linter.all false
namespace Go.Proofs.YteldimffglchkaaGreatDoor
open Go.Proofs.Tryz
open Go Go.ChangeShapes Go.WideShapes Go.ChangeAt Go.RowKit
set_option maxRecDepth 100000
theorem hurt_f1:prog.inPlace 10=Rows.codeHurtUptoRow.inPlace:=by kernel_rfl
theorem hurt_f2:prog.unfollowed 10=Rows.codeHurtUptoRow.unfollowed:=by kernel_rfl
theorem hurt_f3:prog.recurses 10=Rows.codeHurtUptoRow.recurses:=by kernel_rfl
theorem hurt_f4:prog.varsNamed 10=Rows.codeHurtUptoRow.named:=by kernel_rfl
theorem O7:joinedFacts prog 10 f10 (Rows.OpenSpec.upto Rows.codeHurtSpec).bare Rows.codeHurtUptoRow=true:=by
 unfold joinedFacts
 rw[hurt_f1,hurt_f2,hurt_f3,hurt_f4]
 kernel_rfl
end Go.Proofs.YteldimffglchkaaGreatDoor
