/- A part of the proof. -/
import Derived.Test.YteldimffglchkaaGreatDoorRows
import Derived.WalkKit
import Derived.ProofKit
import Derived.OpenShut
import Derived.JoinedCond
set_option linter.all false
namespace Go.Proofs.YteldimffglchkaaGreatDoor
open Go.Proofs.Tryz
open Go Go.ChangeShapes Go.WideShapes Go.ChangeAt Go.RowKit
set_option maxRecDepth 100000
theorem Tg:prog.inPlace 9=Rows.codePacksUptoRow.inPlace:=by kernel_rfl
theorem Tf:prog.unfollowed 9=Rows.codePacksUptoRow.unfollowed:=by kernel_rfl
theorem Te:prog.recurses 9=Rows.codePacksUptoRow.recurses:=by kernel_rfl
theorem Td:prog.varsNamed 9=Rows.codePacksUptoRow.named:=by kernel_rfl
theorem Mu:joinedFacts prog 9 f9 (Rows.OpenSpec.upto Rows.codePacksSpec).bare Rows.codePacksUptoRow=true:=by
 unfold joinedFacts
 rw[Tg,Tf,Te,Td]
 kernel_rfl
end Go.Proofs.YteldimffglchkaaGreatDoor
