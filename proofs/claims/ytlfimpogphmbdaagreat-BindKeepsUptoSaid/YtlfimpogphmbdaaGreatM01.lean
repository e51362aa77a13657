/- A part of the law BindKeeps: what its row says of its function is so. -/
import Derived.Test.YtlfimpogphmbdaaGreatRows
import Derived.WalkKit
import Derived.ProofKit
import Derived.OpenShut
import Derived.JoinedCond
set_option linter.all false
namespace Go.Proofs.YtlfimpogphmbdaaGreat
open Go.Proofs.Tryz
open Go Go.ChangeShapes Go.WideShapes Go.ChangeAt Go.RowKit
set_option maxRecDepth 100000
theorem Ug:prog.inPlace 10=Rows.bindKeepsUptoRow.inPlace:=by kernel_rfl
theorem Uf:prog.unfollowed 10=Rows.bindKeepsUptoRow.unfollowed:=by kernel_rfl
theorem Ue:prog.recurses 10=Rows.bindKeepsUptoRow.recurses:=by kernel_rfl
theorem Ud:prog.varsNamed 10=Rows.bindKeepsUptoRow.named:=by kernel_rfl
theorem NK:joinedFacts prog 10 f10 (Rows.OpenSpec.upto Rows.bindKeepsSpec).bare Rows.bindKeepsUptoRow=true:=by
 unfold joinedFacts;rw[Ug,Uf,Ue,Ud]
 kernel_rfl
end Go.Proofs.YtlfimpogphmbdaaGreat
