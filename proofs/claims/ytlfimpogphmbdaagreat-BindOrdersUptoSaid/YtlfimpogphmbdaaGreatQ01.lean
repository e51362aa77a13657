/- A part of the law BindOrders: what its row says of its function is so. -/
import Derived.Test.YtlfimpogphmbdaaGreatRows
import Derived.WalkKit
import Derived.ProofKit
import Derived.OpenShut
import Derived.JoinedCond
set_option linter.all false
namespace Go.Proofs.YtlfimpogphmbdaaGreat
open Go.Proofs.Tryz
open Go Go.ChangeShapes Go.WideShapes Go.ChangeAt Go.RowKit
set_option maxRecDepth 100000
theorem Tj:prog.inPlace 8=Rows.bindOrdersUptoRow.inPlace:=by kernel_rfl
theorem Ti:prog.unfollowed 8=Rows.bindOrdersUptoRow.unfollowed:=by kernel_rfl
theorem Th:prog.recurses 8=Rows.bindOrdersUptoRow.recurses:=by kernel_rfl
theorem Tg:prog.varsNamed 8=Rows.bindOrdersUptoRow.named:=by kernel_rfl
theorem Nw:joinedFacts prog 8 f8 (Rows.OpenSpec.upto Rows.bindOrdersSpec).bare Rows.bindOrdersUptoRow=true:=by
 unfold joinedFacts
 rw[Tj,Ti,Th,Tg]
 kernel_rfl
end Go.Proofs.YtlfimpogphmbdaaGreat
