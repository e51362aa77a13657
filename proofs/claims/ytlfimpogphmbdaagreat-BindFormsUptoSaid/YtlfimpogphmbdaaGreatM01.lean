/- A part of the law BindForms: what its row says of its function is so. -/
import Derived.Test.YtlfimpogphmbdaaGreatRows
import Derived.WalkKit
import Derived.ProofKit
import Derived.OpenShut
import Derived.JoinedCond
set_option linter.all false
namespace Go.Proofs.YtlfimpogphmbdaaGreat
open Go.Proofs.Tryz
open Go Go.ChangeShapes Go.WideShapes Go.ChangeAt Go.RowKit
set_option maxRecDepth 100000
theorem qF1:prog.inPlace 5=Rows.bindFormsUptoRow.inPlace:=by kernel_rfl
theorem qF2:prog.unfollowed 5=Rows.bindFormsUptoRow.unfollowed:=by kernel_rfl
theorem qF3:prog.recurses 5=Rows.bindFormsUptoRow.recurses:=by kernel_rfl
theorem qF4:prog.varsNamed 5=Rows.bindFormsUptoRow.named:=by kernel_rfl
theorem OD:joinedFacts prog 5 f5 (Rows.OpenSpec.upto Rows.bindFormsSpec).bare Rows.bindFormsUptoRow=true:=by
 unfold joinedFacts
 rw[qF1,qF2,qF3,qF4]
 kernel_rfl
end Go.Proofs.YtlfimpogphmbdaaGreat
