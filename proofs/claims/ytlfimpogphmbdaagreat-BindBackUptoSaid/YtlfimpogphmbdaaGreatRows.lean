/-
  NARROWER THAN 'FOR EVERY INPUT', by the rows' own cells (each row's printed sentence says how): BindChecks: loops · BindBinds: loops · BindForms: loops · BindHas: loops · BindHeirs: loops · BindOrders: loops · BindBack: loops · BindKeeps: loops.
  DERIVED. THE GIVEN ROWS OF THIS SEAT. 8 by the template 'for every input the law returns true; each argument reads behind the call as it read before'; 0 by the template 'total and deterministic' (their statements: YtlfimpogphmbdaaGreatTotals.lean).
  GIVEN WITH THE SEED: the statements are not yours to turn. If you find one false, say at which input.
  Laid BY PROGRAM, IN A SANDBOX (cutbox-rows.mjs): the forced cells as the released guide's own fill.sh prints them over the translation cfad16995ee7fdd4… (all of the seat's roots in one cut). By AI agents, Wed Nov 11 2026. No macro, syntax, notation, axiom, sorry.
-/
import Derived.Test.YtlfimpogphmbdaaGreatChecked
import GoSem.Claim
import GoSem.ClaimJoined
import GoSem.ClaimMapViews
import Derived.JoinedTies
import Derived.KernelRfl
namespace Go.Proofs.YtlfimpogphmbdaaGreat
/- THE CELL 'sum', in the pinned program and in every row, IS THE sha256 OF THE DUMP (.gsa) THAT YtlfimpogphmbdaaGreatProg.lean LOADS. Nothing in Lean hashes anything: it is a label: what it is worth is what the hold of that sum in a sandbox is worth. -/
noncomputable def Tryz.pinned : Pinned := { name := "ytlfimpogphmbdaagreat", sum := "cfad16995ee7fdd44d19edf2131cc5a2f3fcba14095753e1efbe07ff9150c333", checked := Tryz.checked }
namespace Rows
def none {H : Type} : Left H := { results := [], args := [] }

/-- 'consortlaw05.BindChecks': WHATEVER THE INPUT: true; the input reads as it did. -/
def bindChecksSpec : ChangeSpec := { name := "bindChecks", fn := fun _ => fun
  | [d] => { results := [.lit (.bool true)], args := [d] }
  | _ => none }
def bindChecksRow : OpenClaim := { program := "ytlfimpogphmbdaagreat", sum := "cfad16995ee7fdd44d19edf2131cc5a2f3fcba14095753e1efbe07ff9150c333", func := "consort/consortlaw05.BindChecks", spec := "bindChecks", unfollowed := true, recurses := true, loops := true, apart := false }
def BindChecksSaid : Prop := bindChecksRow.holds Tryz.pinned (OpenSpec.ofChange bindChecksSpec)

/-- ITS FALSE NEIGHBOUR: 'it returns false'. Refute it at one input. -/
def bindChecksWrong : ChangeSpec := { name := "bindChecks", fn := fun _ => fun
  | [d] => { results := [.lit (.bool false)], args := [d] }
  | _ => none }
def BindChecksWrongFalsely : Prop := bindChecksRow.holds Tryz.pinned (OpenSpec.ofChange bindChecksWrong)

/-- 'consortlaw05.BindBinds': WHATEVER THE INPUT: true; the input reads as it did. -/
def bindBindsSpec : ChangeSpec := { name := "bindBinds", fn := fun _ => fun
  | [d] => { results := [.lit (.bool true)], args := [d] }
  | _ => none }
def bindBindsRow : OpenClaim := { program := "ytlfimpogphmbdaagreat", sum := "cfad16995ee7fdd44d19edf2131cc5a2f3fcba14095753e1efbe07ff9150c333", func := "consort/consortlaw05.BindBinds", spec := "bindBinds", unfollowed := true, recurses := true, loops := true, apart := false }
def BindBindsSaid : Prop := bindBindsRow.holds Tryz.pinned (OpenSpec.ofChange bindBindsSpec)

/-- ITS FALSE NEIGHBOUR: 'it returns false'. Refute it at one input. -/
def bindBindsWrong : ChangeSpec := { name := "bindBinds", fn := fun _ => fun
  | [d] => { results := [.lit (.bool false)], args := [d] }
  | _ => none }
def BindBindsWrongFalsely : Prop := bindBindsRow.holds Tryz.pinned (OpenSpec.ofChange bindBindsWrong)

/-- 'consortlaw05.BindForms': WHATEVER THE INPUT: true; the input reads as it did. -/
def bindFormsSpec : ChangeSpec := { name := "bindForms", fn := fun _ => fun
  | [d] => { results := [.lit (.bool true)], args := [d] }
  | _ => none }
def bindFormsRow : OpenClaim := { program := "ytlfimpogphmbdaagreat", sum := "cfad16995ee7fdd44d19edf2131cc5a2f3fcba14095753e1efbe07ff9150c333", func := "consort/consortlaw05.BindForms", spec := "bindForms", unfollowed := true, recurses := true, loops := true, apart := false }
def BindFormsSaid : Prop := bindFormsRow.holds Tryz.pinned (OpenSpec.ofChange bindFormsSpec)

/-- ITS FALSE NEIGHBOUR: 'it returns false'. Refute it at one input. -/
def bindFormsWrong : ChangeSpec := { name := "bindForms", fn := fun _ => fun
  | [d] => { results := [.lit (.bool false)], args := [d] }
  | _ => none }
def BindFormsWrongFalsely : Prop := bindFormsRow.holds Tryz.pinned (OpenSpec.ofChange bindFormsWrong)

/-- 'consortlaw05.BindHas': WHATEVER THE INPUT: true; the input reads as it did. -/
def bindHasSpec : ChangeSpec := { name := "bindHas", fn := fun _ => fun
  | [d1, d2] => { results := [.lit (.bool true)], args := [d1, d2] }
  | _ => none }
def bindHasRow : OpenClaim := { program := "ytlfimpogphmbdaagreat", sum := "cfad16995ee7fdd44d19edf2131cc5a2f3fcba14095753e1efbe07ff9150c333", func := "consort/consortlaw05.BindHas", spec := "bindHas", unfollowed := true, recurses := true, loops := true, apart := false }
def BindHasSaid : Prop := bindHasRow.holds Tryz.pinned (OpenSpec.ofChange bindHasSpec)

/-- ITS FALSE NEIGHBOUR: 'it returns false'. Refute it at one input. -/
def bindHasWrong : ChangeSpec := { name := "bindHas", fn := fun _ => fun
  | [d1, d2] => { results := [.lit (.bool false)], args := [d1, d2] }
  | _ => none }
def BindHasWrongFalsely : Prop := bindHasRow.holds Tryz.pinned (OpenSpec.ofChange bindHasWrong)

/-- 'consortlaw05.BindHeirs': WHATEVER THE INPUT: true; the input reads as it did. -/
def bindHeirsSpec : ChangeSpec := { name := "bindHeirs", fn := fun _ => fun
  | [d1, d2, d3] => { results := [.lit (.bool true)], args := [d1, d2, d3] }
  | _ => none }
def bindHeirsRow : OpenClaim := { program := "ytlfimpogphmbdaagreat", sum := "cfad16995ee7fdd44d19edf2131cc5a2f3fcba14095753e1efbe07ff9150c333", func := "consort/consortlaw05.BindHeirs", spec := "bindHeirs", unfollowed := true, recurses := true, loops := true, apart := false }
def BindHeirsSaid : Prop := bindHeirsRow.holds Tryz.pinned (OpenSpec.ofChange bindHeirsSpec)

/-- ITS FALSE NEIGHBOUR: 'it returns false'. Refute it at one input. -/
def bindHeirsWrong : ChangeSpec := { name := "bindHeirs", fn := fun _ => fun
  | [d1, d2, d3] => { results := [.lit (.bool false)], args := [d1, d2, d3] }
  | _ => none }
def BindHeirsWrongFalsely : Prop := bindHeirsRow.holds Tryz.pinned (OpenSpec.ofChange bindHeirsWrong)

/-- 'consortlaw05.BindOrders': WHATEVER THE INPUT: true; the input reads as it did. -/
def bindOrdersSpec : ChangeSpec := { name := "bindOrders", fn := fun _ => fun
  | [d] => { results := [.lit (.bool true)], args := [d] }
  | _ => none }
def bindOrdersRow : OpenClaim := { program := "ytlfimpogphmbdaagreat", sum := "cfad16995ee7fdd44d19edf2131cc5a2f3fcba14095753e1efbe07ff9150c333", func := "consort/consortlaw05.BindOrders", spec := "bindOrders", unfollowed := true, recurses := true, loops := true, apart := false }
def BindOrdersSaid : Prop := bindOrdersRow.holds Tryz.pinned (OpenSpec.ofChange bindOrdersSpec)

/-- ITS FALSE NEIGHBOUR: 'it returns false'. Refute it at one input. -/
def bindOrdersWrong : ChangeSpec := { name := "bindOrders", fn := fun _ => fun
  | [d] => { results := [.lit (.bool false)], args := [d] }
  | _ => none }
def BindOrdersWrongFalsely : Prop := bindOrdersRow.holds Tryz.pinned (OpenSpec.ofChange bindOrdersWrong)

/-- 'consortlaw05.BindBack': WHATEVER THE INPUT: true; the input reads as it did. -/
def bindBackSpec : ChangeSpec := { name := "bindBack", fn := fun _ => fun
  | [d] => { results := [.lit (.bool true)], args := [d] }
  | _ => none }
def bindBackRow : OpenClaim := { program := "ytlfimpogphmbdaagreat", sum := "cfad16995ee7fdd44d19edf2131cc5a2f3fcba14095753e1efbe07ff9150c333", func := "consort/consortlaw05.BindBack", spec := "bindBack", unfollowed := true, recurses := true, loops := true, apart := false }
def BindBackSaid : Prop := bindBackRow.holds Tryz.pinned (OpenSpec.ofChange bindBackSpec)

/-- ITS FALSE NEIGHBOUR: 'it returns false'. Refute it at one input. -/
def bindBackWrong : ChangeSpec := { name := "bindBack", fn := fun _ => fun
  | [d] => { results := [.lit (.bool false)], args := [d] }
  | _ => none }
def BindBackWrongFalsely : Prop := bindBackRow.holds Tryz.pinned (OpenSpec.ofChange bindBackWrong)

/-- 'consortlaw05.BindKeeps': WHATEVER THE INPUT: true; the input reads as it did. -/
def bindKeepsSpec : ChangeSpec := { name := "bindKeeps", fn := fun _ => fun
  | [d] => { results := [.lit (.bool true)], args := [d] }
  | _ => none }
def bindKeepsRow : OpenClaim := { program := "ytlfimpogphmbdaagreat", sum := "cfad16995ee7fdd44d19edf2131cc5a2f3fcba14095753e1efbe07ff9150c333", func := "consort/consortlaw05.BindKeeps", spec := "bindKeeps", unfollowed := true, recurses := true, loops := true, apart := false }
def BindKeepsSaid : Prop := bindKeepsRow.holds Tryz.pinned (OpenSpec.ofChange bindKeepsSpec)

/-- ITS FALSE NEIGHBOUR: 'it returns false'. Refute it at one input. -/
def bindKeepsWrong : ChangeSpec := { name := "bindKeeps", fn := fun _ => fun
  | [d] => { results := [.lit (.bool false)], args := [d] }
  | _ => none }
def BindKeepsWrongFalsely : Prop := bindKeepsRow.holds Tryz.pinned (OpenSpec.ofChange bindKeepsWrong)

/- THE SECOND FORM. 'bulk': how many values and letters a reading holds, each counted each time it is reached (what is shared counts as often as it is met; a slice's spare places count too). A statement '..UptoSaid' is the law's where the arguments, and the package variables that the reading takes, are together of bulk at most 1048576: NARROWER than '..Said'. Prove '..Said' where nothing that the law and all that it calls make is longer than what came in: it says more and counts as full. Else prove '..UptoSaid'. A law counts once. -/
mutual
def uptoBulk {H : Type} : DataW H → Nat
  | .lit (.string bytes) => bytes.length + 1
  | .lit _ => 1
  | .nil => 1
  | .ptr d => uptoBulk d + 1
  | .slice elems spare => uptoBulkAll elems + uptoBulkAll spare + 1
  | .agg parts => uptoBulkAll parts + 1
  | .iface _ d => uptoBulk d + 1
  | .map entries => uptoBulkEntries entries + 1
  | .held _ => 1
def uptoBulkAll {H : Type} : List (DataW H) → Nat
  | [] => 0
  | d :: r => uptoBulk d + uptoBulkAll r
def uptoBulkEntries {H : Type} : List (Lit × DataW H) → Nat
  | [] => 0
  | x :: r => uptoBulkEntry x + uptoBulkEntries r
def uptoBulkEntry {H : Type} : Lit × DataW H → Nat
  | (.string bytes, d) => bytes.length + uptoBulk d + 1
  | (_, d) => uptoBulk d + 1
 end
def uptoSmall : (H : Type) → List (DataW H) → Bool := fun _ ds => decide (uptoBulkAll ds ≤ 1048576)
def OpenSpec.upto (s : _root_.Go.ChangeSpec) : _root_.Go.OpenSpec := { _root_.Go.OpenSpec.ofChange s with cond := some uptoSmall }

/-- 'consortlaw05.BindChecks', WHERE WHAT IT READS IS OF BULK AT MOST 1048576: true; the input reads as it did. -/
def bindChecksUptoRow : OpenClaim := { program := "ytlfimpogphmbdaagreat", sum := "cfad16995ee7fdd44d19edf2131cc5a2f3fcba14095753e1efbe07ff9150c333", func := "consort/consortlaw05.BindChecks", spec := "bindChecks", unfollowed := true, recurses := true, loops := true, apart := false, narrowed := true }
def BindChecksUptoSaid : Prop := bindChecksUptoRow.holds Tryz.pinned (OpenSpec.upto bindChecksSpec)

/-- 'consortlaw05.BindBinds', WHERE WHAT IT READS IS OF BULK AT MOST 1048576: true; the input reads as it did. -/
def bindBindsUptoRow : OpenClaim := { program := "ytlfimpogphmbdaagreat", sum := "cfad16995ee7fdd44d19edf2131cc5a2f3fcba14095753e1efbe07ff9150c333", func := "consort/consortlaw05.BindBinds", spec := "bindBinds", unfollowed := true, recurses := true, loops := true, apart := false, narrowed := true }
def BindBindsUptoSaid : Prop := bindBindsUptoRow.holds Tryz.pinned (OpenSpec.upto bindBindsSpec)

/-- 'consortlaw05.BindForms', WHERE WHAT IT READS IS OF BULK AT MOST 1048576: true; the input reads as it did. -/
def bindFormsUptoRow : OpenClaim := { program := "ytlfimpogphmbdaagreat", sum := "cfad16995ee7fdd44d19edf2131cc5a2f3fcba14095753e1efbe07ff9150c333", func := "consort/consortlaw05.BindForms", spec := "bindForms", unfollowed := true, recurses := true, loops := true, apart := false, narrowed := true }
def BindFormsUptoSaid : Prop := bindFormsUptoRow.holds Tryz.pinned (OpenSpec.upto bindFormsSpec)

/-- 'consortlaw05.BindHas', WHERE WHAT IT READS IS OF BULK AT MOST 1048576: true; the input reads as it did. -/
def bindHasUptoRow : OpenClaim := { program := "ytlfimpogphmbdaagreat", sum := "cfad16995ee7fdd44d19edf2131cc5a2f3fcba14095753e1efbe07ff9150c333", func := "consort/consortlaw05.BindHas", spec := "bindHas", unfollowed := true, recurses := true, loops := true, apart := false, narrowed := true }
def BindHasUptoSaid : Prop := bindHasUptoRow.holds Tryz.pinned (OpenSpec.upto bindHasSpec)

/-- 'consortlaw05.BindHeirs', WHERE WHAT IT READS IS OF BULK AT MOST 1048576: true; the input reads as it did. -/
def bindHeirsUptoRow : OpenClaim := { program := "ytlfimpogphmbdaagreat", sum := "cfad16995ee7fdd44d19edf2131cc5a2f3fcba14095753e1efbe07ff9150c333", func := "consort/consortlaw05.BindHeirs", spec := "bindHeirs", unfollowed := true, recurses := true, loops := true, apart := false, narrowed := true }
def BindHeirsUptoSaid : Prop := bindHeirsUptoRow.holds Tryz.pinned (OpenSpec.upto bindHeirsSpec)

/-- 'consortlaw05.BindOrders', WHERE WHAT IT READS IS OF BULK AT MOST 1048576: true; the input reads as it did. -/
def bindOrdersUptoRow : OpenClaim := { program := "ytlfimpogphmbdaagreat", sum := "cfad16995ee7fdd44d19edf2131cc5a2f3fcba14095753e1efbe07ff9150c333", func := "consort/consortlaw05.BindOrders", spec := "bindOrders", unfollowed := true, recurses := true, loops := true, apart := false, narrowed := true }
def BindOrdersUptoSaid : Prop := bindOrdersUptoRow.holds Tryz.pinned (OpenSpec.upto bindOrdersSpec)

/-- 'consortlaw05.BindBack', WHERE WHAT IT READS IS OF BULK AT MOST 1048576: true; the input reads as it did. -/
def bindBackUptoRow : OpenClaim := { program := "ytlfimpogphmbdaagreat", sum := "cfad16995ee7fdd44d19edf2131cc5a2f3fcba14095753e1efbe07ff9150c333", func := "consort/consortlaw05.BindBack", spec := "bindBack", unfollowed := true, recurses := true, loops := true, apart := false, narrowed := true }
def BindBackUptoSaid : Prop := bindBackUptoRow.holds Tryz.pinned (OpenSpec.upto bindBackSpec)

/-- 'consortlaw05.BindKeeps', WHERE WHAT IT READS IS OF BULK AT MOST 1048576: true; the input reads as it did. -/
def bindKeepsUptoRow : OpenClaim := { program := "ytlfimpogphmbdaagreat", sum := "cfad16995ee7fdd44d19edf2131cc5a2f3fcba14095753e1efbe07ff9150c333", func := "consort/consortlaw05.BindKeeps", spec := "bindKeeps", unfollowed := true, recurses := true, loops := true, apart := false, narrowed := true }
def BindKeepsUptoSaid : Prop := bindKeepsUptoRow.holds Tryz.pinned (OpenSpec.upto bindKeepsSpec)

end Rows
end Go.Proofs.YtlfimpogphmbdaaGreat
