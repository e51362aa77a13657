/-
  DERIVED. GIVEN WITH THE SEED: THE CARDS: each row of YteldimffglchkaaGreatDoorRows.lean that lists a variable, with what it lists TIED to the program's text (the seventh form; the later family's looks); each row that meets fmt, with fmt's text TOLD by the authors' own Lean function (tested against real Go, not proved from fmt's source: count such statements apart). THE CARD IS WHAT COUNTS. Prove the row's statement (the work); the ties are given (YteldimffglchkaaGreatDoorTie.lean); close each card by the builder's one call (the guide's Derived/Test/ToyasCard.lean, 'card_holds'). Laid BY PROGRAM, IN A SANDBOX (cutbox-door.mjs). By AI agents, Wed Nov 11 2026. No macro, syntax, notation, axiom, sorry.
-/
import Derived.Test.YteldimffglchkaaGreatDoorRows
import GoSem.ClaimSeven
namespace Go.Proofs.YteldimffglchkaaGreatDoor
namespace Rows

/-- THE TIED CARD OF 'consortlaw12.CodeSteps'. -/
def codeStepsCard : Claim7 := { stood := { row := codeStepsRow, standIns := [], harness := (true, "6a985371a106eb3d84fe58dd9196400acc6783cefe2b76fd120293009adfeec7"), looks := true }, kinds := [], alts := [], laidByText := true, laidKinds := [.data, .data, .data], laidTests := true, laidLooks := .later }
def CodeStepsCardSaid : Prop := Claim7.holds Tryz.pinned (.plain (OpenSpec.ofChange codeStepsSpec)) codeStepsCard

/-- THE TIED CARD OF 'consortlaw12.CodeMeans'. -/
def codeMeansCard : Claim7 := { stood := { row := codeMeansRow, standIns := [], harness := (true, "6a985371a106eb3d84fe58dd9196400acc6783cefe2b76fd120293009adfeec7"), looks := true }, kinds := [], alts := [], laidByText := true, laidKinds := [.data, .data, .data], laidTests := true, laidLooks := .later }
def CodeMeansCardSaid : Prop := Claim7.holds Tryz.pinned (.plain (OpenSpec.ofChange codeMeansSpec)) codeMeansCard

/-- THE TIED CARD OF 'consortlaw12.CodeStays'. -/
def codeStaysCard : Claim7 := { stood := { row := codeStaysRow, standIns := [], harness := (true, "6a985371a106eb3d84fe58dd9196400acc6783cefe2b76fd120293009adfeec7"), looks := true }, kinds := [], alts := [], laidByText := true, laidKinds := [.data, .data, .data], laidTests := true, laidLooks := .later }
def CodeStaysCardSaid : Prop := Claim7.holds Tryz.pinned (.plain (OpenSpec.ofChange codeStaysSpec)) codeStaysCard

/-- THE TIED CARD OF 'consortlaw12.CodeLasts'. -/
def codeLastsCard : Claim7 := { stood := { row := codeLastsRow, standIns := [], harness := (true, "6a985371a106eb3d84fe58dd9196400acc6783cefe2b76fd120293009adfeec7"), looks := true }, kinds := [], alts := [], laidByText := true, laidKinds := [.data, .data, .data], laidTests := true, laidLooks := .later }
def CodeLastsCardSaid : Prop := Claim7.holds Tryz.pinned (.plain (OpenSpec.ofChange codeLastsSpec)) codeLastsCard

/-- THE TIED CARD OF 'consortlaw12.CodeCompiles'. -/
def codeCompilesCard : Claim7 := { stood := { row := codeCompilesRow, standIns := [], harness := (true, "6a985371a106eb3d84fe58dd9196400acc6783cefe2b76fd120293009adfeec7"), looks := true }, kinds := [], alts := [], laidByText := true, laidKinds := [.data, .data, .data], laidTests := true, laidLooks := .later }
def CodeCompilesCardSaid : Prop := Claim7.holds Tryz.pinned (.plain (OpenSpec.ofChange codeCompilesSpec)) codeCompilesCard

/-- THE TIED CARD OF 'consortlaw12.CodeChecks'. -/
def codeChecksCard : Claim7 := { stood := { row := codeChecksRow, standIns := [], harness := (true, "6a985371a106eb3d84fe58dd9196400acc6783cefe2b76fd120293009adfeec7"), looks := true }, kinds := [], alts := [], laidByText := true, laidKinds := [.data, .data, .data], laidTests := true, laidLooks := .later }
def CodeChecksCardSaid : Prop := Claim7.holds Tryz.pinned (.plain (OpenSpec.ofChange codeChecksSpec)) codeChecksCard

/-- THE TIED CARD OF 'consortlaw12.CodePacks'. -/
def codePacksCard : Claim7 := { stood := { row := codePacksRow, standIns := [], harness := (true, "6a985371a106eb3d84fe58dd9196400acc6783cefe2b76fd120293009adfeec7"), looks := true }, kinds := [], alts := [], laidByText := true, laidKinds := [.data, .data, .data], laidTests := true, laidLooks := .later }
def CodePacksCardSaid : Prop := Claim7.holds Tryz.pinned (.plain (OpenSpec.ofChange codePacksSpec)) codePacksCard

/-- THE TIED CARD OF 'consortlaw12.CodeHurt'. -/
def codeHurtCard : Claim7 := { stood := { row := codeHurtRow, standIns := [], harness := (true, "6a985371a106eb3d84fe58dd9196400acc6783cefe2b76fd120293009adfeec7"), looks := true }, kinds := [], alts := [], laidByText := true, laidKinds := [.data, .data, .data], laidTests := true, laidLooks := .later }
def CodeHurtCardSaid : Prop := Claim7.holds Tryz.pinned (.plain (OpenSpec.ofChange codeHurtSpec)) codeHurtCard

/-- THE TIED CARD OF 'consortlaw12.CodeTexts'. -/
def codeTextsCard : Claim7 := { stood := { row := codeTextsRow, standIns := [], harness := (true, "6a985371a106eb3d84fe58dd9196400acc6783cefe2b76fd120293009adfeec7"), looks := true }, kinds := [], alts := [], laidByText := true, laidKinds := [.data, .data, .data, .data, .sentinel, .sentinel, .pinned], laidTests := true, laidLooks := .later }
def CodeTextsCardSaid : Prop := Claim7.holds Tryz.pinned (.plain (OpenSpec.ofChange codeTextsSpec)) codeTextsCard

/-- THE TIED CARD OF 'consortlaw12.CodeWays'. -/
def codeWaysCard : Claim7 := { stood := { row := codeWaysRow, standIns := [], harness := (true, "6a985371a106eb3d84fe58dd9196400acc6783cefe2b76fd120293009adfeec7"), looks := true }, kinds := [], alts := [], laidByText := true, laidKinds := [.data, .data, .data, .data, .sentinel, .sentinel, .pinned], laidTests := true, laidLooks := .later }
def CodeWaysCardSaid : Prop := Claim7.holds Tryz.pinned (.plain (OpenSpec.ofChange codeWaysSpec)) codeWaysCard

/-- THE SECOND FORM's CARD OF 'consortlaw12.CodeSteps'. -/
def codeStepsUptoCard : Claim7 := { stood := { row := codeStepsUptoRow, standIns := [], harness := (true, "6a985371a106eb3d84fe58dd9196400acc6783cefe2b76fd120293009adfeec7"), looks := true }, kinds := [], alts := [], laidByText := true, laidKinds := [.data, .data, .data], laidTests := true, laidLooks := .later }
def CodeStepsUptoCardSaid : Prop := Claim7.holds Tryz.pinned (.plain (OpenSpec.upto codeStepsSpec)) codeStepsUptoCard

/-- THE SECOND FORM's CARD OF 'consortlaw12.CodeMeans'. -/
def codeMeansUptoCard : Claim7 := { stood := { row := codeMeansUptoRow, standIns := [], harness := (true, "6a985371a106eb3d84fe58dd9196400acc6783cefe2b76fd120293009adfeec7"), looks := true }, kinds := [], alts := [], laidByText := true, laidKinds := [.data, .data, .data], laidTests := true, laidLooks := .later }
def CodeMeansUptoCardSaid : Prop := Claim7.holds Tryz.pinned (.plain (OpenSpec.upto codeMeansSpec)) codeMeansUptoCard

/-- THE SECOND FORM's CARD OF 'consortlaw12.CodeStays'. -/
def codeStaysUptoCard : Claim7 := { stood := { row := codeStaysUptoRow, standIns := [], harness := (true, "6a985371a106eb3d84fe58dd9196400acc6783cefe2b76fd120293009adfeec7"), looks := true }, kinds := [], alts := [], laidByText := true, laidKinds := [.data, .data, .data], laidTests := true, laidLooks := .later }
def CodeStaysUptoCardSaid : Prop := Claim7.holds Tryz.pinned (.plain (OpenSpec.upto codeStaysSpec)) codeStaysUptoCard

/-- THE SECOND FORM's CARD OF 'consortlaw12.CodeLasts'. -/
def codeLastsUptoCard : Claim7 := { stood := { row := codeLastsUptoRow, standIns := [], harness := (true, "6a985371a106eb3d84fe58dd9196400acc6783cefe2b76fd120293009adfeec7"), looks := true }, kinds := [], alts := [], laidByText := true, laidKinds := [.data, .data, .data], laidTests := true, laidLooks := .later }
def CodeLastsUptoCardSaid : Prop := Claim7.holds Tryz.pinned (.plain (OpenSpec.upto codeLastsSpec)) codeLastsUptoCard

/-- THE SECOND FORM's CARD OF 'consortlaw12.CodeCompiles'. -/
def codeCompilesUptoCard : Claim7 := { stood := { row := codeCompilesUptoRow, standIns := [], harness := (true, "6a985371a106eb3d84fe58dd9196400acc6783cefe2b76fd120293009adfeec7"), looks := true }, kinds := [], alts := [], laidByText := true, laidKinds := [.data, .data, .data], laidTests := true, laidLooks := .later }
def CodeCompilesUptoCardSaid : Prop := Claim7.holds Tryz.pinned (.plain (OpenSpec.upto codeCompilesSpec)) codeCompilesUptoCard

/-- THE SECOND FORM's CARD OF 'consortlaw12.CodeChecks'. -/
def codeChecksUptoCard : Claim7 := { stood := { row := codeChecksUptoRow, standIns := [], harness := (true, "6a985371a106eb3d84fe58dd9196400acc6783cefe2b76fd120293009adfeec7"), looks := true }, kinds := [], alts := [], laidByText := true, laidKinds := [.data, .data, .data], laidTests := true, laidLooks := .later }
def CodeChecksUptoCardSaid : Prop := Claim7.holds Tryz.pinned (.plain (OpenSpec.upto codeChecksSpec)) codeChecksUptoCard

/-- THE SECOND FORM's CARD OF 'consortlaw12.CodePacks'. -/
def codePacksUptoCard : Claim7 := { stood := { row := codePacksUptoRow, standIns := [], harness := (true, "6a985371a106eb3d84fe58dd9196400acc6783cefe2b76fd120293009adfeec7"), looks := true }, kinds := [], alts := [], laidByText := true, laidKinds := [.data, .data, .data], laidTests := true, laidLooks := .later }
def CodePacksUptoCardSaid : Prop := Claim7.holds Tryz.pinned (.plain (OpenSpec.upto codePacksSpec)) codePacksUptoCard

/-- THE SECOND FORM's CARD OF 'consortlaw12.CodeHurt'. -/
def codeHurtUptoCard : Claim7 := { stood := { row := codeHurtUptoRow, standIns := [], harness := (true, "6a985371a106eb3d84fe58dd9196400acc6783cefe2b76fd120293009adfeec7"), looks := true }, kinds := [], alts := [], laidByText := true, laidKinds := [.data, .data, .data], laidTests := true, laidLooks := .later }
def CodeHurtUptoCardSaid : Prop := Claim7.holds Tryz.pinned (.plain (OpenSpec.upto codeHurtSpec)) codeHurtUptoCard

/-- THE SECOND FORM's CARD OF 'consortlaw12.CodeTexts'. -/
def codeTextsUptoCard : Claim7 := { stood := { row := codeTextsUptoRow, standIns := [], harness := (true, "6a985371a106eb3d84fe58dd9196400acc6783cefe2b76fd120293009adfeec7"), looks := true }, kinds := [], alts := [], laidByText := true, laidKinds := [.data, .data, .data, .data, .sentinel, .sentinel, .pinned], laidTests := true, laidLooks := .later }
def CodeTextsUptoCardSaid : Prop := Claim7.holds Tryz.pinned (.plain (OpenSpec.upto codeTextsSpec)) codeTextsUptoCard

/-- THE SECOND FORM's CARD OF 'consortlaw12.CodeWays'. -/
def codeWaysUptoCard : Claim7 := { stood := { row := codeWaysUptoRow, standIns := [], harness := (true, "6a985371a106eb3d84fe58dd9196400acc6783cefe2b76fd120293009adfeec7"), looks := true }, kinds := [], alts := [], laidByText := true, laidKinds := [.data, .data, .data, .data, .sentinel, .sentinel, .pinned], laidTests := true, laidLooks := .later }
def CodeWaysUptoCardSaid : Prop := Claim7.holds Tryz.pinned (.plain (OpenSpec.upto codeWaysSpec)) codeWaysUptoCard
end Rows
end Go.Proofs.YteldimffglchkaaGreatDoor
