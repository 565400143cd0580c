/-
  DERIVED. GIVEN WITH THE SEED: THE CARDS: each row of YtiehbagnebjadaaGreatDoorRows.lean that lists a variable, with what it lists TIED to the program's text (the seventh form; the later family's looks); each row that meets fmt, with fmt's text TOLD by the authors' own Lean function (tested against real Go, not proved from fmt's source: count such statements apart). THE CARD IS WHAT COUNTS. Prove the row's statement (the work); the ties are given (YtiehbagnebjadaaGreatDoorTie.lean); close each card by the builder's one call (the guide's Derived/Test/ToyasCard.lean, 'card_holds'). Laid BY PROGRAM, IN A SANDBOX (cutbox-door.mjs). By AI agents, Wed Nov 11 2026. No macro, syntax, notation, axiom, sorry.
-/
import Derived.Test.YtiehbagnebjadaaGreatDoorRows
import GoSem.ClaimSeven
namespace Go.Proofs.YtiehbagnebjadaaGreatDoor
namespace Rows

/-- THE TIED CARD OF 'laws.FnExactReadLog'. -/
def fnExactReadLogCard : Claim7 := { stood := { row := fnExactReadLogRow, standIns := [], harness := (true, "77e0287ddb47e4e7d7cf497116fca62f81f84cf50667759d63bcf7a176f8b60f"), looks := true }, kinds := [], alts := [], laidByText := true, laidKinds := [.data, .data, .data, .data, .sentinel, .sentinel, .pinned], laidTests := true, laidLooks := .later }
def FnExactReadLogCardSaid : Prop := Claim7.holds Tryz.pinned (.plain (OpenSpec.ofChange fnExactReadLogSpec)) fnExactReadLogCard

/-- THE TIED CARD OF 'laws.FnExactRedoLog'. -/
def fnExactRedoLogCard : Claim7 := { stood := { row := fnExactRedoLogRow, standIns := [], harness := (true, "77e0287ddb47e4e7d7cf497116fca62f81f84cf50667759d63bcf7a176f8b60f"), looks := true }, kinds := [], alts := [], laidByText := true, laidKinds := [.data, .data, .data, .data, .sentinel, .sentinel, .pinned], laidTests := true, laidLooks := .later }
def FnExactRedoLogCardSaid : Prop := Claim7.holds Tryz.pinned (.plain (OpenSpec.ofChange fnExactRedoLogSpec)) fnExactRedoLogCard

/-- THE TIED CARD OF 'laws.FnBathActs'. -/
def fnBathActsCard : Claim7 := { stood := { row := fnBathActsRow, standIns := [], harness := (true, "77e0287ddb47e4e7d7cf497116fca62f81f84cf50667759d63bcf7a176f8b60f"), looks := true }, kinds := [], alts := [], laidByText := true, laidKinds := [.data, .data, .data, .data, .sentinel, .sentinel, .pinned], laidTests := true, laidLooks := .later }
def FnBathActsCardSaid : Prop := Claim7.holds Tryz.pinned (.plain (OpenSpec.ofChange fnBathActsSpec)) fnBathActsCard

/-- THE TIED CARD OF 'laws.FnEveryPrint'. -/
def fnEveryPrintCard : Claim7 := { stood := { row := fnEveryPrintRow, standIns := [], harness := (true, "77e0287ddb47e4e7d7cf497116fca62f81f84cf50667759d63bcf7a176f8b60f"), looks := true }, kinds := [], alts := [], laidByText := true, laidKinds := [.data, .data, .data, .data, .sentinel, .sentinel, .pinned], laidTests := true, laidLooks := .later }
def FnEveryPrintCardSaid : Prop := Claim7.holds Tryz.pinned (.plain (OpenSpec.ofChange fnEveryPrintSpec)) fnEveryPrintCard

/-- THE TIED CARD OF 'laws.FnPrintedAgain'. -/
def fnPrintedAgainCard : Claim7 := { stood := { row := fnPrintedAgainRow, standIns := [], harness := (true, "77e0287ddb47e4e7d7cf497116fca62f81f84cf50667759d63bcf7a176f8b60f"), looks := true }, kinds := [], alts := [], laidByText := true, laidKinds := [.data, .data, .data, .data, .sentinel, .sentinel, .pinned], laidTests := true, laidLooks := .later }
def FnPrintedAgainCardSaid : Prop := Claim7.holds Tryz.pinned (.plain (OpenSpec.ofChange fnPrintedAgainSpec)) fnPrintedAgainCard

/-- THE SECOND FORM's CARD OF 'laws.FnExactReadLog'. -/
def fnExactReadLogUptoCard : Claim7 := { stood := { row := fnExactReadLogUptoRow, standIns := [], harness := (true, "77e0287ddb47e4e7d7cf497116fca62f81f84cf50667759d63bcf7a176f8b60f"), looks := true }, kinds := [], alts := [], laidByText := true, laidKinds := [.data, .data, .data, .data, .sentinel, .sentinel, .pinned], laidTests := true, laidLooks := .later }
def FnExactReadLogUptoCardSaid : Prop := Claim7.holds Tryz.pinned (.plain (OpenSpec.upto fnExactReadLogSpec)) fnExactReadLogUptoCard

/-- THE SECOND FORM's CARD OF 'laws.FnExactRedoLog'. -/
def fnExactRedoLogUptoCard : Claim7 := { stood := { row := fnExactRedoLogUptoRow, standIns := [], harness := (true, "77e0287ddb47e4e7d7cf497116fca62f81f84cf50667759d63bcf7a176f8b60f"), looks := true }, kinds := [], alts := [], laidByText := true, laidKinds := [.data, .data, .data, .data, .sentinel, .sentinel, .pinned], laidTests := true, laidLooks := .later }
def FnExactRedoLogUptoCardSaid : Prop := Claim7.holds Tryz.pinned (.plain (OpenSpec.upto fnExactRedoLogSpec)) fnExactRedoLogUptoCard

/-- THE SECOND FORM's CARD OF 'laws.FnBathActs'. -/
def fnBathActsUptoCard : Claim7 := { stood := { row := fnBathActsUptoRow, standIns := [], harness := (true, "77e0287ddb47e4e7d7cf497116fca62f81f84cf50667759d63bcf7a176f8b60f"), looks := true }, kinds := [], alts := [], laidByText := true, laidKinds := [.data, .data, .data, .data, .sentinel, .sentinel, .pinned], laidTests := true, laidLooks := .later }
def FnBathActsUptoCardSaid : Prop := Claim7.holds Tryz.pinned (.plain (OpenSpec.upto fnBathActsSpec)) fnBathActsUptoCard

/-- THE SECOND FORM's CARD OF 'laws.FnEveryPrint'. -/
def fnEveryPrintUptoCard : Claim7 := { stood := { row := fnEveryPrintUptoRow, standIns := [], harness := (true, "77e0287ddb47e4e7d7cf497116fca62f81f84cf50667759d63bcf7a176f8b60f"), looks := true }, kinds := [], alts := [], laidByText := true, laidKinds := [.data, .data, .data, .data, .sentinel, .sentinel, .pinned], laidTests := true, laidLooks := .later }
def FnEveryPrintUptoCardSaid : Prop := Claim7.holds Tryz.pinned (.plain (OpenSpec.upto fnEveryPrintSpec)) fnEveryPrintUptoCard

/-- THE SECOND FORM's CARD OF 'laws.FnPrintedAgain'. -/
def fnPrintedAgainUptoCard : Claim7 := { stood := { row := fnPrintedAgainUptoRow, standIns := [], harness := (true, "77e0287ddb47e4e7d7cf497116fca62f81f84cf50667759d63bcf7a176f8b60f"), looks := true }, kinds := [], alts := [], laidByText := true, laidKinds := [.data, .data, .data, .data, .sentinel, .sentinel, .pinned], laidTests := true, laidLooks := .later }
def FnPrintedAgainUptoCardSaid : Prop := Claim7.holds Tryz.pinned (.plain (OpenSpec.upto fnPrintedAgainSpec)) fnPrintedAgainUptoCard
end Rows
end Go.Proofs.YtiehbagnebjadaaGreatDoor
