/-
  DERIVED. GIVEN WITH THE SEED: THE CARDS: each row of YtjonocgmofcieaaGreatDoorRows.lean that lists a variable, with what it lists TIED to the program's text (the seventh form; the later family's looks); each row that meets fmt, with fmt's text TOLD by the authors' own Lean function (tested against real Go, not proved from fmt's source: count such statements apart). THE CARD IS WHAT COUNTS. Prove the row's statement (the work); the ties are given (YtjonocgmofcieaaGreatDoorTie.lean); close each card by the builder's one call (the guide's Derived/Test/ToyasCard.lean, 'card_holds'). Laid BY PROGRAM, IN A SANDBOX (cutbox-door.mjs). By AI agents, Wed Nov 11 2026. No macro, syntax, notation, axiom, sorry.
-/
import Derived.Test.YtjonocgmofcieaaGreatDoorRows
import GoSem.ClaimSeven
namespace Go.Proofs.YtjonocgmofcieaaGreatDoor
namespace Rows

/-- THE TIED CARD OF 'laws.FnPrintedAgain'. -/
def fnPrintedAgainCard : Claim7 := { stood := { row := fnPrintedAgainRow, standIns := [], harness := (true, "d98903fef2f75dd59619ac2185bb414857c2948ae31727aa35dad39ad738d519"), looks := true }, kinds := [], alts := [], laidByText := true, laidKinds := [.data, .data, .data, .data, .sentinel, .sentinel, .pinned], laidTests := true, laidLooks := .later }
def FnPrintedAgainCardSaid : Prop := Claim7.holds Tryz.pinned (.plain (OpenSpec.ofChange fnPrintedAgainSpec)) fnPrintedAgainCard

/-- THE SECOND FORM's CARD OF 'laws.FnPrintedAgain'. -/
def fnPrintedAgainUptoCard : Claim7 := { stood := { row := fnPrintedAgainUptoRow, standIns := [], harness := (true, "d98903fef2f75dd59619ac2185bb414857c2948ae31727aa35dad39ad738d519"), looks := true }, kinds := [], alts := [], laidByText := true, laidKinds := [.data, .data, .data, .data, .sentinel, .sentinel, .pinned], laidTests := true, laidLooks := .later }
def FnPrintedAgainUptoCardSaid : Prop := Claim7.holds Tryz.pinned (.plain (OpenSpec.upto fnPrintedAgainSpec)) fnPrintedAgainUptoCard
end Rows
end Go.Proofs.YtjonocgmofcieaaGreatDoor
