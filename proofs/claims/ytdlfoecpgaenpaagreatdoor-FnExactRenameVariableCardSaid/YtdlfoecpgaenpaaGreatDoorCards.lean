/-
  DERIVED. GIVEN WITH THE SEED: THE CARDS: each row of YtdlfoecpgaenpaaGreatDoorRows.lean that lists a variable, with what it lists TIED to the program's text (the seventh form; the later family's looks); each row that meets fmt, with fmt's text TOLD by the authors' own Lean function (tested against real Go, not proved from fmt's source: count such statements apart). THE CARD IS WHAT COUNTS. Prove the row's statement (the work); the ties are given (YtdlfoecpgaenpaaGreatDoorTie.lean); close each card by the builder's one call (the guide's Derived/Test/ToyasCard.lean, 'card_holds'). Laid BY PROGRAM, IN A SANDBOX (cutbox-door.mjs). By AI agents, Wed Nov 11 2026. No macro, syntax, notation, axiom, sorry.
-/
import Derived.Test.YtdlfoecpgaenpaaGreatDoorRows
import GoSem.ClaimSeven
namespace Go.Proofs.YtdlfoecpgaenpaaGreatDoor
namespace Rows

/-- THE TIED CARD OF 'laws.FnExactRenameVariable'. -/
def fnExactRenameVariableCard : Claim7 := { stood := { row := fnExactRenameVariableRow, standIns := [], harness := (true, "70add63c140e9b917d7d4fef2d216ba10f48c651253fdd8aff2da0ea597a06f4"), looks := true }, kinds := [], alts := [], laidByText := true, laidKinds := [.data, .data, .data, .data, .sentinel, .sentinel, .pinned], laidTests := true, laidLooks := .later }
def FnExactRenameVariableCardSaid : Prop := Claim7.holds Tryz.pinned (.plain (OpenSpec.ofChange fnExactRenameVariableSpec)) fnExactRenameVariableCard

/-- THE SECOND FORM's CARD OF 'laws.FnExactRenameVariable'. -/
def fnExactRenameVariableUptoCard : Claim7 := { stood := { row := fnExactRenameVariableUptoRow, standIns := [], harness := (true, "70add63c140e9b917d7d4fef2d216ba10f48c651253fdd8aff2da0ea597a06f4"), looks := true }, kinds := [], alts := [], laidByText := true, laidKinds := [.data, .data, .data, .data, .sentinel, .sentinel, .pinned], laidTests := true, laidLooks := .later }
def FnExactRenameVariableUptoCardSaid : Prop := Claim7.holds Tryz.pinned (.plain (OpenSpec.upto fnExactRenameVariableSpec)) fnExactRenameVariableUptoCard
end Rows
end Go.Proofs.YtdlfoecpgaenpaaGreatDoor
