/-
  DERIVED. GIVEN WITH THE SEED: THE CARDS: each row of YtapgeemjgckgaaaGreatDoorRows.lean that lists a variable, with what it lists TIED to the program's text (the seventh form; the later family's looks); each row that meets fmt, with fmt's text TOLD by the authors' own Lean function (tested against real Go, not proved from fmt's source: count such statements apart). THE CARD IS WHAT COUNTS. Prove the row's statement (the work); the ties are given (YtapgeemjgckgaaaGreatDoorTie.lean); close each card by the builder's one call (the guide's Derived/Test/ToyasCard.lean, 'card_holds'). Laid BY PROGRAM, IN A SANDBOX (cutbox-door.mjs). By AI agents, Wed Nov 11 2026. No macro, syntax, notation, axiom, sorry.
-/
import Derived.Test.YtapgeemjgckgaaaGreatDoorRows
import GoSem.ClaimSeven
namespace Go.Proofs.YtapgeemjgckgaaaGreatDoor
namespace Rows

/-- THE TIED CARD OF 'laws.FnExactRenameInEngine'. -/
def fnExactRenameInEngineCard : Claim7 := { stood := { row := fnExactRenameInEngineRow, standIns := [], harness := (true, "ace6da857a3b72f7451dd9a4de892054ae67f28ded4ada504fbc65a97f50322f"), looks := true }, kinds := [], alts := [], laidByText := true, laidKinds := [.data, .data, .data, .data, .sentinel, .sentinel, .pinned], laidTests := true, laidLooks := .later }
def FnExactRenameInEngineCardSaid : Prop := Claim7.holds Tryz.pinned (.plain (OpenSpec.ofChange fnExactRenameInEngineSpec)) fnExactRenameInEngineCard

/-- THE SECOND FORM's CARD OF 'laws.FnExactRenameInEngine'. -/
def fnExactRenameInEngineUptoCard : Claim7 := { stood := { row := fnExactRenameInEngineUptoRow, standIns := [], harness := (true, "ace6da857a3b72f7451dd9a4de892054ae67f28ded4ada504fbc65a97f50322f"), looks := true }, kinds := [], alts := [], laidByText := true, laidKinds := [.data, .data, .data, .data, .sentinel, .sentinel, .pinned], laidTests := true, laidLooks := .later }
def FnExactRenameInEngineUptoCardSaid : Prop := Claim7.holds Tryz.pinned (.plain (OpenSpec.upto fnExactRenameInEngineSpec)) fnExactRenameInEngineUptoCard
end Rows
end Go.Proofs.YtapgeemjgckgaaaGreatDoor
