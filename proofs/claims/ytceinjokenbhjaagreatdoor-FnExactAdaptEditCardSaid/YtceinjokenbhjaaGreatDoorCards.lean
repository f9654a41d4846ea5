/-
  DERIVED. GIVEN WITH THE SEED: THE CARDS: each row of YtceinjokenbhjaaGreatDoorRows.lean that lists a variable, with what it lists TIED to the program's text (the seventh form; the later family's looks); each row that meets fmt, with fmt's text TOLD by the authors' own Lean function (tested against real Go, not proved from fmt's source: count such statements apart). THE CARD IS WHAT COUNTS. Prove the row's statement (the work); the ties are given (YtceinjokenbhjaaGreatDoorTie.lean); close each card by the builder's one call (the guide's Derived/Test/ToyasCard.lean, 'card_holds'). Laid BY PROGRAM, IN A SANDBOX (cutbox-door.mjs). By AI agents, Wed Nov 11 2026. No macro, syntax, notation, axiom, sorry.
-/
import Derived.Test.YtceinjokenbhjaaGreatDoorRows
import GoSem.ClaimSeven
namespace Go.Proofs.YtceinjokenbhjaaGreatDoor
namespace Rows

/-- THE TIED CARD OF 'laws.FnExactAdaptEdit'. -/
def fnExactAdaptEditCard : Claim7 := { stood := { row := fnExactAdaptEditRow, standIns := [], harness := (true, "6ee997e65943259b3c6cd1bb87ebb80fb37841cc3ca98d7a409eb73070c9eadc"), looks := true }, kinds := [], alts := [], laidByText := true, laidKinds := [.data, .data, .data, .sentinel, .sentinel], laidTests := true, laidLooks := .later }
def FnExactAdaptEditCardSaid : Prop := Claim7.holds Tryz.pinned (.plain (OpenSpec.ofChange fnExactAdaptEditSpec)) fnExactAdaptEditCard

/-- THE SECOND FORM's CARD OF 'laws.FnExactAdaptEdit'. -/
def fnExactAdaptEditUptoCard : Claim7 := { stood := { row := fnExactAdaptEditUptoRow, standIns := [], harness := (true, "6ee997e65943259b3c6cd1bb87ebb80fb37841cc3ca98d7a409eb73070c9eadc"), looks := true }, kinds := [], alts := [], laidByText := true, laidKinds := [.data, .data, .data, .sentinel, .sentinel], laidTests := true, laidLooks := .later }
def FnExactAdaptEditUptoCardSaid : Prop := Claim7.holds Tryz.pinned (.plain (OpenSpec.upto fnExactAdaptEditSpec)) fnExactAdaptEditUptoCard
end Rows
end Go.Proofs.YtceinjokenbhjaaGreatDoor
