/-
  DERIVED. GIVEN WITH THE SEED: THE CARDS: each row of YtkebfkahdmddpaaGreatDoorRows.lean that lists a variable, with what it lists TIED to the program's text (the seventh form; the later family's looks); each row that meets fmt, with fmt's text TOLD by the authors' own Lean function (tested against real Go, not proved from fmt's source: count such statements apart). THE CARD IS WHAT COUNTS. Prove the row's statement (the work); the ties are given (YtkebfkahdmddpaaGreatDoorTie.lean); close each card by the builder's one call (the guide's Derived/Test/ToyasCard.lean, 'card_holds'). Laid BY PROGRAM, IN A SANDBOX (cutbox-door.mjs). By AI agents, Wed Nov 11 2026. No macro, syntax, notation, axiom, sorry.
-/
import Derived.Test.YtkebfkahdmddpaaGreatDoorRows
import GoSem.ClaimSeven
namespace Go.Proofs.YtkebfkahdmddpaaGreatDoor
namespace Rows

/-- THE TIED CARD OF 'laws.FnRenamedUses'. -/
def fnRenamedUsesCard : Claim7 := { stood := { row := fnRenamedUsesRow, standIns := [], harness := (true, "fb8437803ee9382e923b159ddaf8c9ddd1f965db2c3ff4c9a140a2c00efe8cb2"), looks := true }, kinds := [], alts := [], laidByText := true, laidKinds := [.data, .data, .data, .data, .sentinel, .sentinel, .pinned], laidTests := true, laidLooks := .later }
def FnRenamedUsesCardSaid : Prop := Claim7.holds Tryz.pinned (.plain (OpenSpec.ofChange fnRenamedUsesSpec)) fnRenamedUsesCard

/-- THE SECOND FORM's CARD OF 'laws.FnRenamedUses'. -/
def fnRenamedUsesUptoCard : Claim7 := { stood := { row := fnRenamedUsesUptoRow, standIns := [], harness := (true, "fb8437803ee9382e923b159ddaf8c9ddd1f965db2c3ff4c9a140a2c00efe8cb2"), looks := true }, kinds := [], alts := [], laidByText := true, laidKinds := [.data, .data, .data, .data, .sentinel, .sentinel, .pinned], laidTests := true, laidLooks := .later }
def FnRenamedUsesUptoCardSaid : Prop := Claim7.holds Tryz.pinned (.plain (OpenSpec.upto fnRenamedUsesSpec)) fnRenamedUsesUptoCard
end Rows
end Go.Proofs.YtkebfkahdmddpaaGreatDoor
