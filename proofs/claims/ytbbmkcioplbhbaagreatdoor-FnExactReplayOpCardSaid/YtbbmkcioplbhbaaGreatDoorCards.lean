/-
  DERIVED. GIVEN WITH THE SEED: THE CARDS: each row of YtbbmkcioplbhbaaGreatDoorRows.lean that lists a variable, with what it lists TIED to the program's text (the seventh form; the later family's looks); each row that meets fmt, with fmt's text TOLD by the authors' own Lean function (tested against real Go, not proved from fmt's source: count such statements apart). THE CARD IS WHAT COUNTS. Prove the row's statement (the work); the ties are given (YtbbmkcioplbhbaaGreatDoorTie.lean); close each card by the builder's one call (the guide's Derived/Test/ToyasCard.lean, 'card_holds'). Laid BY PROGRAM, IN A SANDBOX (cutbox-door.mjs). By AI agents, Wed Nov 11 2026. No macro, syntax, notation, axiom, sorry.
-/
import Derived.Test.YtbbmkcioplbhbaaGreatDoorRows
import GoSem.ClaimSeven
namespace Go.Proofs.YtbbmkcioplbhbaaGreatDoor
namespace Rows

/-- THE TIED CARD OF 'laws.FnExactReplayOp'. -/
def fnExactReplayOpCard : Claim7 := { stood := { row := fnExactReplayOpRow, standIns := [], harness := (true, "2a7f3ad3666b58da7385d682bae9937ec07a94f12e258607b0e2908147bf295c"), looks := true }, kinds := [], alts := [], laidByText := true, laidKinds := [.data, .data, .data, .data, .sentinel, .sentinel, .pinned], laidTests := true, laidLooks := .later }
def FnExactReplayOpCardSaid : Prop := Claim7.holds Tryz.pinned (.plain (OpenSpec.ofChange fnExactReplayOpSpec)) fnExactReplayOpCard

/-- THE TIED CARD OF 'laws.FnExactReplayLog'. -/
def fnExactReplayLogCard : Claim7 := { stood := { row := fnExactReplayLogRow, standIns := [], harness := (true, "2a7f3ad3666b58da7385d682bae9937ec07a94f12e258607b0e2908147bf295c"), looks := true }, kinds := [], alts := [], laidByText := true, laidKinds := [.data, .data, .data, .data, .sentinel, .sentinel, .pinned], laidTests := true, laidLooks := .later }
def FnExactReplayLogCardSaid : Prop := Claim7.holds Tryz.pinned (.plain (OpenSpec.ofChange fnExactReplayLogSpec)) fnExactReplayLogCard

/-- THE SECOND FORM's CARD OF 'laws.FnExactReplayOp'. -/
def fnExactReplayOpUptoCard : Claim7 := { stood := { row := fnExactReplayOpUptoRow, standIns := [], harness := (true, "2a7f3ad3666b58da7385d682bae9937ec07a94f12e258607b0e2908147bf295c"), looks := true }, kinds := [], alts := [], laidByText := true, laidKinds := [.data, .data, .data, .data, .sentinel, .sentinel, .pinned], laidTests := true, laidLooks := .later }
def FnExactReplayOpUptoCardSaid : Prop := Claim7.holds Tryz.pinned (.plain (OpenSpec.upto fnExactReplayOpSpec)) fnExactReplayOpUptoCard

/-- THE SECOND FORM's CARD OF 'laws.FnExactReplayLog'. -/
def fnExactReplayLogUptoCard : Claim7 := { stood := { row := fnExactReplayLogUptoRow, standIns := [], harness := (true, "2a7f3ad3666b58da7385d682bae9937ec07a94f12e258607b0e2908147bf295c"), looks := true }, kinds := [], alts := [], laidByText := true, laidKinds := [.data, .data, .data, .data, .sentinel, .sentinel, .pinned], laidTests := true, laidLooks := .later }
def FnExactReplayLogUptoCardSaid : Prop := Claim7.holds Tryz.pinned (.plain (OpenSpec.upto fnExactReplayLogSpec)) fnExactReplayLogUptoCard
end Rows
end Go.Proofs.YtbbmkcioplbhbaaGreatDoor
