/-
  DERIVED. GIVEN WITH THE SEED: THE CARDS: each row of YtjbajpfonnnfoaaGreatDoorRows.lean that lists a variable, with what it lists TIED to the program's text (the seventh form; the later family's looks); each row that meets fmt, with fmt's text TOLD by the authors' own Lean function (tested against real Go, not proved from fmt's source: count such statements apart). THE CARD IS WHAT COUNTS. Prove the row's statement (the work); the ties are given (YtjbajpfonnnfoaaGreatDoorTie.lean); close each card by the builder's one call (the guide's Derived/Test/ToyasCard.lean, 'card_holds'). Laid BY PROGRAM, IN A SANDBOX (cutbox-door.mjs). By AI agents, Wed Nov 11 2026. No macro, syntax, notation, axiom, sorry.
-/
import Derived.Test.YtjbajpfonnnfoaaGreatDoorRows
import GoSem.ClaimSeven
namespace Go.Proofs.YtjbajpfonnnfoaaGreatDoor
namespace Rows

/-- THE TIED CARD OF 'laws.FnReplayedTape'. -/
def fnReplayedTapeCard : Claim7 := { stood := { row := fnReplayedTapeRow, standIns := [], harness := (true, "4a4313838bdd0db3912c5548d8e480417ee0b347f86d449a564135f01f70035f"), looks := false }, kinds := [], alts := [], laidByText := true, laidKinds := [.data, .pinned], laidTests := true, laidLooks := .later }
def FnReplayedTapeCardSaid : Prop := Claim7.holds Tryz.pinned (.plain (OpenSpec.ofChange fnReplayedTapeSpec)) fnReplayedTapeCard

/-- THE TIED CARD OF 'laws.FnEvaluated'. -/
def fnEvaluatedCard : Claim7 := { stood := { row := fnEvaluatedRow, standIns := [], harness := (true, "4a4313838bdd0db3912c5548d8e480417ee0b347f86d449a564135f01f70035f"), looks := false }, kinds := [], alts := [], laidByText := true, laidKinds := [.data, .pinned], laidTests := true, laidLooks := .later }
def FnEvaluatedCardSaid : Prop := Claim7.holds Tryz.pinned (.plain (OpenSpec.ofChange fnEvaluatedSpec)) fnEvaluatedCard

/-- THE TIED CARD OF 'laws.FnRenamedValue'. -/
def fnRenamedValueCard : Claim7 := { stood := { row := fnRenamedValueRow, standIns := [], harness := (true, "4a4313838bdd0db3912c5548d8e480417ee0b347f86d449a564135f01f70035f"), looks := false }, kinds := [], alts := [], laidByText := true, laidKinds := [.data, .pinned], laidTests := true, laidLooks := .later }
def FnRenamedValueCardSaid : Prop := Claim7.holds Tryz.pinned (.plain (OpenSpec.ofChange fnRenamedValueSpec)) fnRenamedValueCard

/-- THE SECOND FORM's CARD OF 'laws.FnReplayedTape'. -/
def fnReplayedTapeUptoCard : Claim7 := { stood := { row := fnReplayedTapeUptoRow, standIns := [], harness := (true, "4a4313838bdd0db3912c5548d8e480417ee0b347f86d449a564135f01f70035f"), looks := false }, kinds := [], alts := [], laidByText := true, laidKinds := [.data, .pinned], laidTests := true, laidLooks := .later }
def FnReplayedTapeUptoCardSaid : Prop := Claim7.holds Tryz.pinned (.plain (OpenSpec.upto fnReplayedTapeSpec)) fnReplayedTapeUptoCard

/-- THE SECOND FORM's CARD OF 'laws.FnEvaluated'. -/
def fnEvaluatedUptoCard : Claim7 := { stood := { row := fnEvaluatedUptoRow, standIns := [], harness := (true, "4a4313838bdd0db3912c5548d8e480417ee0b347f86d449a564135f01f70035f"), looks := false }, kinds := [], alts := [], laidByText := true, laidKinds := [.data, .pinned], laidTests := true, laidLooks := .later }
def FnEvaluatedUptoCardSaid : Prop := Claim7.holds Tryz.pinned (.plain (OpenSpec.upto fnEvaluatedSpec)) fnEvaluatedUptoCard

/-- THE SECOND FORM's CARD OF 'laws.FnRenamedValue'. -/
def fnRenamedValueUptoCard : Claim7 := { stood := { row := fnRenamedValueUptoRow, standIns := [], harness := (true, "4a4313838bdd0db3912c5548d8e480417ee0b347f86d449a564135f01f70035f"), looks := false }, kinds := [], alts := [], laidByText := true, laidKinds := [.data, .pinned], laidTests := true, laidLooks := .later }
def FnRenamedValueUptoCardSaid : Prop := Claim7.holds Tryz.pinned (.plain (OpenSpec.upto fnRenamedValueSpec)) fnRenamedValueUptoCard
end Rows
end Go.Proofs.YtjbajpfonnnfoaaGreatDoor
