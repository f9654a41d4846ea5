/-
  DERIVED. GIVEN WITH THE SEED: THE CARDS: each row of YtgfjbogcidlaeaaGreatDoorRows.lean that lists a variable, with what it lists TIED to the program's text (the seventh form; the later family's looks); each row that meets fmt, with fmt's text TOLD by the authors' own Lean function (tested against real Go, not proved from fmt's source: count such statements apart). THE CARD IS WHAT COUNTS. Prove the row's statement (the work); the ties are given (YtgfjbogcidlaeaaGreatDoorTie.lean); close each card by the builder's one call (the guide's Derived/Test/ToyasCard.lean, 'card_holds'). Laid BY PROGRAM, IN A SANDBOX (cutbox-door.mjs). By AI agents, Wed Nov 11 2026. No macro, syntax, notation, axiom, sorry.
-/
import Derived.Test.YtgfjbogcidlaeaaGreatDoorRows
import GoSem.ClaimSeven
namespace Go.Proofs.YtgfjbogcidlaeaaGreatDoor
namespace Rows

/-- THE TIED CARD OF 'laws.FnExactIsExportable'. -/
def fnExactIsExportableCard : Claim7 := { stood := { row := fnExactIsExportableRow, standIns := [], harness := (true, "1f52beb5991a09f1b565f5059a588c48d02c5daeadb236530ced1e8c364cf287"), looks := true }, kinds := [], alts := [], laidByText := true, laidKinds := [.data, .data, .data, .data, .sentinel, .sentinel, .pinned], laidTests := true, laidLooks := .later }
def FnExactIsExportableCardSaid : Prop := Claim7.holds Tryz.pinned (.plain (OpenSpec.ofChange fnExactIsExportableSpec)) fnExactIsExportableCard

/-- THE TIED CARD OF 'laws.FnExactExportScript'. -/
def fnExactExportScriptCard : Claim7 := { stood := { row := fnExactExportScriptRow, standIns := [], harness := (true, "1f52beb5991a09f1b565f5059a588c48d02c5daeadb236530ced1e8c364cf287"), looks := true }, kinds := [], alts := [], laidByText := true, laidKinds := [.data, .data, .data, .data, .sentinel, .sentinel, .pinned], laidTests := true, laidLooks := .later }
def FnExactExportScriptCardSaid : Prop := Claim7.holds Tryz.pinned (.plain (OpenSpec.ofChange fnExactExportScriptSpec)) fnExactExportScriptCard

/-- THE SECOND FORM's CARD OF 'laws.FnExactIsExportable'. -/
def fnExactIsExportableUptoCard : Claim7 := { stood := { row := fnExactIsExportableUptoRow, standIns := [], harness := (true, "1f52beb5991a09f1b565f5059a588c48d02c5daeadb236530ced1e8c364cf287"), looks := true }, kinds := [], alts := [], laidByText := true, laidKinds := [.data, .data, .data, .data, .sentinel, .sentinel, .pinned], laidTests := true, laidLooks := .later }
def FnExactIsExportableUptoCardSaid : Prop := Claim7.holds Tryz.pinned (.plain (OpenSpec.upto fnExactIsExportableSpec)) fnExactIsExportableUptoCard

/-- THE SECOND FORM's CARD OF 'laws.FnExactExportScript'. -/
def fnExactExportScriptUptoCard : Claim7 := { stood := { row := fnExactExportScriptUptoRow, standIns := [], harness := (true, "1f52beb5991a09f1b565f5059a588c48d02c5daeadb236530ced1e8c364cf287"), looks := true }, kinds := [], alts := [], laidByText := true, laidKinds := [.data, .data, .data, .data, .sentinel, .sentinel, .pinned], laidTests := true, laidLooks := .later }
def FnExactExportScriptUptoCardSaid : Prop := Claim7.holds Tryz.pinned (.plain (OpenSpec.upto fnExactExportScriptSpec)) fnExactExportScriptUptoCard
end Rows
end Go.Proofs.YtgfjbogcidlaeaaGreatDoor
