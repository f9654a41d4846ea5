import Derived.Test.YtgfjbogcidlaeaaGreatDoorPlain2
import Derived.Test.YtgfjbogcidlaeaaGreatDoorSplit1
/- Plain laws of the functions that mark a value and look for the marks. -/
set_option linter.unusedSimpArgs false
set_option linter.unusedVariables false
namespace Go.Proofs.YtgfjbogcidlaeaaGreatDoor
open Go.Abs Go.Proofs
end Go.Proofs.YtgfjbogcidlaeaaGreatDoor
/- Plain laws of marks, by genmark.py. -/
set_option linter.unusedSimpArgs false
set_option linter.unusedVariables false
namespace Go.Proofs.YtgfjbogcidlaeaaGreatDoor
open Go.Abs Go.Proofs
end Go.Proofs.YtgfjbogcidlaeaaGreatDoor
/- Notebooks that fit. -/
set_option linter.unusedSimpArgs false
set_option linter.unusedVariables false
namespace Go.Proofs.YtgfjbogcidlaeaaGreatDoor
open Go.Abs Go.Proofs
abbrev FitC (cs : List GCell) : Prop := ∀ x, x ∈ cs -> Fit B20 (.base .cell) x
theorem cells_fit {cs : List GCell} (h : Fit B20 (.base .notebook) ⟨cs⟩) : FitC cs /\ cs.length <= 1048576 := by
 rw [fit_notebook] at h
 have hl : (cs.length : Int) <= 1048576 := list20 h
 exact ⟨fun x hx => h.list_mem x hx, by omega⟩
theorem cellL_of {cs : List GCell} (h : FitC cs) : ∀ x, x ∈ cs -> CellL x := by
 intro x hx
 have := h x hx
 rw [fit_cell] at this
 have s1 := str20 this.2.2.2.1
 have s2 := str20 this.2.2.2.2.1
 exact ⟨by omega, by omega⟩
end Go.Proofs.YtgfjbogcidlaeaaGreatDoor
