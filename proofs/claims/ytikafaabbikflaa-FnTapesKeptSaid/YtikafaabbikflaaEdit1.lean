/- Plain laws: one edit; both sides alike. -/
import Derived.Test.YtikafaabbikflaaLawsE
set_option linter.unusedSimpArgs false
set_option linter.unusedVariables false
namespace Go.Proofs.Ytikafaabbikflaa
open Go.Abs Go.Proofs

theorem cutL_to {α : Type} (xs : List α) (n : Nat) (h : n ≤ xs.length) : eff.cutL xs none (some (n : Int)) = some (xs.take n) := by
  unfold eff.cutL
  simp only [Option.getD_none, Option.getD_some]
  rw [if_pos ⟨by omega, by omega, by omega⟩]
  simp
theorem cutL_from {α : Type} (xs : List α) (n : Nat) (h : n ≤ xs.length) : eff.cutL xs (some (n : Int)) none = some (xs.drop n) := by
  unfold eff.cutL
  simp only [Option.getD_none, Option.getD_some]
  rw [if_pos ⟨by omega, by omega, by omega⟩]
  simp

/-- a valid notebook is small, and its cells are valid -/
theorem allAt_get {α : Type} {p : α → Nat → Bool} : ∀ {xs : List α} {i : Nat}, allAt p xs i = true → ∀ (k : Nat) (x : α), xs[k]? = some x → p x (i + k) = true
  | [], i, _, k, x, h => by simp at h
  | y :: ys, i, h, k, x, hx => by
    unfold allAt at h
    rw [Bool.and_eq_true] at h
    cases k with
    | zero => simp at hx; subst hx; exact h.1
    | succ k =>
      have := allAt_get h.2 k x (by simpa using hx)
      rw [show i + (k + 1) = i + 1 + k by omega]; exact this
theorem nb_fit {cs : List GCell} (hl : (cs.length : Int) ≤ 1048576) (h : ∀ x, x ∈ cs → Fit B20 (.base .cell) x) : Fit B20 (.base .notebook) (GNotebook.mk cs) := by
  rw [fit_notebook]; exact mkList20 hl h
end Go.Proofs.Ytikafaabbikflaa
