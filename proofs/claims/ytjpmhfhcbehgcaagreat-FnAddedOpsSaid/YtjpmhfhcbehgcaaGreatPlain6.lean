/- The plain law of IsValidHistory. -/
import Derived.Test.YtjpmhfhcbehgcaaGreatLawsA
set_option linter.unusedSimpArgs false
set_option linter.unusedVariables false
namespace Go.Proofs.YtjpmhfhcbehgcaaGreat
open Go.Abs Go.Proofs

/-- the node's parent fits its place -/
def okn (e : GNode) (i : Nat) : Bool := bif ((i : Int) == 0) then !(e.parent != (-1)) else (decide (0 ≤ e.parent) && decide (e.parent ≤ w64 ((i : Int) - 1)))
theorem w64_pred {i : Nat} (h : i < lim) : w64 ((i : Int) - 1) = (i : Int) - 1 := by
  have h' : (i : Int) < 4611686018427387904 := Int.ofNat_lt.2 h
  exact w64_id (by omega) (by omega)
theorem allAt_shift {α : Type} (p q : α → Nat → Bool) (xs : List α) : ∀ i j, (∀ k x, xs[k]? = some x → p x (i + k) = q x (j + k)) → allAt p xs i = allAt q xs j := by
  induction xs with
  | nil => intro i j _; rfl
  | cons x r ih =>
    intro i j h
    simp only [allAt]
    have h0 := h 0 x rfl
    simp only [Nat.add_zero] at h0
    rw [h0, ih (i + 1) (j + 1) fun k y hk => (by have := h (k + 1) y hk; simpa [Nat.add_assoc, Nat.add_comm 1 k] using this)]

end Go.Proofs.YtjpmhfhcbehgcaaGreat
