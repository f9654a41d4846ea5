/- Plain laws with marks: PathTo, NewReplica. Plain laws with marks: SeenBy. -/
import Derived.Test.YtijhfajcbmpndaaEdit1
set_option linter.unusedSimpArgs false
set_option linter.unusedVariables false
namespace Go.Proofs.Ytijhfajcbmpndaa
open Go.Abs Go.Proofs

/-- a valid history: few nodes, and every parent stands before its child -/
def HistV (a : GHistory) : Prop := 1 ≤ a.nodes.length ∧ a.nodes.length ≤ 20 ∧ (0 ≤ a.pos ∧ a.pos < a.nodes.length) ∧ ∀ (i : Nat) (x : GNode), a.nodes[i]? = some x → (i = 0 ∧ x.parent = -1) ∨ (0 ≤ x.parent ∧ x.parent < i)

theorem path_ok {X : Type} (nodes : List GNode) {g : X → Option (X ⊕ List Int)} (pk : Int → List Int → X)
    (hv : nodes.length ≤ 20 ∧ ∀ (i : Nat) (x : GNode), nodes[i]? = some x → (i = 0 ∧ x.parent = -1) ∨ (0 ≤ x.parent ∧ x.parent < i))
    (hs : ∀ (i : Nat) (x : GNode) (acc : List Int), nodes[i]? = some x → acc.length ≤ 1000 → g (pk i acc) = some (.inl (pk x.parent ([(i : Int)] ++ acc))))
    (he : ∀ acc, g (pk (-1) acc) = some (.inr acc)) : ∀ (n i : Nat) (acc : List Int), i ≤ n → i < nodes.length → acc.length + n ≤ 100 → ∃ w, loopD g (pk i acc) = some w ∧ (w.length : Int) ≤ 200 := by
  have last : ∀ acc : List Int, acc.length ≤ 200 → ∃ w, loopD g (pk (-1) acc) = some w ∧ (w.length : Int) ≤ 200 := fun acc hacc => by
    rw [loopD_eq, he]
    exact ⟨_, rfl, by omega⟩
  intro n
  induction n with
  | zero =>
    intro i acc hi hil hacc
    have hi0 : i = 0 := by omega
    subst hi0
    have hx := List.getElem?_eq_getElem hil
    rw [loopD_eq, hs 0 _ acc hx (by omega)]
    rcases hv.2 0 _ hx with ⟨_, hp⟩ | ⟨h1, h2⟩
    · simp only; rw [hp]; exact last _ (by simp; omega)
    · omega
  | succ n ih =>
    intro i acc hi hil hacc
    have hx := List.getElem?_eq_getElem hil
    rw [loopD_eq, hs i _ acc hx (by omega)]
    simp only
    rcases hv.2 i _ hx with ⟨_, hp⟩ | ⟨h1, h2⟩
    · rw [hp]; exact last _ (by simp; omega)
    · obtain ⟨p, hp⟩ := Int.eq_ofNat_of_zero_le h1
      rw [hp] at h2 ⊢
      exact ih p _ (by omega) (by omega) (by simp; omega)

end Go.Proofs.Ytijhfajcbmpndaa
