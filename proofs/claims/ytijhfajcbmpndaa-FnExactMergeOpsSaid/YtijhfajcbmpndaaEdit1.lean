/- Plain laws: one edit; both sides alike. Plain laws: batches of edits; ApplyBatch, IsNoChange. -/
import Derived.Test.YtijhfajcbmpndaaLawsE
import Derived.Test.YtijhfajcbmpndaaLawsD
set_option linter.unusedSimpArgs false
set_option linter.unusedVariables false
namespace Go.Proofs.Ytijhfajcbmpndaa
open Go.Abs Go.Proofs

theorem cutL_to {α : Type} (xs : List α) (n : Nat) (h : n ≤ xs.length) : eff.cutL xs none (some (n : Int)) = some (xs.take n) := by
  unfold eff.cutL
  simp only [Option.getD_none, Option.getD_some]
  rw [if_pos ⟨by omega, by omega, by omega⟩]
  simp
theorem cutL_from {α : Type} (xs : List α) (n : Nat) (h : n ≤ xs.length) : eff.cutL xs (some (n : Int)) none = some (xs.drop n) := by
  unfold eff.cutL
  simp only [Option.getD_none, Option.getD_some]
  rw [if_pos ⟨by omega, by omega, by omega⟩]
  simp

/-- a valid notebook is small, and its cells are valid -/
theorem allAt_get {α : Type} {p : α → Nat → Bool} : ∀ {xs : List α} {i : Nat}, allAt p xs i = true → ∀ (k : Nat) (x : α), xs[k]? = some x → p x (i + k) = true
  | [], i, _, k, x, h => by simp at h
  | y :: ys, i, h, k, x, hx => by
    unfold allAt at h
    rw [Bool.and_eq_true] at h
    cases k with
    | zero => simp at hx; subst hx; exact h.1
    | succ k =>
      have := allAt_get h.2 k x (by simpa using hx)
      rw [show i + (k + 1) = i + 1 + k by omega]; exact this

/-- two loops over the places of a list that go alike -/
theorem loop_both {α σ ρ X Y : Type} {g1 : X → Option (X ⊕ ρ)} {g2 : Y → Option (Y ⊕ ρ)} (pk1 : σ → Nat → X) (pk2 : σ → Nat → Y) (xs : List α) (I : Nat → σ → Prop) (R : ρ → Prop)
    (hs : ∀ i x s, xs[i]? = some x → I i s → (∃ s', g1 (pk1 s i) = some (.inl (pk1 s' (i + 1))) ∧ g2 (pk2 s i) = some (.inl (pk2 s' (i + 1))) ∧ I (i + 1) s') ∨ ∃ r, g1 (pk1 s i) = some (.inr r) ∧ g2 (pk2 s i) = some (.inr r) ∧ R r)
    (he : ∀ s, I xs.length s → ∃ r, g1 (pk1 s xs.length) = some (.inr r) ∧ g2 (pk2 s xs.length) = some (.inr r) ∧ R r) (s : σ) (h0 : I 0 s) :
    ∃ r, loopD g1 (pk1 s 0) = some r ∧ loopD g2 (pk2 s 0) = some r ∧ R r := by
  have key : ∀ (n i : Nat) (s : σ), xs.length = i + n → I i s → ∃ r, loopD g1 (pk1 s i) = some r ∧ loopD g2 (pk2 s i) = some r ∧ R r := by
    intro n
    induction n with
    | zero =>
      intro i s hi hI
      have : i = xs.length := by omega
      subst this
      obtain ⟨r, e1, e2, hR⟩ := he s hI
      refine ⟨r, ?_, ?_, hR⟩
      · rw [loopD_eq, e1]
      · rw [loopD_eq, e2]
    | succ n ih =>
      intro i s hi hI
      have hlt : i < xs.length := by omega
      rcases hs i xs[i] s (List.getElem?_eq_getElem hlt) hI with ⟨s', e1, e2, hI'⟩ | ⟨r, e1, e2, hR⟩
      · obtain ⟨r, q1, q2, hR⟩ := ih (i + 1) s' (by omega) hI'
        refine ⟨r, ?_, ?_, hR⟩
        · rw [loopD_eq, e1]; exact q1
        · rw [loopD_eq, e2]; exact q2
      · refine ⟨r, ?_, ?_, hR⟩
        · rw [loopD_eq, e1]
        · rw [loopD_eq, e2]
  exact key xs.length 0 s (by omega) h0

def uncell (c : GCell) : GCell := GCell.mk c.id 0 c.kind c.name c.code c.n
/-- a loop that turns every element in its place -/
theorem mapLoop {α X ρ : Type} {g : X → Option (X ⊕ ρ)} (pk : List α → Nat → X) (L : Nat) (f : α → α) (fin : List α → Option ρ)
    (hs : ∀ (xs : List α) (i : Nat) (x : α), xs[i]? = some x → xs.length = L → g (pk xs i) = some (.inl (pk (xs.set i (f x)) (i + 1))))
    (he : ∀ (xs : List α), xs.length = L → g (pk xs L) = (fin xs).bind fun r => some (.inr r)) (xs : List α) (hl : xs.length = L) : loopD g (pk xs 0) = fin (xs.map f) := by
  have key : ∀ (n i : Nat) (xs : List α), L = i + n → xs.length = L → loopD g (pk xs i) = fin (xs.take i ++ (xs.drop i).map f) := by
    intro n
    induction n with
    | zero =>
      intro i xs hi hl
      have : i = xs.length := by omega
      subst this
      rw [hl, loopD_eq, he xs hl]
      rw [← hl]
      simp only [List.take_length, List.drop_length, List.map_nil, List.append_nil]
      cases fin xs <;> rfl
    | succ n ih =>
      intro i xs hi hl
      have hlt : i < xs.length := by omega
      rw [loopD_eq, hs xs i xs[i] (List.getElem?_eq_getElem hlt) hl]
      simp only
      rw [ih (i + 1) (xs.set i (f xs[i])) (by omega) (by simpa using hl)]
      congr 1
      rw [List.drop_eq_getElem_cons hlt, List.map_cons]
      apply List.ext_getElem?
      intro j
      simp only [List.getElem?_append, List.getElem?_take, List.length_take, List.length_set, List.getElem?_set, List.getElem?_map, List.getElem?_drop, List.getElem?_cons]
      have m1 : min (i + 1) xs.length = i + 1 := by omega
      have m2 : min i xs.length = i := by omega
      rw [m1, m2]
      by_cases h1 : j < i
      · have a1 : j < i + 1 := by omega
        have a2 : ¬ i = j := by omega
        simp [h1, a1, a2]
      · by_cases h2 : j = i
        · subst h2; simp [hlt]
        · have a1 : ¬ j < i + 1 := by omega
          have a2 : ¬ i = i + 1 + (j - (i + 1)) := by omega
          have a3 : ¬ j - i = 0 := by omega
          have a4 : j - i - 1 = j - (i + 1) := by omega
          simp [h1, a1, a2, a3, a4]
  simpa using key L 0 xs (by omega) hl
theorem eqd_symm {α : Type} (a b : α) : eqd a b = eqd b a := by
  rw [Bool.eq_iff_iff, eqd_iff, eqd_iff]; exact eq_comm
end Go.Proofs.Ytijhfajcbmpndaa
