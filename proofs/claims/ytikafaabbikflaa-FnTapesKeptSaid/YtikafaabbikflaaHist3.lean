/- Plain laws: GoTo. -/
import Derived.Test.YtikafaabbikflaaHist2
set_option linter.unusedSimpArgs false
set_option linter.unusedVariables false
namespace Go.Proofs.Ytikafaabbikflaa
open Go.Abs Go.Proofs

theorem path_sorted {X : Type} (nodes : List GNode) {g : X → Option (X ⊕ List Int)} (pk : Int → List Int → X)
    (hv : nodes.length ≤ 20 ∧ ∀ (i : Nat) (x : GNode), nodes[i]? = some x → (i = 0 ∧ x.parent = -1) ∨ (0 ≤ x.parent ∧ x.parent < i))
    (hs : ∀ (i : Nat) (x : GNode) (acc : List Int), nodes[i]? = some x → acc.length ≤ 1000 → g (pk i acc) = some (.inl (pk x.parent ([(i : Int)] ++ acc))))
    (he : ∀ acc, g (pk (-1) acc) = some (.inr acc)) : ∀ (n i : Nat) (acc : List Int), i ≤ n → i < nodes.length → acc.length + n ≤ 100 → acc.Pairwise (· < ·) → (∀ x ∈ acc, (i : Int) < x) →
      ∃ w, loopD g (pk i acc) = some w ∧ w.Pairwise (· < ·) := by
  have last : ∀ acc : List Int, acc.Pairwise (· < ·) → ∃ w, loopD g (pk (-1) acc) = some w ∧ w.Pairwise (· < ·) := fun acc hacc => by
    rw [loopD_eq, he]
    exact ⟨_, rfl, hacc⟩
  have one : ∀ (i : Nat) (acc : List Int), acc.Pairwise (· < ·) → (∀ x ∈ acc, (i : Int) < x) → ([(i : Int)] ++ acc).Pairwise (· < ·) := fun i acc h1 h2 => by
    rw [List.singleton_append, List.pairwise_cons]; exact ⟨h2, h1⟩
  intro n
  induction n with
  | zero =>
    intro i acc hi hil hacc hp1 hp2
    have hi0 : i = 0 := by omega
    subst hi0
    have hx := List.getElem?_eq_getElem hil
    rw [loopD_eq, hs 0 _ acc hx (by omega)]
    rcases hv.2 0 _ hx with ⟨_, hp⟩ | ⟨h1, h2⟩
    · simp only; rw [hp]; exact last _ (one 0 acc hp1 hp2)
    · omega
  | succ n ih =>
    intro i acc hi hil hacc hp1 hp2
    have hx := List.getElem?_eq_getElem hil
    rw [loopD_eq, hs i _ acc hx (by omega)]
    simp only
    rcases hv.2 i _ hx with ⟨_, hp⟩ | ⟨h1, h2⟩
    · rw [hp]; exact last _ (one i acc hp1 hp2)
    · obtain ⟨p, hp⟩ := Int.eq_ofNat_of_zero_le h1
      rw [hp] at h2 ⊢
      refine ih p _ (by omega) (by omega) (by simp; omega) (one i acc hp1 hp2) fun x hx => ?_
      rw [List.singleton_append, List.mem_cons] at hx
      rcases hx with hx | hx
      · omega
      · have := hp2 x hx; omega
/-- the list has the number -/
def hasI (xs : List Int) (b : Int) : Bool := !(xs.all fun x => !(x == b))
theorem hasI_get {xs : List Int} {b : Int} (h : hasI xs b = true) : ∃ j : Nat, xs[j]? = some b := by
  simp [hasI] at h
  exact List.mem_iff_getElem?.1 h
theorem sorted_get {xs : List Int} (h : xs.Pairwise (· < ·)) {i j : Nat} {x y : Int} (hx : xs[i]? = some x) (hy : xs[j]? = some y) (hij : i < j) : x < y := by
  obtain ⟨hi, hx⟩ := List.getElem?_eq_some_iff.1 hx
  obtain ⟨hj, hy⟩ := List.getElem?_eq_some_iff.1 hy
  rw [← hx, ← hy]
  exact List.pairwise_iff_getElem.1 h i j hi hj hij
abbrev GoR (r : GHistory × Bool) : Prop := Fit B20 (.base .history) r.1
theorem loop_two {σ ρ X Y : Type} {g1 : X → Option (X ⊕ ρ)} {g2 : Y → Option (Y ⊕ ρ)} (pk1 : σ → X) (pk2 : σ → Y) (I : Nat → σ → Prop) (R : ρ → Prop)
    (hs : ∀ n s, I n s → (∃ s' m, m < n ∧ I m s' ∧ g1 (pk1 s) = some (.inl (pk1 s')) ∧ g2 (pk2 s) = some (.inl (pk2 s'))) ∨ ∃ r, g1 (pk1 s) = some (.inr r) ∧ g2 (pk2 s) = some (.inr r) ∧ R r) :
    ∀ n s, I n s → ∃ r, loopD g1 (pk1 s) = some r ∧ loopD g2 (pk2 s) = some r ∧ R r := by
  intro n
  induction n using Nat.strongRecOn with
  | ind n ih =>
    intro s hI
    rcases hs n s hI with ⟨s', m, hm, hI', e1, e2⟩ | ⟨r, e1, e2, hR⟩
    · obtain ⟨r, q1, q2, hR⟩ := ih m hm s' hI'
      exact ⟨r, by rw [loopD_eq, e1]; exact q1, by rw [loopD_eq, e2]; exact q2, hR⟩
    · exact ⟨r, by rw [loopD_eq, e1], by rw [loopD_eq, e2], hR⟩
theorem bindInr {X Y ρ : Type} {A B : Option ρ} {R : ρ → Prop} (h : ∃ r, A = some r ∧ B = some r ∧ R r) :
    ∃ r, (A.bind fun r => some ((.inr r : X ⊕ ρ))) = some (.inr r) ∧ (B.bind fun r => some ((.inr r : Y ⊕ ρ))) = some (.inr r) ∧ R r := by
  obtain ⟨r, e1, e2, h⟩ := h
  exact ⟨r, by rw [e1]; rfl, by rw [e2]; rfl, h⟩
end Go.Proofs.Ytikafaabbikflaa
