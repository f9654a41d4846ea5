/- Plain laws: loops that scan, sizes, equality with itself. -/
import Derived.Test.YtjpmhfhcbehgcaaGreatPlain1
set_option linter.unusedSimpArgs false
set_option linter.unusedVariables false
namespace Go.Proofs.YtjpmhfhcbehgcaaGreat
open Go.Abs Go.Proofs

/-- every element, with its place -/
def allAt {α : Type} (p : α → Nat → Bool) : List α → Nat → Bool
  | [], _ => true
  | x :: r, i => p x i && allAt p r (i + 1)

theorem scan_all {α X : Type} {g : X → Option (X ⊕ Bool)} (pk : Nat → X) (xs : List α) (p : α → Nat → Bool) (fin : Bool)
    (h1 : ∀ i x, xs[i]? = some x → g (pk i) = bif p x i then some (.inl (pk (i + 1))) else some (.inr false))
    (h2 : g (pk xs.length) = some (.inr fin)) : loopD g (pk 0) = some (allAt p xs 0 && fin) := by
  have key : ∀ (n i : Nat), xs.length = i + n → loopD g (pk i) = some (allAt p (xs.drop i) i && fin) := by
    intro n
    induction n with
    | zero =>
      intro i hi
      rw [List.drop_eq_nil_of_le (by omega), loopD_eq]
      have : i = xs.length := by omega
      subst this
      rw [h2]
      simp [allAt]
    | succ n ih =>
      intro i hi
      have hlt : i < xs.length := by omega
      rw [List.drop_eq_getElem_cons hlt, loopD_eq, h1 i xs[i] (List.getElem?_eq_getElem hlt)]
      simp only [allAt]
      cases p xs[i] i with
      | false => simp
      | true => simpa using ih (i + 1) (by omega)
  simpa using key xs.length 0 (by omega)

/-- the first place where the test holds -/
def firstAt {α : Type} (p : α → Bool) : List α → Nat → Int
  | [], _ => -1
  | x :: r, i => bif p x then (i : Int) else firstAt p r (i + 1)
theorem scan_first {α X : Type} {g : X → Option (X ⊕ Int)} (pk : Nat → X) (xs : List α) (p : α → Bool)
    (h1 : ∀ i x, xs[i]? = some x → g (pk i) = bif p x then some (.inr (i : Int)) else some (.inl (pk (i + 1))))
    (h2 : g (pk xs.length) = some (.inr (-1))) : loopD g (pk 0) = some (firstAt p xs 0) := by
  have key : ∀ (n i : Nat), xs.length = i + n → loopD g (pk i) = some (firstAt p (xs.drop i) i) := by
    intro n
    induction n with
    | zero =>
      intro i hi
      rw [List.drop_eq_nil_of_le (by omega), loopD_eq]
      have : i = xs.length := by omega
      subst this
      rw [h2]
      simp [firstAt]
    | succ n ih =>
      intro i hi
      have hlt : i < xs.length := by omega
      rw [List.drop_eq_getElem_cons hlt, loopD_eq, h1 i xs[i] (List.getElem?_eq_getElem hlt)]
      simp only [firstAt]
      cases p xs[i] with
      | false => simpa using ih (i + 1) (by omega)
      | true => simp
  simpa using key xs.length 0 (by omega)

/-- a list's size: too great, or the rest -/
def SzOk {α : Type} (f : α → Int → Option Int) (P : α → Prop) (cE : α → Nat) (x : α) : Prop :=
  ∀ l : Int, 0 ≤ l → l ≤ 1048576 → ∃ r, f x l = some r ∧ (r < 0 ∨ (0 ≤ r ∧ r ≤ l ∧ 20 * r + cE x ≤ 20 * l + 20 ∧ P x))
theorem szLoop {α : Type} (f : α → Int → Option Int) (P : α → Prop) (cE : α → Nat) (xs : List α) (hf : ∀ x ∈ xs, SzOk f P cE x) (hl : xs.length < 4611686018427387904) (l : Int) (h0 : 0 ≤ l) (h1 : l ≤ 1048576) :
    ∃ r, loopD (fun (x1 : List α × Int × Int) =>
      bif (decide (x1.2.2 < (x1.1.length : Int))) then
        (idx x1.1 x1.2.2).bind fun e2 =>
        (f e2 x1.2.1).bind fun r3 =>
        bif (decide (r3 < 0)) then
          some (.inr ((-1)))
        else
          some (.inl (x1.1, r3, w64 (x1.2.2 + 1)))
      else
        some (.inr (x1.2.1))) (xs, l, 0) = some r ∧ (r < 0 ∨ (0 ≤ r ∧ r ≤ l ∧ 20 * r + (xs.map cE).sum ≤ 20 * l + 20 * xs.length ∧ ∀ x ∈ xs, P x)) := by
  have key : ∀ (n i : Nat) (l' : Int), xs.length = i + n → 0 ≤ l' → l' ≤ l → 20 * l' + ((xs.take i).map cE).sum ≤ 20 * l + 20 * i → (∀ j x, xs[j]? = some x → j < i → P x) → ∃ r, loopD (fun (x1 : List α × Int × Int) =>
      bif (decide (x1.2.2 < (x1.1.length : Int))) then
        (idx x1.1 x1.2.2).bind fun e2 =>
        (f e2 x1.2.1).bind fun r3 =>
        bif (decide (r3 < 0)) then
          some (.inr ((-1)))
        else
          some (.inl (x1.1, r3, w64 (x1.2.2 + 1)))
      else
        some (.inr (x1.2.1))) (xs, l', (i : Int)) = some r ∧ (r < 0 ∨ (0 ≤ r ∧ r ≤ l ∧ 20 * r + (xs.map cE).sum ≤ 20 * l + 20 * xs.length ∧ ∀ x ∈ xs, P x)) := by
    intro n
    induction n with
    | zero =>
      intro i l' hi h0' h1' hc hP
      have ht : xs.take i = xs := List.take_of_length_le (by omega)
      rw [ht] at hc
      refine ⟨l', ?_, .inr ⟨h0', h1', by omega, fun x hx => ?_⟩⟩
      · rw [loopD_eq]
        have h : ¬ ((i : Int) < (xs.length : Int)) := by omega
        simp only [h, decide_false, cond_false]
      · obtain ⟨j, hj, rfl⟩ := List.mem_iff_getElem.1 hx
        exact hP j _ (List.getElem?_eq_getElem hj) (by omega)
    | succ n ih =>
      intro i l' hi h0' h1' hc hP
      have hlt : i < xs.length := by omega
      obtain ⟨r, hr, h⟩ := hf _ (List.getElem_mem hlt) l' h0' (by omega)
      have hd : ((i : Int) < (xs.length : Int)) := by omega
      rw [loopD_eq]
      simp only [hd, decide_true, cond_true, idx_nat, List.getElem?_eq_getElem hlt, Option.bind_some, hr]
      rcases h with h | ⟨h2, h3, h5, h4⟩
      · exact ⟨-1, by simp [h], .inl (by omega)⟩
      · have hn : ¬ (r < 0) := by omega
        simp only [hn, decide_false, cond_false]
        rw [w64_id (by omega) (by omega)]
        have hsum : ((xs.take (i + 1)).map cE).sum = ((xs.take i).map cE).sum + cE xs[i] := by
          rw [List.take_add_one, List.getElem?_eq_getElem hlt, List.map_append, List.sum_append]; simp only [Option.toList_some, List.map_cons, List.map_nil, List.sum_cons, List.sum_nil, Nat.add_zero]
        have := ih (i + 1) r (by omega) h2 (by omega) (by rw [hsum]; omega) (by
          intro j x hj hji
          by_cases hje : j = i
          · subst hje
            rw [List.getElem?_eq_getElem hlt] at hj
            cases hj
            exact h4
          · exact hP j x hj (by omega))
        simpa using this
  exact key xs.length 0 l (by omega) h0 (Int.le_refl _) (by simp) (fun j x _ hj => absurd hj (by omega))

/-- a list is equal to itself -/
theorem eqLoop {α : Type} (f : α → α → Option Bool) (xs : List α) (hf : ∀ x ∈ xs, f x x = some true) (hl : xs.length < 4611686018427387904) :
    loopD (fun (x1 : List α × List α × Int) =>
      bif (decide (x1.2.2 < (x1.1.length : Int))) then
        (idx x1.1 x1.2.2).bind fun e2 =>
        (idx x1.2.1 x1.2.2).bind fun e3 =>
        (f e2 e3).bind fun r4 =>
        bif (!r4) then
          some (.inr (false))
        else
          some (.inl (x1.1, x1.2.1, w64 (x1.2.2 + 1)))
      else
        some (.inr (true))) (xs, xs, 0) = some true := by
  have := scan_all (g := fun (x1 : List α × List α × Int) =>
      bif (decide (x1.2.2 < (x1.1.length : Int))) then
        (idx x1.1 x1.2.2).bind fun e2 =>
        (idx x1.2.1 x1.2.2).bind fun e3 =>
        (f e2 e3).bind fun r4 =>
        bif (!r4) then
          some (.inr (false))
        else
          some (.inl (x1.1, x1.2.1, w64 (x1.2.2 + 1)))
      else
        some (.inr (true))) (fun i => (xs, xs, (i : Int))) xs (fun _ _ => true) true (by
    intro i x hx
    obtain ⟨hlt, rfl⟩ := List.getElem?_eq_some_iff.1 hx
    have hd : ((i : Int) < (xs.length : Int)) := by omega
    simp only [hd, decide_true, cond_true, idx_nat, hx, Option.bind_some, hf _ (List.getElem_mem hlt), Bool.not_true, cond_false]
    rw [w64_id (by omega) (by omega)]
    rfl) (by
    have h : ¬ ((xs.length : Int) < (xs.length : Int)) := by omega
    simp only [h, decide_false, cond_false])
  have e : ∀ (l : List α) i, allAt (fun (_ : α) (_ : Nat) => true) l i = true := by
    intro l
    induction l with
    | nil => intro i; rfl
    | cons x r ih => intro i; simpa [allAt] using ih (i + 1)
  rw [e] at this
  exact this
end Go.Proofs.YtjpmhfhcbehgcaaGreat
