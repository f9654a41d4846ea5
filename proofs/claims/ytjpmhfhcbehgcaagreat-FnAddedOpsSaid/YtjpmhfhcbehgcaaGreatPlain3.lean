/- Plain laws that hold of no one function: loops, Booleans, the first steps of a law. -/
import Derived.Test.YtjpmhfhcbehgcaaGreatBasic
set_option linter.unusedSimpArgs false
set_option linter.unusedVariables false
namespace Go.Proofs.YtjpmhfhcbehgcaaGreat
open Go.Abs Go.Proofs

/-- greater than any list's length -/
abbrev lim : Nat := 4611686018427387904
theorem lim20 {n : Nat} (h : (n : Int) ≤ 1048576) : n < lim := by
  show n < 4611686018427387904
  omega
theorem lt_of_nat {a b : Nat} (h : a < b) : decide ((a : Int) < (b : Int)) = true := by simpa using h
theorem nlt_self {a : Nat} : decide ((a : Int) < (a : Int)) = false := by simp
theorem w64_succ {i n : Nat} (h : i < n) (hn : n < lim) : w64 ((i : Int) + 1) = ((i + 1 : Nat) : Int) := by
  have h' : (i : Int) < (n : Int) := Int.ofNat_lt.2 h
  have hn' : (n : Int) < 4611686018427387904 := Int.ofNat_lt.2 hn
  rw [w64_id (by omega) (by omega)]
  rfl

theorem dnlt (a b : Int) : decide (a < b) = !decide (a ≥ b) := by
  by_cases h : a < b
  · simp [h]
  · simp [h]; omega
theorem dngt (a b : Int) : decide (a > b) = !decide (a ≤ b) := by
  by_cases h : a > b
  · simp [h]
  · simp [h]; omega
theorem beq_flip (a b : Str) : (a == b) = (b == a) := by
  by_cases h : a = b
  · subst h; rfl
  · rw [beq_eq_false_iff_ne.2 h, beq_eq_false_iff_ne.2 (Ne.symm h)]
theorem loop_foldl {α σ ρ X : Type} {g : X → Option (X ⊕ ρ)} (pk : σ → Nat → X) (xs : List α) (f : σ → α → σ) (fin : σ → ρ)
    (h1 : ∀ i x s, xs[i]? = some x → g (pk s i) = some (.inl (pk (f s x) (i + 1))))
    (h2 : ∀ s, g (pk s xs.length) = some (.inr (fin s))) (s : σ) : loopD g (pk s 0) = some (fin (xs.foldl f s)) := by
  have key : ∀ (n i : Nat) (s : σ), xs.length = i + n → loopD g (pk s i) = some (fin ((xs.drop i).foldl f s)) := by
    intro n
    induction n with
    | zero =>
      intro i s hi
      rw [List.drop_eq_nil_of_le (by omega), loopD_eq]
      have : i = xs.length := by omega
      subst this
      rw [h2]
      rfl
    | succ n ih =>
      intro i s hi
      have hlt : i < xs.length := by omega
      rw [List.drop_eq_getElem_cons hlt, loopD_eq, h1 i xs[i] s (List.getElem?_eq_getElem hlt)]
      exact ih (i + 1) (f s xs[i]) (by omega)
  simpa using key xs.length 0 s (by omega)

/-- the first steps of a law: sizes -/
theorem law1c {α : Type} {f : α → Int → Option Int} {P : Prop} {x : α} {c s : Nat} (h : SzK f P x c s) {k : Int → Option Bool} (l : Int) (h0 : 0 ≤ l) (h1 : l ≤ 1048576) (hk : P → ∀ r, 0 ≤ r → r ≤ l → 20 * r + c ≤ 20 * l + s → k r = some true) :
    ((f x l).bind fun r1 => bif (decide (r1 < 0)) then some (true) else k r1) = some true := by
  obtain ⟨r, e, p⟩ := h l h0 h1
  rw [e, Option.bind_some]
  rcases p with p | ⟨p, q, hc, hP⟩
  · rw [decide_eq_true p]; rfl
  · rw [decide_eq_false (by omega), cond_false]
    exact hk hP r p q hc
theorem law1 {α : Type} {f : α → Int → Option Int} {P : Prop} {x : α} {c s : Nat} (h : SzK f P x c s) {k : Int → Option Bool} (l : Int) (h0 : 0 ≤ l) (h1 : l ≤ 1048576) (hk : P → ∀ r, 0 ≤ r → r ≤ 1048576 → k r = some true) :
    ((f x l).bind fun r1 => bif (decide (r1 < 0)) then some (true) else k r1) = some true := by
  obtain ⟨r, e, p⟩ := h l h0 h1
  rw [e, Option.bind_some]
  rcases p with p | ⟨p, q, _, hP⟩
  · rw [decide_eq_true p]; rfl
  · rw [decide_eq_false (by omega), cond_false]
    exact hk hP r p (by omega)

/-- the loop that looks at every element, and what comes behind it -/
theorem scan_then {α X ρ : Type} {g : X → Option (X ⊕ ρ)} (pk : Nat → X) (xs : List α) (p : α → Bool) (no : ρ) (fin : Option ρ)
    (h1 : ∀ i x, xs[i]? = some x → g (pk i) = bif p x then some (.inl (pk (i + 1))) else some (.inr no))
    (h2 : g (pk xs.length) = fin.bind fun r => some (.inr r)) : loopD g (pk 0) = bif xs.all p then fin else some no := by
  have key : ∀ (n i : Nat), xs.length = i + n → loopD g (pk i) = bif (xs.drop i).all p then fin else some no := by
    intro n
    induction n with
    | zero =>
      intro i hi
      rw [List.drop_eq_nil_of_le (by omega), loopD_eq]
      have : i = xs.length := by omega
      subst this
      rw [h2]
      cases fin <;> rfl
    | succ n ih =>
      intro i hi
      have hlt : i < xs.length := by omega
      rw [List.drop_eq_getElem_cons hlt, loopD_eq, h1 i xs[i] (List.getElem?_eq_getElem hlt)]
      simp only [List.all_cons]
      cases p xs[i] with
      | false => rfl
      | true => simpa using ih (i + 1) (by omega)
  simpa using key xs.length 0 (by omega)
theorem scan_then' {α X ρ : Type} {g : X → Option (X ⊕ ρ)} (pk : Nat → X) (z : X) (hz : pk 0 = z) (xs : List α) (p : α → Bool) (no : ρ) (fin : Option ρ)
    (h1 : ∀ i x, xs[i]? = some x → g (pk i) = bif p x then some (.inl (pk (i + 1))) else some (.inr no))
    (h2 : g (pk xs.length) = fin.bind fun r => some (.inr r)) : loopD g z = bif xs.all p then fin else some no := by
  rw [← hz]
  exact scan_then pk xs p no fin h1 h2
theorem allAt_all {α : Type} (p : α → Bool) : ∀ (xs : List α) (i : Nat), allAt (fun x _ => p x) xs i = xs.all p
  | [], _ => rfl
  | x :: r, i => by simp only [allAt, List.all_cons, allAt_all p r]
theorem ex_same {α : Type} {x : Option α} (h : ∃ b, x = some b) : ∃ b, x = some b ∧ x = some b := by
  obtain ⟨b, h⟩ := h
  exact ⟨b, h, h⟩
theorem ex_bif {α : Type} {c : Bool} {x y : Option α} (h : ∃ b, x = some b) (h' : ∃ b, y = some b) : ∃ b, (bif c then x else y) = some b := by
  cases c with
  | true => exact h
  | false => exact h'
theorem iWithin_ok (a b c : Int) : iWithin a b c = some (decide (b ≤ a) && decide (a ≤ c)) := by
  unfold iWithin
  cases decide (b ≤ a) <;> rfl
theorem sL1In_ok (a b c : Int) : sL1In a b c = some (decide (b ≤ a) && decide (a ≤ c)) := by
  unfold sL1In
  show (bif decide (b ≤ a) then _ else _) = _
  cases decide (b ≤ a) <;> rfl
end Go.Proofs.YtjpmhfhcbehgcaaGreat
