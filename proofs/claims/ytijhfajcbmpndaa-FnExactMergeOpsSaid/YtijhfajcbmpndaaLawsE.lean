/- Plain laws with marks: ChangedVersions, NewHistory, PathTo. -/
import Derived.Test.YtijhfajcbmpndaaMarks
import Derived.Test.YtijhfajcbmpndaaPlain4
import Derived.Test.YtijhfajcbmpndaaPlain6
set_option linter.unusedSimpArgs false
set_option linter.unusedVariables false
namespace Go.Proofs.Ytijhfajcbmpndaa
open Go.Abs Go.Proofs

theorem loop_foldI {α σ ρ X : Type} {g : X → Option (X ⊕ ρ)} (pk : σ → Nat → X) (xs : List α) (f : σ → α → σ) (fin : σ → ρ) (I : Nat → σ → Prop)
    (hI : ∀ i x s, xs[i]? = some x → I i s → I (i + 1) (f s x))
    (h1 : ∀ i x s, xs[i]? = some x → I i s → g (pk s i) = some (.inl (pk (f s x) (i + 1))))
    (h2 : ∀ s, I xs.length s → g (pk s xs.length) = some (.inr (fin s))) (s : σ) (h0 : I 0 s) : loopD g (pk s 0) = some (fin (xs.foldl f s)) ∧ I xs.length (xs.foldl f s) := by
  have key : ∀ (n i : Nat) (s : σ), xs.length = i + n → I i s → loopD g (pk s i) = some (fin ((xs.drop i).foldl f s)) ∧ I xs.length ((xs.drop i).foldl f s) := by
    intro n
    induction n with
    | zero =>
      intro i s hi hs
      rw [List.drop_eq_nil_of_le (by omega), loopD_eq]
      have : i = xs.length := by omega
      subst this
      rw [h2 s hs]
      exact ⟨rfl, hs⟩
    | succ n ih =>
      intro i s hi hs
      have hlt : i < xs.length := by omega
      have hx := List.getElem?_eq_getElem hlt
      rw [List.drop_eq_getElem_cons hlt, loopD_eq, h1 i xs[i] s hx hs]
      exact ih (i + 1) (f s xs[i]) (by omega) (hI i xs[i] s hx hs)
  simpa using key xs.length 0 s (by omega) h0
theorem gd_ok {n : Nat} (h : n ≤ 34359738368) : gd n = some () := by unfold gd; rw [if_pos h]
theorem firstAt_idx {α : Type} (p : α → Bool) : ∀ (xs : List α) (i : Nat), firstAt p xs i = -1 ∨ ∃ (n : Nat) (x : α), firstAt p xs i = ((i + n : Nat) : Int) ∧ xs[n]? = some x
  | [], i => .inl rfl
  | y :: ys, i => by
    unfold firstAt
    cases hp : p y with
    | true => exact .inr ⟨0, y, by simp, rfl⟩
    | false =>
      rcases firstAt_idx p ys (i + 1) with h | ⟨n, x, h, hx⟩
      · exact .inl (by simpa using h)
      · refine .inr ⟨n + 1, x, ?_, by simpa using hx⟩
        have : i + 1 + n = i + (n + 1) := by omega
        rw [← this]; simpa using h
theorem eqIntS_len (xs : List Int) (h : xs.length < lim) : eqIntS xs xs = some true := by
  unfold eqIntS
  have e : ((xs.length : Int) != (xs.length : Int)) = false := by simp
  rw [e, cond_false]
  exact eqLoop (fun e e' => some (e == e')) xs (fun _ _ => by simp) h

/-! ChangedVersions -/
def cvStep (bs : List GCell) (s : List Int) (c : GCell) : List Int :=
  bif decide (firstAt (fun d => d.id == c.id) bs 0 ≥ 0) then
    match idx bs (firstAt (fun d => d.id == c.id) bs 0) with
    | some d => bif (d.version != c.version) then s ++ [c.id] else s
    | none => s
  else s
theorem cvStep_len (bs : List GCell) (s : List Int) (c : GCell) : (cvStep bs s c).length ≤ s.length + 1 := by
  unfold cvStep
  cases decide (firstAt (fun d => d.id == c.id) bs 0 ≥ 0) with
  | false => simp
  | true =>
    simp only [cond_true]
    split
    · rename_i d _
      cases (d.version != c.version) <;> simp
    · simp

theorem ints_ok {w : List Int} (h : (w.length : Int) ≤ 16777216) : OkIntS w ∧ cntIntS w ≤ 16777216 := by
  refine ⟨by unfold OkIntS; omega, ?_⟩
  have := sum_le (fun _ => 1) w 1 (fun _ _ => Nat.le_refl 1)
  unfold cntIntS; omega
theorem hist_mk {x y : GHistory} (h : y.pos = x.pos) : GHistory.mk y.notebook y.nodes x.pos = y := by rw [← h]
end Go.Proofs.Ytijhfajcbmpndaa
