/- Plain laws: expressions of the reference: sizes, validity, text; every function is total. Plain laws: the text of numbers and of expressions of the reference: total, and short. -/
import Derived.Test.YtjpmhfhcbehgcaaGreatLawsD
import Derived.Test.YtjpmhfhcbehgcaaGreatOps1
set_option linter.unusedSimpArgs false
set_option linter.unusedVariables false
namespace Go.Proofs.YtjpmhfhcbehgcaaGreat
open Go.Abs Go.Proofs

theorem cutAt_le {α : Type} (xs : List α) (i : Nat) (h : i ≤ xs.length) : cutAt xs (i : Int) = some i := by
  unfold cutAt
  rw [if_pos ⟨by omega, by omega⟩, Int.toNat_natCast]
theorem sizE_args {e : GExpr} : siz e.args < siz e := by
  cases e; simp only [siz]; rw [GExpr.mk.sizeOf_spec]; omega
theorem sizE_mem {x : GExpr} {xs : List GExpr} (h : x ∈ xs) : siz x + 1 ≤ siz xs := by
  have := List.sizeOf_lt_of_mem h
  simp only [siz]; omega
theorem sizE_arg {x e : GExpr} (h : x ∈ e.args) : siz x + 2 ≤ siz e := by
  have := sizE_mem h
  have := sizE_args (e := e)
  omega
theorem expr_of {l : List GExpr} (h : FitD B20 (.list (.base .expr) l)) {x : GExpr} (hx : x ∈ l) : FitD B20 (.list (.base .expr) x.args) ∧ (x.text.length : Int) ≤ 1048576 := by
  have := h.list_mem x hx
  rw [fit_expr] at this
  exact ⟨this.2.2.2, str20 this.2.2.1⟩
/-- a loop that counts over a list and may leave early; what it hands back -/
theorem list_ex {α X ρ σ : Type} {g : X → Option (X ⊕ ρ)} (pk : σ → Nat → X) (xs : List α) (I : Nat → σ → Prop) (R : ρ → Prop)
    (hs : ∀ i x s, xs[i]? = some x → I i s → (∃ s', g (pk s i) = some (.inl (pk s' (i + 1))) ∧ I (i + 1) s') ∨ ∃ r, g (pk s i) = some (.inr r) ∧ R r)
    (hf : ∀ s, I xs.length s → ∃ r, g (pk s xs.length) = some (.inr r) ∧ R r) (s : σ) (h0 : I 0 s) : ∃ r, loopD g (pk s 0) = some r ∧ R r := by
  have key : ∀ (k i : Nat) (s : σ), xs.length = i + k → I i s → ∃ r, loopD g (pk s i) = some r ∧ R r := by
    intro k
    induction k with
    | zero =>
      intro i s hi hI
      have : i = xs.length := by omega
      subst this
      obtain ⟨r, e, hR⟩ := hf s hI
      exact ⟨r, by rw [loopD_eq, e], hR⟩
    | succ k ih =>
      intro i s hi hI
      have hlt : i < xs.length := by omega
      rcases hs i _ s (List.getElem?_eq_getElem hlt) hI with ⟨s', e, hI'⟩ | ⟨r, e, hR⟩
      · obtain ⟨r, e', hR⟩ := ih (i + 1) s' (by omega) hI'
        exact ⟨r, by rw [loopD_eq, e]; exact e', hR⟩
      · exact ⟨r, by rw [loopD_eq, e], hR⟩
  exact key xs.length 0 s (by omega) h0
theorem expr_eta (x : GExpr) : GExpr.mk x.kind x.n x.text x.args = x := by cases x; rfl
theorem sum_take {α : Type} (f : α → Nat) {xs : List α} {i : Nat} {x : α} (h : xs[i]? = some x) : ((xs.take (i + 1)).map f).sum = ((xs.take i).map f).sum + f x := by
  obtain ⟨hi, rfl⟩ := List.getElem?_eq_some_iff.1 h
  rw [List.take_succ_eq_append_getElem hi, List.map_append, List.sum_append]; simp
theorem sL1Max_ok (a b : Int) : ∃ r, sL1Max a b = some r := by
  unfold sL1Max
  cases decide (a > b) <;> exact ⟨_, rfl⟩

/-! number of nodes -/
theorem sL10LeftG_ok : ∀ (n : Nat) (e : GExpr) (b : Int), siz e < n → FitD B20 (.list (.base .expr) e.args) → 0 ≤ b → b ≤ 1048576 →
    ∃ r, sL10LeftG n e b = some r ∧ -1 ≤ r ∧ r ≤ b - 1 ∧ (0 ≤ r → 3 * r + (cntExprE e : Int) ≤ 3 * b)
  | 0, e, b, h, _, _, _ => absurd h (Nat.not_lt_zero _)
  | n + 1, e, b, hn, hf, h0, h1 => by
    have ih := sL10LeftG_ok n
    have hl := lim20 (list20 hf)
    show ∃ r, sL10LeftB (sL10LeftG n) e b = some r ∧ _
    unfold sL10LeftB
    rw [w64_id (n := b - 1) (by omega) (by omega)]
    refine list_ex (fun (s : Int) (i : Nat) => ((s, e.kind, e.n, e.text, e.args, (i : Int)) : Int × Int × Int × Str × (List GExpr) × Int)) e.args
      (fun i s => -1 ≤ s ∧ s ≤ b - 1 ∧ (0 ≤ s → 3 * s + 3 + (((e.args.take i).map cntExprE).sum : Int) ≤ 3 * b)) _ (fun i x s hx hI => ?_) (fun s hI => ?_) (b - 1) ⟨by omega, by omega, fun _ => by simp; omega⟩
    · obtain ⟨i1, i2, i3⟩ := hI
      have hm := List.mem_of_getElem? hx
      by_cases hs : s ≥ 0
      · obtain ⟨r, e1, r1, r2, r3⟩ := ih x s (by have := sizE_arg hm; omega) (expr_of hf hm).1 hs (by omega)
        refine .inl ⟨r, ?_, r1, by omega, fun hr => ?_⟩
        · simp only [dec_lt hx, cond_true, decide_eq_true hs, idx_nat, hx, Option.bind_some, reExpr_eq, e1, w_succ hx hl]
        · have := i3 hs
          have := r3 hr
          rw [sum_take cntExprE hx]
          omega
      · refine .inr ⟨s, ?_, i1, i2, fun h => absurd h hs⟩
        simp only [dec_lt hx, cond_true, decide_eq_false hs, cond_false]
    · obtain ⟨i1, i2, i3⟩ := hI
      refine ⟨s, by simp only [nlt_self, cond_false], i1, i2, fun h => ?_⟩
      have := i3 h
      rw [List.take_length] at this
      rw [cntExprE_eq, cntExprS_eq]
      omega
theorem sL10Left_ok (e : GExpr) (b : Int) (hf : FitD B20 (.list (.base .expr) e.args)) (h0 : 0 ≤ b) (h1 : b ≤ 1048576) :
    ∃ r, sL10Left e b = some r ∧ -1 ≤ r ∧ r ≤ b - 1 ∧ (0 ≤ r → 3 * r + (cntExprE e : Int) ≤ 3 * b) := sL10LeftG_ok _ e b (Nat.lt_succ_self _) hf h0 h1
theorem sNestingOfG_ok : ∀ (n : Nat) (e : GExpr), siz e < n → FitD B20 (.list (.base .expr) e.args) → ∃ r, sNestingOfG n e = some r ∧ True
  | 0, e, h, _ => absurd h (Nat.not_lt_zero _)
  | n + 1, e, hn, hf => by
    have ih := sNestingOfG_ok n
    have hl := lim20 (list20 hf)
    show ∃ r, sNestingOfB (sNestingOfG n) e = some r ∧ _
    unfold sNestingOfB
    refine list_ex (fun (s : Int) (i : Nat) => ((e.kind, e.n, e.text, e.args, s, (i : Int)) : Int × Int × Str × (List GExpr) × Int × Int)) e.args (fun _ _ => True) _ (fun i x s hx hI => ?_) (fun s hI => ?_) 0 trivial
    · have hm := List.mem_of_getElem? hx
      obtain ⟨r, e1, _⟩ := ih x (by have := sizE_arg hm; omega) (expr_of hf hm).1
      obtain ⟨m, e2⟩ := sL1Max_ok s r
      refine .inl ⟨m, ?_, trivial⟩
      simp only [dec_lt hx, cond_true, idx_nat, hx, Option.bind_some, reExpr_eq, e1, e2, w_succ hx hl]
    · exact ⟨_, by simp only [nlt_self, cond_false]; rfl, trivial⟩
theorem sNestingOf_ok (e : GExpr) (hf : FitD B20 (.list (.base .expr) e.args)) : ∃ r, sNestingOf e = some r := by
  obtain ⟨r, h, _⟩ := sNestingOfG_ok _ e (Nat.lt_succ_self _) hf
  exact ⟨r, h⟩

/-! validity -/
theorem sIsValidText_ok (a : Str) (h : a.length < lim) : ∃ v, sIsValidText a = some v ∧ (v = true → a.length ≤ 20) := by
  unfold sIsValidText
  refine list_ex (fun (_ : Unit) (i : Nat) => ((a, (i : Int)) : Str × Int)) a (fun _ _ => True) _ (fun i x s hx hI => ?_) (fun s hI => ?_) () trivial
  · simp only [dec_lt hx, cond_true, idx_nat, hx, Option.bind_some, w_succ hx h]
    cases decide ((x.toNat : Int) < 32) with
    | true => exact .inr ⟨false, rfl, fun h => (by cases h)⟩
    | false =>
      cases decide ((x.toNat : Int) > 126) with
      | true => exact .inr ⟨false, rfl, fun h => (by cases h)⟩
      | false =>
        cases ((x.toNat : Int) == 34) with
        | true => exact .inr ⟨false, rfl, fun h => (by cases h)⟩
        | false => exact .inl ⟨(), rfl, trivial⟩
  · refine ⟨_, by simp only [nlt_self, cond_false]; rfl, fun h => ?_⟩
    simp at h; omega
theorem sIsReserved_ok (a : Str) : ∃ v, sIsReserved a = some v := by
  unfold sIsReserved sL2Reserved
  rw [Option.bind_some, sL1Has_ok _ _ (by decide)]
  exact ⟨_, rfl⟩
theorem sValidName_ok (a : Str) (h : a.length < lim) : ∃ v, sIsValidName a = some v ∧ (v = true → a.length ≤ 8 ∧ 1 ≤ a.length) := by
  obtain ⟨b, hb⟩ := sIsReserved_ok a
  unfold sIsValidName
  rw [sL2Shape_ok a h, hb]
  cases allAt okc a 0 with
  | false => exact ⟨false, rfl, fun h => (by cases h)⟩
  | true =>
    by_cases h0 : (a.length : Int) > 0
    · by_cases h8 : (a.length : Int) ≤ 8
      · rw [decide_eq_true h0, decide_eq_true h8]
        cases b with
        | true => exact ⟨false, rfl, fun h => (by cases h)⟩
        | false => exact ⟨true, rfl, fun _ => ⟨by omega, by omega⟩⟩
      · rw [decide_eq_true h0, decide_eq_false h8]
        exact ⟨false, rfl, fun h => (by cases h)⟩
    · rw [decide_eq_false h0]
      exact ⟨false, rfl, fun h => (by cases h)⟩
theorem sArgumentCount_ok (a : Str) : ∃ r, sArgumentCount a = some r ∧ r ≤ 4 ∧ (0 ≤ r → a.length ≤ 6) := by
  unfold sArgumentCount
  have go : ∀ (w : Str) (k : Int) (z : Option Int), w.length ≤ 6 → k ≤ 4 → (∃ r, z = some r ∧ r ≤ 4 ∧ (0 ≤ r → a.length ≤ 6)) → ∃ r, (bif (a == w) then some k else z) = some r ∧ r ≤ 4 ∧ (0 ≤ r → a.length ≤ 6) := by
    intro w k z hw hk hz
    cases h : (a == w) with
    | true =>
      have e := eq_of_beq h
      exact ⟨k, rfl, hk, fun _ => by rw [e]; exact hw⟩
    | false => exact hz
  repeat refine go _ _ _ (by decide) (by decide) ?_
  exact ⟨-1, rfl, by decide, fun h => by omega⟩
/-- what a valid node is -/
structure NodeP (e : GExpr) : Prop where
  k0 : 1 ≤ e.kind
  k9 : e.kind ≤ 9
  num : e.kind = 1 → 0 ≤ e.n ∧ e.n ≤ 1000000000
  text : e.text.length ≤ 20
  call : e.kind = 5 → e.args.length ≤ 4
  list : e.kind = 4 → e.args.length ≤ 8
  op : e.kind = 6 → e.args.length = 2 ∧ 1 ≤ e.n ∧ e.n ≤ 5
  two : e.kind = 7 ∨ e.kind = 9 → e.args.length = 2
  three : e.kind = 8 → e.args.length = 3
inductive ValidE : GExpr → Prop
  | mk (e : GExpr) (h : NodeP e) (hs : ∀ x, x ∈ e.args → ValidE x) : ValidE e
theorem sL1In_ex (a b c : Int) : ∃ v, sL1In a b c = some v ∧ (v = true → b ≤ a ∧ a ≤ c) := ⟨_, sL1In_ok a b c, fun h => by simpa using h⟩
theorem sL10Node_ok (e : GExpr) (ht : e.text.length < lim) (hl : (e.args.length : Int) ≤ 1048576) : ∃ v, sL10Node e = some v ∧ (v = true → NodeP e) := by
  obtain ⟨v1, e1, h1⟩ := sL1In_ex e.n 0 1000000000
  obtain ⟨v2, e2, h2⟩ := sIsValidText_ok e.text ht
  obtain ⟨v3, e3, h3⟩ := sValidName_ok e.text ht
  obtain ⟨v4, e4, h4, h4'⟩ := sArgumentCount_ok e.text
  obtain ⟨v5, e5, h5⟩ := sL1In_ex e.n 1 5
  have no : ∃ v, (some false : Option Bool) = some v ∧ (v = true → NodeP e) := ⟨false, rfl, fun h => (by cases h)⟩
  have bb : ∀ (c : Bool) (z : Option Bool), (c = true → ∃ v, z = some v ∧ (v = true → NodeP e)) → ∃ v, (bif c then z else some false) = some v ∧ (v = true → NodeP e) := by
    intro c z hz
    cases c with
    | true => exact hz rfl
    | false => exact no
  have kk : ∀ (k : Int) (z z' : Option Bool), (e.kind = k → ∃ v, z = some v ∧ (v = true → NodeP e)) → (¬ e.kind = k → ∃ v, z' = some v ∧ (v = true → NodeP e)) → ∃ v, (bif (e.kind == k) then z else z') = some v ∧ (v = true → NodeP e) := by
    intro k z z' hz hz'
    cases h : (e.kind == k) with
    | true => exact hz (eq_of_beq h)
    | false => exact hz' (by simpa using h)
  unfold sL10Node
  simp only [e1, e2, e3, e4, e5, Option.bind_some]
  refine kk 1 _ _ (fun hk => bb _ _ fun a1 => bb _ _ fun a2 => ⟨_, rfl, fun hv => ?_⟩) fun n1 => ?_
  · have := h1 hv
    have a2 := eq_of_beq a2
    exact ⟨by omega, by omega, fun _ => this, by rw [a2]; simp, fun h => by omega, fun h => by omega, fun h => by omega, fun h => by omega, fun h => by omega⟩
  refine kk 2 _ _ (fun hk => bb _ _ fun a1 => bb _ _ fun a2 => ⟨_, rfl, fun hv => ?_⟩) fun n2 => ?_
  · exact ⟨by omega, by omega, fun h => by omega, h2 hv, fun h => by omega, fun h => by omega, fun h => by omega, fun h => by omega, fun h => by omega⟩
  refine kk 3 _ _ (fun hk => bb _ _ fun a1 => bb _ _ fun a2 => ⟨_, rfl, fun hv => ?_⟩) fun n3 => ?_
  · have := h3 hv
    exact ⟨by omega, by omega, fun h => by omega, by omega, fun h => by omega, fun h => by omega, fun h => by omega, fun h => by omega, fun h => by omega⟩
  refine kk 4 _ _ (fun hk => bb _ _ fun a1 => bb _ _ fun a2 => ⟨_, rfl, fun hv => ?_⟩) fun n4 => ?_
  · have a2 := eq_of_beq a2
    have hv := of_decide_eq_true hv
    exact ⟨by omega, by omega, fun h => by omega, by rw [a2]; simp, fun h => by omega, fun h => by omega, fun h => by omega, fun h => by omega, fun h => by omega⟩
  refine kk 5 _ _ (fun hk => bb _ _ fun a1 => ⟨_, rfl, fun hv => ?_⟩) fun n5 => ?_
  · have hv := eq_of_beq hv
    have := h4' (by omega)
    exact ⟨by omega, by omega, fun h => by omega, by omega, fun h => by omega, fun h => by omega, fun h => by omega, fun h => by omega, fun h => by omega⟩
  refine kk 6 _ _ (fun hk => bb _ _ fun a1 => bb _ _ fun a2 => ⟨_, rfl, fun hv => ?_⟩) fun n6 => ?_
  · have a1 := eq_of_beq a1
    have a2 := eq_of_beq a2
    have := h5 hv
    exact ⟨by omega, by omega, fun h => by omega, by rw [a1]; simp, fun h => by omega, fun h => by omega, fun _ => ⟨by omega, this⟩, fun h => by omega, fun h => by omega⟩
  refine kk 7 _ _ (fun hk => bb _ _ fun a1 => bb _ _ fun a2 => ⟨_, rfl, fun hv => ?_⟩) fun n7 => ?_
  · have a2 := eq_of_beq a2
    have := h3 hv
    exact ⟨by omega, by omega, fun h => by omega, by omega, fun h => by omega, fun h => by omega, fun h => by omega, fun _ => by omega, fun h => by omega⟩
  refine kk 9 _ _ (fun hk => bb _ _ fun a1 => bb _ _ fun a2 => ⟨_, rfl, fun hv => ?_⟩) fun n9 => ?_
  · have a2 := eq_of_beq a2
    have := h3 hv
    exact ⟨by omega, by omega, fun h => by omega, by omega, fun h => by omega, fun h => by omega, fun h => by omega, fun _ => by omega, fun h => by omega⟩
  refine kk 8 _ _ (fun hk => bb _ _ fun a1 => bb _ _ fun a2 => ⟨_, rfl, fun hv => ?_⟩) fun n8 => no
  · have a2 := eq_of_beq a2
    have hv := eq_of_beq hv
    exact ⟨by omega, by omega, fun h => by omega, by rw [a2]; simp, fun h => by omega, fun h => by omega, fun h => by omega, fun h => by omega, fun _ => by omega⟩
theorem sL10AllG_ok : ∀ (n : Nat) (e : GExpr), siz e < n → Fit B20 (.base .expr) e → ∃ v, sL10AllG n e = some v ∧ (v = true → ValidE e)
  | 0, e, h, _ => absurd h (Nat.not_lt_zero _)
  | n + 1, e, hn, hf => by
    have ih := sL10AllG_ok n
    have hf' := hf
    rw [fit_expr] at hf'
    have hl := lim20 (list20 hf'.2.2.2)
    show ∃ v, sL10AllB (sL10AllG n) e = some v ∧ _
    unfold sL10AllB
    refine list_ex (fun (_ : Unit) (i : Nat) => ((e.kind, e.n, e.text, e.args, (i : Int)) : Int × Int × Str × (List GExpr) × Int)) e.args (fun i _ => ∀ j x, e.args[j]? = some x → j < i → ValidE x) _ (fun i x s hx hI => ?_) (fun s hI => ?_) () (fun j x _ hj => absurd hj (Nat.not_lt_zero _))
    · have hm := List.mem_of_getElem? hx
      obtain ⟨v, e1, h1⟩ := ih x (by have := sizE_arg hm; omega) (hf'.2.2.2.list_mem x hm)
      simp only [dec_lt hx, cond_true, idx_nat, hx, Option.bind_some, reExpr_eq, e1, w_succ hx hl]
      cases v with
      | false => exact .inr ⟨false, rfl, fun h => (by cases h)⟩
      | true =>
        refine .inl ⟨(), rfl, fun j y hy hj => ?_⟩
        by_cases hji : j = i
        · subst hji
          rw [hx] at hy
          cases hy
          exact h1 rfl
        · exact hI j y hy (by omega)
    · obtain ⟨v, e1, h1⟩ := sL10Node_ok e (lim20 (str20 hf'.2.2.1)) (list20 hf'.2.2.2)
      refine ⟨v, by simp only [nlt_self, cond_false, expr_eta, e1, Option.bind_some], fun hv => .mk e (h1 hv) fun x hx => ?_⟩
      obtain ⟨j, hj⟩ := List.mem_iff_getElem?.1 hx
      exact hI j x hj (List.getElem?_eq_some_iff.1 hj).1
theorem sL10All_ok (e : GExpr) (hf : Fit B20 (.base .expr) e) : ∃ v, sL10All e = some v ∧ (v = true → ValidE e) := sL10AllG_ok _ e (Nat.lt_succ_self _) hf
theorem sIsValidExpr_ok (e : GExpr) (hf : Fit B20 (.base .expr) e) : ∃ v, sIsValidExpr e = some v ∧ (v = true → ValidE e ∧ cntExprE e ≤ 120) := by
  have hf' := hf
  rw [fit_expr] at hf'
  obtain ⟨r1, e1, h1, h2, h3⟩ := sL10Left_ok e 40 hf'.2.2.2 (by omega) (by omega)
  obtain ⟨r2, e2⟩ := sNestingOf_ok e hf'.2.2.2
  obtain ⟨v, e3, h4⟩ := sL10All_ok e hf
  unfold sIsValidExpr
  simp only [reExpr_eq, e1, e2, e3, Option.bind_some]
  by_cases hr : r1 ≥ 0
  · rw [decide_eq_true hr, cond_true]
    cases decide (r2 ≤ 8) with
    | true => exact ⟨v, rfl, fun hv => ⟨h4 hv, by have := h3 hr; omega⟩⟩
    | false => exact ⟨false, rfl, fun h => (by cases h)⟩
  · rw [decide_eq_false hr]
    exact ⟨false, rfl, fun h => (by cases h)⟩

theorem sFormatInt_ok (a : Int) (h0 : 0 ≤ a) (h1 : a < 9223372036854775808) : ∃ s, sFormatInt a = some s ∧ s.length ≤ 19 ∧ 1 ≤ s.length := by
  unfold sFormatInt
  by_cases hz : a = 0
  · subst hz
    exact ⟨_, rfl, by simp, by simp⟩
  have e0 : (a == 0) = false := by simpa using hz
  have en : decide (a < 0) = false := by simp; omega
  rw [e0, cond_false, en]
  have key : ∀ (n : Nat) (k : Int) (s : Str), 0 ≤ k → k < 9223372036854775808 → k < 10 ^ n → s.length + n ≤ 19 → (k = 0 → 1 ≤ s.length) → ∃ t, loopD (fun (x1 : Int × Bool × Str) =>
    bif (x1.1 != 0) then
      bif (decide ((x1.1.tmod 10) < 0)) then
        (gd ((bytesOf [w8 (w64 (48 + (w64 (0 - (x1.1.tmod 10)))))]).length + x1.2.2.length)).bind fun _ =>
        some (.inl (w64 (x1.1.tdiv 10), x1.2.1, (bytesOf [w8 (w64 (48 + (w64 (0 - (x1.1.tmod 10)))))]) ++ x1.2.2))
      else
        (gd ((bytesOf [w8 (w64 (48 + (x1.1.tmod 10)))]).length + x1.2.2.length)).bind fun _ =>
        some (.inl (w64 (x1.1.tdiv 10), x1.2.1, (bytesOf [w8 (w64 (48 + (x1.1.tmod 10)))]) ++ x1.2.2))
    else
      (
        bif x1.2.1 then
          (gd ([45].length + x1.2.2.length)).bind fun _ =>
          some ([45] ++ x1.2.2)
        else
          some (x1.2.2)
      ).bind fun r => some (.inr r)) (k, false, s) = some t ∧ t.length ≤ 19 ∧ 1 ≤ t.length := by
    intro n
    induction n with
    | zero =>
      intro k s hk0 _ hk hs h1
      have hk' : k = 0 := by simp at hk; omega
      subst hk'
      rw [loopD_eq]
      exact ⟨s, rfl, by omega, h1 rfl⟩
    | succ n ih =>
      intro k s hk0 hk1 hk hs hpos
      rw [loopD_eq]
      by_cases hz : k = 0
      · subst hz
        exact ⟨s, rfl, by omega, hpos rfl⟩
      · have e1 : (k != 0) = true := by simpa using hz
        have e2 : decide (k.tmod 10 < 0) = false := by
          have := Int.tmod_nonneg 10 hk0
          simp; omega
        have hg : gd ((bytesOf [w8 (w64 (48 + (k.tmod 10)))]).length + s.length) = some () := gd_ok (by simp [bytesOf]; omega)
        have hd : k.tdiv 10 = k / 10 := by rw [Int.tdiv_eq_ediv_of_nonneg hk0]
        have hw : w64 (k.tdiv 10) = k / 10 := by rw [hd]; exact w64_id (by omega) (by omega)
        simp only [e1, e2, cond_true, cond_false, hg, Option.bind_some, hw]
        refine ih (k / 10) _ (by omega) (by omega) ?_ (by simp [bytesOf]; omega) (fun _ => by simp [bytesOf])
        have : (10 : Int) ^ (n + 1) = 10 ^ n * 10 := Int.pow_succ 10 n
        rw [this] at hk
        generalize (10 : Int) ^ n = p at hk ⊢
        omega
  exact key 19 a [] h0 h1 (by rw [show (10 : Int) ^ 19 = 10000000000000000000 from rfl]; omega) (by simp) (fun h => absurd h hz)
theorem octs_len (s : Str) : (octs s).length = s.length := by unfold octs; rw [List.length_map]
theorem bytesOf_len (xs : List Int) : (bytesOf xs).length = xs.length := by unfold bytesOf; rw [List.length_map]
/-- the length of joined texts -/
def lens (xs : List Str) : Nat := (xs.map List.length).sum
theorem lens_snoc (xs : List Str) (x : Str) : lens (xs ++ [x]) = lens xs + x.length := by simp [lens]
theorem sJoin_ok (xs : List Str) (b : Str) (hl : xs.length < lim) (hb : lens xs + xs.length * b.length ≤ 1000000) : ∃ s, sJoin xs b = some s ∧ s.length ≤ lens xs + xs.length * b.length := by
  unfold sJoin
  refine list_ex (fun (s : List Int) (i : Nat) => ((xs, b, s, (i : Int)) : (List Str) × Str × (List Int) × Int)) xs (fun i s => s.length ≤ lens (xs.take i) + i * b.length) _ (fun i x s hx hI => .inl ?_) (fun s hI => ?_) [] (by simp)
  · have hi := (List.getElem?_eq_some_iff.1 hx).1
    have ht : lens (xs.take (i + 1)) = lens (xs.take i) + x.length := sum_take List.length hx
    have hle : lens (xs.take (i + 1)) ≤ lens xs := sub_sum _ (List.take_sublist _ _)
    have hm : (i + 1) * b.length ≤ xs.length * b.length := Nat.mul_le_mul_right _ hi
    have hm' : (i + 1) * b.length = i * b.length + b.length := Nat.succ_mul _ _
    have hg0 : gd (s.length + (octs b).length) = some () := gd_ok (by rw [octs_len]; omega)
    have hg1 : gd ((s ++ octs b).length + (octs x).length) = some () := gd_ok (by rw [List.length_append, octs_len, octs_len]; omega)
    have hg2 : gd (s.length + (octs x).length) = some () := gd_ok (by rw [octs_len]; omega)
    simp only [dec_lt hx, cond_true, idx_nat, hx, Option.bind_some, hg0, hg1, hg2, w_succ hx hl]
    cases decide ((i : Int) > 0) with
    | true => exact ⟨_, rfl, by rw [List.length_append, List.length_append, octs_len, octs_len]; omega⟩
    | false => exact ⟨_, rfl, by rw [List.length_append, octs_len]; omega⟩
  · rw [List.take_length] at hI
    exact ⟨_, by simp only [nlt_self, cond_false]; rfl, by rw [bytesOf_len]; exact hI⟩
theorem sLevelOf_ok (e : GExpr) : ∃ r, sLevelOf e = some r ∧ 0 ≤ r ∧ r ≤ 4 := by
  have go : ∀ (c : Bool) (x y : Option Int), (∃ r, x = some r ∧ 0 ≤ r ∧ r ≤ 4) → (∃ r, y = some r ∧ 0 ≤ r ∧ r ≤ 4) → ∃ r, (bif c then x else y) = some r ∧ 0 ≤ r ∧ r ≤ 4 := by
    intro c x y hx hy
    cases c with
    | true => exact hx
    | false => exact hy
  have v : ∀ k : Int, 0 ≤ k → k ≤ 4 → ∃ r, (some k : Option Int) = some r ∧ 0 ≤ r ∧ r ≤ 4 := fun k h h' => ⟨k, rfl, h, h'⟩
  have z0 := v 0 (by decide) (by decide)
  have z1 := v 1 (by decide) (by decide)
  have z2 := v 2 (by decide) (by decide)
  have z3 := v 3 (by decide) (by decide)
  have z4 := v 4 (by decide) (by decide)
  unfold sLevelOf
  exact go _ _ _ z0 (go _ _ _ z0 (go _ _ _ z0 (go _ _ _ (go _ _ _ z1 (go _ _ _ z1 (go _ _ _ z2 (go _ _ _ z2 (go _ _ _ z3 z4))))) z4)))
theorem sOpSymbol_ok (n : Int) (h0 : 1 ≤ n) (h1 : n ≤ 5) : ∃ s, sOpSymbol n = some s ∧ s.length ≤ 2 := by
  unfold sOpSymbol
  have : n = 1 ∨ n = 2 ∨ n = 3 ∨ n = 4 ∨ n = 5 := by omega
  rw [sL1In_ok, decide_eq_true h0, decide_eq_true h1]
  rcases this with rfl | rfl | rfl | rfl | rfl <;> exact ⟨_, rfl, by decide⟩
theorem idx_get {α : Type} {xs : List α} {n : Nat} (h : n < xs.length) : ∃ x, idx xs ((n : Nat) : Int) = some x ∧ x ∈ xs ∧ xs[n]? = some x := by
  refine ⟨xs[n], ?_, List.getElem_mem h, List.getElem?_eq_getElem h⟩
  rw [idx_nat]; exact List.getElem?_eq_getElem h
/-- a text short enough for an expression -/
def TxtOk (x : Option Str) (n : Nat) : Prop := ∃ s, x = some s ∧ s.length ≤ n
theorem two_args {e : GExpr} (h : e.args.length = 2) : ∃ a b, e.args = [a, b] := by
  cases h1 : e.args with
  | nil => rw [h1] at h; cases h
  | cons a r => cases r with
    | nil => rw [h1] at h; cases h
    | cons b r => cases r with
      | nil => exact ⟨a, b, rfl⟩
      | cons c r => rw [h1] at h; simp at h
theorem three_args {e : GExpr} (h : e.args.length = 3) : ∃ a b c, e.args = [a, b, c] := by
  cases h1 : e.args with
  | nil => rw [h1] at h; cases h
  | cons a r => cases r with
    | nil => rw [h1] at h; cases h
    | cons b r => cases r with
      | nil => rw [h1] at h; cases h
      | cons c r => cases r with
        | nil => exact ⟨a, b, c, rfl⟩
        | cons d r => rw [h1] at h; simp at h
theorem mem_sum {α : Type} (f : α → Nat) {xs : List α} {x : α} (h : x ∈ xs) : f x ≤ (xs.map f).sum := by
  induction xs with
  | nil => cases h
  | cons y ys ih =>
    simp only [List.map_cons, List.sum_cons]
    rcases List.mem_cons.1 h with rfl | h
    · omega
    · have := ih h; omega
theorem cntE_pos (e : GExpr) : 3 ≤ cntExprE e := by rw [cntExprE_eq]; omega
theorem sL12TextG_ok : ∀ (n : Nat),
    (∀ e : GExpr, siz e < n → ValidE e → cntExprE e ≤ 120 → ∃ s, (sL12TextG n).1 e = some s ∧ s.length + 4 ≤ 22 * cntExprE e) ∧
    (∀ xs : List GExpr, siz xs < n → (∀ x, x ∈ xs → ValidE x) → cntExprS xs ≤ 120 → ∃ s, (sL12TextG n).2.1 xs = some s ∧ s.length ≤ 22 * cntExprS xs) ∧
    (∀ (e : GExpr) (b : Int), siz e + 1 < n → ValidE e → cntExprE e ≤ 120 → ∃ s, (sL12TextG n).2.2 e b = some s ∧ s.length + 2 ≤ 22 * cntExprE e)
  | 0 => ⟨fun _ h => absurd h (Nat.not_lt_zero _), fun _ h => absurd h (Nat.not_lt_zero _), fun _ _ h => absurd h (Nat.not_lt_zero _)⟩
  | n + 1 => by
    obtain ⟨ihT, ihL, ihA⟩ := sL12TextG_ok n
    refine ⟨fun e hn hv hc => ?_, fun xs hn hv hc => ?_, fun e b hn hv hc => ?_⟩
    · show ∃ s, sL12TextB (sL12TextG n).1 (sL12TextG n).2.1 (sL12TextG n).2.2 e = some s ∧ _
      cases hv with
      | mk _ hp hs =>
      have hce := cntExprE_eq e
      have ht := hp.text
      have hargs := sizE_args (e := e)
      unfold sL12TextB
      cases k1 : (e.kind == 1) with
      | true =>
        have := hp.num (eq_of_beq k1)
        obtain ⟨s, e1, l1, _⟩ := sFormatInt_ok e.n (by omega) (by omega)
        exact ⟨s, by simp only [cond_true, e1, Option.bind_some], by omega⟩
      | false =>
      cases k2 : (e.kind == 2) with
      | true =>
        simp only [cond_true, cond_false]
        rw [gd_ok (by simp; omega), Option.bind_some, gd_ok (by simp; omega), Option.bind_some]
        exact ⟨_, rfl, by simp; omega⟩
      | false =>
      cases k3 : (e.kind == 3) with
      | true => exact ⟨e.text, rfl, by omega⟩
      | false =>
      cases k4 : (e.kind == 4) with
      | true =>
        obtain ⟨s, e1, l1⟩ := ihL e.args (by omega) hs (by omega)
        simp only [cond_true, cond_false, e1, Option.bind_some]
        rw [gd_ok (by simp; omega), Option.bind_some, gd_ok (by simp; omega), Option.bind_some]
        exact ⟨_, rfl, by simp; omega⟩
      | false =>
      cases k5 : (e.kind == 5) with
      | true =>
        obtain ⟨s, e1, l1⟩ := ihL e.args (by omega) hs (by omega)
        simp only [cond_true, cond_false, e1, Option.bind_some]
        rw [gd_ok (by simp; omega), Option.bind_some, gd_ok (by simp; omega), Option.bind_some, gd_ok (by simp; omega), Option.bind_some]
        exact ⟨_, rfl, by simp; omega⟩
      | false =>
      cases k7 : (e.kind == 7) with
      | true =>
        obtain ⟨a, b, hab⟩ := two_args (hp.two (.inl (eq_of_beq k7)))
        have hcs : cntExprS e.args = cntExprE a + cntExprE b := by rw [hab, cntExprS_eq]; simp
        obtain ⟨s, e1, l1⟩ := ihT a (by have := sizE_arg (x := a) (e := e) (by rw [hab]; simp); omega) (hs a (by rw [hab]; simp)) (by omega)
        obtain ⟨t, e2, l2⟩ := ihT b (by have := sizE_arg (x := b) (e := e) (by rw [hab]; simp); omega) (hs b (by rw [hab]; simp)) (by omega)
        have i0 : idx e.args 0 = some a := by rw [hab]; rfl
        have i1 : idx e.args 1 = some b := by rw [hab]; rfl
        simp only [cond_true, cond_false, i0, i1, reExpr_eq, e1, e2, Option.bind_some]
        rw [gd_ok (by simp; omega), Option.bind_some, gd_ok (by simp; omega), Option.bind_some, gd_ok (by simp; omega), Option.bind_some, gd_ok (by simp; omega), Option.bind_some, gd_ok (by simp; omega), Option.bind_some]
        exact ⟨_, rfl, by simp; omega⟩
      | false =>
      cases k9 : (e.kind == 9) with
      | true =>
        obtain ⟨a, b, hab⟩ := two_args (hp.two (.inr (eq_of_beq k9)))
        have hcs : cntExprS e.args = cntExprE a + cntExprE b := by rw [hab, cntExprS_eq]; simp
        obtain ⟨s, e1, l1⟩ := ihT a (by have := sizE_arg (x := a) (e := e) (by rw [hab]; simp); omega) (hs a (by rw [hab]; simp)) (by omega)
        obtain ⟨t, e2, l2⟩ := ihT b (by have := sizE_arg (x := b) (e := e) (by rw [hab]; simp); omega) (hs b (by rw [hab]; simp)) (by omega)
        have i0 : idx e.args 0 = some a := by rw [hab]; rfl
        have i1 : idx e.args 1 = some b := by rw [hab]; rfl
        simp only [cond_true, cond_false, i0, i1, reExpr_eq, e1, e2, Option.bind_some]
        rw [gd_ok (by simp; omega), Option.bind_some, gd_ok (by simp; omega), Option.bind_some, gd_ok (by simp; omega), Option.bind_some, gd_ok (by simp; omega), Option.bind_some, gd_ok (by simp; omega), Option.bind_some]
        exact ⟨_, rfl, by simp; omega⟩
      | false =>
      cases k8 : (e.kind == 8) with
      | true =>
        obtain ⟨a, b, c, hab⟩ := three_args (hp.three (eq_of_beq k8))
        have hcs : cntExprS e.args = cntExprE a + (cntExprE b + cntExprE c) := by rw [hab, cntExprS_eq]; simp
        obtain ⟨s, e1, l1⟩ := ihT a (by have := sizE_arg (x := a) (e := e) (by rw [hab]; simp); omega) (hs a (by rw [hab]; simp)) (by omega)
        obtain ⟨t, e2, l2⟩ := ihT b (by have := sizE_arg (x := b) (e := e) (by rw [hab]; simp); omega) (hs b (by rw [hab]; simp)) (by omega)
        obtain ⟨u, e3, l3⟩ := ihT c (by have := sizE_arg (x := c) (e := e) (by rw [hab]; simp); omega) (hs c (by rw [hab]; simp)) (by omega)
        have i0 : idx e.args 0 = some a := by rw [hab]; rfl
        have i1 : idx e.args 1 = some b := by rw [hab]; rfl
        have i2 : idx e.args 2 = some c := by rw [hab]; rfl
        simp only [cond_true, cond_false, i0, i1, i2, reExpr_eq, e1, e2, e3, Option.bind_some]
        rw [gd_ok (by simp; omega), Option.bind_some, gd_ok (by simp; omega), Option.bind_some, gd_ok (by simp; omega), Option.bind_some, gd_ok (by simp; omega), Option.bind_some, gd_ok (by simp; omega), Option.bind_some]
        exact ⟨_, rfl, by simp; omega⟩
      | false =>
        have hk : e.kind = 6 := by
          have q0 := hp.k0
          have q9 := hp.k9
          have n1 : ¬ e.kind = 1 := by simpa using k1
          have n2 : ¬ e.kind = 2 := by simpa using k2
          have n3 : ¬ e.kind = 3 := by simpa using k3
          have n4 : ¬ e.kind = 4 := by simpa using k4
          have n5 : ¬ e.kind = 5 := by simpa using k5
          have n7 : ¬ e.kind = 7 := by simpa using k7
          have n8 : ¬ e.kind = 8 := by simpa using k8
          have n9 : ¬ e.kind = 9 := by simpa using k9
          omega
        obtain ⟨ha, hn1, hn5⟩ := hp.op hk
        obtain ⟨a, b, hab⟩ := two_args ha
        have hcs : cntExprS e.args = cntExprE a + cntExprE b := by rw [hab, cntExprS_eq]; simp
        have za := sizE_arg (x := a) (e := e) (by rw [hab]; simp)
        have zb := sizE_arg (x := b) (e := e) (by rw [hab]; simp)
        obtain ⟨r, e0, r0, r4⟩ := sLevelOf_ok e
        obtain ⟨s, e1, l1⟩ := ihA a 2 (by omega) (hs a (by rw [hab]; simp)) (by omega)
        obtain ⟨s', e1', l1'⟩ := ihA a r (by omega) (hs a (by rw [hab]; simp)) (by omega)
        obtain ⟨t, e2, l2⟩ := ihA b (w64 (r + 1)) (by omega) (hs b (by rw [hab]; simp)) (by omega)
        obtain ⟨o, e3, l3⟩ := sOpSymbol_ok e.n hn1 hn5
        have i0 : idx e.args 0 = some a := by rw [hab]; rfl
        have i1 : idx e.args 1 = some b := by rw [hab]; rfl
        simp only [cond_false, i0, i1, reExpr_eq, e0, e1, e1', e2, e3, Option.bind_some]
        cases (r == 1) with
        | true =>
          simp only [cond_true]
          rw [gd_ok (by simp; omega), Option.bind_some, gd_ok (by simp; omega), Option.bind_some, gd_ok (by simp; omega), Option.bind_some, gd_ok (by simp; omega), Option.bind_some]
          exact ⟨_, rfl, by simp; omega⟩
        | false =>
          simp only [cond_false]
          rw [gd_ok (by simp; omega), Option.bind_some, gd_ok (by simp; omega), Option.bind_some, gd_ok (by simp; omega), Option.bind_some, gd_ok (by simp; omega), Option.bind_some]
          exact ⟨_, rfl, by simp; omega⟩
    · show ∃ s, sL12ListB (sL12TextG n).1 (sL12TextG n).2.1 (sL12TextG n).2.2 xs = some s ∧ _
      unfold sL12ListB
      have hxl : 3 * xs.length ≤ cntExprS xs := by
        rw [cntExprS_eq]
        clear hn hv hc ihT ihL ihA
        induction xs with
        | nil => simp
        | cons x xs ih => have := cntE_pos x; simp only [List.map_cons, List.sum_cons, List.length_cons]; omega
      have hl : xs.length < lim := by show xs.length < 4611686018427387904; omega
      refine list_ex (fun (s : List Str) (i : Nat) => ((xs, s, (i : Int)) : (List GExpr) × (List Str) × Int)) xs (fun i s => s.length = i ∧ lens s + 4 * i ≤ 22 * ((xs.take i).map cntExprE).sum) _ (fun i x s hx hI => .inl ?_) (fun s hI => ?_) [] ⟨rfl, by simp [lens]⟩
      · have hi := (List.getElem?_eq_some_iff.1 hx).1
        have hm := List.mem_of_getElem? hx
        have hle : cntExprE x ≤ cntExprS xs := by
          rw [cntExprS_eq]
          exact mem_sum cntExprE hm
        obtain ⟨t, e1, l1⟩ := ihT x (by have := sizE_mem hm; omega) (hv x hm) (by omega)
        refine ⟨s ++ [t], ?_, by simp [hI.1], ?_⟩
        · simp only [dec_lt hx, cond_true, idx_nat, hx, Option.bind_some, reExpr_eq, e1, gd_ok (show s.length + ([t] : List Str).length ≤ 34359738368 by simp; omega), w_succ hx hl]
        · have := hI.2
          rw [lens_snoc, sum_take cntExprE hx]
          omega
      · have h2 := hI.2
        rw [List.take_length, ← cntExprS_eq] at h2
        obtain ⟨t, e1, l1⟩ := sJoin_ok s [44, 32] (by rw [hI.1]; exact hl) (by simp only [List.length_cons, List.length_nil]; rw [hI.1]; omega)
        refine ⟨t, by simp only [nlt_self, cond_false, e1, Option.bind_some], ?_⟩
        simp only [List.length_cons, List.length_nil] at l1
        rw [hI.1] at l1
        omega
    · show ∃ s, sL12AtB (sL12TextG n).1 (sL12TextG n).2.1 (sL12TextG n).2.2 e b = some s ∧ _
      unfold sL12AtB
      obtain ⟨s, e1, l1⟩ := ihT e (by omega) hv hc
      obtain ⟨r, e0, r0, r4⟩ := sLevelOf_ok e
      simp only [reExpr_eq, e1, e0, Option.bind_some]
      cases decide (r < b) with
      | true =>
        simp only [cond_true]
        rw [gd_ok (by simp; omega), Option.bind_some, gd_ok (by simp; omega), Option.bind_some]
        exact ⟨_, rfl, by simp; omega⟩
      | false => exact ⟨s, rfl, by omega⟩
theorem sFormatExpr_ok (e : GExpr) (hf : Fit B20 (.base .expr) e) : ∃ s, sFormatExpr e = some s ∧ s.length ≤ 2640 := by
  obtain ⟨v, e1, h1⟩ := sIsValidExpr_ok e hf
  unfold sFormatExpr
  rw [reExpr_eq, e1, Option.bind_some]
  cases v with
  | false => exact ⟨_, rfl, by simp⟩
  | true =>
    obtain ⟨hv, hc⟩ := h1 rfl
    obtain ⟨s, e2, l2⟩ := (sL12TextG_ok (siz e + 1)).1 e (Nat.lt_succ_self _) hv hc
    refine ⟨s, ?_, by omega⟩
    have : sL12Text e = some s := e2
    simp only [Bool.not_true, cond_false, this, Option.bind_some]
end Go.Proofs.YtjpmhfhcbehgcaaGreat
