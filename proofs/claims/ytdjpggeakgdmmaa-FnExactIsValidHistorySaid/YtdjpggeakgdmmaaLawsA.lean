/- Plain laws: OpBefore, StampVersion, IsValidOp, CountBy, LastTime. -/
import Derived.Test.YtdjpggeakgdmmaaBasic
import Derived.Test.YtdjpggeakgdmmaaPlain5
set_option linter.unusedSimpArgs false
set_option linter.unusedVariables false
namespace Go.Proofs.Ytdjpggeakgdmmaa
open Go.Abs Go.Proofs

theorem loop_foldl {α σ ρ X : Type} {g : X → Option (X ⊕ ρ)} (pk : σ → Nat → X) (xs : List α) (f : σ → α → σ) (fin : σ → ρ)
    (h1 : ∀ i x s, xs[i]? = some x → g (pk s i) = some (.inl (pk (f s x) (i + 1))))
    (h2 : ∀ s, g (pk s xs.length) = some (.inr (fin s))) (s : σ) : loopD g (pk s 0) = some (fin (xs.foldl f s)) := by
  have key : ∀ (n i : Nat) (s : σ), xs.length = i + n → loopD g (pk s i) = some (fin ((xs.drop i).foldl f s)) := by
    intro n
    induction n with
    | zero =>
      intro i s hi
      rw [List.drop_eq_nil_of_le (by omega), loopD_eq]
      have : i = xs.length := by omega
      subst this
      rw [h2]
      rfl
    | succ n ih =>
      intro i s hi
      have hlt : i < xs.length := by omega
      rw [List.drop_eq_getElem_cons hlt, loopD_eq, h1 i xs[i] s (List.getElem?_eq_getElem hlt)]
      exact ih (i + 1) (f s xs[i]) (by omega)
  simpa using key xs.length 0 s (by omega)

/-- the first steps of a law: sizes -/
theorem law1 {α : Type} {f : α → Int → Option Int} {P : Prop} {x : α} (h : SzK f P x) {k : Int → Option Bool} (l : Int) (h0 : 0 ≤ l) (h1 : l ≤ 1048576) (hk : P → ∀ r, 0 ≤ r → r ≤ 1048576 → k r = some true) :
    ((f x l).bind fun r1 => bif (decide (r1 < 0)) then some (true) else k r1) = some true := by
  obtain ⟨r, e, p⟩ := h l h0 h1
  rw [e, Option.bind_some]
  rcases p with p | ⟨p, q, hP⟩
  · rw [decide_eq_true p]; rfl
  · rw [decide_eq_false (by omega), cond_false]
    exact hk hP r p (by omega)

theorem law_FnExactOpBefore (a b : GOp) (ha : Fit B47 (.base .op) a) (hb : Fit B47 (.base .op) b) : FnExactOpBefore a b = some true := by
  refine law1 (szOp_ok a ha) _ (by omega) (by omega) fun pa r1 h0 h1 => ?_
  refine law1 (szOp_ok b hb) _ h0 h1 fun pb r2 _ _ => ?_
  have e : ∃ v, sOpBefore a b = some v ∧ iOpBefore a b = some v := ex_same (x := sOpBefore a b) (by
    unfold sOpBefore
    repeat' first | exact ⟨_, rfl⟩ | apply ex_bif)
  obtain ⟨v, e1, e2⟩ := e
  simp only [toOp_ok a pa, toOp_ok b pb, Option.bind_some, e1, e2, eqOp_ok a pa, eqOp_ok b pb, beq_self_eq_true, Bool.not_true, cond_false]

theorem law_FnExactStampVersion (a : GOp) (ha : Fit B47 (.base .op) a) : FnExactStampVersion a = some true := by
  refine law1 (szOp_ok a ha) _ (by omega) (by omega) fun pa r1 h0 h1 => ?_
  simp only [toOp_ok a pa, Option.bind_some, sStampVersion, iStampVersion, eqOp_ok a pa, bne_self_eq_false, Bool.not_true, cond_false]

theorem countBy_eq (a : List GOp) (b : Int) (h : a.length < lim) : ∃ v, sCountBy a b = some v ∧ iCountBy a b = some v := by
  refine ⟨a.foldl (fun s x => bif x.by_ == b then w64 (s + 1) else s) 0, ?_, ?_⟩
  · refine loop_foldl (fun (s : Int) i => ((a, b, s, (i : Int)) : List GOp × Int × Int × Int)) a (fun s x => bif x.by_ == b then w64 (s + 1) else s) id (fun i x s hx => ?_) (fun s => ?_) 0
    · obtain ⟨hlt, rfl⟩ := List.getElem?_eq_some_iff.1 hx
      simp only [lt_of_nat hlt, cond_true, idx_nat, hx, Option.bind_some, w64_succ hlt h]
      cases a[i].by_ == b <;> rfl
    · simp only [nlt_self, cond_false]; rfl
  · refine loop_foldl (fun (s : Int) i => ((b, s, a, (a.length : Int), (i : Int)) : Int × Int × List GOp × Int × Int)) a (fun s x => bif x.by_ == b then w64 (s + 1) else s) id (fun i x s hx => ?_) (fun s => ?_) 0
    · obtain ⟨hlt, rfl⟩ := List.getElem?_eq_some_iff.1 hx
      simp only [lt_of_nat hlt, cond_true, idx_nat, hx, Option.bind_some, w64_succ hlt h]
      cases a[i].by_ == b <;> rfl
    · simp only [nlt_self, cond_false]; rfl
theorem law_FnExactCountBy (a : List GOp) (b : Int) (ha : FitD B47 (.list (.base .op) a)) : FnExactCountBy a b = some true := by
  refine law1 (szOpS_ok a ha) _ (by omega) (by omega) fun pa r1 h0 h1 => ?_
  obtain ⟨v, e1, e2⟩ := countBy_eq a b (lim20 (list20 pa))
  simp only [toOpS_ok a pa, Option.bind_some, e1, e2, eqOpS_ok a pa, bne_self_eq_false, Bool.not_true, cond_false]

theorem lastTime_eq (a : List GOp) (h : a.length < lim) : ∃ v, sLastTime a = some v ∧ iLastTime a = some v := by
  refine ⟨a.foldl (fun s x => if x.time > s then x.time else s) 0, ?_, ?_⟩
  · refine loop_foldl (fun (s : Int) i => ((a, s, (i : Int)) : List GOp × Int × Int)) a (fun s x => if x.time > s then x.time else s) id (fun i x s hx => ?_) (fun s => ?_) 0
    · obtain ⟨hlt, rfl⟩ := List.getElem?_eq_some_iff.1 hx
      have e : sL1Max s a[i].time = some (if a[i].time > s then a[i].time else s) := by
        unfold sL1Max
        by_cases h1 : s > a[i].time
        · rw [decide_eq_true h1, if_neg (by omega)]; rfl
        · rw [decide_eq_false h1, cond_false]
          by_cases h2 : a[i].time > s
          · rw [if_pos h2]
          · rw [if_neg h2]; congr 1; omega
      simp only [lt_of_nat hlt, cond_true, idx_nat, hx, Option.bind_some, w64_succ hlt h, e]
    · simp only [nlt_self, cond_false]; rfl
  · refine loop_foldl (fun (s : Int) i => ((s, a, (a.length : Int), (i : Int)) : Int × List GOp × Int × Int)) a (fun s x => if x.time > s then x.time else s) id (fun i x s hx => ?_) (fun s => ?_) 0
    · obtain ⟨hlt, rfl⟩ := List.getElem?_eq_some_iff.1 hx
      simp only [lt_of_nat hlt, cond_true, idx_nat, hx, Option.bind_some, w64_succ hlt h]
    · simp only [nlt_self, cond_false]; rfl
theorem law_FnExactLastTime (a : List GOp) (ha : FitD B47 (.list (.base .op) a)) : FnExactLastTime a = some true := by
  refine law1 (szOpS_ok a ha) _ (by omega) (by omega) fun pa r1 h0 h1 => ?_
  obtain ⟨v, e1, e2⟩ := lastTime_eq a (lim20 (list20 pa))
  simp only [toOpS_ok a pa, Option.bind_some, e1, e2, eqOpS_ok a pa, bne_self_eq_false, Bool.not_true, cond_false]

def seenB (s : List Int) : Bool := allAt (fun n _ => decide (0 ≤ n) && decide (n ≤ 60)) s 0
theorem sL41Seen_ok (a : List Int) (h : a.length < lim) : sL41Seen a = some (seenB a && ((a.length : Int) == 3)) := by
  refine scan_all (fun i => ((a, (i : Int)) : List Int × Int)) a _ _ (fun i x hx => ?_) ?_
  · obtain ⟨hlt, rfl⟩ := List.getElem?_eq_some_iff.1 hx
    simp only [lt_of_nat hlt, cond_true, idx_nat, hx, Option.bind_some, w64_succ hlt h, sL1In_ok]
    cases (decide (0 ≤ a[i]) && decide (a[i] ≤ 60)) <;> rfl
  · simp only [nlt_self, cond_false]
/-- the loop that looks at every element, and what comes behind it -/
theorem scan_then {α X ρ : Type} {g : X → Option (X ⊕ ρ)} (pk : Nat → X) (xs : List α) (p : α → Bool) (no : ρ) (fin : Option ρ)
    (h1 : ∀ i x, xs[i]? = some x → g (pk i) = bif p x then some (.inl (pk (i + 1))) else some (.inr no))
    (h2 : g (pk xs.length) = fin.bind fun r => some (.inr r)) : loopD g (pk 0) = bif xs.all p then fin else some no := by
  have key : ∀ (n i : Nat), xs.length = i + n → loopD g (pk i) = bif (xs.drop i).all p then fin else some no := by
    intro n
    induction n with
    | zero =>
      intro i hi
      rw [List.drop_eq_nil_of_le (by omega), loopD_eq]
      have : i = xs.length := by omega
      subst this
      rw [h2]
      cases fin <;> rfl
    | succ n ih =>
      intro i hi
      have hlt : i < xs.length := by omega
      rw [List.drop_eq_getElem_cons hlt, loopD_eq, h1 i xs[i] (List.getElem?_eq_getElem hlt)]
      simp only [List.all_cons]
      cases p xs[i] with
      | false => rfl
      | true => simpa using ih (i + 1) (by omega)
  simpa using key xs.length 0 (by omega)
theorem scan_then' {α X ρ : Type} {g : X → Option (X ⊕ ρ)} (pk : Nat → X) (z : X) (hz : pk 0 = z) (xs : List α) (p : α → Bool) (no : ρ) (fin : Option ρ)
    (h1 : ∀ i x, xs[i]? = some x → g (pk i) = bif p x then some (.inl (pk (i + 1))) else some (.inr no))
    (h2 : g (pk xs.length) = fin.bind fun r => some (.inr r)) : loopD g z = bif xs.all p then fin else some no := by
  rw [← hz]
  exact scan_then pk xs p no fin h1 h2
theorem allAt_all {α : Type} (p : α → Bool) : ∀ (xs : List α) (i : Nat), allAt (fun x _ => p x) xs i = xs.all p
  | [], _ => rfl
  | x :: r, i => by simp only [allAt, List.all_cons, allAt_all p r]
end Go.Proofs.Ytdjpggeakgdmmaa
