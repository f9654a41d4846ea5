/- Plain laws: OpBefore, StampVersion, IsValidOp, CountBy, LastTime. -/
import Derived.Test.YtjpmhfhcbehgcaaGreatPlain3
set_option linter.unusedSimpArgs false
set_option linter.unusedVariables false
namespace Go.Proofs.YtjpmhfhcbehgcaaGreat
open Go.Abs Go.Proofs



theorem sCountBy_val (a : List GOp) (b : Int) (h : a.length < lim) : ∃ v, sCountBy a b = some v ∧ (v = 0 ∨ ∃ n, v = w64 n) := by
  have wf : ∀ (xs : List GOp) (s : Int), (s = 0 ∨ ∃ n, s = w64 n) → (xs.foldl (fun s x => bif x.by_ == b then w64 (s + 1) else s) s = 0 ∨ ∃ n, xs.foldl (fun s x => bif x.by_ == b then w64 (s + 1) else s) s = w64 n) := by
    intro xs
    induction xs with
    | nil => exact fun s hs => hs
    | cons x xs ih =>
      intro s hs
      refine ih _ ?_
      show (bif x.by_ == b then w64 (s + 1) else s) = 0 ∨ ∃ n, (bif x.by_ == b then w64 (s + 1) else s) = w64 n
      cases x.by_ == b with
      | true => exact .inr ⟨_, rfl⟩
      | false => exact hs
  refine ⟨a.foldl (fun s x => bif x.by_ == b then w64 (s + 1) else s) 0, ?_, wf a 0 (.inl rfl)⟩
  · refine loop_foldl (fun (s : Int) i => ((a, b, s, (i : Int)) : List GOp × Int × Int × Int)) a (fun s x => bif x.by_ == b then w64 (s + 1) else s) id (fun i x s hx => ?_) (fun s => ?_) 0
    · obtain ⟨hlt, rfl⟩ := List.getElem?_eq_some_iff.1 hx
      simp only [lt_of_nat hlt, cond_true, idx_nat, hx, Option.bind_some, w64_succ hlt h]
      cases a[i].by_ == b <;> rfl
    · simp only [nlt_self, cond_false]; rfl
theorem countBy_eq2 (a : List GOp) (b : Int) (h : a.length < lim) : ∃ v, sCountBy a b = some v ∧ iCountBy a b = some v ∧ (v = 0 ∨ ∃ n, v = w64 n) := by
  have wf : ∀ (xs : List GOp) (s : Int), (s = 0 ∨ ∃ n, s = w64 n) → (xs.foldl (fun s x => bif x.by_ == b then w64 (s + 1) else s) s = 0 ∨ ∃ n, xs.foldl (fun s x => bif x.by_ == b then w64 (s + 1) else s) s = w64 n) := by
    intro xs
    induction xs with
    | nil => exact fun s hs => hs
    | cons x xs ih =>
      intro s hs
      refine ih _ ?_
      show (bif x.by_ == b then w64 (s + 1) else s) = 0 ∨ ∃ n, (bif x.by_ == b then w64 (s + 1) else s) = w64 n
      cases x.by_ == b with
      | true => exact .inr ⟨_, rfl⟩
      | false => exact hs
  refine ⟨a.foldl (fun s x => bif x.by_ == b then w64 (s + 1) else s) 0, ?_, ?_, wf a 0 (.inl rfl)⟩
  · refine loop_foldl (fun (s : Int) i => ((a, b, s, (i : Int)) : List GOp × Int × Int × Int)) a (fun s x => bif x.by_ == b then w64 (s + 1) else s) id (fun i x s hx => ?_) (fun s => ?_) 0
    · obtain ⟨hlt, rfl⟩ := List.getElem?_eq_some_iff.1 hx
      simp only [lt_of_nat hlt, cond_true, idx_nat, hx, Option.bind_some, w64_succ hlt h]
      cases a[i].by_ == b <;> rfl
    · simp only [nlt_self, cond_false]; rfl
  · refine loop_foldl (fun (s : Int) i => ((b, s, a, (a.length : Int), (i : Int)) : Int × Int × List GOp × Int × Int)) a (fun s x => bif x.by_ == b then w64 (s + 1) else s) id (fun i x s hx => ?_) (fun s => ?_) 0
    · obtain ⟨hlt, rfl⟩ := List.getElem?_eq_some_iff.1 hx
      simp only [lt_of_nat hlt, cond_true, idx_nat, hx, Option.bind_some, w64_succ hlt h]
      cases a[i].by_ == b <;> rfl
    · simp only [nlt_self, cond_false]; rfl
theorem countBy_eq (a : List GOp) (b : Int) (h : a.length < lim) : ∃ v, sCountBy a b = some v ∧ iCountBy a b = some v := by
  obtain ⟨v, e1, e2, _⟩ := countBy_eq2 a b h
  exact ⟨v, e1, e2⟩

theorem sLastTime_val (a : List GOp) (h : a.length < lim) : sLastTime a = some (a.foldl (fun s x => if x.time > s then x.time else s) 0) := by
  · refine loop_foldl (fun (s : Int) i => ((a, s, (i : Int)) : List GOp × Int × Int)) a (fun s x => if x.time > s then x.time else s) id (fun i x s hx => ?_) (fun s => ?_) 0
    · obtain ⟨hlt, rfl⟩ := List.getElem?_eq_some_iff.1 hx
      have e : sL1Max s a[i].time = some (if a[i].time > s then a[i].time else s) := by
        unfold sL1Max
        by_cases h1 : s > a[i].time
        · rw [decide_eq_true h1, if_neg (by omega)]; rfl
        · rw [decide_eq_false h1, cond_false]
          by_cases h2 : a[i].time > s
          · rw [if_pos h2]
          · rw [if_neg h2]; congr 1; omega
      simp only [lt_of_nat hlt, cond_true, idx_nat, hx, Option.bind_some, w64_succ hlt h, e]
    · simp only [nlt_self, cond_false]; rfl
theorem lastTime_val (a : List GOp) (h : a.length < lim) : sLastTime a = some (a.foldl (fun s x => if x.time > s then x.time else s) 0) ∧ iLastTime a = some (a.foldl (fun s x => if x.time > s then x.time else s) 0) := by
  refine ⟨?_, ?_⟩
  · refine loop_foldl (fun (s : Int) i => ((a, s, (i : Int)) : List GOp × Int × Int)) a (fun s x => if x.time > s then x.time else s) id (fun i x s hx => ?_) (fun s => ?_) 0
    · obtain ⟨hlt, rfl⟩ := List.getElem?_eq_some_iff.1 hx
      have e : sL1Max s a[i].time = some (if a[i].time > s then a[i].time else s) := by
        unfold sL1Max
        by_cases h1 : s > a[i].time
        · rw [decide_eq_true h1, if_neg (by omega)]; rfl
        · rw [decide_eq_false h1, cond_false]
          by_cases h2 : a[i].time > s
          · rw [if_pos h2]
          · rw [if_neg h2]; congr 1; omega
      simp only [lt_of_nat hlt, cond_true, idx_nat, hx, Option.bind_some, w64_succ hlt h, e]
    · simp only [nlt_self, cond_false]; rfl
  · refine loop_foldl (fun (s : Int) i => ((s, a, (a.length : Int), (i : Int)) : Int × List GOp × Int × Int)) a (fun s x => if x.time > s then x.time else s) id (fun i x s hx => ?_) (fun s => ?_) 0
    · obtain ⟨hlt, rfl⟩ := List.getElem?_eq_some_iff.1 hx
      simp only [lt_of_nat hlt, cond_true, idx_nat, hx, Option.bind_some, w64_succ hlt h]
    · simp only [nlt_self, cond_false]; rfl
theorem lastTime_eq (a : List GOp) (h : a.length < lim) : ∃ v, sLastTime a = some v ∧ iLastTime a = some v := ⟨_, lastTime_val a h⟩

def seenB (s : List Int) : Bool := allAt (fun n _ => decide (0 ≤ n) && decide (n ≤ 60)) s 0
theorem sL41Seen_ok (a : List Int) (h : a.length < lim) : sL41Seen a = some (seenB a && ((a.length : Int) == 3)) := by
  refine scan_all (fun i => ((a, (i : Int)) : List Int × Int)) a _ _ (fun i x hx => ?_) ?_
  · obtain ⟨hlt, rfl⟩ := List.getElem?_eq_some_iff.1 hx
    simp only [lt_of_nat hlt, cond_true, idx_nat, hx, Option.bind_some, w64_succ hlt h, sL1In_ok]
    cases (decide (0 ≤ a[i]) && decide (a[i] ≤ 60)) <;> rfl
  · simp only [nlt_self, cond_false]
end Go.Proofs.YtjpmhfhcbehgcaaGreat
