/- Plain law: IsValidOp. -/
import Derived.Test.YtjpmhfhcbehgcaaGreatLawsA
set_option linter.unusedSimpArgs false
set_option linter.unusedVariables false
namespace Go.Proofs.YtjpmhfhcbehgcaaGreat
open Go.Abs Go.Proofs

theorem validOp_eq (a : GOp) (h : Fit B20 (.base .op) a) : ∃ v, sIsValidOp a = some v ∧ iIsValidOp a = some v := by
  rw [fit_op] at h
  have hs := lim20 (list20 h.2.2.2.1)
  unfold sIsValidOp iIsValidOp
  simp only [sL1In_ok, iWithin_ok, Option.bind_some, sL41Seen_ok _ hs]
  cases (decide (1 ≤ a.time) && decide (a.time ≤ 300)) with
  | false => exact ⟨false, rfl, rfl⟩
  | true =>
  cases (decide (0 ≤ a.by_) && decide (a.by_ ≤ 2)) with
  | false => exact ⟨false, rfl, rfl⟩
  | true =>
  simp only [Bool.not_true, cond_false]
  have e3 : ((a.seen.length : Int) != 3) = !((a.seen.length : Int) == 3) := rfl
  rw [e3]
  cases ((a.seen.length : Int) == 3) with
  | false => exact ⟨false, by simp, rfl⟩
  | true =>
  simp only [Bool.not_true, cond_false, Bool.and_true]
  rw [scan_then' (fun i : Nat => (a.time, a.by_, a.kind, a.seen, a.edit.kind, a.edit.pos, a.edit.cell.id, a.edit.cell.version, a.edit.cell.kind, a.edit.cell.name, a.edit.cell.code, a.edit.cell.n, a.src, a.dst, a.cell, a.version, a.reads, a.seen, (a.seen.length : Int), (i : Int))) (a.time, a.by_, a.kind, a.seen, a.edit.kind, a.edit.pos, a.edit.cell.id, a.edit.cell.version, a.edit.cell.kind, a.edit.cell.name, a.edit.cell.code, a.edit.cell.n, a.src, a.dst, a.cell, a.version, a.reads, a.seen, (a.seen.length : Int), 0) rfl a.seen (fun n => decide (0 ≤ n) && decide (n ≤ 60)) false _ (fun i x hx => by
    obtain ⟨hlt, rfl⟩ := List.getElem?_eq_some_iff.1 hx
    simp only [lt_of_nat hlt, cond_true, idx_nat, hx, Option.bind_some, w64_succ hlt hs]
    cases (decide (0 ≤ a.seen[i]) && decide (a.seen[i] ≤ 60)) <;> rfl) (by
    simp only [nlt_self, cond_false]
    rfl)]
  unfold seenB
  rw [allAt_all (fun n => decide (0 ≤ n) && decide (n ≤ 60))]
  cases (a.seen.all fun n => decide (0 ≤ n) && decide (n ≤ 60)) with
  | false => exact ⟨false, rfl, rfl⟩
  | true =>
  simp only [Bool.not_true, cond_false, cond_true]
  generalize ((a.edit.kind == 0) && ((a.edit.pos == 0) && ((a.edit.cell.id == 0) && ((a.edit.cell.version == 0) && ((a.edit.cell.kind == 0) && ((a.edit.cell.name == []) && ((a.edit.cell.code == []) && (a.edit.cell.n == 0)))))))) = E
  generalize (a.src == []) = s
  generalize (a.dst == []) = d
  generalize (a.cell == 0) = c
  generalize (a.version == 0) = v
  generalize ((a.reads.length : Int) == 0) = r
  have hk : (decide (1 ≤ a.kind) && decide (a.kind ≤ 3)) = ((a.kind == 1) || (a.kind == 2) || (a.kind == 3)) := by
    by_cases h1 : a.kind = 1
    · rw [h1]; rfl
    by_cases h2 : a.kind = 2
    · rw [h2]; rfl
    by_cases h3 : a.kind = 3
    · rw [h3]; rfl
    rw [beq_eq_false_iff_ne.2 h1, beq_eq_false_iff_ne.2 h2, beq_eq_false_iff_ne.2 h3]
    by_cases h4 : 1 ≤ a.kind
    · rw [decide_eq_false (show ¬ a.kind ≤ 3 by omega)]; simp
    · rw [decide_eq_false h4]; rfl
  rw [hk]
  generalize (a.kind == 1) = k1
  generalize (a.kind == 2) = k2
  generalize (a.kind == 3) = k3
  cases k1 <;> cases k2 <;> cases k3 <;> cases s <;> cases d <;> cases c <;> cases v <;> cases r <;> cases E <;> first | exact ⟨true, rfl, rfl⟩ | exact ⟨false, rfl, rfl⟩
end Go.Proofs.YtjpmhfhcbehgcaaGreat
