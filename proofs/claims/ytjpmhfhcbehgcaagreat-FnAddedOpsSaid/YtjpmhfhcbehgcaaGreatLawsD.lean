/- Plain laws: HasSeen, valid logs and replicas, equality of documents. -/
import Derived.Test.YtjpmhfhcbehgcaaGreatLawsC
set_option linter.unusedSimpArgs false
set_option linter.unusedVariables false
namespace Go.Proofs.YtjpmhfhcbehgcaaGreat
open Go.Abs Go.Proofs

theorem idx_ex {α : Type} {xs : List α} {n : Int} (h0 : 0 ≤ n) (h1 : n < xs.length) : ∃ x, idx xs n = some x ∧ xs[n.toNat]? = some x := by
  have hl : n.toNat < xs.length := by omega
  exact ⟨xs[n.toNat], by unfold idx; rw [if_pos h0]; simp [hl], by simp [hl]⟩
theorem cut_take {α : Type} {xs : List α} {n : Int} (h0 : 0 ≤ n) (h1 : n ≤ xs.length) : eff.cutL xs none (some n) = some (xs.take n.toNat) := by
  unfold eff.cutL
  simp [h0, h1]
theorem w64_len {n : Nat} (h : n < lim) : w64 ((n : Int) - 1) = (n : Int) - 1 := by
  have h' : (n : Int) < 4611686018427387904 := Int.ofNat_lt.2 h
  exact w64_id (by omega) (by omega)

theorem iOpBefore_eq (a b : GOp) : iOpBefore a b = sOpBefore a b := rfl
theorem sOpBefore_ok (a b : GOp) : sOpBefore a b = some (decide (a.time < b.time) || ((a.time == b.time) && decide (a.by_ < b.by_))) := by
  unfold sOpBefore
  cases decide (a.time < b.time) <;> cases (a.time == b.time) <;> rfl
noncomputable def opB (a : GOp) : Bool := (sIsValidOp a).getD false
theorem sIsValidOp_ok (a : GOp) (h : Fit B20 (.base .op) a) : sIsValidOp a = some (opB a) := by
  obtain ⟨v, e1, _⟩ := validOp_eq a h
  rw [e1]; unfold opB; rw [e1]; rfl
theorem iIsValidOp_ok (a : GOp) (h : Fit B20 (.base .op) a) : iIsValidOp a = some (opB a) := by
  obtain ⟨v, e1, e2⟩ := validOp_eq a h
  rw [e2]; unfold opB; rw [e1]; rfl
/-- the log's operations are valid, each behind the one before it -/
noncomputable def logAt (a : List GOp) (x : GOp) (i : Nat) : Bool :=
  opB x && (!decide ((i : Int) > 0) || (match a[i - 1]? with
    | some y => decide (y.time < x.time) || ((y.time == x.time) && decide (y.by_ < x.by_))
    | none => false))
theorem w64_pred' {i n : Nat} (h : i < n) (hn : n < lim) (h0 : (i : Int) > 0) : w64 ((i : Int) - 1) = ((i - 1 : Nat) : Int) := by
  have h' : (i : Int) < (n : Int) := Int.ofNat_lt.2 h
  have hn' : (n : Int) < 4611686018427387904 := Int.ofNat_lt.2 hn
  rw [w64_id (by omega) (by omega)]
  omega
theorem validLog_eq3 (a : List GOp) (h : FitD B20 (.list (.base .op) a)) : sIsValidLog a = some (allAt (logAt a) a 0 && decide ((a.length : Int) ≤ 60)) ∧ iIsValidLog a = some (allAt (logAt a) a 0 && decide ((a.length : Int) ≤ 60)) := by
  have hl := lim20 (list20 h)
  refine ⟨?_, ?_⟩
  · refine scan_all (fun i => ((a, (i : Int)) : List GOp × Int)) a _ _ (fun i x hx => ?_) ?_
    · obtain ⟨hlt, rfl⟩ := List.getElem?_eq_some_iff.1 hx
      have hf := h.list_mem a[i] (List.getElem_mem hlt)
      simp only [lt_of_nat hlt, cond_true, idx_nat, hx, Option.bind_some, w64_succ hlt hl, sIsValidOp_ok _ hf, logAt]
      cases opB a[i] with
      | false => rfl
      | true =>
        by_cases h0 : (i : Int) > 0
        · have hp : a[i - 1]? = some (a[i - 1]'(by omega)) := List.getElem?_eq_getElem (by omega)
          rw [w64_pred' hlt hl h0]
          simp only [decide_eq_true h0, cond_true, idx_nat, hp, Option.bind_some, sOpBefore_ok, Bool.not_true, cond_false, Bool.true_and, Bool.false_or]
          cases (decide ((a[i - 1]'(by omega)).time < a[i].time) || (((a[i - 1]'(by omega)).time == a[i].time) && decide ((a[i - 1]'(by omega)).by_ < a[i].by_))) <;> rfl
        · simp only [decide_eq_false h0]; rfl
    · simp only [nlt_self, cond_false]
  · refine scan_all (fun i => ((a, a, (a.length : Int), (i : Int)) : List GOp × List GOp × Int × Int)) a _ _ (fun i x hx => ?_) ?_
    · obtain ⟨hlt, rfl⟩ := List.getElem?_eq_some_iff.1 hx
      have hf := h.list_mem a[i] (List.getElem_mem hlt)
      simp only [lt_of_nat hlt, cond_true, idx_nat, hx, Option.bind_some, w64_succ hlt hl, iIsValidOp_ok _ hf, logAt, iOpBefore_eq]
      cases opB a[i] with
      | false => rfl
      | true =>
        by_cases h0 : (i : Int) > 0
        · have hp : a[i - 1]? = some (a[i - 1]'(by omega)) := List.getElem?_eq_getElem (by omega)
          rw [w64_pred' hlt hl h0]
          simp only [decide_eq_true h0, cond_true, idx_nat, hp, Option.bind_some, sOpBefore_ok, Bool.not_true, cond_false, Bool.true_and, Bool.false_or]
          cases (decide ((a[i - 1]'(by omega)).time < a[i].time) || (((a[i - 1]'(by omega)).time == a[i].time) && decide ((a[i - 1]'(by omega)).by_ < a[i].by_))) <;> rfl
        · simp only [decide_eq_false h0]; rfl
    · simp only [nlt_self, cond_false]
theorem validLog_eq2 (a : List GOp) (h : FitD B20 (.list (.base .op) a)) : ∃ v, sIsValidLog a = some v ∧ iIsValidLog a = some v ∧ (v = true → (a.length : Int) ≤ 60) := by
  obtain ⟨e1, e2⟩ := validLog_eq3 a h
  exact ⟨_, e1, e2, fun hv => by simp only [Bool.and_eq_true, decide_eq_true_eq] at hv; exact hv.2⟩
theorem validLog_eq (a : List GOp) (h : FitD B20 (.list (.base .op) a)) : ∃ v, sIsValidLog a = some v ∧ iIsValidLog a = some v := by
  obtain ⟨v, e1, e2, _⟩ := validLog_eq2 a h
  exact ⟨v, e1, e2⟩
theorem validReplica_eq (a : GReplica) (h : Fit B20 (.base .replica) a) : ∃ v, sIsValidReplica a = some v ∧ iIsValidReplica a = some v := by
  rw [fit_replica] at h
  obtain ⟨v, e1, e2⟩ := validLog_eq a.ops h.2
  unfold sIsValidReplica iIsValidReplica
  simp only [sL1In_ok, iWithin_ok, Option.bind_some, e1, e2]
  cases (decide (0 ≤ a.id) && decide (a.id ≤ 2)) <;> exact ⟨_, rfl, rfl⟩

theorem notebook_eqd (a b : GNotebook) : eqd a b = eqd a.cells b.cells := by
  rw [Bool.eq_iff_iff]
  simp only [eqd_iff]
  cases a; cases b
  simp only [GNotebook.mk.injEq]
theorem tape_dec (x y : GTape) : eqd x y = (eqd x.cell y.cell && (eqd x.version y.version && eqd x.reads y.reads)) := by
  rw [Bool.eq_iff_iff]
  simp only [eqd_iff, Bool.and_eq_true]
  cases x; cases y
  simp only [GTape.mk.injEq]
end Go.Proofs.YtjpmhfhcbehgcaaGreat
