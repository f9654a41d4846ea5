/- Plain laws: HasSeen, valid logs and replicas, equality of documents. -/
import Derived.Test.YtiedhibpaooldaaLawsC
set_option linter.unusedSimpArgs false
set_option linter.unusedVariables false
namespace Go.Proofs.Ytiedhibpaooldaa
open Go.Abs Go.Proofs

theorem idx_ex {α : Type} {xs : List α} {n : Int} (h0 : 0 ≤ n) (h1 : n < xs.length) : ∃ x, idx xs n = some x ∧ xs[n.toNat]? = some x := by
  have hl : n.toNat < xs.length := by omega
  exact ⟨xs[n.toNat], by unfold idx; rw [if_pos h0]; simp [hl], by simp [hl]⟩
theorem cut_take {α : Type} {xs : List α} {n : Int} (h0 : 0 ≤ n) (h1 : n ≤ xs.length) : eff.cutL xs none (some n) = some (xs.take n.toNat) := by
  unfold eff.cutL
  simp [h0, h1]
theorem w64_len {n : Nat} (h : n < lim) : w64 ((n : Int) - 1) = (n : Int) - 1 := by
  have h' : (n : Int) < 4611686018427387904 := Int.ofNat_lt.2 h
  exact w64_id (by omega) (by omega)
theorem hasSeen_eq (a : GOp) (b : List GOp) (c : Int) (ha : a.seen.length < lim) (hb : b.length < lim) : ∃ v, sHasSeen a b c = some v ∧ iHasSeen a b c = some v := by
  unfold sHasSeen iHasSeen
  rw [sL1In_ok, w64_len hb]
  by_cases h0 : c < 0
  · refine ⟨false, ?_, ?_⟩
    · rw [decide_eq_false (show ¬ 0 ≤ c by omega)]; rfl
    · rw [decide_eq_true h0]; rfl
  rw [decide_eq_true (show 0 ≤ c by omega), decide_eq_false h0]
  by_cases h1 : c ≥ b.length
  · refine ⟨false, ?_, ?_⟩
    · rw [decide_eq_false (show ¬ c ≤ (b.length : Int) - 1 by omega)]; rfl
    · rw [decide_eq_true h1]; rfl
  rw [decide_eq_true (show c ≤ (b.length : Int) - 1 by omega), decide_eq_false h1]
  obtain ⟨e, he, _⟩ := idx_ex (xs := b) (n := c) (by omega) (by omega)
  simp only [Bool.and_self, Option.bind_some, Bool.not_true, cond_false, he, sL1In_ok, w64_len ha]
  by_cases h2 : e.by_ < 0
  · refine ⟨false, ?_, ?_⟩
    · rw [decide_eq_false (show ¬ 0 ≤ e.by_ by omega)]; rfl
    · rw [decide_eq_true h2]; rfl
  rw [decide_eq_true (show 0 ≤ e.by_ by omega), decide_eq_false h2]
  by_cases h3 : e.by_ ≥ a.seen.length
  · refine ⟨false, ?_, ?_⟩
    · rw [decide_eq_false (show ¬ e.by_ ≤ (a.seen.length : Int) - 1 by omega)]; rfl
    · rw [decide_eq_true h3]; rfl
  rw [decide_eq_true (show e.by_ ≤ (a.seen.length : Int) - 1 by omega), decide_eq_false h3]
  obtain ⟨s, hs, _⟩ := idx_ex (xs := a.seen) (n := e.by_) (by omega) (by omega)
  obtain ⟨v, e1, e2⟩ := countBy_eq (b.take c.toNat) e.by_ (by rw [List.length_take]; omega)
  simp only [Bool.and_self, Bool.not_true, cond_false, cut_take (show 0 ≤ c by omega) (show c ≤ (b.length : Int) by omega), Option.bind_some, e1, e2, hs]
  exact ⟨_, rfl, rfl⟩
theorem law_FnExactHasSeen (a : GOp) (b : List GOp) (c : Int) (ha : Fit B47 (.base .op) a) (hb : FitD B47 (.list (.base .op) b)) : FnExactHasSeen a b c = some true := by
  refine law1 (szOp_ok a ha) _ (by omega) (by omega) fun pa r1 h0 h1 => ?_
  refine law1 (szOpS_ok b hb) _ h0 h1 fun pb r2 _ _ => ?_
  have fa := pa
  rw [fit_op] at fa
  obtain ⟨v, e1, e2⟩ := hasSeen_eq a b c (lim20 (list20 fa.2.2.2.1)) (lim20 (list20 pb))
  simp only [toOp_ok a pa, toOpS_ok b pb, Option.bind_some, e1, e2, eqOp_ok a pa, eqOpS_ok b pb, beq_self_eq_true, Bool.not_true, cond_false]

theorem iOpBefore_eq (a b : GOp) : iOpBefore a b = sOpBefore a b := rfl
theorem sOpBefore_ok (a b : GOp) : sOpBefore a b = some (decide (a.time < b.time) || ((a.time == b.time) && decide (a.by_ < b.by_))) := by
  unfold sOpBefore
  cases decide (a.time < b.time) <;> cases (a.time == b.time) <;> rfl
noncomputable def opB (a : GOp) : Bool := (sIsValidOp a).getD false
theorem sIsValidOp_ok (a : GOp) (h : Fit B20 (.base .op) a) : sIsValidOp a = some (opB a) := by
  obtain ⟨v, e1, _⟩ := validOp_eq a h
  rw [e1]; unfold opB; rw [e1]; rfl
theorem iIsValidOp_ok (a : GOp) (h : Fit B20 (.base .op) a) : iIsValidOp a = some (opB a) := by
  obtain ⟨v, e1, e2⟩ := validOp_eq a h
  rw [e2]; unfold opB; rw [e1]; rfl
/-- the log's operations are valid, each behind the one before it -/
noncomputable def logAt (a : List GOp) (x : GOp) (i : Nat) : Bool :=
  opB x && (!decide ((i : Int) > 0) || (match a[i - 1]? with
    | some y => decide (y.time < x.time) || ((y.time == x.time) && decide (y.by_ < x.by_))
    | none => false))
theorem w64_pred' {i n : Nat} (h : i < n) (hn : n < lim) (h0 : (i : Int) > 0) : w64 ((i : Int) - 1) = ((i - 1 : Nat) : Int) := by
  have h' : (i : Int) < (n : Int) := Int.ofNat_lt.2 h
  have hn' : (n : Int) < 4611686018427387904 := Int.ofNat_lt.2 hn
  rw [w64_id (by omega) (by omega)]
  omega
theorem validLog_eq (a : List GOp) (h : FitD B20 (.list (.base .op) a)) : ∃ v, sIsValidLog a = some v ∧ iIsValidLog a = some v := by
  have hl := lim20 (list20 h)
  refine ⟨allAt (logAt a) a 0 && decide ((a.length : Int) ≤ 60), ?_, ?_⟩
  · refine scan_all (fun i => ((a, (i : Int)) : List GOp × Int)) a _ _ (fun i x hx => ?_) ?_
    · obtain ⟨hlt, rfl⟩ := List.getElem?_eq_some_iff.1 hx
      have hf := h.list_mem a[i] (List.getElem_mem hlt)
      simp only [lt_of_nat hlt, cond_true, idx_nat, hx, Option.bind_some, w64_succ hlt hl, sIsValidOp_ok _ hf, logAt]
      cases opB a[i] with
      | false => rfl
      | true =>
        by_cases h0 : (i : Int) > 0
        · have hp : a[i - 1]? = some (a[i - 1]'(by omega)) := List.getElem?_eq_getElem (by omega)
          rw [w64_pred' hlt hl h0]
          simp only [decide_eq_true h0, cond_true, idx_nat, hp, Option.bind_some, sOpBefore_ok, Bool.not_true, cond_false, Bool.true_and, Bool.false_or]
          cases (decide ((a[i - 1]'(by omega)).time < a[i].time) || (((a[i - 1]'(by omega)).time == a[i].time) && decide ((a[i - 1]'(by omega)).by_ < a[i].by_))) <;> rfl
        · simp only [decide_eq_false h0]; rfl
    · simp only [nlt_self, cond_false]
  · refine scan_all (fun i => ((a, a, (a.length : Int), (i : Int)) : List GOp × List GOp × Int × Int)) a _ _ (fun i x hx => ?_) ?_
    · obtain ⟨hlt, rfl⟩ := List.getElem?_eq_some_iff.1 hx
      have hf := h.list_mem a[i] (List.getElem_mem hlt)
      simp only [lt_of_nat hlt, cond_true, idx_nat, hx, Option.bind_some, w64_succ hlt hl, iIsValidOp_ok _ hf, logAt, iOpBefore_eq]
      cases opB a[i] with
      | false => rfl
      | true =>
        by_cases h0 : (i : Int) > 0
        · have hp : a[i - 1]? = some (a[i - 1]'(by omega)) := List.getElem?_eq_getElem (by omega)
          rw [w64_pred' hlt hl h0]
          simp only [decide_eq_true h0, cond_true, idx_nat, hp, Option.bind_some, sOpBefore_ok, Bool.not_true, cond_false, Bool.true_and, Bool.false_or]
          cases (decide ((a[i - 1]'(by omega)).time < a[i].time) || (((a[i - 1]'(by omega)).time == a[i].time) && decide ((a[i - 1]'(by omega)).by_ < a[i].by_))) <;> rfl
        · simp only [decide_eq_false h0]; rfl
    · simp only [nlt_self, cond_false]
theorem law_FnExactIsValidLog (a : List GOp) (ha : FitD B47 (.list (.base .op) a)) : FnExactIsValidLog a = some true := by
  refine law1 (szOpS_ok a ha) _ (by omega) (by omega) fun pa r1 h0 h1 => ?_
  obtain ⟨v, e1, e2⟩ := validLog_eq a pa
  simp only [toOpS_ok a pa, Option.bind_some, e1, e2, eqOpS_ok a pa, beq_self_eq_true, Bool.not_true, cond_false]
theorem validReplica_eq (a : GReplica) (h : Fit B20 (.base .replica) a) : ∃ v, sIsValidReplica a = some v ∧ iIsValidReplica a = some v := by
  rw [fit_replica] at h
  obtain ⟨v, e1, e2⟩ := validLog_eq a.ops h.2
  unfold sIsValidReplica iIsValidReplica
  simp only [sL1In_ok, iWithin_ok, Option.bind_some, e1, e2]
  cases (decide (0 ≤ a.id) && decide (a.id ≤ 2)) <;> exact ⟨_, rfl, rfl⟩
theorem law_FnExactIsValidReplica (a : GReplica) (ha : Fit B47 (.base .replica) a) : FnExactIsValidReplica a = some true := by
  refine law1 (szReplica_ok a ha) _ (by omega) (by omega) fun pa r1 h0 h1 => ?_
  obtain ⟨v, e1, e2⟩ := validReplica_eq a pa
  simp only [toReplica_ok a pa, Option.bind_some, e1, e2, eqReplica_ok a pa, beq_self_eq_true, Bool.not_true, cond_false]

theorem iSameCell_ok (a b : List GCell) (h : a.length < lim) : iSameCell a b = some (eqd a b) := by
  rw [← bif_some]
  refine cmpWrap fun hl => cmpLoop (fun i => ((a, b, (a.length : Int), (i : Int)) : List GCell × List GCell × Int × Int)) _ rfl a b hl _ _ (fun i x y hx hy hlt => ?_) ?_
  · simp only [lt_of_nat hlt, cond_true, idx_nat, hx, hy, Option.bind_some, w64_succ hlt h, cell_dec, bif_not]
  · simp only [nlt_self, cond_false]; rfl
theorem notebook_eqd (a b : GNotebook) : eqd a b = eqd a.cells b.cells := by
  rw [Bool.eq_iff_iff]
  simp only [eqd_iff]
  cases a; cases b
  simp only [GNotebook.mk.injEq]
theorem sEqualNotebook_ok (a b : GNotebook) (h : a.cells.length < lim) : sEqualNotebook a b = some (eqd a b) := by
  rw [notebook_eqd, ← bif_some]
  refine cmpWrap fun hl => cmpLoop (fun i => ((a.cells, b.cells, (i : Int)) : List GCell × List GCell × Int)) _ rfl a.cells b.cells hl _ _ (fun i x y hx hy hlt => ?_) ?_
  · simp only [lt_of_nat hlt, cond_true, idx_nat, hx, hy, Option.bind_some, w64_succ hlt h, cell_dec, bif_not]
  · simp only [nlt_self, cond_false]; rfl
theorem iEqualNotebook_ok (a b : GNotebook) (h : a.cells.length < lim) : iEqualNotebook a b = some (eqd a b) := by
  unfold iEqualNotebook
  rw [iSameCell_ok _ _ h, notebook_eqd]; rfl
theorem tape_dec (x y : GTape) : eqd x y = (eqd x.cell y.cell && (eqd x.version y.version && eqd x.reads y.reads)) := by
  rw [Bool.eq_iff_iff]
  simp only [eqd_iff, Bool.and_eq_true]
  cases x; cases y
  simp only [GTape.mk.injEq]
theorem sL42Tapes_ok (a b : List GTape) (ha : FitD B20 (.list (.base .tape) a)) : sL42Tapes a b = some (eqd a b) := by
  have h := lim20 (list20 ha)
  rw [← bif_some]
  refine cmpWrap fun hl => cmpLoop (fun i => ((a, b, (i : Int)) : List GTape × List GTape × Int)) _ rfl a b hl _ _ (fun i x y hx hy hlt => ?_) ?_
  · have hf := ha.list_mem x (List.mem_of_getElem? hx)
    rw [fit_tape] at hf
    simp only [lt_of_nat hlt, cond_true, idx_nat, hx, hy, Option.bind_some, w64_succ hlt h, sL41Same_ok _ _ hf.2.2, bif_not, tape_dec, bne_dec]
    cases eqd x.cell y.cell <;> cases eqd x.version y.version <;> cases eqd x.reads y.reads <;> rfl
  · simp only [nlt_self, cond_false]; rfl
theorem iEqualTapes_ok (a b : List GTape) (ha : FitD B20 (.list (.base .tape) a)) : iEqualTapes a b = some (eqd a b) := by
  have h := lim20 (list20 ha)
  rw [← bif_some]
  refine cmpWrap fun hl => cmpLoop (fun i => ((a, b, (a.length : Int), (i : Int)) : List GTape × List GTape × Int × Int)) _ rfl a b hl _ _ (fun i x y hx hy hlt => ?_) ?_
  · have hf := ha.list_mem x (List.mem_of_getElem? hx)
    rw [fit_tape] at hf
    simp only [lt_of_nat hlt, cond_true, idx_nat, hx, hy, Option.bind_some, w64_succ hlt h, iEqualReads_ok _ _ hf.2.2, bif_not, tape_dec, bne_dec]
    cases eqd x.cell y.cell <;> cases eqd x.version y.version <;> cases eqd x.reads y.reads <;> rfl
  · simp only [nlt_self, cond_false]; rfl
theorem sEqualDocument_ok (a b : GDocument) (h : Fit B20 (.base .document) a) : sEqualDocument a b = some (eqd a.notebook b.notebook && eqd a.tapes b.tapes) := by
  rw [fit_document, fit_notebook] at h
  unfold sEqualDocument
  rw [sEqualNotebook_ok _ _ (lim20 (list20 h.1)), sL42Tapes_ok _ _ h.2.1]
  cases eqd a.notebook b.notebook <;> rfl
theorem iEqualDocument_ok (a b : GDocument) (h : Fit B20 (.base .document) a) : iEqualDocument a b = some (eqd a.notebook b.notebook && eqd a.tapes b.tapes) := by
  rw [fit_document, fit_notebook] at h
  unfold iEqualDocument
  rw [iEqualNotebook_ok _ _ (lim20 (list20 h.1)), iEqualTapes_ok _ _ h.2.1]
  cases eqd a.notebook b.notebook <;> rfl
theorem law_FnExactEqualDocument (a b : GDocument) (ha : Fit B47 (.base .document) a) (hb : Fit B47 (.base .document) b) : FnExactEqualDocument a b = some true := by
  refine law1 (szDocument_ok a ha) _ (by omega) (by omega) fun pa r1 h0 h1 => ?_
  refine law1 (szDocument_ok b hb) _ h0 h1 fun pb r2 _ _ => ?_
  simp only [toDocument_ok a pa, toDocument_ok b pb, Option.bind_some, sEqualDocument_ok a b pa, iEqualDocument_ok a b pa, eqDocument_ok a pa, eqDocument_ok b pb, beq_self_eq_true, Bool.not_true, cond_false]
end Go.Proofs.Ytiedhibpaooldaa
