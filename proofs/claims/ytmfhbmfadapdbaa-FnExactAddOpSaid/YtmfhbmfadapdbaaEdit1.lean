/- Plain laws: one edit; both sides alike. -/
import Derived.Test.YtmfhbmfadapdbaaLawsE
set_option linter.unusedSimpArgs false
set_option linter.unusedVariables false
namespace Go.Proofs.Ytmfhbmfadapdbaa
open Go.Abs Go.Proofs

theorem copyI (a : GNotebook) (h : (a.cells.length : Int) ≤ 16777216) : iCopyNotebook a = some a := by
  unfold iCopyNotebook; rw [gd_ok (by omega)]; rfl
theorem copyS (a : GNotebook) (h : (a.cells.length : Int) ≤ 16777216) : sL17Copy a = some a := by
  unfold sL17Copy; rw [gd_ok (by omega)]; rfl
theorem cutL_to {α : Type} (xs : List α) (n : Nat) (h : n ≤ xs.length) : eff.cutL xs none (some (n : Int)) = some (xs.take n) := by
  unfold eff.cutL
  simp only [Option.getD_none, Option.getD_some]
  rw [if_pos ⟨by omega, by omega, by omega⟩]
  simp
theorem cutL_from {α : Type} (xs : List α) (n : Nat) (h : n ≤ xs.length) : eff.cutL xs (some (n : Int)) none = some (xs.drop n) := by
  unfold eff.cutL
  simp only [Option.getD_none, Option.getD_some]
  rw [if_pos ⟨by omega, by omega, by omega⟩]
  simp
theorem put_eq (a : List GCell) (b : Int) (c : GCell) (h : (a.length : Int) ≤ 1048576) : ∃ n : Nat, n ≤ a.length ∧ sL20Put a b c = some (a.take n ++ [c] ++ a.drop n) ∧ iInserted a b c = some (a.take n ++ [c] ++ a.drop n) := by
  obtain ⟨n, hn, e⟩ : ∃ n : Nat, n ≤ a.length ∧ (if (if (a.length : Int) < b then (a.length : Int) else b) > 0 then (if (a.length : Int) < b then (a.length : Int) else b) else 0) = (n : Int) := by
    refine ⟨(if (if (a.length : Int) < b then (a.length : Int) else b) > 0 then (if (a.length : Int) < b then (a.length : Int) else b) else 0).toNat, ?_, ?_⟩
    · split <;> split <;> omega
    · split <;> split <;> omega
  have e1 : sL1Min b (a.length : Int) = some (if (a.length : Int) < b then (a.length : Int) else b) := by
    unfold sL1Min
    by_cases q : (a.length : Int) < b
    · rw [if_pos q, decide_eq_false (by omega), cond_false]
    · rw [if_neg q]
      by_cases q2 : b < (a.length : Int)
      · rw [decide_eq_true q2, cond_true]
      · rw [decide_eq_false q2, cond_false]; congr 1; omega
  have e2 : ∀ m : Int, sL1Max 0 m = some (if m > 0 then m else 0) := by
    intro m
    unfold sL1Max
    by_cases q : m > 0
    · rw [if_pos q, decide_eq_false (by omega), cond_false]
    · rw [if_neg q]
      by_cases q2 : (0 : Int) > m
      · rw [decide_eq_true q2, cond_true]
      · rw [decide_eq_false q2, cond_false]; congr 1; omega
  have g1 : gd (0 + (a.take n).length) = some () := gd_ok (by simp; omega)
  have g2 : gd (([] ++ a.take n).length + [c].length) = some () := gd_ok (by simp; omega)
  have g3 : gd ((([] ++ a.take n) ++ [c]).length + (a.drop n).length) = some () := gd_ok (by simp; omega)
  refine ⟨n, hn, ?_, ?_⟩
  · unfold sL20Put
    simp only [e1, e2, e, Option.bind_some, cutL_to a n hn, cutL_from a n hn, g1, g2, g3]
    rfl
  · unfold iInserted
    simp only [e, Option.bind_some, cutL_to a n hn, cutL_from a n hn, g1, g2, g3]
    rfl
theorem drop_eq (a : List GCell) (n : Nat) (hn : n < a.length) (h : (a.length : Int) ≤ 1048576) : sL20Drop a (n : Int) = some (a.take n ++ a.drop (n + 1)) ∧ iRemoved a (n : Int) = some (a.take n ++ a.drop (n + 1)) := by
  have hw : w64 ((n : Int) + 1) = ((n + 1 : Nat) : Int) := by rw [w64_id (by omega) (by omega)]; omega
  have g1 : gd (0 + (a.take n).length) = some () := gd_ok (by simp; omega)
  have g3 : gd (([] ++ a.take n).length + (a.drop (n + 1)).length) = some () := gd_ok (by simp; omega)
  constructor
  · unfold sL20Drop
    simp only [cutL_to a n (by omega), hw, cutL_from a (n + 1) (by omega), Option.bind_some, g1, g3]
    rfl
  · unfold iRemoved
    simp only [cutL_to a n (by omega), hw, cutL_from a (n + 1) (by omega), Option.bind_some, g1, g3]
    rfl

/-- a valid notebook is small, and its cells are valid -/
theorem allAt_get {α : Type} {p : α → Nat → Bool} : ∀ {xs : List α} {i : Nat}, allAt p xs i = true → ∀ (k : Nat) (x : α), xs[k]? = some x → p x (i + k) = true
  | [], i, _, k, x, h => by simp at h
  | y :: ys, i, h, k, x, hx => by
    unfold allAt at h
    rw [Bool.and_eq_true] at h
    cases k with
    | zero => simp at hx; subst hx; exact h.1
    | succ k =>
      have := allAt_get h.2 k x (by simpa using hx)
      rw [show i + (k + 1) = i + 1 + k by omega]; exact this
theorem cell_version {c : GCell} (h : cellB c = true) : 1 ≤ c.version ∧ c.version ≤ 999 := by
  unfold cellB sIsValidCell at h
  rw [sL1In_ok, sL1In_ok] at h
  simp only [Option.bind_some] at h
  by_cases q1 : (decide (1 ≤ c.id) && decide (c.id ≤ 999)) = true
  · rw [q1] at h
    simp only [Bool.not_true, cond_false] at h
    by_cases q2 : (decide (1 ≤ c.version) && decide (c.version ≤ 999)) = true
    · simpa using q2
    · have q2' : (decide (1 ≤ c.version) && decide (c.version ≤ 999)) = false := by simpa using q2
      rw [q2'] at h
      simp at h
  · have q1' : (decide (1 ≤ c.id) && decide (c.id ≤ 999)) = false := by simpa using q1
    rw [q1'] at h
    simp at h
theorem valid_small {n : GNotebook} (h0 : Fit B20 (.base .notebook) n) (hv : sIsValidNotebook n = some true) : (n.cells.length : Int) ≤ 8 ∧ ∀ (k : Nat) (x : GCell), n.cells[k]? = some x → 1 ≤ x.version ∧ x.version ≤ 999 := by
  rw [fit_notebook] at h0
  have h : n.cells.length < lim ∧ ∀ x ∈ n.cells, Fit B20 (.base .cell) x := ⟨lim20 (list20 h0), h0.list_mem⟩
  have e : sIsValidNotebook n = some (allAt (fun c i => cellB c && !(firstAt (fun d => d.id == c.id) n.cells 0 != (i : Int))) n.cells 0 && decide ((n.cells.length : Int) ≤ 8)) := by
    refine scan_all (fun i => ((n.cells, (i : Int)) : List GCell × Int)) n.cells _ _ (fun i x hx => ?_) ?_
    · obtain ⟨hlt, rfl⟩ := List.getElem?_eq_some_iff.1 hx
      obtain ⟨b, h1, h2⟩ := validCell_eq _ (h.2 _ (List.getElem_mem hlt))
      have hc : cellB n.cells[i] = b := by unfold cellB; rw [h2]; rfl
      simp only [lt_of_nat hlt, cond_true, idx_nat, hx, Option.bind_some, w64_succ hlt h.1, h2, hc, sCellIndex_ok ⟨n.cells⟩ _ h.1]
      cases b <;> cases (firstAt (fun d => d.id == n.cells[i].id) n.cells 0 != (i : Int)) <;> rfl
    · simp only [nlt_self, cond_false]
  rw [e] at hv
  simp only [Option.some.injEq, Bool.and_eq_true, decide_eq_true_eq] at hv
  refine ⟨hv.2, fun k x hx => ?_⟩
  have := allAt_get hv.1 k x hx
  simp only [Bool.and_eq_true] at this
  exact cell_version this.1

/-! one edit -/
theorem nb_fit {cs : List GCell} (hl : (cs.length : Int) ≤ 1048576) (h : ∀ x, x ∈ cs → Fit B20 (.base .cell) x) : Fit B20 (.base .notebook) (GNotebook.mk cs) := by
  rw [fit_notebook]; exact mkList20 hl h
theorem applyEdit_eq (a : GNotebook) (b : GEdit) (ha : Fit B20 (.base .notebook) a) (hb : Fit B20 (.base .edit) b) :
    ∃ w n, sApplyEdit a b = some (w, n) ∧ iApplyEdit a b = some (w, n) ∧ Fit B20 (.base .notebook) w := by
  obtain ⟨v, hvi, hvs⟩ := validNotebook_eq a ha
  have fa := ha; rw [fit_notebook] at fa
  have hl := list20 fa
  have hll : a.cells.length < lim := lim20 hl
  have hcm := fa.list_mem
  have fb := hb; rw [fit_edit] at fb
  have hcell := fb.2.2
  have fc := hcell; rw [fit_cell] at fc
  have cI := copyI a (by omega)
  have cS := copyS a (by omega)
  unfold sApplyEdit iApplyEdit
  rw [hvi, hvs, cI, cS]
  simp only [Option.bind_some]
  cases v with
  | false => exact ⟨a, 1, rfl, rfl, ha⟩
  | true =>
  obtain ⟨h8, hver⟩ := valid_small ha hvs
  simp only [Bool.not_true, cond_false, sL1In_ok, iWithin_ok, Option.bind_some]
  cases hk : (decide (1 ≤ b.kind) && decide (b.kind ≤ 6)) with
  | false => exact ⟨a, 1, rfl, rfl, ha⟩
  | true =>
  simp only [Bool.not_true, cond_false]
  unfold iChange
  simp only [sCellIndex_ok a _ hll, iCellIndex_ok a _ hll, Option.bind_some]
  simp only [Bool.and_eq_true, decide_eq_true_eq] at hk
  obtain ⟨vc, hvc1, hvc2⟩ := validCell_eq b.cell hcell
  have insFit : ∀ (xs : List GCell) (n : Nat) (c : GCell), n ≤ xs.length → (xs.length : Int) ≤ 8 → (∀ x, x ∈ xs → Fit B20 (.base .cell) x) → Fit B20 (.base .cell) c → Fit B20 (.base .notebook) (GNotebook.mk (xs.take n ++ [c] ++ xs.drop n)) := by
    intro xs n c hn h8 hx hc
    refine nb_fit (by simp; omega) fun x hm => ?_
    simp only [List.mem_append, List.mem_singleton] at hm
    rcases hm with (hm | hm) | hm
    · exact hx x (List.mem_of_mem_take hm)
    · subst hm; exact hc
    · exact hx x (List.mem_of_mem_drop hm)
  by_cases k1 : b.kind = 1
  · simp only [k1, beq_self_eq_true, cond_true, hvc1, hvc2, Option.bind_some]
    cases vc with
    | false => exact ⟨a, 1, rfl, by simp only [Bool.not_false, cond_true, Option.bind_some, cI], ha⟩
    | true =>
      simp only [Bool.not_true, cond_false]
      cases hj : decide (firstAt (fun c => c.id == b.cell.id) a.cells 0 ≥ 0) with
      | true => exact ⟨a, 3, rfl, by simp only [cond_true, Option.bind_some, cI], ha⟩
      | false =>
        simp only [cond_false]
        by_cases h8' : (a.cells.length : Int) = 8
        · simp only [h8', beq_self_eq_true, cond_true, show decide ((8 : Int) ≥ 8) = true from rfl, Option.bind_some, cI]
          exact ⟨a, 4, rfl, rfl, ha⟩
        · have e1 : ((a.cells.length : Int) == 8) = false := by simpa using h8'
          have e2 : decide ((a.cells.length : Int) ≥ 8) = false := decide_eq_false (by omega)
          obtain ⟨n, hn, p1, p2⟩ := put_eq a.cells b.pos b.cell hl
          simp only [e1, e2, cond_false, p1, p2, Option.bind_some]
          have hf := insFit a.cells n b.cell hn h8 hcm hcell
          have cI2 := copyI (GNotebook.mk (a.cells.take n ++ [b.cell] ++ a.cells.drop n)) (by simp; omega)
          rw [cI2]
          exact ⟨_, 0, rfl, rfl, hf⟩
  · have k1' : (b.kind == 1) = false := by simpa using k1
    simp only [k1', cond_false]
    rcases firstAt_idx (fun c : GCell => c.id == b.cell.id) a.cells 0 with hj | ⟨n, x, hj, hx⟩
    · rw [hj]
      exact ⟨a, 2, rfl, by simp only [show decide ((-1 : Int) < 0) = true from rfl, cond_true, Option.bind_some, cI], ha⟩
    · rw [hj, Nat.zero_add]
      have hn : n < a.cells.length := (List.getElem?_eq_some_iff.1 hx).1
      have hxm := hcm x (List.mem_of_getElem? hx)
      have fx := hxm; rw [fit_cell] at fx
      have hv := hver n x hx
      simp only [decide_eq_false (show ¬ ((n : Nat) : Int) < 0 by omega), cond_false, idx_nat, hx, Option.bind_some, Int.toNat_natCast]
      obtain ⟨d1, d2⟩ := drop_eq a.cells n hn hl
      have dropm : ∀ y, y ∈ a.cells.take n ++ a.cells.drop (n + 1) → Fit B20 (.base .cell) y := fun y hy => by
        rcases List.mem_append.1 hy with hy | hy
        · exact hcm y (List.mem_of_mem_take hy)
        · exact hcm y (List.mem_of_mem_drop hy)
      have dropl : ((a.cells.take n ++ a.cells.drop (n + 1)).length : Int) ≤ 8 := by simp; omega
      by_cases k2 : b.kind = 2
      · have c2 := copyI (GNotebook.mk (a.cells.take n ++ a.cells.drop (n + 1))) (by show ((a.cells.take n ++ a.cells.drop (n + 1)).length : Int) ≤ _; omega)
        simp only [k2, beq_self_eq_true, cond_true, d1, d2, Option.bind_some, c2]
        exact ⟨_, 0, rfl, rfl, nb_fit (by omega) dropm⟩
      have k2' : (b.kind == 2) = false := by simpa using k2
      by_cases k3 : b.kind = 3
      · obtain ⟨m, hm, p1, p2⟩ := put_eq (a.cells.take n ++ a.cells.drop (n + 1)) b.pos x (by omega)
        have hf := insFit _ m x hm dropl dropm hxm
        have fl : ((GNotebook.mk ((a.cells.take n ++ a.cells.drop (n + 1)).take m ++ [x] ++ (a.cells.take n ++ a.cells.drop (n + 1)).drop m)).cells.length : Int) ≤ 1048576 := by
          have := hf; rw [fit_notebook] at this; exact list20 this
        have c2 := copyI _ (show _ ≤ (16777216 : Int) from Int.le_trans fl (by omega))
        simp only [k3, k2', beq_self_eq_true, cond_true, cond_false, show ((3 : Int) == 2) = false from rfl, d1, d2, p1, p2, Option.bind_some, c2]
        exact ⟨_, 0, rfl, rfl, hf⟩
      have k3' : (b.kind == 3) = false := by simpa using k3
      -- a cell is turned
      have setFit : ∀ c : GCell, Fit B20 (.base .cell) c → Fit B20 (.base .notebook) (GNotebook.mk (a.cells.set n c)) := fun c hc => nb_fit (by simp; omega) fun y hy => by
        rcases List.mem_or_eq_of_mem_set hy with hy | hy
        · exact hcm y hy
        · subst hy; exact hc
      have setCopy : ∀ c : GCell, iCopyNotebook (GNotebook.mk (a.cells.set n c)) = some (GNotebook.mk (a.cells.set n c)) := fun c => copyI _ (by simp; omega)
      have wfv : (Lit.int .i64 (w64 (x.version + 1))).wf = true := by
        rw [w64_id (by omega) (by omega)]
        unfold Lit.wf
        simp [IntKind.wrap, IntKind.bits, IntKind.signed, IntKind.min, IntKind.max]
        omega
      simp only [k2', k3', cond_false]
      have h999 : (x.version == 999) = decide (x.version ≥ 999) := by
        by_cases q : x.version = 999
        · rw [q]; rfl
        · rw [decide_eq_false (by omega)]; simpa using q
      unfold sL20Cell
      by_cases k5 : b.kind = 5
      · have fcell : Fit B20 (.base .cell) (GCell.mk x.id x.version x.kind x.name x.code b.cell.n) := by
          rw [fit_cell]; exact ⟨fx.1, fx.2.1, fx.2.2.1, fx.2.2.2.1, fx.2.2.2.2.1, fc.2.2.2.2.2⟩
        obtain ⟨q, q1, q2⟩ := validCell_eq _ fcell
        simp only [k5, beq_self_eq_true, bne_self_i, show ((5 : Int) == 4) = false from rfl, cond_true, cond_false, q1, q2, Option.bind_some]
        cases hk3 : (x.kind != 3) with
        | true => exact ⟨a, 5, rfl, by simp only [cond_true, Option.bind_some, cI], ha⟩
        | false =>
          simp only [cond_false]
          cases q with
          | false => exact ⟨a, 1, rfl, by simp only [Bool.not_false, cond_true, Option.bind_some, cI], ha⟩
          | true => exact ⟨_, 0, rfl, by simp only [Bool.not_true, cond_false, Option.bind_some, cI, idx_nat, hx, Int.toNat_natCast, setCopy], setFit _ fcell⟩
      have k5' : (b.kind == 5) = false := by simpa using k5
      have k5n : (b.kind != 5) = true := by simpa using k5
      by_cases k4 : b.kind = 4
      · have fcell : Fit B20 (.base .cell) (GCell.mk x.id (w64 (x.version + 1)) x.kind b.cell.name b.cell.code x.n) := by
          rw [fit_cell]; exact ⟨fx.1, .int .i64 _ wfv, fx.2.2.1, fc.2.2.2.1, fc.2.2.2.2.1, fx.2.2.2.2.2⟩
        obtain ⟨q, q1, q2⟩ := validCell_eq _ fcell
        simp only [k4, k5', beq_self_eq_true, show ((4 : Int) == 5) = false from rfl, show ((4 : Int) == 6) = false from rfl, show ((4 : Int) != 5) = true from rfl, cond_true, cond_false, q1, q2, Option.bind_some, h999]
        cases hk3 : (x.kind == 3) with
        | true => exact ⟨a, 5, rfl, by simp only [cond_true, Option.bind_some, cI], ha⟩
        | false =>
          simp only [cond_false]
          cases hq : decide (x.version ≥ 999) with
          | true => exact ⟨a, 6, rfl, by simp only [cond_true, Option.bind_some, cI], ha⟩
          | false =>
            simp only [cond_false]
            cases q with
            | false => exact ⟨a, 1, rfl, by simp only [Bool.not_false, cond_true, Option.bind_some, cI], ha⟩
            | true => exact ⟨_, 0, rfl, by simp only [Bool.not_true, cond_false, Option.bind_some, cI, idx_nat, hx, Int.toNat_natCast, setCopy], setFit _ fcell⟩
      have k4' : (b.kind == 4) = false := by simpa using k4
      have k6 : b.kind = 6 := by omega
      have fcell : Fit B20 (.base .cell) (GCell.mk x.id (w64 (x.version + 1)) x.kind x.name x.code x.n) := by
        rw [fit_cell]; exact ⟨fx.1, .int .i64 _ wfv, fx.2.2.1, fx.2.2.2.1, fx.2.2.2.2.1, fx.2.2.2.2.2⟩
      obtain ⟨q, q1, q2⟩ := validCell_eq _ fcell
      simp only [k6, k5', k4', beq_self_eq_true, show ((6 : Int) == 4) = false from rfl, show ((6 : Int) == 5) = false from rfl, show ((6 : Int) != 5) = true from rfl, cond_true, cond_false, q1, q2, Option.bind_some, h999]
      cases hk3 : (x.kind != 2) with
      | true => exact ⟨a, 5, rfl, by simp only [cond_true, Option.bind_some, cI], ha⟩
      | false =>
        simp only [cond_false]
        cases hq : decide (x.version ≥ 999) with
        | true => exact ⟨a, 6, rfl, by simp only [cond_true, Option.bind_some, cI], ha⟩
        | false =>
          simp only [cond_false]
          cases q with
          | false => exact ⟨a, 1, rfl, by simp only [Bool.not_false, cond_true, Option.bind_some, cI], ha⟩
          | true => exact ⟨_, 0, rfl, by simp only [Bool.not_true, cond_false, Option.bind_some, cI, idx_nat, hx, Int.toNat_natCast, setCopy], setFit _ fcell⟩
end Go.Proofs.Ytmfhbmfadapdbaa
