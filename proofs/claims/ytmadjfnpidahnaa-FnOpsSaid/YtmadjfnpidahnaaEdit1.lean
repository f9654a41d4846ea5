/- Plain laws: one edit; both sides alike. Plain laws: batches of edits; ApplyBatch, IsNoChange. -/
import Derived.Test.YtmadjfnpidahnaaLawsE
import Derived.Test.YtmadjfnpidahnaaLawsD
set_option linter.unusedSimpArgs false
set_option linter.unusedVariables false
namespace Go.Proofs.Ytmadjfnpidahnaa
open Go.Abs Go.Proofs

theorem copyI (a : GNotebook) (h : (a.cells.length : Int) ≤ 16777216) : iCopyNotebook a = some a := by
  unfold iCopyNotebook; rw [gd_ok (by omega)]; rfl
theorem copyS (a : GNotebook) (h : (a.cells.length : Int) ≤ 16777216) : sL17Copy a = some a := by
  unfold sL17Copy; rw [gd_ok (by omega)]; rfl
theorem cutL_to {α : Type} (xs : List α) (n : Nat) (h : n ≤ xs.length) : eff.cutL xs none (some (n : Int)) = some (xs.take n) := by
  unfold eff.cutL
  simp only [Option.getD_none, Option.getD_some]
  rw [if_pos ⟨by omega, by omega, by omega⟩]
  simp
theorem cutL_from {α : Type} (xs : List α) (n : Nat) (h : n ≤ xs.length) : eff.cutL xs (some (n : Int)) none = some (xs.drop n) := by
  unfold eff.cutL
  simp only [Option.getD_none, Option.getD_some]
  rw [if_pos ⟨by omega, by omega, by omega⟩]
  simp
theorem put_eq (a : List GCell) (b : Int) (c : GCell) (h : (a.length : Int) ≤ 1048576) : ∃ n : Nat, n ≤ a.length ∧ sL20Put a b c = some (a.take n ++ [c] ++ a.drop n) ∧ iInserted a b c = some (a.take n ++ [c] ++ a.drop n) := by
  obtain ⟨n, hn, e⟩ : ∃ n : Nat, n ≤ a.length ∧ (if (if (a.length : Int) < b then (a.length : Int) else b) > 0 then (if (a.length : Int) < b then (a.length : Int) else b) else 0) = (n : Int) := by
    refine ⟨(if (if (a.length : Int) < b then (a.length : Int) else b) > 0 then (if (a.length : Int) < b then (a.length : Int) else b) else 0).toNat, ?_, ?_⟩
    · split <;> split <;> omega
    · split <;> split <;> omega
  have e1 : sL1Min b (a.length : Int) = some (if (a.length : Int) < b then (a.length : Int) else b) := by
    unfold sL1Min
    by_cases q : (a.length : Int) < b
    · rw [if_pos q, decide_eq_false (by omega), cond_false]
    · rw [if_neg q]
      by_cases q2 : b < (a.length : Int)
      · rw [decide_eq_true q2, cond_true]
      · rw [decide_eq_false q2, cond_false]; congr 1; omega
  have e2 : ∀ m : Int, sL1Max 0 m = some (if m > 0 then m else 0) := by
    intro m
    unfold sL1Max
    by_cases q : m > 0
    · rw [if_pos q, decide_eq_false (by omega), cond_false]
    · rw [if_neg q]
      by_cases q2 : (0 : Int) > m
      · rw [decide_eq_true q2, cond_true]
      · rw [decide_eq_false q2, cond_false]; congr 1; omega
  have g1 : gd (0 + (a.take n).length) = some () := gd_ok (by simp; omega)
  have g2 : gd (([] ++ a.take n).length + [c].length) = some () := gd_ok (by simp; omega)
  have g3 : gd ((([] ++ a.take n) ++ [c]).length + (a.drop n).length) = some () := gd_ok (by simp; omega)
  refine ⟨n, hn, ?_, ?_⟩
  · unfold sL20Put
    simp only [e1, e2, e, Option.bind_some, cutL_to a n hn, cutL_from a n hn, g1, g2, g3]
    rfl
  · unfold iInserted
    simp only [e, Option.bind_some, cutL_to a n hn, cutL_from a n hn, g1, g2, g3]
    rfl
theorem drop_eq (a : List GCell) (n : Nat) (hn : n < a.length) (h : (a.length : Int) ≤ 1048576) : sL20Drop a (n : Int) = some (a.take n ++ a.drop (n + 1)) ∧ iRemoved a (n : Int) = some (a.take n ++ a.drop (n + 1)) := by
  have hw : w64 ((n : Int) + 1) = ((n + 1 : Nat) : Int) := by rw [w64_id (by omega) (by omega)]; omega
  have g1 : gd (0 + (a.take n).length) = some () := gd_ok (by simp; omega)
  have g3 : gd (([] ++ a.take n).length + (a.drop (n + 1)).length) = some () := gd_ok (by simp; omega)
  constructor
  · unfold sL20Drop
    simp only [cutL_to a n (by omega), hw, cutL_from a (n + 1) (by omega), Option.bind_some, g1, g3]
    rfl
  · unfold iRemoved
    simp only [cutL_to a n (by omega), hw, cutL_from a (n + 1) (by omega), Option.bind_some, g1, g3]
    rfl

/-- a valid notebook is small, and its cells are valid -/
theorem allAt_get {α : Type} {p : α → Nat → Bool} : ∀ {xs : List α} {i : Nat}, allAt p xs i = true → ∀ (k : Nat) (x : α), xs[k]? = some x → p x (i + k) = true
  | [], i, _, k, x, h => by simp at h
  | y :: ys, i, h, k, x, hx => by
    unfold allAt at h
    rw [Bool.and_eq_true] at h
    cases k with
    | zero => simp at hx; subst hx; exact h.1
    | succ k =>
      have := allAt_get h.2 k x (by simpa using hx)
      rw [show i + (k + 1) = i + 1 + k by omega]; exact this
theorem cell_version {c : GCell} (h : cellB c = true) : 1 ≤ c.version ∧ c.version ≤ 999 := by
  unfold cellB sIsValidCell at h
  rw [sL1In_ok, sL1In_ok] at h
  simp only [Option.bind_some] at h
  by_cases q1 : (decide (1 ≤ c.id) && decide (c.id ≤ 999)) = true
  · rw [q1] at h
    simp only [Bool.not_true, cond_false] at h
    by_cases q2 : (decide (1 ≤ c.version) && decide (c.version ≤ 999)) = true
    · simpa using q2
    · have q2' : (decide (1 ≤ c.version) && decide (c.version ≤ 999)) = false := by simpa using q2
      rw [q2'] at h
      simp at h
  · have q1' : (decide (1 ≤ c.id) && decide (c.id ≤ 999)) = false := by simpa using q1
    rw [q1'] at h
    simp at h
theorem valid_small {n : GNotebook} (h0 : Fit B20 (.base .notebook) n) (hv : sIsValidNotebook n = some true) : (n.cells.length : Int) ≤ 8 ∧ ∀ (k : Nat) (x : GCell), n.cells[k]? = some x → 1 ≤ x.version ∧ x.version ≤ 999 := by
  rw [fit_notebook] at h0
  have h : n.cells.length < lim ∧ ∀ x ∈ n.cells, Fit B20 (.base .cell) x := ⟨lim20 (list20 h0), h0.list_mem⟩
  have e : sIsValidNotebook n = some (allAt (fun c i => cellB c && !(firstAt (fun d => d.id == c.id) n.cells 0 != (i : Int))) n.cells 0 && decide ((n.cells.length : Int) ≤ 8)) := by
    refine scan_all (fun i => ((n.cells, (i : Int)) : List GCell × Int)) n.cells _ _ (fun i x hx => ?_) ?_
    · obtain ⟨hlt, rfl⟩ := List.getElem?_eq_some_iff.1 hx
      obtain ⟨b, h1, h2⟩ := validCell_eq _ (h.2 _ (List.getElem_mem hlt))
      have hc : cellB n.cells[i] = b := by unfold cellB; rw [h2]; rfl
      simp only [lt_of_nat hlt, cond_true, idx_nat, hx, Option.bind_some, w64_succ hlt h.1, h2, hc, sCellIndex_ok ⟨n.cells⟩ _ h.1]
      cases b <;> cases (firstAt (fun d => d.id == n.cells[i].id) n.cells 0 != (i : Int)) <;> rfl
    · simp only [nlt_self, cond_false]
  rw [e] at hv
  simp only [Option.some.injEq, Bool.and_eq_true, decide_eq_true_eq] at hv
  refine ⟨hv.2, fun k x hx => ?_⟩
  have := allAt_get hv.1 k x hx
  simp only [Bool.and_eq_true] at this
  exact cell_version this.1

/-! one edit -/
theorem nb_fit {cs : List GCell} (hl : (cs.length : Int) ≤ 1048576) (h : ∀ x, x ∈ cs → Fit B20 (.base .cell) x) : Fit B20 (.base .notebook) (GNotebook.mk cs) := by
  rw [fit_notebook]; exact mkList20 hl h
theorem applyEdit_eq (a : GNotebook) (b : GEdit) (ha : Fit B20 (.base .notebook) a) (hb : Fit B20 (.base .edit) b) :
    ∃ w n, sApplyEdit a b = some (w, n) ∧ iApplyEdit a b = some (w, n) ∧ Fit B20 (.base .notebook) w := by
  obtain ⟨v, hvi, hvs⟩ := validNotebook_eq a ha
  have fa := ha; rw [fit_notebook] at fa
  have hl := list20 fa
  have hll : a.cells.length < lim := lim20 hl
  have hcm := fa.list_mem
  have fb := hb; rw [fit_edit] at fb
  have hcell := fb.2.2
  have fc := hcell; rw [fit_cell] at fc
  have cI := copyI a (by omega)
  have cS := copyS a (by omega)
  unfold sApplyEdit iApplyEdit
  rw [hvi, hvs, cI, cS]
  simp only [Option.bind_some]
  cases v with
  | false => exact ⟨a, 1, rfl, rfl, ha⟩
  | true =>
  obtain ⟨h8, hver⟩ := valid_small ha hvs
  simp only [Bool.not_true, cond_false, sL1In_ok, iWithin_ok, Option.bind_some]
  cases hk : (decide (1 ≤ b.kind) && decide (b.kind ≤ 6)) with
  | false => exact ⟨a, 1, rfl, rfl, ha⟩
  | true =>
  simp only [Bool.not_true, cond_false]
  unfold iChange
  simp only [sCellIndex_ok a _ hll, iCellIndex_ok a _ hll, Option.bind_some]
  simp only [Bool.and_eq_true, decide_eq_true_eq] at hk
  obtain ⟨vc, hvc1, hvc2⟩ := validCell_eq b.cell hcell
  have insFit : ∀ (xs : List GCell) (n : Nat) (c : GCell), n ≤ xs.length → (xs.length : Int) ≤ 8 → (∀ x, x ∈ xs → Fit B20 (.base .cell) x) → Fit B20 (.base .cell) c → Fit B20 (.base .notebook) (GNotebook.mk (xs.take n ++ [c] ++ xs.drop n)) := by
    intro xs n c hn h8 hx hc
    refine nb_fit (by simp; omega) fun x hm => ?_
    simp only [List.mem_append, List.mem_singleton] at hm
    rcases hm with (hm | hm) | hm
    · exact hx x (List.mem_of_mem_take hm)
    · subst hm; exact hc
    · exact hx x (List.mem_of_mem_drop hm)
  by_cases k1 : b.kind = 1
  · simp only [k1, beq_self_eq_true, cond_true, hvc1, hvc2, Option.bind_some]
    cases vc with
    | false => exact ⟨a, 1, rfl, by simp only [Bool.not_false, cond_true, Option.bind_some, cI], ha⟩
    | true =>
      simp only [Bool.not_true, cond_false]
      cases hj : decide (firstAt (fun c => c.id == b.cell.id) a.cells 0 ≥ 0) with
      | true => exact ⟨a, 3, rfl, by simp only [cond_true, Option.bind_some, cI], ha⟩
      | false =>
        simp only [cond_false]
        by_cases h8' : (a.cells.length : Int) = 8
        · simp only [h8', beq_self_eq_true, cond_true, show decide ((8 : Int) ≥ 8) = true from rfl, Option.bind_some, cI]
          exact ⟨a, 4, rfl, rfl, ha⟩
        · have e1 : ((a.cells.length : Int) == 8) = false := by simpa using h8'
          have e2 : decide ((a.cells.length : Int) ≥ 8) = false := decide_eq_false (by omega)
          obtain ⟨n, hn, p1, p2⟩ := put_eq a.cells b.pos b.cell hl
          simp only [e1, e2, cond_false, p1, p2, Option.bind_some]
          have hf := insFit a.cells n b.cell hn h8 hcm hcell
          have cI2 := copyI (GNotebook.mk (a.cells.take n ++ [b.cell] ++ a.cells.drop n)) (by simp; omega)
          rw [cI2]
          exact ⟨_, 0, rfl, rfl, hf⟩
  · have k1' : (b.kind == 1) = false := by simpa using k1
    simp only [k1', cond_false]
    rcases firstAt_idx (fun c : GCell => c.id == b.cell.id) a.cells 0 with hj | ⟨n, x, hj, hx⟩
    · rw [hj]
      exact ⟨a, 2, rfl, by simp only [show decide ((-1 : Int) < 0) = true from rfl, cond_true, Option.bind_some, cI], ha⟩
    · rw [hj, Nat.zero_add]
      have hn : n < a.cells.length := (List.getElem?_eq_some_iff.1 hx).1
      have hxm := hcm x (List.mem_of_getElem? hx)
      have fx := hxm; rw [fit_cell] at fx
      have hv := hver n x hx
      simp only [decide_eq_false (show ¬ ((n : Nat) : Int) < 0 by omega), cond_false, idx_nat, hx, Option.bind_some, Int.toNat_natCast]
      obtain ⟨d1, d2⟩ := drop_eq a.cells n hn hl
      have dropm : ∀ y, y ∈ a.cells.take n ++ a.cells.drop (n + 1) → Fit B20 (.base .cell) y := fun y hy => by
        rcases List.mem_append.1 hy with hy | hy
        · exact hcm y (List.mem_of_mem_take hy)
        · exact hcm y (List.mem_of_mem_drop hy)
      have dropl : ((a.cells.take n ++ a.cells.drop (n + 1)).length : Int) ≤ 8 := by simp; omega
      by_cases k2 : b.kind = 2
      · have c2 := copyI (GNotebook.mk (a.cells.take n ++ a.cells.drop (n + 1))) (by show ((a.cells.take n ++ a.cells.drop (n + 1)).length : Int) ≤ _; omega)
        simp only [k2, beq_self_eq_true, cond_true, d1, d2, Option.bind_some, c2]
        exact ⟨_, 0, rfl, rfl, nb_fit (by omega) dropm⟩
      have k2' : (b.kind == 2) = false := by simpa using k2
      by_cases k3 : b.kind = 3
      · obtain ⟨m, hm, p1, p2⟩ := put_eq (a.cells.take n ++ a.cells.drop (n + 1)) b.pos x (by omega)
        have hf := insFit _ m x hm dropl dropm hxm
        have fl : ((GNotebook.mk ((a.cells.take n ++ a.cells.drop (n + 1)).take m ++ [x] ++ (a.cells.take n ++ a.cells.drop (n + 1)).drop m)).cells.length : Int) ≤ 1048576 := by
          have := hf; rw [fit_notebook] at this; exact list20 this
        have c2 := copyI _ (show _ ≤ (16777216 : Int) from Int.le_trans fl (by omega))
        simp only [k3, k2', beq_self_eq_true, cond_true, cond_false, show ((3 : Int) == 2) = false from rfl, d1, d2, p1, p2, Option.bind_some, c2]
        exact ⟨_, 0, rfl, rfl, hf⟩
      have k3' : (b.kind == 3) = false := by simpa using k3
      -- a cell is turned
      have setFit : ∀ c : GCell, Fit B20 (.base .cell) c → Fit B20 (.base .notebook) (GNotebook.mk (a.cells.set n c)) := fun c hc => nb_fit (by simp; omega) fun y hy => by
        rcases List.mem_or_eq_of_mem_set hy with hy | hy
        · exact hcm y hy
        · subst hy; exact hc
      have setCopy : ∀ c : GCell, iCopyNotebook (GNotebook.mk (a.cells.set n c)) = some (GNotebook.mk (a.cells.set n c)) := fun c => copyI _ (by simp; omega)
      have wfv : (Lit.int .i64 (w64 (x.version + 1))).wf = true := by
        rw [w64_id (by omega) (by omega)]
        unfold Lit.wf
        simp [IntKind.wrap, IntKind.bits, IntKind.signed, IntKind.min, IntKind.max]
        omega
      simp only [k2', k3', cond_false]
      have h999 : (x.version == 999) = decide (x.version ≥ 999) := by
        by_cases q : x.version = 999
        · rw [q]; rfl
        · rw [decide_eq_false (by omega)]; simpa using q
      unfold sL20Cell
      by_cases k5 : b.kind = 5
      · have fcell : Fit B20 (.base .cell) (GCell.mk x.id x.version x.kind x.name x.code b.cell.n) := by
          rw [fit_cell]; exact ⟨fx.1, fx.2.1, fx.2.2.1, fx.2.2.2.1, fx.2.2.2.2.1, fc.2.2.2.2.2⟩
        obtain ⟨q, q1, q2⟩ := validCell_eq _ fcell
        simp only [k5, beq_self_eq_true, bne_self_i, show ((5 : Int) == 4) = false from rfl, cond_true, cond_false, q1, q2, Option.bind_some]
        cases hk3 : (x.kind != 3) with
        | true => exact ⟨a, 5, rfl, by simp only [cond_true, Option.bind_some, cI], ha⟩
        | false =>
          simp only [cond_false]
          cases q with
          | false => exact ⟨a, 1, rfl, by simp only [Bool.not_false, cond_true, Option.bind_some, cI], ha⟩
          | true => exact ⟨_, 0, rfl, by simp only [Bool.not_true, cond_false, Option.bind_some, cI, idx_nat, hx, Int.toNat_natCast, setCopy], setFit _ fcell⟩
      have k5' : (b.kind == 5) = false := by simpa using k5
      have k5n : (b.kind != 5) = true := by simpa using k5
      by_cases k4 : b.kind = 4
      · have fcell : Fit B20 (.base .cell) (GCell.mk x.id (w64 (x.version + 1)) x.kind b.cell.name b.cell.code x.n) := by
          rw [fit_cell]; exact ⟨fx.1, .int .i64 _ wfv, fx.2.2.1, fc.2.2.2.1, fc.2.2.2.2.1, fx.2.2.2.2.2⟩
        obtain ⟨q, q1, q2⟩ := validCell_eq _ fcell
        simp only [k4, k5', beq_self_eq_true, show ((4 : Int) == 5) = false from rfl, show ((4 : Int) == 6) = false from rfl, show ((4 : Int) != 5) = true from rfl, cond_true, cond_false, q1, q2, Option.bind_some, h999]
        cases hk3 : (x.kind == 3) with
        | true => exact ⟨a, 5, rfl, by simp only [cond_true, Option.bind_some, cI], ha⟩
        | false =>
          simp only [cond_false]
          cases hq : decide (x.version ≥ 999) with
          | true => exact ⟨a, 6, rfl, by simp only [cond_true, Option.bind_some, cI], ha⟩
          | false =>
            simp only [cond_false]
            cases q with
            | false => exact ⟨a, 1, rfl, by simp only [Bool.not_false, cond_true, Option.bind_some, cI], ha⟩
            | true => exact ⟨_, 0, rfl, by simp only [Bool.not_true, cond_false, Option.bind_some, cI, idx_nat, hx, Int.toNat_natCast, setCopy], setFit _ fcell⟩
      have k4' : (b.kind == 4) = false := by simpa using k4
      have k6 : b.kind = 6 := by omega
      have fcell : Fit B20 (.base .cell) (GCell.mk x.id (w64 (x.version + 1)) x.kind x.name x.code x.n) := by
        rw [fit_cell]; exact ⟨fx.1, .int .i64 _ wfv, fx.2.2.1, fx.2.2.2.1, fx.2.2.2.2.1, fx.2.2.2.2.2⟩
      obtain ⟨q, q1, q2⟩ := validCell_eq _ fcell
      simp only [k6, k5', k4', beq_self_eq_true, show ((6 : Int) == 4) = false from rfl, show ((6 : Int) == 5) = false from rfl, show ((6 : Int) != 5) = true from rfl, cond_true, cond_false, q1, q2, Option.bind_some, h999]
      cases hk3 : (x.kind != 2) with
      | true => exact ⟨a, 5, rfl, by simp only [cond_true, Option.bind_some, cI], ha⟩
      | false =>
        simp only [cond_false]
        cases hq : decide (x.version ≥ 999) with
        | true => exact ⟨a, 6, rfl, by simp only [cond_true, Option.bind_some, cI], ha⟩
        | false =>
          simp only [cond_false]
          cases q with
          | false => exact ⟨a, 1, rfl, by simp only [Bool.not_false, cond_true, Option.bind_some, cI], ha⟩
          | true => exact ⟨_, 0, rfl, by simp only [Bool.not_true, cond_false, Option.bind_some, cI, idx_nat, hx, Int.toNat_natCast, setCopy], setFit _ fcell⟩

/-- two loops over the places of a list that go alike -/
theorem loop_both {α σ ρ X Y : Type} {g1 : X → Option (X ⊕ ρ)} {g2 : Y → Option (Y ⊕ ρ)} (pk1 : σ → Nat → X) (pk2 : σ → Nat → Y) (xs : List α) (I : Nat → σ → Prop) (R : ρ → Prop)
    (hs : ∀ i x s, xs[i]? = some x → I i s → (∃ s', g1 (pk1 s i) = some (.inl (pk1 s' (i + 1))) ∧ g2 (pk2 s i) = some (.inl (pk2 s' (i + 1))) ∧ I (i + 1) s') ∨ ∃ r, g1 (pk1 s i) = some (.inr r) ∧ g2 (pk2 s i) = some (.inr r) ∧ R r)
    (he : ∀ s, I xs.length s → ∃ r, g1 (pk1 s xs.length) = some (.inr r) ∧ g2 (pk2 s xs.length) = some (.inr r) ∧ R r) (s : σ) (h0 : I 0 s) :
    ∃ r, loopD g1 (pk1 s 0) = some r ∧ loopD g2 (pk2 s 0) = some r ∧ R r := by
  have key : ∀ (n i : Nat) (s : σ), xs.length = i + n → I i s → ∃ r, loopD g1 (pk1 s i) = some r ∧ loopD g2 (pk2 s i) = some r ∧ R r := by
    intro n
    induction n with
    | zero =>
      intro i s hi hI
      have : i = xs.length := by omega
      subst this
      obtain ⟨r, e1, e2, hR⟩ := he s hI
      refine ⟨r, ?_, ?_, hR⟩
      · rw [loopD_eq, e1]
      · rw [loopD_eq, e2]
    | succ n ih =>
      intro i s hi hI
      have hlt : i < xs.length := by omega
      rcases hs i xs[i] s (List.getElem?_eq_getElem hlt) hI with ⟨s', e1, e2, hI'⟩ | ⟨r, e1, e2, hR⟩
      · obtain ⟨r, q1, q2, hR⟩ := ih (i + 1) s' (by omega) hI'
        refine ⟨r, ?_, ?_, hR⟩
        · rw [loopD_eq, e1]; exact q1
        · rw [loopD_eq, e2]; exact q2
      · refine ⟨r, ?_, ?_, hR⟩
        · rw [loopD_eq, e1]
        · rw [loopD_eq, e2]
  exact key xs.length 0 s (by omega) h0

theorem nb_len {a : GNotebook} (h : Fit B20 (.base .notebook) a) : (a.cells.length : Int) ≤ 1048576 := by
  rw [fit_notebook] at h; exact list20 h
theorem applyBatch_eq (a : GNotebook) (b : List GEdit) (ha : Fit B20 (.base .notebook) a) (hb : FitD B20 (.list (.base .edit) b)) :
    ∃ r, sApplyBatch a b = some r ∧ iApplyBatch a b = some r ∧ Fit B20 (.base .notebook) r.1 := by
  have hl := nb_len ha
  have hbl := list20 hb
  have hll : b.length < 4611686018427387904 := by omega
  unfold sApplyBatch iApplyBatch
  rw [copyI a (by omega), copyS a (by omega)]
  simp only [Option.bind_some]
  refine loop_both (fun (s : List GCell) (i : Nat) => (b, a.cells, [], s, (i : Int))) (fun (s : List GCell) (i : Nat) => (a.cells, [], s, b, (b.length : Int), (i : Int))) b
    (fun _ s => Fit B20 (.base .notebook) (GNotebook.mk s)) (fun (r : GNotebook × Int) => Fit B20 (.base .notebook) r.1) (fun i x s hx hI => ?_) (fun s hI => ?_) a.cells ha
  · obtain ⟨w, n, e1, e2, hw⟩ := applyEdit_eq (GNotebook.mk s) x hI (hb.list_mem x (List.mem_of_getElem? hx))
    simp only [dec_lt hx, cond_true, idx_nat, hx, Option.bind_some, e1, e2, w_succ hx hll]
    cases hn : (n != 0) with
    | true =>
      refine .inr ⟨(a, (i : Int)), ?_, ?_, ha⟩
      · simp only [cond_true, copyS (GNotebook.mk a.cells) (show (a.cells.length : Int) ≤ _ by omega), Option.bind_some]
      · simp only [cond_true, copyI (GNotebook.mk a.cells) (show (a.cells.length : Int) ≤ _ by omega), Option.bind_some]
    | false => exact .inl ⟨w.cells, rfl, rfl, hw⟩
  · simp only [Int.lt_irrefl, decide_false, cond_false]
    exact ⟨_, rfl, rfl, hI⟩
def uncell (c : GCell) : GCell := GCell.mk c.id 0 c.kind c.name c.code c.n
/-- a loop that turns every element in its place -/
theorem mapLoop {α X ρ : Type} {g : X → Option (X ⊕ ρ)} (pk : List α → Nat → X) (L : Nat) (f : α → α) (fin : List α → Option ρ)
    (hs : ∀ (xs : List α) (i : Nat) (x : α), xs[i]? = some x → xs.length = L → g (pk xs i) = some (.inl (pk (xs.set i (f x)) (i + 1))))
    (he : ∀ (xs : List α), xs.length = L → g (pk xs L) = (fin xs).bind fun r => some (.inr r)) (xs : List α) (hl : xs.length = L) : loopD g (pk xs 0) = fin (xs.map f) := by
  have key : ∀ (n i : Nat) (xs : List α), L = i + n → xs.length = L → loopD g (pk xs i) = fin (xs.take i ++ (xs.drop i).map f) := by
    intro n
    induction n with
    | zero =>
      intro i xs hi hl
      have : i = xs.length := by omega
      subst this
      rw [hl, loopD_eq, he xs hl]
      rw [← hl]
      simp only [List.take_length, List.drop_length, List.map_nil, List.append_nil]
      cases fin xs <;> rfl
    | succ n ih =>
      intro i xs hi hl
      have hlt : i < xs.length := by omega
      rw [loopD_eq, hs xs i xs[i] (List.getElem?_eq_getElem hlt) hl]
      simp only
      rw [ih (i + 1) (xs.set i (f xs[i])) (by omega) (by simpa using hl)]
      congr 1
      rw [List.drop_eq_getElem_cons hlt, List.map_cons]
      apply List.ext_getElem?
      intro j
      simp only [List.getElem?_append, List.getElem?_take, List.length_take, List.length_set, List.getElem?_set, List.getElem?_map, List.getElem?_drop, List.getElem?_cons]
      have m1 : min (i + 1) xs.length = i + 1 := by omega
      have m2 : min i xs.length = i := by omega
      rw [m1, m2]
      by_cases h1 : j < i
      · have a1 : j < i + 1 := by omega
        have a2 : ¬ i = j := by omega
        simp [h1, a1, a2]
      · by_cases h2 : j = i
        · subst h2; simp [hlt]
        · have a1 : ¬ j < i + 1 := by omega
          have a2 : ¬ i = i + 1 + (j - (i + 1)) := by omega
          have a3 : ¬ j - i = 0 := by omega
          have a4 : j - i - 1 = j - (i + 1) := by omega
          simp [h1, a1, a2, a3, a4]
  simpa using key L 0 xs (by omega) hl
theorem unversioned_ok (a : GNotebook) (h : (a.cells.length : Int) ≤ 1048576) : iUnversioned a = some (GNotebook.mk (a.cells.map uncell)) := by
  unfold iUnversioned
  rw [copyI a (by omega), Option.bind_some]
  refine mapLoop (fun (xs : List GCell) (i : Nat) => (([], xs, (a.cells.length : Int), (i : Int)) : List GCell × List GCell × Int × Int)) a.cells.length uncell (fun xs => some (GNotebook.mk xs)) (fun xs i x hx hl => ?_) (fun xs hl => ?_) a.cells rfl
  · have hd : decide ((i : Int) < (a.cells.length : Int)) = true := by rw [← hl]; exact dec_lt hx
    simp only [hd, cond_true, idx_nat, hx, Int.toNat_natCast, Option.bind_some, w_succ hx (by omega)]
    rfl
  · simp only [Int.lt_irrefl, decide_false, cond_false]; rfl
theorem sameContentS (a b : GNotebook) (ha : (a.cells.length : Int) ≤ 1048576) (hb : (b.cells.length : Int) ≤ 1048576) : sSameContent a b = some (eqd (GNotebook.mk (a.cells.map uncell)) (GNotebook.mk (b.cells.map uncell))) := by
  unfold sSameContent
  rw [copyS a (by omega), copyS b (by omega), Option.bind_some, Option.bind_some]
  have e := sEqualNotebook_ok (GNotebook.mk (a.cells.map uncell)) (GNotebook.mk (b.cells.map uncell)) (by show (a.cells.map uncell).length < lim; rw [List.length_map]; exact lim20 ha)
  have inner : ∀ xs : List GCell, loopD (fun (x6 : (List GCell) × (List GCell) × Int) =>
          bif (decide (x6.2.2 < (x6.2.1.length : Int))) then
            (idx x6.2.1 x6.2.2).bind fun _ =>
            (x6.2.1[x6.2.2.toNat]?).bind fun e8 =>
            some (.inl (x6.1, x6.2.1.set x6.2.2.toNat (GCell.mk e8.id 0 e8.kind e8.name e8.code e8.n), w64 (x6.2.2 + 1)))
          else
            (
              (sEqualNotebook (GNotebook.mk x6.1) (GNotebook.mk x6.2.1)).bind fun r9 =>
              some (r9)
            ).bind fun r => some (.inr r)) (xs, b.cells, 0) = (sEqualNotebook (GNotebook.mk xs) (GNotebook.mk (b.cells.map uncell))).bind fun r => some r := by
    intro xs
    refine mapLoop (fun (ys : List GCell) (i : Nat) => ((xs, ys, (i : Int)) : List GCell × List GCell × Int)) b.cells.length uncell (fun ys => (sEqualNotebook (GNotebook.mk xs) (GNotebook.mk ys)).bind fun r => some r) (fun ys i y hy hl => ?_) (fun ys hl => ?_) b.cells rfl
    · simp only [dec_lt hy, cond_true, idx_nat, hy, Int.toNat_natCast, Option.bind_some, w_succ hy (by omega)]
      rfl
    · rw [← hl]; simp only [Int.lt_irrefl, decide_false, cond_false]
  refine (mapLoop (fun (xs : List GCell) (i : Nat) => ((xs, b.cells, (i : Int)) : List GCell × List GCell × Int)) a.cells.length uncell (fun xs => (sEqualNotebook (GNotebook.mk xs) (GNotebook.mk (b.cells.map uncell))).bind fun r => some r) (fun xs i x hx hl => ?_) (fun xs hl => ?_) a.cells rfl).trans ?_
  · simp only [dec_lt hx, cond_true, idx_nat, hx, Int.toNat_natCast, Option.bind_some, w_succ hx (by omega)]
    rfl
  · rw [← hl]; simp only [Int.lt_irrefl, decide_false, cond_false, inner]
  · rw [e]; rfl
theorem sameContentI (a b : GNotebook) (ha : (a.cells.length : Int) ≤ 1048576) (hb : (b.cells.length : Int) ≤ 1048576) : iSameContent a b = some (eqd (GNotebook.mk (a.cells.map uncell)) (GNotebook.mk (b.cells.map uncell))) := by
  unfold iSameContent
  rw [unversioned_ok a ha, unversioned_ok b hb, Option.bind_some, Option.bind_some, iEqualNotebook_ok _ _ (by show (a.cells.map uncell).length < lim; rw [List.length_map]; exact lim20 ha)]
  rfl
theorem eqd_symm {α : Type} (a b : α) : eqd a b = eqd b a := by
  rw [Bool.eq_iff_iff, eqd_iff, eqd_iff]; exact eq_comm
end Go.Proofs.Ytmadjfnpidahnaa
