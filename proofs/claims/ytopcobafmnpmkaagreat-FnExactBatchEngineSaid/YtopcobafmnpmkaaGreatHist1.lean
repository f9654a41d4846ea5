/- Plain laws with marks: ChangedVersions, NewHistory, PathTo. Plain laws: one edit; both sides alike. Plain laws: batches of edits; ApplyBatch, IsNoChange. Plain laws with marks: PathTo, NewReplica. Plain laws with marks: SeenBy. Plain laws: inverse edits and batches, copies and steps of histories; both sides alike. Plain laws: UndoEdits, RedoEdits, DoEdits. Plain laws: GoTo. -/
import Derived.Test.YtopcobafmnpmkaaGreatMarks
import Derived.Test.YtopcobafmnpmkaaGreatPlain4
import Derived.Test.YtopcobafmnpmkaaGreatPlain6
import Derived.Test.YtopcobafmnpmkaaGreatLawsD
set_option linter.unusedSimpArgs false
set_option linter.unusedVariables false
namespace Go.Proofs.YtopcobafmnpmkaaGreat
open Go.Abs Go.Proofs

theorem loop_foldI {α σ ρ X : Type} {g : X → Option (X ⊕ ρ)} (pk : σ → Nat → X) (xs : List α) (f : σ → α → σ) (fin : σ → ρ) (I : Nat → σ → Prop)
    (hI : ∀ i x s, xs[i]? = some x → I i s → I (i + 1) (f s x))
    (h1 : ∀ i x s, xs[i]? = some x → I i s → g (pk s i) = some (.inl (pk (f s x) (i + 1))))
    (h2 : ∀ s, I xs.length s → g (pk s xs.length) = some (.inr (fin s))) (s : σ) (h0 : I 0 s) : loopD g (pk s 0) = some (fin (xs.foldl f s)) ∧ I xs.length (xs.foldl f s) := by
  have key : ∀ (n i : Nat) (s : σ), xs.length = i + n → I i s → loopD g (pk s i) = some (fin ((xs.drop i).foldl f s)) ∧ I xs.length ((xs.drop i).foldl f s) := by
    intro n
    induction n with
    | zero =>
      intro i s hi hs
      rw [List.drop_eq_nil_of_le (by omega), loopD_eq]
      have : i = xs.length := by omega
      subst this
      rw [h2 s hs]
      exact ⟨rfl, hs⟩
    | succ n ih =>
      intro i s hi hs
      have hlt : i < xs.length := by omega
      have hx := List.getElem?_eq_getElem hlt
      rw [List.drop_eq_getElem_cons hlt, loopD_eq, h1 i xs[i] s hx hs]
      exact ih (i + 1) (f s xs[i]) (by omega) (hI i xs[i] s hx hs)
  simpa using key xs.length 0 s (by omega) h0
theorem gd_ok {n : Nat} (h : n ≤ 34359738368) : gd n = some () := by unfold gd; rw [if_pos h]
theorem firstAt_idx {α : Type} (p : α → Bool) : ∀ (xs : List α) (i : Nat), firstAt p xs i = -1 ∨ ∃ (n : Nat) (x : α), firstAt p xs i = ((i + n : Nat) : Int) ∧ xs[n]? = some x
  | [], i => .inl rfl
  | y :: ys, i => by
    unfold firstAt
    cases hp : p y with
    | true => exact .inr ⟨0, y, by simp, rfl⟩
    | false =>
      rcases firstAt_idx p ys (i + 1) with h | ⟨n, x, h, hx⟩
      · exact .inl (by simpa using h)
      · refine .inr ⟨n + 1, x, ?_, by simpa using hx⟩
        have : i + 1 + n = i + (n + 1) := by omega
        rw [← this]; simpa using h
theorem eqIntS_len (xs : List Int) (h : xs.length < lim) : eqIntS xs xs = some true := by
  unfold eqIntS
  have e : ((xs.length : Int) != (xs.length : Int)) = false := by simp
  rw [e, cond_false]
  exact eqLoop (fun e e' => some (e == e')) xs (fun _ _ => by simp) h

/-! ChangedVersions -/
def cvStep (bs : List GCell) (s : List Int) (c : GCell) : List Int :=
  bif decide (firstAt (fun d => d.id == c.id) bs 0 ≥ 0) then
    match idx bs (firstAt (fun d => d.id == c.id) bs 0) with
    | some d => bif (d.version != c.version) then s ++ [c.id] else s
    | none => s
  else s
theorem cvStep_len (bs : List GCell) (s : List Int) (c : GCell) : (cvStep bs s c).length ≤ s.length + 1 := by
  unfold cvStep
  cases decide (firstAt (fun d => d.id == c.id) bs 0 ≥ 0) with
  | false => simp
  | true =>
    simp only [cond_true]
    split
    · rename_i d _
      cases (d.version != c.version) <;> simp
    · simp


theorem ints_ok {w : List Int} (h : (w.length : Int) ≤ 16777216) : OkIntS w ∧ cntIntS w ≤ 16777216 := by
  refine ⟨by unfold OkIntS; omega, ?_⟩
  have := sum_le (fun _ => 1) w 1 (fun _ _ => Nat.le_refl 1)
  unfold cntIntS; omega
theorem hist_mk {x y : GHistory} (h : y.pos = x.pos) : GHistory.mk y.notebook y.nodes x.pos = y := by rw [← h]

theorem copyI (a : GNotebook) (h : (a.cells.length : Int) ≤ 16777216) : iCopyNotebook a = some a := by
  unfold iCopyNotebook; rw [gd_ok (by omega)]; rfl
theorem copyS (a : GNotebook) (h : (a.cells.length : Int) ≤ 16777216) : sL17Copy a = some a := by
  unfold sL17Copy; rw [gd_ok (by omega)]; rfl
theorem cutL_to {α : Type} (xs : List α) (n : Nat) (h : n ≤ xs.length) : eff.cutL xs none (some (n : Int)) = some (xs.take n) := by
  unfold eff.cutL
  simp only [Option.getD_none, Option.getD_some]
  rw [if_pos ⟨by omega, by omega, by omega⟩]
  simp
theorem cutL_from {α : Type} (xs : List α) (n : Nat) (h : n ≤ xs.length) : eff.cutL xs (some (n : Int)) none = some (xs.drop n) := by
  unfold eff.cutL
  simp only [Option.getD_none, Option.getD_some]
  rw [if_pos ⟨by omega, by omega, by omega⟩]
  simp
theorem put_eq (a : List GCell) (b : Int) (c : GCell) (h : (a.length : Int) ≤ 1048576) : ∃ n : Nat, n ≤ a.length ∧ sL20Put a b c = some (a.take n ++ [c] ++ a.drop n) ∧ iInserted a b c = some (a.take n ++ [c] ++ a.drop n) := by
  obtain ⟨n, hn, e⟩ : ∃ n : Nat, n ≤ a.length ∧ (if (if (a.length : Int) < b then (a.length : Int) else b) > 0 then (if (a.length : Int) < b then (a.length : Int) else b) else 0) = (n : Int) := by
    refine ⟨(if (if (a.length : Int) < b then (a.length : Int) else b) > 0 then (if (a.length : Int) < b then (a.length : Int) else b) else 0).toNat, ?_, ?_⟩
    · split <;> split <;> omega
    · split <;> split <;> omega
  have e1 : sL1Min b (a.length : Int) = some (if (a.length : Int) < b then (a.length : Int) else b) := by
    unfold sL1Min
    by_cases q : (a.length : Int) < b
    · rw [if_pos q, decide_eq_false (by omega), cond_false]
    · rw [if_neg q]
      by_cases q2 : b < (a.length : Int)
      · rw [decide_eq_true q2, cond_true]
      · rw [decide_eq_false q2, cond_false]; congr 1; omega
  have e2 : ∀ m : Int, sL1Max 0 m = some (if m > 0 then m else 0) := by
    intro m
    unfold sL1Max
    by_cases q : m > 0
    · rw [if_pos q, decide_eq_false (by omega), cond_false]
    · rw [if_neg q]
      by_cases q2 : (0 : Int) > m
      · rw [decide_eq_true q2, cond_true]
      · rw [decide_eq_false q2, cond_false]; congr 1; omega
  have g1 : gd (0 + (a.take n).length) = some () := gd_ok (by simp; omega)
  have g2 : gd (([] ++ a.take n).length + [c].length) = some () := gd_ok (by simp; omega)
  have g3 : gd ((([] ++ a.take n) ++ [c]).length + (a.drop n).length) = some () := gd_ok (by simp; omega)
  refine ⟨n, hn, ?_, ?_⟩
  · unfold sL20Put
    simp only [e1, e2, e, Option.bind_some, cutL_to a n hn, cutL_from a n hn, g1, g2, g3]
    rfl
  · unfold iInserted
    simp only [e, Option.bind_some, cutL_to a n hn, cutL_from a n hn, g1, g2, g3]
    rfl
theorem drop_eq (a : List GCell) (n : Nat) (hn : n < a.length) (h : (a.length : Int) ≤ 1048576) : sL20Drop a (n : Int) = some (a.take n ++ a.drop (n + 1)) ∧ iRemoved a (n : Int) = some (a.take n ++ a.drop (n + 1)) := by
  have hw : w64 ((n : Int) + 1) = ((n + 1 : Nat) : Int) := by rw [w64_id (by omega) (by omega)]; omega
  have g1 : gd (0 + (a.take n).length) = some () := gd_ok (by simp; omega)
  have g3 : gd (([] ++ a.take n).length + (a.drop (n + 1)).length) = some () := gd_ok (by simp; omega)
  constructor
  · unfold sL20Drop
    simp only [cutL_to a n (by omega), hw, cutL_from a (n + 1) (by omega), Option.bind_some, g1, g3]
    rfl
  · unfold iRemoved
    simp only [cutL_to a n (by omega), hw, cutL_from a (n + 1) (by omega), Option.bind_some, g1, g3]
    rfl

/-- a valid notebook is small, and its cells are valid -/
theorem allAt_get {α : Type} {p : α → Nat → Bool} : ∀ {xs : List α} {i : Nat}, allAt p xs i = true → ∀ (k : Nat) (x : α), xs[k]? = some x → p x (i + k) = true
  | [], i, _, k, x, h => by simp at h
  | y :: ys, i, h, k, x, hx => by
    unfold allAt at h
    rw [Bool.and_eq_true] at h
    cases k with
    | zero => simp at hx; subst hx; exact h.1
    | succ k =>
      have := allAt_get h.2 k x (by simpa using hx)
      rw [show i + (k + 1) = i + 1 + k by omega]; exact this
theorem cell_version {c : GCell} (h : cellB c = true) : 1 ≤ c.version ∧ c.version ≤ 999 := by
  unfold cellB sIsValidCell at h
  rw [sL1In_ok, sL1In_ok] at h
  simp only [Option.bind_some] at h
  by_cases q1 : (decide (1 ≤ c.id) && decide (c.id ≤ 999)) = true
  · rw [q1] at h
    simp only [Bool.not_true, cond_false] at h
    by_cases q2 : (decide (1 ≤ c.version) && decide (c.version ≤ 999)) = true
    · simpa using q2
    · have q2' : (decide (1 ≤ c.version) && decide (c.version ≤ 999)) = false := by simpa using q2
      rw [q2'] at h
      simp at h
  · have q1' : (decide (1 ≤ c.id) && decide (c.id ≤ 999)) = false := by simpa using q1
    rw [q1'] at h
    simp at h
theorem valid_small {n : GNotebook} (h0 : Fit B20 (.base .notebook) n) (hv : sIsValidNotebook n = some true) : (n.cells.length : Int) ≤ 8 ∧ ∀ (k : Nat) (x : GCell), n.cells[k]? = some x → 1 ≤ x.version ∧ x.version ≤ 999 := by
  rw [fit_notebook] at h0
  have h : n.cells.length < lim ∧ ∀ x ∈ n.cells, Fit B20 (.base .cell) x := ⟨lim20 (list20 h0), h0.list_mem⟩
  have e : sIsValidNotebook n = some (allAt (fun c i => cellB c && !(firstAt (fun d => d.id == c.id) n.cells 0 != (i : Int))) n.cells 0 && decide ((n.cells.length : Int) ≤ 8)) := by
    refine scan_all (fun i => ((n.cells, (i : Int)) : List GCell × Int)) n.cells _ _ (fun i x hx => ?_) ?_
    · obtain ⟨hlt, rfl⟩ := List.getElem?_eq_some_iff.1 hx
      obtain ⟨b, h1, h2⟩ := validCell_eq _ (h.2 _ (List.getElem_mem hlt))
      have hc : cellB n.cells[i] = b := by unfold cellB; rw [h2]; rfl
      simp only [lt_of_nat hlt, cond_true, idx_nat, hx, Option.bind_some, w64_succ hlt h.1, h2, hc, sCellIndex_ok ⟨n.cells⟩ _ h.1]
      cases b <;> cases (firstAt (fun d => d.id == n.cells[i].id) n.cells 0 != (i : Int)) <;> rfl
    · simp only [nlt_self, cond_false]
  rw [e] at hv
  simp only [Option.some.injEq, Bool.and_eq_true, decide_eq_true_eq] at hv
  refine ⟨hv.2, fun k x hx => ?_⟩
  have := allAt_get hv.1 k x hx
  simp only [Bool.and_eq_true] at this
  exact cell_version this.1

/-! one edit -/
theorem nb_fit {cs : List GCell} (hl : (cs.length : Int) ≤ 1048576) (h : ∀ x, x ∈ cs → Fit B20 (.base .cell) x) : Fit B20 (.base .notebook) (GNotebook.mk cs) := by
  rw [fit_notebook]; exact mkList20 hl h
theorem applyEdit_eq (a : GNotebook) (b : GEdit) (ha : Fit B20 (.base .notebook) a) (hb : Fit B20 (.base .edit) b) :
    ∃ w n, sApplyEdit a b = some (w, n) ∧ iApplyEdit a b = some (w, n) ∧ Fit B20 (.base .notebook) w := by
  obtain ⟨v, hvi, hvs⟩ := validNotebook_eq a ha
  have fa := ha; rw [fit_notebook] at fa
  have hl := list20 fa
  have hll : a.cells.length < lim := lim20 hl
  have hcm := fa.list_mem
  have fb := hb; rw [fit_edit] at fb
  have hcell := fb.2.2
  have fc := hcell; rw [fit_cell] at fc
  have cI := copyI a (by omega)
  have cS := copyS a (by omega)
  unfold sApplyEdit iApplyEdit
  rw [hvi, hvs, cI, cS]
  simp only [Option.bind_some]
  cases v with
  | false => exact ⟨a, 1, rfl, rfl, ha⟩
  | true =>
  obtain ⟨h8, hver⟩ := valid_small ha hvs
  simp only [Bool.not_true, cond_false, sL1In_ok, iWithin_ok, Option.bind_some]
  cases hk : (decide (1 ≤ b.kind) && decide (b.kind ≤ 6)) with
  | false => exact ⟨a, 1, rfl, rfl, ha⟩
  | true =>
  simp only [Bool.not_true, cond_false]
  unfold iChange
  simp only [sCellIndex_ok a _ hll, iCellIndex_ok a _ hll, Option.bind_some]
  simp only [Bool.and_eq_true, decide_eq_true_eq] at hk
  obtain ⟨vc, hvc1, hvc2⟩ := validCell_eq b.cell hcell
  have insFit : ∀ (xs : List GCell) (n : Nat) (c : GCell), n ≤ xs.length → (xs.length : Int) ≤ 8 → (∀ x, x ∈ xs → Fit B20 (.base .cell) x) → Fit B20 (.base .cell) c → Fit B20 (.base .notebook) (GNotebook.mk (xs.take n ++ [c] ++ xs.drop n)) := by
    intro xs n c hn h8 hx hc
    refine nb_fit (by simp; omega) fun x hm => ?_
    simp only [List.mem_append, List.mem_singleton] at hm
    rcases hm with (hm | hm) | hm
    · exact hx x (List.mem_of_mem_take hm)
    · subst hm; exact hc
    · exact hx x (List.mem_of_mem_drop hm)
  by_cases k1 : b.kind = 1
  · simp only [k1, beq_self_eq_true, cond_true, hvc1, hvc2, Option.bind_some]
    cases vc with
    | false => exact ⟨a, 1, rfl, by simp only [Bool.not_false, cond_true, Option.bind_some, cI], ha⟩
    | true =>
      simp only [Bool.not_true, cond_false]
      cases hj : decide (firstAt (fun c => c.id == b.cell.id) a.cells 0 ≥ 0) with
      | true => exact ⟨a, 3, rfl, by simp only [cond_true, Option.bind_some, cI], ha⟩
      | false =>
        simp only [cond_false]
        by_cases h8' : (a.cells.length : Int) = 8
        · simp only [h8', beq_self_eq_true, cond_true, show decide ((8 : Int) ≥ 8) = true from rfl, Option.bind_some, cI]
          exact ⟨a, 4, rfl, rfl, ha⟩
        · have e1 : ((a.cells.length : Int) == 8) = false := by simpa using h8'
          have e2 : decide ((a.cells.length : Int) ≥ 8) = false := decide_eq_false (by omega)
          obtain ⟨n, hn, p1, p2⟩ := put_eq a.cells b.pos b.cell hl
          simp only [e1, e2, cond_false, p1, p2, Option.bind_some]
          have hf := insFit a.cells n b.cell hn h8 hcm hcell
          have cI2 := copyI (GNotebook.mk (a.cells.take n ++ [b.cell] ++ a.cells.drop n)) (by simp; omega)
          rw [cI2]
          exact ⟨_, 0, rfl, rfl, hf⟩
  · have k1' : (b.kind == 1) = false := by simpa using k1
    simp only [k1', cond_false]
    rcases firstAt_idx (fun c : GCell => c.id == b.cell.id) a.cells 0 with hj | ⟨n, x, hj, hx⟩
    · rw [hj]
      exact ⟨a, 2, rfl, by simp only [show decide ((-1 : Int) < 0) = true from rfl, cond_true, Option.bind_some, cI], ha⟩
    · rw [hj, Nat.zero_add]
      have hn : n < a.cells.length := (List.getElem?_eq_some_iff.1 hx).1
      have hxm := hcm x (List.mem_of_getElem? hx)
      have fx := hxm; rw [fit_cell] at fx
      have hv := hver n x hx
      simp only [decide_eq_false (show ¬ ((n : Nat) : Int) < 0 by omega), cond_false, idx_nat, hx, Option.bind_some, Int.toNat_natCast]
      obtain ⟨d1, d2⟩ := drop_eq a.cells n hn hl
      have dropm : ∀ y, y ∈ a.cells.take n ++ a.cells.drop (n + 1) → Fit B20 (.base .cell) y := fun y hy => by
        rcases List.mem_append.1 hy with hy | hy
        · exact hcm y (List.mem_of_mem_take hy)
        · exact hcm y (List.mem_of_mem_drop hy)
      have dropl : ((a.cells.take n ++ a.cells.drop (n + 1)).length : Int) ≤ 8 := by simp; omega
      by_cases k2 : b.kind = 2
      · have c2 := copyI (GNotebook.mk (a.cells.take n ++ a.cells.drop (n + 1))) (by show ((a.cells.take n ++ a.cells.drop (n + 1)).length : Int) ≤ _; omega)
        simp only [k2, beq_self_eq_true, cond_true, d1, d2, Option.bind_some, c2]
        exact ⟨_, 0, rfl, rfl, nb_fit (by omega) dropm⟩
      have k2' : (b.kind == 2) = false := by simpa using k2
      by_cases k3 : b.kind = 3
      · obtain ⟨m, hm, p1, p2⟩ := put_eq (a.cells.take n ++ a.cells.drop (n + 1)) b.pos x (by omega)
        have hf := insFit _ m x hm dropl dropm hxm
        have fl : ((GNotebook.mk ((a.cells.take n ++ a.cells.drop (n + 1)).take m ++ [x] ++ (a.cells.take n ++ a.cells.drop (n + 1)).drop m)).cells.length : Int) ≤ 1048576 := by
          have := hf; rw [fit_notebook] at this; exact list20 this
        have c2 := copyI _ (show _ ≤ (16777216 : Int) from Int.le_trans fl (by omega))
        simp only [k3, k2', beq_self_eq_true, cond_true, cond_false, show ((3 : Int) == 2) = false from rfl, d1, d2, p1, p2, Option.bind_some, c2]
        exact ⟨_, 0, rfl, rfl, hf⟩
      have k3' : (b.kind == 3) = false := by simpa using k3
      -- a cell is turned
      have setFit : ∀ c : GCell, Fit B20 (.base .cell) c → Fit B20 (.base .notebook) (GNotebook.mk (a.cells.set n c)) := fun c hc => nb_fit (by simp; omega) fun y hy => by
        rcases List.mem_or_eq_of_mem_set hy with hy | hy
        · exact hcm y hy
        · subst hy; exact hc
      have setCopy : ∀ c : GCell, iCopyNotebook (GNotebook.mk (a.cells.set n c)) = some (GNotebook.mk (a.cells.set n c)) := fun c => copyI _ (by simp; omega)
      have wfv : (Lit.int .i64 (w64 (x.version + 1))).wf = true := by
        rw [w64_id (by omega) (by omega)]
        unfold Lit.wf
        simp [IntKind.wrap, IntKind.bits, IntKind.signed, IntKind.min, IntKind.max]
        omega
      simp only [k2', k3', cond_false]
      have h999 : (x.version == 999) = decide (x.version ≥ 999) := by
        by_cases q : x.version = 999
        · rw [q]; rfl
        · rw [decide_eq_false (by omega)]; simpa using q
      unfold sL20Cell
      by_cases k5 : b.kind = 5
      · have fcell : Fit B20 (.base .cell) (GCell.mk x.id x.version x.kind x.name x.code b.cell.n) := by
          rw [fit_cell]; exact ⟨fx.1, fx.2.1, fx.2.2.1, fx.2.2.2.1, fx.2.2.2.2.1, fc.2.2.2.2.2⟩
        obtain ⟨q, q1, q2⟩ := validCell_eq _ fcell
        simp only [k5, beq_self_eq_true, bne_self_i, show ((5 : Int) == 4) = false from rfl, cond_true, cond_false, q1, q2, Option.bind_some]
        cases hk3 : (x.kind != 3) with
        | true => exact ⟨a, 5, rfl, by simp only [cond_true, Option.bind_some, cI], ha⟩
        | false =>
          simp only [cond_false]
          cases q with
          | false => exact ⟨a, 1, rfl, by simp only [Bool.not_false, cond_true, Option.bind_some, cI], ha⟩
          | true => exact ⟨_, 0, rfl, by simp only [Bool.not_true, cond_false, Option.bind_some, cI, idx_nat, hx, Int.toNat_natCast, setCopy], setFit _ fcell⟩
      have k5' : (b.kind == 5) = false := by simpa using k5
      have k5n : (b.kind != 5) = true := by simpa using k5
      by_cases k4 : b.kind = 4
      · have fcell : Fit B20 (.base .cell) (GCell.mk x.id (w64 (x.version + 1)) x.kind b.cell.name b.cell.code x.n) := by
          rw [fit_cell]; exact ⟨fx.1, .int .i64 _ wfv, fx.2.2.1, fc.2.2.2.1, fc.2.2.2.2.1, fx.2.2.2.2.2⟩
        obtain ⟨q, q1, q2⟩ := validCell_eq _ fcell
        simp only [k4, k5', beq_self_eq_true, show ((4 : Int) == 5) = false from rfl, show ((4 : Int) == 6) = false from rfl, show ((4 : Int) != 5) = true from rfl, cond_true, cond_false, q1, q2, Option.bind_some, h999]
        cases hk3 : (x.kind == 3) with
        | true => exact ⟨a, 5, rfl, by simp only [cond_true, Option.bind_some, cI], ha⟩
        | false =>
          simp only [cond_false]
          cases hq : decide (x.version ≥ 999) with
          | true => exact ⟨a, 6, rfl, by simp only [cond_true, Option.bind_some, cI], ha⟩
          | false =>
            simp only [cond_false]
            cases q with
            | false => exact ⟨a, 1, rfl, by simp only [Bool.not_false, cond_true, Option.bind_some, cI], ha⟩
            | true => exact ⟨_, 0, rfl, by simp only [Bool.not_true, cond_false, Option.bind_some, cI, idx_nat, hx, Int.toNat_natCast, setCopy], setFit _ fcell⟩
      have k4' : (b.kind == 4) = false := by simpa using k4
      have k6 : b.kind = 6 := by omega
      have fcell : Fit B20 (.base .cell) (GCell.mk x.id (w64 (x.version + 1)) x.kind x.name x.code x.n) := by
        rw [fit_cell]; exact ⟨fx.1, .int .i64 _ wfv, fx.2.2.1, fx.2.2.2.1, fx.2.2.2.2.1, fx.2.2.2.2.2⟩
      obtain ⟨q, q1, q2⟩ := validCell_eq _ fcell
      simp only [k6, k5', k4', beq_self_eq_true, show ((6 : Int) == 4) = false from rfl, show ((6 : Int) == 5) = false from rfl, show ((6 : Int) != 5) = true from rfl, cond_true, cond_false, q1, q2, Option.bind_some, h999]
      cases hk3 : (x.kind != 2) with
      | true => exact ⟨a, 5, rfl, by simp only [cond_true, Option.bind_some, cI], ha⟩
      | false =>
        simp only [cond_false]
        cases hq : decide (x.version ≥ 999) with
        | true => exact ⟨a, 6, rfl, by simp only [cond_true, Option.bind_some, cI], ha⟩
        | false =>
          simp only [cond_false]
          cases q with
          | false => exact ⟨a, 1, rfl, by simp only [Bool.not_false, cond_true, Option.bind_some, cI], ha⟩
          | true => exact ⟨_, 0, rfl, by simp only [Bool.not_true, cond_false, Option.bind_some, cI, idx_nat, hx, Int.toNat_natCast, setCopy], setFit _ fcell⟩

/-- two loops over the places of a list that go alike -/
theorem loop_both {α σ ρ X Y : Type} {g1 : X → Option (X ⊕ ρ)} {g2 : Y → Option (Y ⊕ ρ)} (pk1 : σ → Nat → X) (pk2 : σ → Nat → Y) (xs : List α) (I : Nat → σ → Prop) (R : ρ → Prop)
    (hs : ∀ i x s, xs[i]? = some x → I i s → (∃ s', g1 (pk1 s i) = some (.inl (pk1 s' (i + 1))) ∧ g2 (pk2 s i) = some (.inl (pk2 s' (i + 1))) ∧ I (i + 1) s') ∨ ∃ r, g1 (pk1 s i) = some (.inr r) ∧ g2 (pk2 s i) = some (.inr r) ∧ R r)
    (he : ∀ s, I xs.length s → ∃ r, g1 (pk1 s xs.length) = some (.inr r) ∧ g2 (pk2 s xs.length) = some (.inr r) ∧ R r) (s : σ) (h0 : I 0 s) :
    ∃ r, loopD g1 (pk1 s 0) = some r ∧ loopD g2 (pk2 s 0) = some r ∧ R r := by
  have key : ∀ (n i : Nat) (s : σ), xs.length = i + n → I i s → ∃ r, loopD g1 (pk1 s i) = some r ∧ loopD g2 (pk2 s i) = some r ∧ R r := by
    intro n
    induction n with
    | zero =>
      intro i s hi hI
      have : i = xs.length := by omega
      subst this
      obtain ⟨r, e1, e2, hR⟩ := he s hI
      refine ⟨r, ?_, ?_, hR⟩
      · rw [loopD_eq, e1]
      · rw [loopD_eq, e2]
    | succ n ih =>
      intro i s hi hI
      have hlt : i < xs.length := by omega
      rcases hs i xs[i] s (List.getElem?_eq_getElem hlt) hI with ⟨s', e1, e2, hI'⟩ | ⟨r, e1, e2, hR⟩
      · obtain ⟨r, q1, q2, hR⟩ := ih (i + 1) s' (by omega) hI'
        refine ⟨r, ?_, ?_, hR⟩
        · rw [loopD_eq, e1]; exact q1
        · rw [loopD_eq, e2]; exact q2
      · refine ⟨r, ?_, ?_, hR⟩
        · rw [loopD_eq, e1]
        · rw [loopD_eq, e2]
  exact key xs.length 0 s (by omega) h0

theorem nb_len {a : GNotebook} (h : Fit B20 (.base .notebook) a) : (a.cells.length : Int) ≤ 1048576 := by
  rw [fit_notebook] at h; exact list20 h
theorem applyBatch_eq (a : GNotebook) (b : List GEdit) (ha : Fit B20 (.base .notebook) a) (hb : FitD B20 (.list (.base .edit) b)) :
    ∃ r, sApplyBatch a b = some r ∧ iApplyBatch a b = some r ∧ Fit B20 (.base .notebook) r.1 := by
  have hl := nb_len ha
  have hbl := list20 hb
  have hll : b.length < 4611686018427387904 := by omega
  unfold sApplyBatch iApplyBatch
  rw [copyI a (by omega), copyS a (by omega)]
  simp only [Option.bind_some]
  refine loop_both (fun (s : List GCell) (i : Nat) => (b, a.cells, [], s, (i : Int))) (fun (s : List GCell) (i : Nat) => (a.cells, [], s, b, (b.length : Int), (i : Int))) b
    (fun _ s => Fit B20 (.base .notebook) (GNotebook.mk s)) (fun (r : GNotebook × Int) => Fit B20 (.base .notebook) r.1) (fun i x s hx hI => ?_) (fun s hI => ?_) a.cells ha
  · obtain ⟨w, n, e1, e2, hw⟩ := applyEdit_eq (GNotebook.mk s) x hI (hb.list_mem x (List.mem_of_getElem? hx))
    simp only [dec_lt hx, cond_true, idx_nat, hx, Option.bind_some, e1, e2, w_succ hx hll]
    cases hn : (n != 0) with
    | true =>
      refine .inr ⟨(a, (i : Int)), ?_, ?_, ha⟩
      · simp only [cond_true, copyS (GNotebook.mk a.cells) (show (a.cells.length : Int) ≤ _ by omega), Option.bind_some]
      · simp only [cond_true, copyI (GNotebook.mk a.cells) (show (a.cells.length : Int) ≤ _ by omega), Option.bind_some]
    | false => exact .inl ⟨w.cells, rfl, rfl, hw⟩
  · simp only [Int.lt_irrefl, decide_false, cond_false]
    exact ⟨_, rfl, rfl, hI⟩
def uncell (c : GCell) : GCell := GCell.mk c.id 0 c.kind c.name c.code c.n
/-- a loop that turns every element in its place -/
theorem mapLoop {α X ρ : Type} {g : X → Option (X ⊕ ρ)} (pk : List α → Nat → X) (L : Nat) (f : α → α) (fin : List α → Option ρ)
    (hs : ∀ (xs : List α) (i : Nat) (x : α), xs[i]? = some x → xs.length = L → g (pk xs i) = some (.inl (pk (xs.set i (f x)) (i + 1))))
    (he : ∀ (xs : List α), xs.length = L → g (pk xs L) = (fin xs).bind fun r => some (.inr r)) (xs : List α) (hl : xs.length = L) : loopD g (pk xs 0) = fin (xs.map f) := by
  have key : ∀ (n i : Nat) (xs : List α), L = i + n → xs.length = L → loopD g (pk xs i) = fin (xs.take i ++ (xs.drop i).map f) := by
    intro n
    induction n with
    | zero =>
      intro i xs hi hl
      have : i = xs.length := by omega
      subst this
      rw [hl, loopD_eq, he xs hl]
      rw [← hl]
      simp only [List.take_length, List.drop_length, List.map_nil, List.append_nil]
      cases fin xs <;> rfl
    | succ n ih =>
      intro i xs hi hl
      have hlt : i < xs.length := by omega
      rw [loopD_eq, hs xs i xs[i] (List.getElem?_eq_getElem hlt) hl]
      simp only
      rw [ih (i + 1) (xs.set i (f xs[i])) (by omega) (by simpa using hl)]
      congr 1
      rw [List.drop_eq_getElem_cons hlt, List.map_cons]
      apply List.ext_getElem?
      intro j
      simp only [List.getElem?_append, List.getElem?_take, List.length_take, List.length_set, List.getElem?_set, List.getElem?_map, List.getElem?_drop, List.getElem?_cons]
      have m1 : min (i + 1) xs.length = i + 1 := by omega
      have m2 : min i xs.length = i := by omega
      rw [m1, m2]
      by_cases h1 : j < i
      · have a1 : j < i + 1 := by omega
        have a2 : ¬ i = j := by omega
        simp [h1, a1, a2]
      · by_cases h2 : j = i
        · subst h2; simp [hlt]
        · have a1 : ¬ j < i + 1 := by omega
          have a2 : ¬ i = i + 1 + (j - (i + 1)) := by omega
          have a3 : ¬ j - i = 0 := by omega
          have a4 : j - i - 1 = j - (i + 1) := by omega
          simp [h1, a1, a2, a3, a4]
  simpa using key L 0 xs (by omega) hl
theorem eqd_symm {α : Type} (a b : α) : eqd a b = eqd b a := by
  rw [Bool.eq_iff_iff, eqd_iff, eqd_iff]; exact eq_comm

/-- a valid history: few nodes, and every parent stands before its child -/
def HistV (a : GHistory) : Prop := 1 ≤ a.nodes.length ∧ a.nodes.length ≤ 20 ∧ (0 ≤ a.pos ∧ a.pos < a.nodes.length) ∧ ∀ (i : Nat) (x : GNode), a.nodes[i]? = some x → (i = 0 ∧ x.parent = -1) ∨ (0 ≤ x.parent ∧ x.parent < i)

theorem path_ok {X : Type} (nodes : List GNode) {g : X → Option (X ⊕ List Int)} (pk : Int → List Int → X)
    (hv : nodes.length ≤ 20 ∧ ∀ (i : Nat) (x : GNode), nodes[i]? = some x → (i = 0 ∧ x.parent = -1) ∨ (0 ≤ x.parent ∧ x.parent < i))
    (hs : ∀ (i : Nat) (x : GNode) (acc : List Int), nodes[i]? = some x → acc.length ≤ 1000 → g (pk i acc) = some (.inl (pk x.parent ([(i : Int)] ++ acc))))
    (he : ∀ acc, g (pk (-1) acc) = some (.inr acc)) : ∀ (n i : Nat) (acc : List Int), i ≤ n → i < nodes.length → acc.length + n ≤ 100 → ∃ w, loopD g (pk i acc) = some w ∧ (w.length : Int) ≤ 200 := by
  have last : ∀ acc : List Int, acc.length ≤ 200 → ∃ w, loopD g (pk (-1) acc) = some w ∧ (w.length : Int) ≤ 200 := fun acc hacc => by
    rw [loopD_eq, he]
    exact ⟨_, rfl, by omega⟩
  intro n
  induction n with
  | zero =>
    intro i acc hi hil hacc
    have hi0 : i = 0 := by omega
    subst hi0
    have hx := List.getElem?_eq_getElem hil
    rw [loopD_eq, hs 0 _ acc hx (by omega)]
    rcases hv.2 0 _ hx with ⟨_, hp⟩ | ⟨h1, h2⟩
    · simp only; rw [hp]; exact last _ (by simp; omega)
    · omega
  | succ n ih =>
    intro i acc hi hil hacc
    have hx := List.getElem?_eq_getElem hil
    rw [loopD_eq, hs i _ acc hx (by omega)]
    simp only
    rcases hv.2 i _ hx with ⟨_, hp⟩ | ⟨h1, h2⟩
    · rw [hp]; exact last _ (by simp; omega)
    · obtain ⟨p, hp⟩ := Int.eq_ofNat_of_zero_le h1
      rw [hp] at h2 ⊢
      exact ih p _ (by omega) (by omega) (by simp; omega)


theorem foldl_snoc {α : Type} : ∀ (xs acc : List α), xs.foldl (fun s x => s ++ [x]) acc = acc ++ xs
  | [], acc => by simp
  | x :: xs, acc => by rw [List.foldl_cons, foldl_snoc xs]; simp
theorem applyEdit_zero {a : GNotebook} {b : GEdit} {w : GNotebook} (ha : Fit B20 (.base .notebook) a) (h : sApplyEdit a b = some (w, 0)) :
    (1 ≤ b.kind ∧ b.kind ≤ 6) ∧ (b.kind ≠ 1 → ∃ (m : Nat) (x : GCell), firstAt (fun c => c.id == b.cell.id) a.cells 0 = (m : Int) ∧ a.cells[m]? = some x) := by
  obtain ⟨v, hvi, hvs⟩ := validNotebook_eq a ha
  have hl := nb_len ha
  have hll : a.cells.length < lim := lim20 hl
  unfold sApplyEdit at h
  rw [hvs, copyS a (by omega)] at h
  simp only [Option.bind_some, sL1In_ok, sCellIndex_ok a _ hll] at h
  cases v with
  | false => simp at h
  | true =>
    simp only [Bool.not_true, cond_false] at h
    cases hk : (decide (1 ≤ b.kind) && decide (b.kind ≤ 6)) with
    | false => rw [hk] at h; simp at h
    | true =>
      rw [hk] at h
      simp only [Bool.and_eq_true, decide_eq_true_eq] at hk
      refine ⟨hk, fun hk1 => ?_⟩
      have k1' : (b.kind == 1) = false := by simpa using hk1
      simp only [Bool.not_true, cond_false, k1'] at h
      rcases firstAt_idx (fun c : GCell => c.id == b.cell.id) a.cells 0 with hj | ⟨n, x, hj, hx⟩
      · rw [hj] at h
        simp at h
      · exact ⟨n, x, by rw [hj, Nat.zero_add], hx⟩
theorem int0 {n : Int} (h : (Lit.int .i64 n).wf = true) : FitD B20 (.int .i64 n) := .int .i64 _ h
theorem wf_small {n : Int} (h0 : -1000000000 ≤ n) (h1 : n ≤ 1000000000) : (Lit.int .i64 n).wf = true := by
  unfold Lit.wf
  simp [IntKind.bits, IntKind.signed, IntKind.min, IntKind.max]
  omega
theorem nilStr : FitD B20 (.str []) := mkStr20 (by simp)
theorem cell_bare {id : Int} (h : FitD B20 (.int .i64 id)) {nm cd : Str} {n : Int} (h1 : FitD B20 (.str nm)) (h2 : FitD B20 (.str cd)) (h3 : FitD B20 (.int .i64 n)) : Fit B20 (.base .cell) (GCell.mk id 0 0 nm cd n) := by
  rw [fit_cell]
  exact ⟨h, int0 (wf_small (n := 0) (by omega) (by omega)), int0 (wf_small (n := 0) (by omega) (by omega)), h1, h2, h3⟩
theorem mk_edit {k p : Int} {c : GCell} (h1 : FitD B20 (.int .i64 k)) (h2 : FitD B20 (.int .i64 p)) (h3 : Fit B20 (.base .cell) c) : Fit B20 (.base .edit) (GEdit.mk k p c) := by
  rw [fit_edit]; exact ⟨h1, h2, h3⟩
theorem loop_three {α σ ρ ρ' X Y Z : Type} {g1 : X → Option (X ⊕ ρ)} {g2 : Y → Option (Y ⊕ ρ)} {g3 : Z → Option (Z ⊕ ρ')} (pk1 : σ → Nat → X) (pk2 : σ → Nat → Y) (pk3 : σ → Nat → Z) (xs : List α) (I : Nat → σ → Prop) (R : ρ → ρ' → Prop)
    (hs : ∀ i x s, xs[i]? = some x → I i s → (∃ s', g1 (pk1 s i) = some (.inl (pk1 s' (i + 1))) ∧ g2 (pk2 s i) = some (.inl (pk2 s' (i + 1))) ∧ g3 (pk3 s i) = some (.inl (pk3 s' (i + 1))) ∧ I (i + 1) s') ∨
      ∃ r r', g1 (pk1 s i) = some (.inr r) ∧ g2 (pk2 s i) = some (.inr r) ∧ g3 (pk3 s i) = some (.inr r') ∧ R r r')
    (he : ∀ s, I xs.length s → ∃ r r', g1 (pk1 s xs.length) = some (.inr r) ∧ g2 (pk2 s xs.length) = some (.inr r) ∧ g3 (pk3 s xs.length) = some (.inr r') ∧ R r r') (s : σ) (h0 : I 0 s) :
    ∃ r r', loopD g1 (pk1 s 0) = some r ∧ loopD g2 (pk2 s 0) = some r ∧ loopD g3 (pk3 s 0) = some r' ∧ R r r' := by
  have key : ∀ (n i : Nat) (s : σ), xs.length = i + n → I i s → ∃ r r', loopD g1 (pk1 s i) = some r ∧ loopD g2 (pk2 s i) = some r ∧ loopD g3 (pk3 s i) = some r' ∧ R r r' := by
    intro n
    induction n with
    | zero =>
      intro i s hi hI
      have : i = xs.length := by omega
      subst this
      obtain ⟨r, r', e1, e2, e3, hR⟩ := he s hI
      refine ⟨r, r', ?_, ?_, ?_, hR⟩
      · rw [loopD_eq, e1]
      · rw [loopD_eq, e2]
      · rw [loopD_eq, e3]
    | succ n ih =>
      intro i s hi hI
      have hlt : i < xs.length := by omega
      rcases hs i xs[i] s (List.getElem?_eq_getElem hlt) hI with ⟨s', e1, e2, e3, hI'⟩ | ⟨r, r', e1, e2, e3, hR⟩
      · obtain ⟨r, r', q1, q2, q3, hR⟩ := ih (i + 1) s' (by omega) hI'
        refine ⟨r, r', ?_, ?_, ?_, hR⟩
        · rw [loopD_eq, e1]; exact q1
        · rw [loopD_eq, e2]; exact q2
        · rw [loopD_eq, e3]; exact q3
      · refine ⟨r, r', ?_, ?_, ?_, hR⟩
        · rw [loopD_eq, e1]
        · rw [loopD_eq, e2]
        · rw [loopD_eq, e3]
  exact key xs.length 0 s (by omega) h0
theorem edits_nil : FitD B20 (.list (.base .edit) []) := mkList20 (by simp) fun x hx => by cases hx


theorem path_sorted {X : Type} (nodes : List GNode) {g : X → Option (X ⊕ List Int)} (pk : Int → List Int → X)
    (hv : nodes.length ≤ 20 ∧ ∀ (i : Nat) (x : GNode), nodes[i]? = some x → (i = 0 ∧ x.parent = -1) ∨ (0 ≤ x.parent ∧ x.parent < i))
    (hs : ∀ (i : Nat) (x : GNode) (acc : List Int), nodes[i]? = some x → acc.length ≤ 1000 → g (pk i acc) = some (.inl (pk x.parent ([(i : Int)] ++ acc))))
    (he : ∀ acc, g (pk (-1) acc) = some (.inr acc)) : ∀ (n i : Nat) (acc : List Int), i ≤ n → i < nodes.length → acc.length + n ≤ 100 → acc.Pairwise (· < ·) → (∀ x ∈ acc, (i : Int) < x) →
      ∃ w, loopD g (pk i acc) = some w ∧ w.Pairwise (· < ·) := by
  have last : ∀ acc : List Int, acc.Pairwise (· < ·) → ∃ w, loopD g (pk (-1) acc) = some w ∧ w.Pairwise (· < ·) := fun acc hacc => by
    rw [loopD_eq, he]
    exact ⟨_, rfl, hacc⟩
  have one : ∀ (i : Nat) (acc : List Int), acc.Pairwise (· < ·) → (∀ x ∈ acc, (i : Int) < x) → ([(i : Int)] ++ acc).Pairwise (· < ·) := fun i acc h1 h2 => by
    rw [List.singleton_append, List.pairwise_cons]; exact ⟨h2, h1⟩
  intro n
  induction n with
  | zero =>
    intro i acc hi hil hacc hp1 hp2
    have hi0 : i = 0 := by omega
    subst hi0
    have hx := List.getElem?_eq_getElem hil
    rw [loopD_eq, hs 0 _ acc hx (by omega)]
    rcases hv.2 0 _ hx with ⟨_, hp⟩ | ⟨h1, h2⟩
    · simp only; rw [hp]; exact last _ (one 0 acc hp1 hp2)
    · omega
  | succ n ih =>
    intro i acc hi hil hacc hp1 hp2
    have hx := List.getElem?_eq_getElem hil
    rw [loopD_eq, hs i _ acc hx (by omega)]
    simp only
    rcases hv.2 i _ hx with ⟨_, hp⟩ | ⟨h1, h2⟩
    · rw [hp]; exact last _ (one i acc hp1 hp2)
    · obtain ⟨p, hp⟩ := Int.eq_ofNat_of_zero_le h1
      rw [hp] at h2 ⊢
      refine ih p _ (by omega) (by omega) (by simp; omega) (one i acc hp1 hp2) fun x hx => ?_
      rw [List.singleton_append, List.mem_cons] at hx
      rcases hx with hx | hx
      · omega
      · have := hp2 x hx; omega
/-- the list has the number -/
def hasI (xs : List Int) (b : Int) : Bool := !(xs.all fun x => !(x == b))
theorem hasI_get {xs : List Int} {b : Int} (h : hasI xs b = true) : ∃ j : Nat, xs[j]? = some b := by
  simp [hasI] at h
  exact List.mem_iff_getElem?.1 h
theorem sorted_get {xs : List Int} (h : xs.Pairwise (· < ·)) {i j : Nat} {x y : Int} (hx : xs[i]? = some x) (hy : xs[j]? = some y) (hij : i < j) : x < y := by
  obtain ⟨hi, hx⟩ := List.getElem?_eq_some_iff.1 hx
  obtain ⟨hj, hy⟩ := List.getElem?_eq_some_iff.1 hy
  rw [← hx, ← hy]
  exact List.pairwise_iff_getElem.1 h i j hi hj hij
abbrev GoR (r : GHistory × Bool) : Prop := Fit B20 (.base .history) r.1
theorem loop_two {σ ρ X Y : Type} {g1 : X → Option (X ⊕ ρ)} {g2 : Y → Option (Y ⊕ ρ)} (pk1 : σ → X) (pk2 : σ → Y) (I : Nat → σ → Prop) (R : ρ → Prop)
    (hs : ∀ n s, I n s → (∃ s' m, m < n ∧ I m s' ∧ g1 (pk1 s) = some (.inl (pk1 s')) ∧ g2 (pk2 s) = some (.inl (pk2 s'))) ∨ ∃ r, g1 (pk1 s) = some (.inr r) ∧ g2 (pk2 s) = some (.inr r) ∧ R r) :
    ∀ n s, I n s → ∃ r, loopD g1 (pk1 s) = some r ∧ loopD g2 (pk2 s) = some r ∧ R r := by
  intro n
  induction n using Nat.strongRecOn with
  | ind n ih =>
    intro s hI
    rcases hs n s hI with ⟨s', m, hm, hI', e1, e2⟩ | ⟨r, e1, e2, hR⟩
    · obtain ⟨r, q1, q2, hR⟩ := ih m hm s' hI'
      exact ⟨r, by rw [loopD_eq, e1]; exact q1, by rw [loopD_eq, e2]; exact q2, hR⟩
    · exact ⟨r, by rw [loopD_eq, e1], by rw [loopD_eq, e2], hR⟩
theorem bindInr {X Y ρ : Type} {A B : Option ρ} {R : ρ → Prop} (h : ∃ r, A = some r ∧ B = some r ∧ R r) :
    ∃ r, (A.bind fun r => some ((.inr r : X ⊕ ρ))) = some (.inr r) ∧ (B.bind fun r => some ((.inr r : Y ⊕ ρ))) = some (.inr r) ∧ R r := by
  obtain ⟨r, e1, e2, h⟩ := h
  exact ⟨r, by rw [e1]; rfl, by rw [e2]; rfl, h⟩
end Go.Proofs.YtopcobafmnpmkaaGreat
