/- Plain laws of marks, by genmark.py. -/
import Derived.Test.YtiedhibpaooldaaMark0
set_option linter.unusedSimpArgs false
set_option linter.unusedVariables false
namespace Go.Proofs.Ytiedhibpaooldaa
open Go.Abs Go.Proofs
def OkIntS (xs : List Int) : Prop := xs.length < 4611686018427387904
def OkStringS (xs : List Str) : Prop := xs.length < 4611686018427387904
def cntIntS (xs : List Int) : Nat := (xs.map fun _ => 1).sum
theorem markIntS_ok (xs : List Int) (hl : xs.length < 4611686018427387904) : MkOk markIntS heldIntS xs (cntIntS xs) := by
  refine markList_ok (mk := markIntS) (hd := heldIntS) (fun _ _ => rfl) (fun _ _ => rfl) (fun _ => 1) (fun _ => True) (fun xs i x k hx hP hl h0 hk => ?_) (fun xs k => ?_) (fun xs k => ?_) xs (fun _ _ => trivial) hl
  · have w1 : w64 (k + 1) = k + 1 := w64_id (by omega) (by omega)
    refine ⟨k, ?_, fun ys hy hyi => ?_⟩
    · simp only [dec_lt hx, cond_true, idx_nat, Int.toNat_natCast, hx, Option.bind_some, w1, w_succ hx hl]; rfl
    · simp only [dec_lt hyi, cond_true, idx_nat, hyi, Option.bind_some, w1, w_succ hyi hy, bne_self_i, nbeq_self_s, cond_false]; rfl
  · simp only [Int.lt_irrefl, decide_false, cond_false]
  · simp only [Int.lt_irrefl, decide_false, cond_false]
theorem okIntS24 {xs : List Int} (h : FitD B24 (.list (.base .int) xs)) : OkIntS xs ∧ cntIntS xs ≤ 16777216 := by
  have hl := list24 h
  refine ⟨by unfold OkIntS; omega, ?_⟩
  have := sum_le (fun _ => 1) xs 1 (fun _ _ => Nat.le_refl 1)
  unfold cntIntS; omega
def cntStringS (xs : List Str) : Nat := (xs.map fun _ => 1).sum
theorem markStringS_ok (xs : List Str) (hl : xs.length < 4611686018427387904) : MkOk markStringS heldStringS xs (cntStringS xs) := by
  refine markList_ok (mk := markStringS) (hd := heldStringS) (fun _ _ => rfl) (fun _ _ => rfl) (fun _ => 1) (fun _ => True) (fun xs i x k hx hP hl h0 hk => ?_) (fun xs k => ?_) (fun xs k => ?_) xs (fun _ _ => trivial) hl
  · have w1 : w64 (k + 1) = k + 1 := w64_id (by omega) (by omega)
    obtain ⟨t1, e1⟩ := markText_ok k (by omega) (by omega)
    refine ⟨t1, ?_, fun ys hy hyi => ?_⟩
    · simp only [dec_lt hx, cond_true, idx_nat, Int.toNat_natCast, hx, Option.bind_some, w1, w_succ hx hl, e1]; rfl
    · simp only [dec_lt hyi, cond_true, idx_nat, hyi, Option.bind_some, w1, w_succ hyi hy, bne_self_i, nbeq_self_s, cond_false, e1]; rfl
  · simp only [Int.lt_irrefl, decide_false, cond_false]
  · simp only [Int.lt_irrefl, decide_false, cond_false]
theorem okStringS24 {xs : List Str} (h : FitD B24 (.list (.base .str) xs)) : OkStringS xs ∧ cntStringS xs ≤ 16777216 := by
  have hl := list24 h
  refine ⟨by unfold OkStringS; omega, ?_⟩
  have := sum_le (fun _ => 1) xs 1 (fun _ _ => Nat.le_refl 1)
  unfold cntStringS; omega
def cntOriginE (x : GOrigin) : Nat := 1 + 1
def cntOriginS (xs : List GOrigin) : Nat := (xs.map cntOriginE).sum
def OkOriginE (x : GOrigin) : Prop := True
def OkOriginS (xs : List GOrigin) : Prop := (∀ x, x ∈ xs → OkOriginE x) ∧ xs.length < 4611686018427387904
theorem markOriginS_ok (xs : List GOrigin) (h : OkOriginS xs) : MkOk markOriginS heldOriginS xs (cntOriginS xs) := by
  refine markList_ok (mk := markOriginS) (hd := heldOriginS) (fun _ _ => rfl) (fun _ _ => rfl) cntOriginE OkOriginE (fun xs i x k hx hP hl h0 hk => ?_) (fun xs k => ?_) (fun xs k => ?_) xs h.1 h.2
  · unfold cntOriginE at hk
    have w0 : w64 (k + 1) = k + 1 := w64_id (by omega) (by omega)
    have w1 : w64 (k + 1 + 1) = k + 1 + 1 := w64_id (by omega) (by omega)
    have hsum : k + 1 + 1 = k + (cntOriginE x : Nat) := by unfold cntOriginE; omega
    refine ⟨GOrigin.mk k (k + 1), ?_, fun ys hy hyi => ?_⟩
    · simp only [dec_lt hx, cond_true, idx_nat, Int.toNat_natCast, hx, set_get hx, List.set_set, Option.bind_some, w_succ hx hl, w0, w1, reVal_eq, reExpr_eq, reRead_eq, reBinding_eq]
      rw [hsum]
    · simp only [dec_lt hyi, cond_true, idx_nat, hyi, Option.bind_some, w_succ hyi hy, bne_self_i, nbeq_self_s, cond_false, w0, w1, reVal_eq, reExpr_eq, reRead_eq, reBinding_eq]
      rw [hsum]
  · simp only [Int.lt_irrefl, decide_false, cond_false]
  · simp only [Int.lt_irrefl, decide_false, cond_false]
theorem okOriginS24 {xs : List GOrigin} (h : FitD B24 (.list (.base .origin) xs)) : OkOriginS xs ∧ cntOriginS xs ≤ 33554432 := by
  have hl := list24 h
  have key : ∀ x, x ∈ xs → OkOriginE x ∧ cntOriginE x ≤ 2 := by
    intro x hx
    unfold OkOriginE cntOriginE
    exact ⟨trivial, by omega⟩
  refine ⟨⟨fun x hx => (key x hx).1, by omega⟩, ?_⟩
  have h1 := sum_le cntOriginE xs 2 fun x hx => (key x hx).2
  have h2 : xs.length * 2 ≤ 16777216 * 2 := Nat.mul_le_mul_right _ (by omega)
  unfold cntOriginS; omega
def cntRowE (x : GRow) : Nat := cntIntS x.cells + cntOriginS x.orig
def cntRowS (xs : List GRow) : Nat := (xs.map cntRowE).sum
def OkRowE (x : GRow) : Prop := OkIntS x.cells ∧ OkOriginS x.orig
def OkRowS (xs : List GRow) : Prop := (∀ x, x ∈ xs → OkRowE x) ∧ xs.length < 4611686018427387904
theorem markRowS_ok (xs : List GRow) (h : OkRowS xs) : MkOk markRowS heldRowS xs (cntRowS xs) := by
  refine markList_ok (mk := markRowS) (hd := heldRowS) (fun _ _ => rfl) (fun _ _ => rfl) cntRowE OkRowE (fun xs i x k hx hP hl h0 hk => ?_) (fun xs k => ?_) (fun xs k => ?_) xs h.1 h.2
  · unfold cntRowE at hk
    unfold OkRowE at hP
    obtain ⟨q0, q1⟩ := hP
    obtain ⟨y0, e0, f0⟩ := markIntS_ok x.cells q0 (k) (by omega) (by omega)
    have n0 : decide (k + (cntIntS x.cells : Nat) < 0) = false := decide_eq_false (by omega)
    obtain ⟨y1, e1, f1⟩ := markOriginS_ok x.orig q1 (k + (cntIntS x.cells : Nat)) (by omega) (by omega)
    have n1 : decide (k + (cntIntS x.cells : Nat) + (cntOriginS x.orig : Nat) < 0) = false := decide_eq_false (by omega)
    have hsum : k + (cntIntS x.cells : Nat) + (cntOriginS x.orig : Nat) = k + (cntRowE x : Nat) := by unfold cntRowE; omega
    refine ⟨GRow.mk y0 y1, ?_, fun ys hy hyi => ?_⟩
    · simp only [dec_lt hx, cond_true, idx_nat, Int.toNat_natCast, hx, set_get hx, List.set_set, Option.bind_some, w_succ hx hl, e0, f0, e1, f1, reVal_eq, reExpr_eq, reRead_eq, reBinding_eq]
      rw [hsum]
    · simp only [dec_lt hyi, cond_true, idx_nat, hyi, Option.bind_some, w_succ hyi hy, bne_self_i, nbeq_self_s, cond_false, e0, f0, e1, f1, n0, n1, reVal_eq, reExpr_eq, reRead_eq, reBinding_eq]
      rw [hsum]
  · simp only [Int.lt_irrefl, decide_false, cond_false]
  · simp only [Int.lt_irrefl, decide_false, cond_false]
theorem okRowS24 {xs : List GRow} (h : FitD B24 (.list (.base .row) xs)) : OkRowS xs ∧ cntRowS xs ≤ 844424930131968 := by
  have hl := list24 h
  have key : ∀ x, x ∈ xs → OkRowE x ∧ cntRowE x ≤ 50331648 := by
    intro x hx
    unfold OkRowE cntRowE
    have f := h.list_mem x hx
    rw [fit_row] at f
    obtain ⟨c0, c1⟩ := f
    obtain ⟨p0, r0⟩ := okIntS24 c0
    obtain ⟨p1, r1⟩ := okOriginS24 c1
    exact ⟨⟨p0, p1⟩, by omega⟩
  refine ⟨⟨fun x hx => (key x hx).1, by omega⟩, ?_⟩
  have h1 := sum_le cntRowE xs 50331648 fun x hx => (key x hx).2
  have h2 : xs.length * 50331648 ≤ 16777216 * 50331648 := Nat.mul_le_mul_right _ (by omega)
  unfold cntRowS; omega
def cntCellE (x : GCell) : Nat := 1 + 1 + 1 + 1 + 1 + 1
def cntCellS (xs : List GCell) : Nat := (xs.map cntCellE).sum
def OkCellE (x : GCell) : Prop := True
def OkCellS (xs : List GCell) : Prop := (∀ x, x ∈ xs → OkCellE x) ∧ xs.length < 4611686018427387904
theorem markCellS_ok (xs : List GCell) (h : OkCellS xs) : MkOk markCellS heldCellS xs (cntCellS xs) := by
  refine markList_ok (mk := markCellS) (hd := heldCellS) (fun _ _ => rfl) (fun _ _ => rfl) cntCellE OkCellE (fun xs i x k hx hP hl h0 hk => ?_) (fun xs k => ?_) (fun xs k => ?_) xs h.1 h.2
  · unfold cntCellE at hk
    have w0 : w64 (k + 1) = k + 1 := w64_id (by omega) (by omega)
    have w1 : w64 (k + 1 + 1) = k + 1 + 1 := w64_id (by omega) (by omega)
    have w2 : w64 (k + 1 + 1 + 1) = k + 1 + 1 + 1 := w64_id (by omega) (by omega)
    obtain ⟨t3, e3⟩ := markText_ok (k + 1 + 1 + 1) (by omega) (by omega)
    have w3 : w64 (k + 1 + 1 + 1 + 1) = k + 1 + 1 + 1 + 1 := w64_id (by omega) (by omega)
    obtain ⟨t4, e4⟩ := markText_ok (k + 1 + 1 + 1 + 1) (by omega) (by omega)
    have w4 : w64 (k + 1 + 1 + 1 + 1 + 1) = k + 1 + 1 + 1 + 1 + 1 := w64_id (by omega) (by omega)
    have w5 : w64 (k + 1 + 1 + 1 + 1 + 1 + 1) = k + 1 + 1 + 1 + 1 + 1 + 1 := w64_id (by omega) (by omega)
    have hsum : k + 1 + 1 + 1 + 1 + 1 + 1 = k + (cntCellE x : Nat) := by unfold cntCellE; omega
    refine ⟨GCell.mk k (k + 1) (k + 1 + 1) t3 t4 (k + 1 + 1 + 1 + 1 + 1), ?_, fun ys hy hyi => ?_⟩
    · simp only [dec_lt hx, cond_true, idx_nat, Int.toNat_natCast, hx, set_get hx, List.set_set, Option.bind_some, w_succ hx hl, w0, w1, w2, w3, w4, w5, e3, e4, reVal_eq, reExpr_eq, reRead_eq, reBinding_eq]
      rw [hsum]
    · simp only [dec_lt hyi, cond_true, idx_nat, hyi, Option.bind_some, w_succ hyi hy, bne_self_i, nbeq_self_s, cond_false, w0, w1, w2, w3, w4, w5, e3, e4, reVal_eq, reExpr_eq, reRead_eq, reBinding_eq]
      rw [hsum]
  · simp only [Int.lt_irrefl, decide_false, cond_false]
  · simp only [Int.lt_irrefl, decide_false, cond_false]
theorem okCellS24 {xs : List GCell} (h : FitD B24 (.list (.base .cell) xs)) : OkCellS xs ∧ cntCellS xs ≤ 100663296 := by
  have hl := list24 h
  have key : ∀ x, x ∈ xs → OkCellE x ∧ cntCellE x ≤ 6 := by
    intro x hx
    unfold OkCellE cntCellE
    exact ⟨trivial, by omega⟩
  refine ⟨⟨fun x hx => (key x hx).1, by omega⟩, ?_⟩
  have h1 := sum_le cntCellE xs 6 fun x hx => (key x hx).2
  have h2 : xs.length * 6 ≤ 16777216 * 6 := Nat.mul_le_mul_right _ (by omega)
  unfold cntCellS; omega
def cntEditE (x : GEdit) : Nat := 1 + 1 + 1 + 1 + 1 + 1 + 1 + 1
def cntEditS (xs : List GEdit) : Nat := (xs.map cntEditE).sum
def OkEditE (x : GEdit) : Prop := True
def OkEditS (xs : List GEdit) : Prop := (∀ x, x ∈ xs → OkEditE x) ∧ xs.length < 4611686018427387904
theorem markEditS_ok (xs : List GEdit) (h : OkEditS xs) : MkOk markEditS heldEditS xs (cntEditS xs) := by
  refine markList_ok (mk := markEditS) (hd := heldEditS) (fun _ _ => rfl) (fun _ _ => rfl) cntEditE OkEditE (fun xs i x k hx hP hl h0 hk => ?_) (fun xs k => ?_) (fun xs k => ?_) xs h.1 h.2
  · unfold cntEditE at hk
    have w0 : w64 (k + 1) = k + 1 := w64_id (by omega) (by omega)
    have w1 : w64 (k + 1 + 1) = k + 1 + 1 := w64_id (by omega) (by omega)
    have w2 : w64 (k + 1 + 1 + 1) = k + 1 + 1 + 1 := w64_id (by omega) (by omega)
    have w3 : w64 (k + 1 + 1 + 1 + 1) = k + 1 + 1 + 1 + 1 := w64_id (by omega) (by omega)
    have w4 : w64 (k + 1 + 1 + 1 + 1 + 1) = k + 1 + 1 + 1 + 1 + 1 := w64_id (by omega) (by omega)
    obtain ⟨t5, e5⟩ := markText_ok (k + 1 + 1 + 1 + 1 + 1) (by omega) (by omega)
    have w5 : w64 (k + 1 + 1 + 1 + 1 + 1 + 1) = k + 1 + 1 + 1 + 1 + 1 + 1 := w64_id (by omega) (by omega)
    obtain ⟨t6, e6⟩ := markText_ok (k + 1 + 1 + 1 + 1 + 1 + 1) (by omega) (by omega)
    have w6 : w64 (k + 1 + 1 + 1 + 1 + 1 + 1 + 1) = k + 1 + 1 + 1 + 1 + 1 + 1 + 1 := w64_id (by omega) (by omega)
    have w7 : w64 (k + 1 + 1 + 1 + 1 + 1 + 1 + 1 + 1) = k + 1 + 1 + 1 + 1 + 1 + 1 + 1 + 1 := w64_id (by omega) (by omega)
    have hsum : k + 1 + 1 + 1 + 1 + 1 + 1 + 1 + 1 = k + (cntEditE x : Nat) := by unfold cntEditE; omega
    refine ⟨GEdit.mk k (k + 1) (GCell.mk (k + 1 + 1) (k + 1 + 1 + 1) (k + 1 + 1 + 1 + 1) t5 t6 (k + 1 + 1 + 1 + 1 + 1 + 1 + 1)), ?_, fun ys hy hyi => ?_⟩
    · simp only [dec_lt hx, cond_true, idx_nat, Int.toNat_natCast, hx, set_get hx, List.set_set, Option.bind_some, w_succ hx hl, w0, w1, w2, w3, w4, w5, w6, w7, e5, e6, reVal_eq, reExpr_eq, reRead_eq, reBinding_eq]
      rw [hsum]
    · simp only [dec_lt hyi, cond_true, idx_nat, hyi, Option.bind_some, w_succ hyi hy, bne_self_i, nbeq_self_s, cond_false, w0, w1, w2, w3, w4, w5, w6, w7, e5, e6, reVal_eq, reExpr_eq, reRead_eq, reBinding_eq]
      rw [hsum]
  · simp only [Int.lt_irrefl, decide_false, cond_false]
  · simp only [Int.lt_irrefl, decide_false, cond_false]
theorem okEditS24 {xs : List GEdit} (h : FitD B24 (.list (.base .edit) xs)) : OkEditS xs ∧ cntEditS xs ≤ 134217728 := by
  have hl := list24 h
  have key : ∀ x, x ∈ xs → OkEditE x ∧ cntEditE x ≤ 8 := by
    intro x hx
    unfold OkEditE cntEditE
    exact ⟨trivial, by omega⟩
  refine ⟨⟨fun x hx => (key x hx).1, by omega⟩, ?_⟩
  have h1 := sum_le cntEditE xs 8 fun x hx => (key x hx).2
  have h2 : xs.length * 8 ≤ 16777216 * 8 := Nat.mul_le_mul_right _ (by omega)
  unfold cntEditS; omega
def cntNodeE (x : GNode) : Nat := 1 + cntEditS x.edits + cntEditS x.undo
def cntNodeS (xs : List GNode) : Nat := (xs.map cntNodeE).sum
def OkNodeE (x : GNode) : Prop := OkEditS x.edits ∧ OkEditS x.undo
def OkNodeS (xs : List GNode) : Prop := (∀ x, x ∈ xs → OkNodeE x) ∧ xs.length < 4611686018427387904
theorem markNodeS_ok (xs : List GNode) (h : OkNodeS xs) : MkOk markNodeS heldNodeS xs (cntNodeS xs) := by
  refine markList_ok (mk := markNodeS) (hd := heldNodeS) (fun _ _ => rfl) (fun _ _ => rfl) cntNodeE OkNodeE (fun xs i x k hx hP hl h0 hk => ?_) (fun xs k => ?_) (fun xs k => ?_) xs h.1 h.2
  · unfold cntNodeE at hk
    unfold OkNodeE at hP
    obtain ⟨q0, q1⟩ := hP
    have w0 : w64 (k + 1) = k + 1 := w64_id (by omega) (by omega)
    obtain ⟨y1, e1, f1⟩ := markEditS_ok x.edits q0 (k + 1) (by omega) (by omega)
    have n1 : decide (k + 1 + (cntEditS x.edits : Nat) < 0) = false := decide_eq_false (by omega)
    obtain ⟨y2, e2, f2⟩ := markEditS_ok x.undo q1 (k + 1 + (cntEditS x.edits : Nat)) (by omega) (by omega)
    have n2 : decide (k + 1 + (cntEditS x.edits : Nat) + (cntEditS x.undo : Nat) < 0) = false := decide_eq_false (by omega)
    have hsum : k + 1 + (cntEditS x.edits : Nat) + (cntEditS x.undo : Nat) = k + (cntNodeE x : Nat) := by unfold cntNodeE; omega
    refine ⟨GNode.mk k y1 y2, ?_, fun ys hy hyi => ?_⟩
    · simp only [dec_lt hx, cond_true, idx_nat, Int.toNat_natCast, hx, set_get hx, List.set_set, Option.bind_some, w_succ hx hl, w0, e1, f1, e2, f2, reVal_eq, reExpr_eq, reRead_eq, reBinding_eq]
      rw [hsum]
    · simp only [dec_lt hyi, cond_true, idx_nat, hyi, Option.bind_some, w_succ hyi hy, bne_self_i, nbeq_self_s, cond_false, w0, e1, f1, e2, f2, n1, n2, reVal_eq, reExpr_eq, reRead_eq, reBinding_eq]
      rw [hsum]
  · simp only [Int.lt_irrefl, decide_false, cond_false]
  · simp only [Int.lt_irrefl, decide_false, cond_false]
theorem okNodeS24 {xs : List GNode} (h : FitD B24 (.list (.base .node) xs)) : OkNodeS xs ∧ cntNodeS xs ≤ 4503599644147712 := by
  have hl := list24 h
  have key : ∀ x, x ∈ xs → OkNodeE x ∧ cntNodeE x ≤ 268435457 := by
    intro x hx
    unfold OkNodeE cntNodeE
    have f := h.list_mem x hx
    rw [fit_node] at f
    obtain ⟨c0, c1, c2⟩ := f
    obtain ⟨p0, r0⟩ := okEditS24 c1
    obtain ⟨p1, r1⟩ := okEditS24 c2
    exact ⟨⟨p0, p1⟩, by omega⟩
  refine ⟨⟨fun x hx => (key x hx).1, by omega⟩, ?_⟩
  have h1 := sum_le cntNodeE xs 268435457 fun x hx => (key x hx).2
  have h2 : xs.length * 268435457 ≤ 16777216 * 268435457 := Nat.mul_le_mul_right _ (by omega)
  unfold cntNodeS; omega
def cntNotebook (x : GNotebook) : Nat := cntCellS x.cells
def OkNotebook (x : GNotebook) : Prop := OkCellS x.cells
theorem markNotebook_ok (x : GNotebook) (h : OkNotebook x) (k : Int) (h0 : 0 ≤ k) (hk : k + cntNotebook x ≤ 4611686018427387904) : ∃ y, markNotebook x k = some (y, k + (cntNotebook x : Nat)) ∧ heldNotebook y k = some (k + (cntNotebook x : Nat)) := by
  unfold cntNotebook at hk
  unfold OkNotebook at h
  have q0 := h
  obtain ⟨y0, e0, f0⟩ := markCellS_ok x.cells q0 (k) (by omega) (by omega)
  have n0 : decide (k + (cntCellS x.cells : Nat) < 0) = false := decide_eq_false (by omega)
  have hsum : k + (cntCellS x.cells : Nat) = k + (cntNotebook x : Nat) := by unfold cntNotebook; omega
  refine ⟨GNotebook.mk y0, ?_, ?_⟩
  · unfold markNotebook; simp only [Option.bind_some, e0, f0]
    rw [hsum]
  · unfold heldNotebook; simp only [Option.bind_some, cond_false, e0, f0, n0]
    rw [hsum]
theorem okNotebook24 {x : GNotebook} (h : Fit B24 (.base .notebook) x) : OkNotebook x ∧ cntNotebook x ≤ 100663296 := by
  rw [fit_notebook] at h
  have c0 := h
  unfold OkNotebook cntNotebook
  obtain ⟨p0, r0⟩ := okCellS24 c0
  exact ⟨p0, by omega⟩
def cntHistory (x : GHistory) : Nat := cntNotebook x.notebook + cntNodeS x.nodes
def OkHistory (x : GHistory) : Prop := OkNotebook x.notebook ∧ OkNodeS x.nodes
theorem markHistory_ok (x : GHistory) (h : OkHistory x) (k : Int) (h0 : 0 ≤ k) (hk : k + cntHistory x ≤ 4611686018427387904) : ∃ y, markHistory x k = some (y, k + (cntHistory x : Nat)) ∧ heldHistory y k = some (k + (cntHistory x : Nat)) ∧ y.pos = x.pos := by
  unfold cntHistory at hk
  unfold OkHistory at h
  obtain ⟨q0, q1⟩ := h
  obtain ⟨y0, e0, f0⟩ := markNotebook_ok x.notebook q0 (k) (by omega) (by omega)
  have n0 : decide (k + (cntNotebook x.notebook : Nat) < 0) = false := decide_eq_false (by omega)
  obtain ⟨y1, e1, f1⟩ := markNodeS_ok x.nodes q1 (k + (cntNotebook x.notebook : Nat)) (by omega) (by omega)
  have n1 : decide (k + (cntNotebook x.notebook : Nat) + (cntNodeS x.nodes : Nat) < 0) = false := decide_eq_false (by omega)
  have hsum : k + (cntNotebook x.notebook : Nat) + (cntNodeS x.nodes : Nat) = k + (cntHistory x : Nat) := by unfold cntHistory; omega
  refine ⟨GHistory.mk y0 y1 x.pos, ?_, ?_, rfl⟩
  · unfold markHistory; simp only [Option.bind_some, e0, f0, e1, f1]
    rw [hsum]
  · unfold heldHistory; simp only [Option.bind_some, cond_false, e0, f0, e1, f1, n0, n1]
    rw [hsum]
theorem okHistory24 {x : GHistory} (h : Fit B24 (.base .history) x) : OkHistory x ∧ cntHistory x ≤ 4503599744811008 := by
  rw [fit_history] at h
  obtain ⟨c0, c1, c2⟩ := h
  unfold OkHistory cntHistory
  obtain ⟨p0, r0⟩ := okNotebook24 c0
  obtain ⟨p1, r1⟩ := okNodeS24 c1
  exact ⟨⟨p0, p1⟩, by omega⟩
end Go.Proofs.Ytiedhibpaooldaa
