/- Plain laws of marks, by genmark.py. -/
import Derived.Test.YtdlfoecpgaenpaaGreatDoorMark0
set_option linter.unusedSimpArgs false
set_option linter.unusedVariables false
namespace Go.Proofs.YtdlfoecpgaenpaaGreatDoor
open Go.Abs Go.Proofs
theorem nbeq_self_b (a : Bool) : (!(a == a)) = false := by simp
def OkCellE (x : GCell) : Prop := True
def OkCellS (xs : List GCell) : Prop := (∀ x, x ∈ xs -> OkCellE x) /\ xs.length < 4611686018427387904
theorem markCellS_ok (xs : List GCell) (h : OkCellS xs) : MkOk markCellS heldCellS xs (cntCellS xs) := by
 refine markList_ok (mk := markCellS) (hd := heldCellS) (fun _ _ => rfl) (fun _ _ => rfl) cntCellE OkCellE (fun xs i x k hx hP hl h0 hk => ?_) (fun xs k => ?_) (fun xs k => ?_) xs h.1 h.2
 ·unfold cntCellE at hk
  obtain ⟨k0, g0⟩ : ∃ m : Int, m = k + 1 := ⟨_, rfl⟩
  have w0 : w64 (k + 1) = k0 := by rw [g0]; exact w64_id (by omega) (by omega)
  obtain ⟨k1, g1⟩ : ∃ m : Int, m = k0 + 1 := ⟨_, rfl⟩
  have w1 : w64 (k0 + 1) = k1 := by rw [g1]; exact w64_id (by omega) (by omega)
  obtain ⟨k2, g2⟩ : ∃ m : Int, m = k1 + 1 := ⟨_, rfl⟩
  have w2 : w64 (k1 + 1) = k2 := by rw [g2]; exact w64_id (by omega) (by omega)
  obtain ⟨t3, e3⟩ := markText_ok k2 (by omega) (by omega)
  obtain ⟨k3, g3⟩ : ∃ m : Int, m = k2 + 1 := ⟨_, rfl⟩
  have w3 : w64 (k2 + 1) = k3 := by rw [g3]; exact w64_id (by omega) (by omega)
  obtain ⟨t4, e4⟩ := markText_ok k3 (by omega) (by omega)
  obtain ⟨k4, g4⟩ : ∃ m : Int, m = k3 + 1 := ⟨_, rfl⟩
  have w4 : w64 (k3 + 1) = k4 := by rw [g4]; exact w64_id (by omega) (by omega)
  obtain ⟨k5, g5⟩ : ∃ m : Int, m = k4 + 1 := ⟨_, rfl⟩
  have w5 : w64 (k4 + 1) = k5 := by rw [g5]; exact w64_id (by omega) (by omega)
  have hsum : k5 = k + (cntCellE x : Nat) := by unfold cntCellE; omega
  refine ⟨GCell.mk k k0 k1 t3 t4 k4, ?_, fun ys hy hyi => ?_⟩
  ·simp only [dec_lt hx, cond_true, idx_nat, Int.toNat_natCast, hx, set_get hx, List.set_set, Option.bind_some, w_succ hx hl, w0, w1, w2, w3, w4, w5, e3, e4, reVal_eq, reExpr_eq, rePart_eq]
   rw [hsum]
  ·simp only [dec_lt hyi, cond_true, idx_nat, hyi, Option.bind_some, w_succ hyi hy, bne_self_i, nbeq_self_s, nbeq_self_b, cond_false, w0, w1, w2, w3, w4, w5, e3, e4, reVal_eq, reExpr_eq, rePart_eq]
   rw [hsum]
 ·simp only [Int.lt_irrefl, decide_false, cond_false]
 ·simp only [Int.lt_irrefl, decide_false, cond_false]
theorem okCellS24 {xs : List GCell} (h : FitD B24 (.list (.base .cell) xs)) : OkCellS xs /\ cntCellS xs <= 100663296 := by
 have hl := list24 h
 have key : ∀ x, x ∈ xs -> OkCellE x /\ cntCellE x <= 6 := by
  intro x hx
  unfold OkCellE cntCellE
  exact ⟨trivial, by omega⟩
 refine ⟨⟨fun x hx => (key x hx).1, by omega⟩, ?_⟩
 have h1 := sum_le cntCellE xs 6 fun x hx => (key x hx).2
 have h2 : xs.length * 6 <= 16777216 * 6 := Nat.mul_le_mul_right _ (by omega)
 unfold cntCellS; omega
noncomputable def cntNotebook (x : GNotebook) : Nat := cntCellS x.cells
def OkNotebook (x : GNotebook) : Prop := OkCellS x.cells
theorem markNotebook_ok (x : GNotebook) (h : OkNotebook x) (k : Int) (h0 : 0 <= k) (hk : k + cntNotebook x <= 4611686018427387904) : ∃ y, markNotebook x k = some (y, k + (cntNotebook x : Nat)) /\ heldNotebook y k = some (k + (cntNotebook x : Nat)) := by
 unfold cntNotebook at hk
 unfold OkNotebook at h
 have q0 := h
 obtain ⟨y0, e0, f0⟩ := markCellS_ok x.cells q0 (k) (by omega) (by omega)
 have n0 : decide (k + (cntCellS x.cells : Nat) < 0) = false := decide_eq_false (by omega)
 have hsum : k + (cntCellS x.cells : Nat) = k + (cntNotebook x : Nat) := by unfold cntNotebook; omega
 refine ⟨GNotebook.mk y0, ?_, ?_⟩
 ·unfold markNotebook; simp only [Option.bind_some, e0, f0]
  rw [hsum]
 ·unfold heldNotebook; simp only [Option.bind_some, cond_false, e0, f0, n0]
  rw [hsum]
theorem okNotebook24 {x : GNotebook} (h : Fit B24 (.base .notebook) x) : OkNotebook x /\ cntNotebook x <= 100663296 := by
 rw [fit_notebook] at h
 have c0 := h
 unfold OkNotebook cntNotebook
 obtain ⟨p0, r0⟩ := okCellS24 c0
 exact ⟨p0, by omega⟩
end Go.Proofs.YtdlfoecpgaenpaaGreatDoor
