/- Plain laws of marks, by genmark.py. -/
import Derived.Test.YtopcobafmnpmkaaGreatMark0
set_option linter.unusedSimpArgs false
set_option linter.unusedVariables false
namespace Go.Proofs.YtopcobafmnpmkaaGreat
open Go.Abs Go.Proofs
def OkIntS (xs : List Int) : Prop := xs.length < 4611686018427387904
def OkStringS (xs : List Str) : Prop := xs.length < 4611686018427387904
theorem nbeq_self_b (a : Bool) : (!(a == a)) = false := by simp
noncomputable def heldEditS (a : List GEdit) (b : Int) : Option (Int) :=
  loopD (fun (x1 : (List GEdit) × Int × Int) =>
    bif (decide (x1.2.2 < (x1.1.length : Int))) then
      (idx x1.1 x1.2.2).bind fun e2 =>
      bif (e2.kind != x1.2.1) then
        some (.inr ((-1)))
      else
      (idx x1.1 x1.2.2).bind fun e3 =>
      bif (e3.pos != (w64 (x1.2.1 + 1))) then
        some (.inr ((-1)))
      else
      (idx x1.1 x1.2.2).bind fun e4 =>
      bif (e4.cell.id != (w64 ((w64 (x1.2.1 + 1)) + 1))) then
        some (.inr ((-1)))
      else
      (idx x1.1 x1.2.2).bind fun e5 =>
      bif (e5.cell.version != (w64 ((w64 ((w64 (x1.2.1 + 1)) + 1)) + 1))) then
        some (.inr ((-1)))
      else
      (idx x1.1 x1.2.2).bind fun e6 =>
      bif (e6.cell.kind != (w64 ((w64 ((w64 ((w64 (x1.2.1 + 1)) + 1)) + 1)) + 1))) then
        some (.inr ((-1)))
      else
      (idx x1.1 x1.2.2).bind fun e7 =>
      (markText (w64 ((w64 ((w64 ((w64 ((w64 (x1.2.1 + 1)) + 1)) + 1)) + 1)) + 1))).bind fun r8 =>
      bif (!(e7.cell.name == r8)) then
        some (.inr ((-1)))
      else
      (idx x1.1 x1.2.2).bind fun e9 =>
      (markText (w64 ((w64 ((w64 ((w64 ((w64 ((w64 (x1.2.1 + 1)) + 1)) + 1)) + 1)) + 1)) + 1))).bind fun r10 =>
      bif (!(e9.cell.code == r10)) then
        some (.inr ((-1)))
      else
        (idx x1.1 x1.2.2).bind fun e11 =>
        bif (e11.cell.n != (w64 ((w64 ((w64 ((w64 ((w64 ((w64 ((w64 (x1.2.1 + 1)) + 1)) + 1)) + 1)) + 1)) + 1)) + 1))) then
          some (.inr ((-1)))
        else
          some (.inl (x1.1, w64 ((w64 ((w64 ((w64 ((w64 ((w64 ((w64 ((w64 (x1.2.1 + 1)) + 1)) + 1)) + 1)) + 1)) + 1)) + 1)) + 1), w64 (x1.2.2 + 1)))
    else
      some (.inr (x1.2.1))
  ) (a, b, 0)
theorem markIntS_ok (xs : List Int) (hl : xs.length < 4611686018427387904) : MkOk markIntS heldIntS xs (cntIntS xs) := by
  refine markList_ok (mk := markIntS) (hd := heldIntS) (fun _ _ => rfl) (fun _ _ => rfl) (fun _ => 1) (fun _ => True) (fun xs i x k hx hP hl h0 hk => ?_) (fun xs k => ?_) (fun xs k => ?_) xs (fun _ _ => trivial) hl
  · have w1 : w64 (k + 1) = k + 1 := w64_id (by omega) (by omega)
    refine ⟨k, ?_, fun ys hy hyi => ?_⟩
    · simp only [dec_lt hx, cond_true, idx_nat, Int.toNat_natCast, hx, Option.bind_some, w1, w_succ hx hl]; rfl
    · simp only [dec_lt hyi, cond_true, idx_nat, hyi, Option.bind_some, w1, w_succ hyi hy, bne_self_i, nbeq_self_s, cond_false]; rfl
  · simp only [Int.lt_irrefl, decide_false, cond_false]
  · simp only [Int.lt_irrefl, decide_false, cond_false]
theorem okIntS24 {xs : List Int} (h : FitD B24 (.list (.base .int) xs)) : OkIntS xs ∧ cntIntS xs ≤ 16777216 := by
  have hl := list24 h
  refine ⟨by unfold OkIntS; omega, ?_⟩
  have := sum_le (fun _ => 1) xs 1 (fun _ _ => Nat.le_refl 1)
  unfold cntIntS; omega
theorem markStringS_ok (xs : List Str) (hl : xs.length < 4611686018427387904) : MkOk markStringS heldStringS xs (cntStringS xs) := by
  refine markList_ok (mk := markStringS) (hd := heldStringS) (fun _ _ => rfl) (fun _ _ => rfl) (fun _ => 1) (fun _ => True) (fun xs i x k hx hP hl h0 hk => ?_) (fun xs k => ?_) (fun xs k => ?_) xs (fun _ _ => trivial) hl
  · have w1 : w64 (k + 1) = k + 1 := w64_id (by omega) (by omega)
    obtain ⟨t1, e1⟩ := markText_ok k (by omega) (by omega)
    refine ⟨t1, ?_, fun ys hy hyi => ?_⟩
    · simp only [dec_lt hx, cond_true, idx_nat, Int.toNat_natCast, hx, Option.bind_some, w1, w_succ hx hl, e1]; rfl
    · simp only [dec_lt hyi, cond_true, idx_nat, hyi, Option.bind_some, w1, w_succ hyi hy, bne_self_i, nbeq_self_s, cond_false, e1]; rfl
  · simp only [Int.lt_irrefl, decide_false, cond_false]
  · simp only [Int.lt_irrefl, decide_false, cond_false]
theorem okStringS24 {xs : List Str} (h : FitD B24 (.list (.base .str) xs)) : OkStringS xs ∧ cntStringS xs ≤ 16777216 := by
  have hl := list24 h
  refine ⟨by unfold OkStringS; omega, ?_⟩
  have := sum_le (fun _ => 1) xs 1 (fun _ _ => Nat.le_refl 1)
  unfold cntStringS; omega
def OkOriginE (x : GOrigin) : Prop := True
def OkOriginS (xs : List GOrigin) : Prop := (∀ x, x ∈ xs → OkOriginE x) ∧ xs.length < 4611686018427387904
theorem markOriginS_ok (xs : List GOrigin) (h : OkOriginS xs) : MkOk markOriginS heldOriginS xs (cntOriginS xs) := by
  refine markList_ok (mk := markOriginS) (hd := heldOriginS) (fun _ _ => rfl) (fun _ _ => rfl) cntOriginE OkOriginE (fun xs i x k hx hP hl h0 hk => ?_) (fun xs k => ?_) (fun xs k => ?_) xs h.1 h.2
  · unfold cntOriginE at hk
    obtain ⟨k0, g0⟩ : ∃ m : Int, m = k + 1 := ⟨_, rfl⟩
    have w0 : w64 (k + 1) = k0 := by rw [g0]; exact w64_id (by omega) (by omega)
    obtain ⟨k1, g1⟩ : ∃ m : Int, m = k0 + 1 := ⟨_, rfl⟩
    have w1 : w64 (k0 + 1) = k1 := by rw [g1]; exact w64_id (by omega) (by omega)
    have hsum : k1 = k + (cntOriginE x : Nat) := by unfold cntOriginE; omega
    refine ⟨GOrigin.mk k k0, ?_, fun ys hy hyi => ?_⟩
    · simp only [dec_lt hx, cond_true, idx_nat, Int.toNat_natCast, hx, set_get hx, List.set_set, Option.bind_some, w_succ hx hl, w0, w1, reVal_eq, reExpr_eq, reRead_eq, reBinding_eq, reEntry_eq, rePart_eq]
      rw [hsum]
    · simp only [dec_lt hyi, cond_true, idx_nat, hyi, Option.bind_some, w_succ hyi hy, bne_self_i, nbeq_self_s, nbeq_self_b, cond_false, w0, w1, reVal_eq, reExpr_eq, reRead_eq, reBinding_eq, reEntry_eq, rePart_eq]
      rw [hsum]
  · simp only [Int.lt_irrefl, decide_false, cond_false]
  · simp only [Int.lt_irrefl, decide_false, cond_false]
theorem okOriginSF {xs : List GOrigin} (h : FitD B24 (.list (.base .origin) xs)) : OkOriginS xs := by
  have hl := list24 h
  refine ⟨fun x hx => ?_, by omega⟩
  unfold OkOriginE
  trivial
theorem okOriginS24 {xs : List GOrigin} (h : FitD B24 (.list (.base .origin) xs)) : OkOriginS xs ∧ cntOriginS xs ≤ 33554432 := by
  have hl := list24 h
  have key : ∀ x, x ∈ xs → OkOriginE x ∧ cntOriginE x ≤ 2 := by
    intro x hx
    unfold OkOriginE cntOriginE
    exact ⟨trivial, by omega⟩
  refine ⟨⟨fun x hx => (key x hx).1, by omega⟩, ?_⟩
  have h1 := sum_le cntOriginE xs 2 fun x hx => (key x hx).2
  have h2 : xs.length * 2 ≤ 16777216 * 2 := Nat.mul_le_mul_right _ (by omega)
  unfold cntOriginS; omega
def OkRowE (x : GRow) : Prop := OkIntS x.cells ∧ OkOriginS x.orig
def OkRowS (xs : List GRow) : Prop := (∀ x, x ∈ xs → OkRowE x) ∧ xs.length < 4611686018427387904
theorem markRowS_ok (xs : List GRow) (h : OkRowS xs) : MkOk markRowS heldRowS xs (cntRowS xs) := by
  refine markList_ok (mk := markRowS) (hd := heldRowS) (fun _ _ => rfl) (fun _ _ => rfl) cntRowE OkRowE (fun xs i x k hx hP hl h0 hk => ?_) (fun xs k => ?_) (fun xs k => ?_) xs h.1 h.2
  · unfold cntRowE at hk
    unfold OkRowE at hP
    obtain ⟨q0, q1⟩ := hP
    obtain ⟨y0, e0, f0⟩ := markIntS_ok x.cells q0 k (by omega) (by omega)
    obtain ⟨k0, g0⟩ : ∃ m : Int, m = k + (cntIntS x.cells : Nat) := ⟨_, rfl⟩
    rw [← g0] at e0 f0
    have n0 : decide (k0 < 0) = false := decide_eq_false (by omega)
    obtain ⟨y1, e1, f1⟩ := markOriginS_ok x.orig q1 k0 (by omega) (by omega)
    obtain ⟨k1, g1⟩ : ∃ m : Int, m = k0 + (cntOriginS x.orig : Nat) := ⟨_, rfl⟩
    rw [← g1] at e1 f1
    have n1 : decide (k1 < 0) = false := decide_eq_false (by omega)
    have hsum : k1 = k + (cntRowE x : Nat) := by unfold cntRowE; omega
    refine ⟨GRow.mk y0 y1, ?_, fun ys hy hyi => ?_⟩
    · simp only [dec_lt hx, cond_true, idx_nat, Int.toNat_natCast, hx, set_get hx, List.set_set, Option.bind_some, w_succ hx hl, e0, f0, e1, f1, reVal_eq, reExpr_eq, reRead_eq, reBinding_eq, reEntry_eq, rePart_eq]
      rw [hsum]
    · simp only [dec_lt hyi, cond_true, idx_nat, hyi, Option.bind_some, w_succ hyi hy, bne_self_i, nbeq_self_s, nbeq_self_b, cond_false, e0, f0, e1, f1, n0, n1, reVal_eq, reExpr_eq, reRead_eq, reBinding_eq, reEntry_eq, rePart_eq]
      rw [hsum]
  · simp only [Int.lt_irrefl, decide_false, cond_false]
  · simp only [Int.lt_irrefl, decide_false, cond_false]
theorem okRowSF {xs : List GRow} (h : FitD B24 (.list (.base .row) xs)) : OkRowS xs := by
  have hl := list24 h
  refine ⟨fun x hx => ?_, by omega⟩
  unfold OkRowE
  have f := h.list_mem x hx
  rw [fit_row] at f
  obtain ⟨f_0, f_1⟩ := f
  exact ⟨okIntS24 f_0 |>.1, okOriginSF f_1⟩
theorem okRowS24 {xs : List GRow} (h : FitD B24 (.list (.base .row) xs)) : OkRowS xs ∧ cntRowS xs ≤ 844424930131968 := by
  have hl := list24 h
  have key : ∀ x, x ∈ xs → OkRowE x ∧ cntRowE x ≤ 50331648 := by
    intro x hx
    unfold OkRowE cntRowE
    have f := h.list_mem x hx
    rw [fit_row] at f
    obtain ⟨c0, c1⟩ := f
    obtain ⟨p0, r0⟩ := okIntS24 c0
    obtain ⟨p1, r1⟩ := okOriginS24 c1
    exact ⟨⟨p0, p1⟩, by omega⟩
  refine ⟨⟨fun x hx => (key x hx).1, by omega⟩, ?_⟩
  have h1 := sum_le cntRowE xs 50331648 fun x hx => (key x hx).2
  have h2 : xs.length * 50331648 ≤ 16777216 * 50331648 := Nat.mul_le_mul_right _ (by omega)
  unfold cntRowS; omega
/-! values -/
noncomputable def dV (x : GVal) : Nat := GVal.rec (motive_1 := fun _ => Nat) (motive_2 := fun _ => Nat) (fun _ _ _ _ _ _ _ ih => ih + 1) 0 (fun _ _ a b => max a b) x
noncomputable def dVs (xs : List GVal) : Nat := GVal.rec_1 (motive_1 := fun _ => Nat) (motive_2 := fun _ => Nat) (fun _ _ _ _ _ _ _ ih => ih + 1) 0 (fun _ _ a b => max a b) xs
theorem dV_eq (x : GVal) : dV x = dVs x.list + 1 := by cases x; rfl
theorem dVs_cons (x : GVal) (xs : List GVal) : dVs (x :: xs) = max (dV x) (dVs xs) := rfl
theorem dVs_le {d : Nat} : ∀ {xs : List GVal}, (∀ x, x ∈ xs → dV x ≤ d) → dVs xs ≤ d
  | [], _ => Nat.zero_le _
  | x :: xs, h => Nat.max_le.2 ⟨h x List.mem_cons_self, dVs_le fun y hy => h y (List.mem_cons_of_mem _ hy)⟩
theorem dVs_mem {d : Nat} : ∀ {xs : List GVal}, dVs xs ≤ d → ∀ x, x ∈ xs → dV x ≤ d
  | [], _, x, hx => by cases hx
  | y :: ys, h, x, hx => by
    have h' : max (dV y) (dVs ys) ≤ d := h
    have h2 := Nat.max_le.1 h'
    rcases List.mem_cons.1 hx with rfl | hx
    · exact h2.1
    · exact dVs_mem h2.2 x hx
theorem dVs_congr : ∀ {xs ys : List GVal}, ys.length = xs.length → (∀ (i : Nat) (x y : GVal), xs[i]? = some x → ys[i]? = some y → dV y = dV x) → dVs ys = dVs xs
  | [], [], _, _ => rfl
  | x :: xs, y :: ys, hl, h => by
    rw [dVs_cons, dVs_cons, h 0 x y rfl rfl, dVs_congr (by simpa using hl) fun i a b ha hb => h (i + 1) a b (by simpa using ha) (by simpa using hb)]
theorem dVs_siz : ∀ n (xs : List GVal), siz xs < n → dVs xs ≤ siz xs
  | 0, xs, h => absurd h (Nat.not_lt_zero _)
  | n + 1, xs, h => dVs_le fun x hx => by
      have h1 := siz_mem hx
      have h2 := siz_list (v := x)
      have h3 := dVs_siz n x.list (by omega)
      rw [dV_eq]; omega
def OkValueS (xs : List GVal) : Prop := FitD B24 (.list (.base .val) xs)
theorem markValueG_ok : ∀ (d : Nat) (xs : List GVal), dVs xs ≤ d → OkValueS xs → ∀ k : Int, 0 ≤ k → k + cntValueS xs ≤ 4611686018427387904 →
    ∃ ys, dVs ys = dVs xs ∧ ∀ j : Nat × Nat, (d < j.1 ∧ d < j.2) → markValueSG j.1 xs k = some (ys, k + (cntValueS xs : Nat)) ∧ heldValueSG j.2 ys k = some (k + (cntValueS xs : Nat)) := by
  intro d
  induction d with
  | zero =>
    intro xs hd hok k h0 hk
    have hx : xs = [] := by
      cases xs with
      | nil => rfl
      | cons x xs => have := dVs_mem hd x List.mem_cons_self; rw [dV_eq] at this; omega
    subst hx
    refine ⟨[], rfl, fun j hj => ?_⟩
    obtain ⟨a, b⟩ := j
    obtain ⟨h1, h2⟩ := hj
    match a, b, h1, h2 with
    | a + 1, b + 1, _, _ =>
      have e : k + (cntValueS [] : Nat) = k := by show k + ((0 : Nat) : Int) = k; omega
      rw [e]
      constructor
      · show markValueSB (markValueSG a) [] k = _
        unfold markValueSB; rw [loopD_eq]; rfl
      · show heldValueSB (heldValueSG b) [] k = _
        unfold heldValueSB; rw [loopD_eq]; rfl
  | succ d ih =>
    intro xs hd hok k h0 hk
    have hl := list24 hok
    rw [cntValueS_eq] at hk ⊢
    have M := markListI (ι := Nat × Nat) (J := fun j => d + 1 < j.1 ∧ d + 1 < j.2) (mk := fun j => markValueSG j.1) (hd := fun j => heldValueSG j.2)
      (g := fun j => (fun (x : List GVal × Int × Int) =>
          bif (decide (x.2.1 < (x.1.length : Int))) then
            (idx x.1 x.2.1).bind fun _ =>
            (x.1[x.2.1.toNat]?).bind fun e1 =>
            (some (x.1.set x.2.1.toNat (GVal.mk x.2.2 e1.n e1.step e1.text e1.list e1.columns e1.rows))).bind fun z2 =>
            (idx z2 x.2.1).bind fun _ =>
            (z2[x.2.1.toNat]?).bind fun e3 =>
            (some (z2.set x.2.1.toNat (GVal.mk e3.kind (w64 (x.2.2 + 1)) e3.step e3.text e3.list e3.columns e3.rows))).bind fun z4 =>
            (idx z4 x.2.1).bind fun _ =>
            (z4[x.2.1.toNat]?).bind fun e5 =>
            (some (z4.set x.2.1.toNat (GVal.mk e5.kind e5.n (w64 ((w64 (x.2.2 + 1)) + 1)) e5.text e5.list e5.columns e5.rows))).bind fun z6 =>
            (markText (w64 ((w64 ((w64 (x.2.2 + 1)) + 1)) + 1))).bind fun t7 =>
            (idx z6 x.2.1).bind fun _ =>
            (z6[x.2.1.toNat]?).bind fun e8 =>
            (some (z6.set x.2.1.toNat (GVal.mk e8.kind e8.n e8.step t7 e8.list e8.columns e8.rows))).bind fun z9 =>
            (idx z9 x.2.1).bind fun _ =>
            (z9[x.2.1.toNat]?).bind fun e10 =>
            (z9[x.2.1.toNat]?).bind fun e11 =>
            ((markValueSG (j.1 - 1)) e11.list (w64 ((w64 ((w64 ((w64 (x.2.2 + 1)) + 1)) + 1)) + 1))).bind fun r12 =>
            (some (z9.set x.2.1.toNat (GVal.mk e11.kind e11.n e11.step e11.text r12.1 e11.columns e11.rows))).bind fun z13 =>
            (idx z13 x.2.1).bind fun _ =>
            (z13[x.2.1.toNat]?).bind fun e14 =>
            (z13[x.2.1.toNat]?).bind fun e15 =>
            (markStringS e15.columns r12.2).bind fun r16 =>
            (some (z13.set x.2.1.toNat (GVal.mk e15.kind e15.n e15.step e15.text e15.list r16.1 e15.rows))).bind fun z17 =>
            (idx z17 x.2.1).bind fun _ =>
            (z17[x.2.1.toNat]?).bind fun e18 =>
            (z17[x.2.1.toNat]?).bind fun e19 =>
            (markRowS e19.rows r16.2).bind fun r20 =>
            (some (z17.set x.2.1.toNat (GVal.mk e19.kind e19.n e19.step e19.text e19.list e19.columns r20.1))).bind fun z21 =>
            some (.inl (z21, w64 (x.2.1 + 1), r20.2))
          else
            some (.inr (x.1, x.2.2))
        )) (g' := fun j => (fun (x1 : (List GVal) × Int × Int) =>
          bif (decide (x1.2.2 < (x1.1.length : Int))) then
            (idx x1.1 x1.2.2).bind fun e2 =>
            bif (e2.kind != x1.2.1) then
              some (.inr ((-1)))
            else
            (idx x1.1 x1.2.2).bind fun e3 =>
            bif (e3.n != (w64 (x1.2.1 + 1))) then
              some (.inr ((-1)))
            else
            (idx x1.1 x1.2.2).bind fun e4 =>
            bif (e4.step != (w64 ((w64 (x1.2.1 + 1)) + 1))) then
              some (.inr ((-1)))
            else
            (idx x1.1 x1.2.2).bind fun e5 =>
            (markText (w64 ((w64 ((w64 (x1.2.1 + 1)) + 1)) + 1))).bind fun r6 =>
            bif (!(e5.text == r6)) then
              some (.inr ((-1)))
            else
            (idx x1.1 x1.2.2).bind fun e7 =>
            ((heldValueSG (j.2 - 1)) e7.list (w64 ((w64 ((w64 ((w64 (x1.2.1 + 1)) + 1)) + 1)) + 1))).bind fun r8 =>
            bif (decide (r8 < 0)) then
              some (.inr ((-1)))
            else
            (idx x1.1 x1.2.2).bind fun e9 =>
            (heldStringS e9.columns r8).bind fun r10 =>
            bif (decide (r10 < 0)) then
              some (.inr ((-1)))
            else
              (idx x1.1 x1.2.2).bind fun e11 =>
              (heldRowS e11.rows r10).bind fun r12 =>
              bif (decide (r12 < 0)) then
                some (.inr ((-1)))
              else
                some (.inl (x1.1, r12, w64 (x1.2.2 + 1)))
          else
            some (.inr (x1.2.1))
        )) (fun j hj xs k => ?_) (fun j hj xs k => ?_) cntValueE (fun x => dV x ≤ d + 1 ∧ Fit B24 (.base .val) x) (fun x y => dV y = dV x)
      (fun xs i x k hx hP hl h0 hk => ?_) (fun j hj xs k => ?_) (fun j hj xs k => ?_) xs (fun x hx => ⟨dVs_mem hd x hx, hok.list_mem x hx⟩) (by omega) k h0 hk
    · obtain ⟨ys, e1, eQ, e2⟩ := M
      exact ⟨ys, dVs_congr e1 eQ, e2⟩
    · obtain ⟨a, b⟩ := j
      match a, hj with
      | a + 1, _ => rfl
    · obtain ⟨a, b⟩ := j
      match b, hj with
      | b + 1, _ => rfl
    · obtain ⟨hd1, hf⟩ := hP
      rw [dV_eq] at hd1
      rw [fit_val] at hf
      obtain ⟨c0, c1, c2, c3, c4, c5, c6⟩ := hf
      rw [cntValueE_eq] at hk ⊢
      obtain ⟨t3, e3⟩ := markText_ok (k + 1 + 1 + 1) (by omega) (by omega)
      obtain ⟨y4, d4, f4⟩ := ih x.list (by omega) c4 (k + 1 + 1 + 1 + 1) (by omega) (by omega)
      obtain ⟨y5, e5, f5⟩ := markStringS_ok x.columns (okStringS24 c5).1 (k + 1 + 1 + 1 + 1 + (cntValueS x.list : Nat)) (by omega) (by omega)
      obtain ⟨y6, e6, f6⟩ := markRowS_ok x.rows (okRowSF c6) (k + 1 + 1 + 1 + 1 + (cntValueS x.list : Nat) + (cntStringS x.columns : Nat)) (by omega) (by omega)
      have w0 : w64 (k + 1) = k + 1 := w64_id (by omega) (by omega)
      have w1 : w64 (k + 1 + 1) = k + 1 + 1 := w64_id (by omega) (by omega)
      have w2 : w64 (k + 1 + 1 + 1) = k + 1 + 1 + 1 := w64_id (by omega) (by omega)
      have w3 : w64 (k + 1 + 1 + 1 + 1) = k + 1 + 1 + 1 + 1 := w64_id (by omega) (by omega)
      have n4 : decide (k + 1 + 1 + 1 + 1 + (cntValueS x.list : Nat) < 0) = false := decide_eq_false (by omega)
      have n5 : decide (k + 1 + 1 + 1 + 1 + (cntValueS x.list : Nat) + (cntStringS x.columns : Nat) < 0) = false := decide_eq_false (by omega)
      have n6 : decide (k + 1 + 1 + 1 + 1 + (cntValueS x.list : Nat) + (cntStringS x.columns : Nat) + (cntRowS x.rows : Nat) < 0) = false := decide_eq_false (by omega)
      have hsum : k + 1 + 1 + 1 + 1 + (cntValueS x.list : Nat) + (cntStringS x.columns : Nat) + (cntRowS x.rows : Nat) = k + ((1 + 1 + 1 + 1 + cntValueS x.list + cntStringS x.columns + cntRowS x.rows : Nat) : Int) := by omega
      refine ⟨GVal.mk k (k + 1) (k + 1 + 1) t3 y4 y5 y6, by rw [dV_eq, dV_eq]; show dVs y4 + 1 = _; omega, fun j hj => ?_⟩
      have ej := f4 (j.1 - 1, j.2 - 1) ⟨by show d < j.1 - 1; omega, by show d < j.2 - 1; omega⟩
      refine ⟨?_, fun ys hy hyi => ?_⟩
      · simp only [dec_lt hx, cond_true, idx_nat, Int.toNat_natCast, hx, set_get hx, List.set_set, Option.bind_some, w_succ hx hl, w0, w1, w2, w3, e3, ej.1, e5, e6, reVal_eq]
        rw [hsum]
      · simp only [dec_lt hyi, cond_true, idx_nat, hyi, Option.bind_some, w_succ hyi hy, bne_self_i, nbeq_self_s, cond_false, w0, w1, w2, w3, e3, ej.2, f5, f6, n4, n5, n6, reVal_eq]
        rw [hsum]
    · simp only [Int.lt_irrefl, decide_false, cond_false]
    · simp only [Int.lt_irrefl, decide_false, cond_false]
theorem markValueS_ok (xs : List GVal) (h : OkValueS xs) : MkOk markValueS heldValueS xs (cntValueS xs) := by
  intro k h0 hk
  obtain ⟨ys, e2, e3⟩ := markValueG_ok (dVs xs) xs (Nat.le_refl _) h k h0 hk
  have h1 := dVs_siz (siz xs + 1) xs (Nat.lt_succ_self _)
  have h2 := dVs_siz (siz ys + 1) ys (Nat.lt_succ_self _)
  have := e3 (siz xs + 1, siz ys + 1) ⟨by show dVs xs < siz xs + 1; omega, by show dVs xs < siz ys + 1; omega⟩
  exact ⟨ys, this.1, this.2⟩
def OkFileE (x : GFile) : Prop := True
def OkFileS (xs : List GFile) : Prop := (∀ x, x ∈ xs → OkFileE x) ∧ xs.length < 4611686018427387904
theorem markFileS_ok (xs : List GFile) (h : OkFileS xs) : MkOk markFileS heldFileS xs (cntFileS xs) := by
  refine markList_ok (mk := markFileS) (hd := heldFileS) (fun _ _ => rfl) (fun _ _ => rfl) cntFileE OkFileE (fun xs i x k hx hP hl h0 hk => ?_) (fun xs k => ?_) (fun xs k => ?_) xs h.1 h.2
  · unfold cntFileE at hk
    obtain ⟨t0, e0⟩ := markText_ok k (by omega) (by omega)
    obtain ⟨k0, g0⟩ : ∃ m : Int, m = k + 1 := ⟨_, rfl⟩
    have w0 : w64 (k + 1) = k0 := by rw [g0]; exact w64_id (by omega) (by omega)
    obtain ⟨k1, g1⟩ : ∃ m : Int, m = k0 + 1 := ⟨_, rfl⟩
    have w1 : w64 (k0 + 1) = k1 := by rw [g1]; exact w64_id (by omega) (by omega)
    have hsum : k1 = k + (cntFileE x : Nat) := by unfold cntFileE; omega
    refine ⟨GFile.mk t0 k0, ?_, fun ys hy hyi => ?_⟩
    · simp only [dec_lt hx, cond_true, idx_nat, Int.toNat_natCast, hx, set_get hx, List.set_set, Option.bind_some, w_succ hx hl, w0, w1, e0, reVal_eq, reExpr_eq, reRead_eq, reBinding_eq, reEntry_eq, rePart_eq]
      rw [hsum]
    · simp only [dec_lt hyi, cond_true, idx_nat, hyi, Option.bind_some, w_succ hyi hy, bne_self_i, nbeq_self_s, nbeq_self_b, cond_false, w0, w1, e0, reVal_eq, reExpr_eq, reRead_eq, reBinding_eq, reEntry_eq, rePart_eq]
      rw [hsum]
  · simp only [Int.lt_irrefl, decide_false, cond_false]
  · simp only [Int.lt_irrefl, decide_false, cond_false]
theorem okFileSF {xs : List GFile} (h : FitD B24 (.list (.base .file) xs)) : OkFileS xs := by
  have hl := list24 h
  refine ⟨fun x hx => ?_, by omega⟩
  unfold OkFileE
  trivial
theorem okFileS24 {xs : List GFile} (h : FitD B24 (.list (.base .file) xs)) : OkFileS xs ∧ cntFileS xs ≤ 33554432 := by
  have hl := list24 h
  have key : ∀ x, x ∈ xs → OkFileE x ∧ cntFileE x ≤ 2 := by
    intro x hx
    unfold OkFileE cntFileE
    exact ⟨trivial, by omega⟩
  refine ⟨⟨fun x hx => (key x hx).1, by omega⟩, ?_⟩
  have h1 := sum_le cntFileE xs 2 fun x hx => (key x hx).2
  have h2 : xs.length * 2 ≤ 16777216 * 2 := Nat.mul_le_mul_right _ (by omega)
  unfold cntFileS; omega
def OkReadE (x : GRead) : Prop := OkValueS x.result.list ∧ OkStringS x.result.columns ∧ OkRowS x.result.rows
def OkReadS (xs : List GRead) : Prop := (∀ x, x ∈ xs → OkReadE x) ∧ xs.length < 4611686018427387904
set_option maxHeartbeats 1000000 in
theorem markReadS_ok (xs : List GRead) (h : OkReadS xs) : MkOk markReadS heldReadS xs (cntReadS xs) := by
  refine markList_ok (mk := markReadS) (hd := heldReadS) (fun _ _ => rfl) (fun _ _ => rfl) cntReadE OkReadE (fun xs i x k hx hP hl h0 hk => ?_) (fun xs k => ?_) (fun xs k => ?_) xs h.1 h.2
  · unfold cntReadE at hk
    unfold OkReadE at hP
    obtain ⟨q0, q1, q2⟩ := hP
    obtain ⟨k0, g0⟩ : ∃ m : Int, m = k + 1 := ⟨_, rfl⟩
    have w0 : w64 (k + 1) = k0 := by rw [g0]; exact w64_id (by omega) (by omega)
    obtain ⟨k1, g1⟩ : ∃ m : Int, m = k0 + 1 := ⟨_, rfl⟩
    have w1 : w64 (k0 + 1) = k1 := by rw [g1]; exact w64_id (by omega) (by omega)
    obtain ⟨k2, g2⟩ : ∃ m : Int, m = k1 + 1 := ⟨_, rfl⟩
    have w2 : w64 (k1 + 1) = k2 := by rw [g2]; exact w64_id (by omega) (by omega)
    obtain ⟨t3, e3⟩ := markText_ok k2 (by omega) (by omega)
    obtain ⟨k3, g3⟩ : ∃ m : Int, m = k2 + 1 := ⟨_, rfl⟩
    have w3 : w64 (k2 + 1) = k3 := by rw [g3]; exact w64_id (by omega) (by omega)
    obtain ⟨k4, g4⟩ : ∃ m : Int, m = k3 + 1 := ⟨_, rfl⟩
    have w4 : w64 (k3 + 1) = k4 := by rw [g4]; exact w64_id (by omega) (by omega)
    obtain ⟨k5, g5⟩ : ∃ m : Int, m = k4 + 1 := ⟨_, rfl⟩
    have w5 : w64 (k4 + 1) = k5 := by rw [g5]; exact w64_id (by omega) (by omega)
    obtain ⟨k6, g6⟩ : ∃ m : Int, m = k5 + 1 := ⟨_, rfl⟩
    have w6 : w64 (k5 + 1) = k6 := by rw [g6]; exact w64_id (by omega) (by omega)
    obtain ⟨t7, e7⟩ := markText_ok k6 (by omega) (by omega)
    obtain ⟨k7, g7⟩ : ∃ m : Int, m = k6 + 1 := ⟨_, rfl⟩
    have w7 : w64 (k6 + 1) = k7 := by rw [g7]; exact w64_id (by omega) (by omega)
    obtain ⟨y8, e8, f8⟩ := markValueS_ok x.result.list q0 k7 (by omega) (by omega)
    obtain ⟨k8, g8⟩ : ∃ m : Int, m = k7 + (cntValueS x.result.list : Nat) := ⟨_, rfl⟩
    rw [← g8] at e8 f8
    have n8 : decide (k8 < 0) = false := decide_eq_false (by omega)
    obtain ⟨y9, e9, f9⟩ := markStringS_ok x.result.columns q1 k8 (by omega) (by omega)
    obtain ⟨k9, g9⟩ : ∃ m : Int, m = k8 + (cntStringS x.result.columns : Nat) := ⟨_, rfl⟩
    rw [← g9] at e9 f9
    have n9 : decide (k9 < 0) = false := decide_eq_false (by omega)
    obtain ⟨y10, e10, f10⟩ := markRowS_ok x.result.rows q2 k9 (by omega) (by omega)
    obtain ⟨k10, g10⟩ : ∃ m : Int, m = k9 + (cntRowS x.result.rows : Nat) := ⟨_, rfl⟩
    rw [← g10] at e10 f10
    have n10 : decide (k10 < 0) = false := decide_eq_false (by omega)
    have hsum : k10 = k + (cntReadE x : Nat) := by unfold cntReadE; omega
    refine ⟨GRead.mk k k0 k1 t3 (GVal.mk k3 k4 k5 t7 y8 y9 y10), ?_, fun ys hy hyi => ?_⟩
    · simp only [dec_lt hx, cond_true, idx_nat, Int.toNat_natCast, hx, set_get hx, List.set_set, Option.bind_some, w_succ hx hl, w0, w1, w2, w3, w4, w5, w6, w7, e3, e7, e8, f8, e9, f9, e10, f10, reVal_eq, reExpr_eq, reRead_eq, reBinding_eq, reEntry_eq, rePart_eq]
      rw [hsum]
    · simp only [dec_lt hyi, cond_true, idx_nat, hyi, Option.bind_some, w_succ hyi hy, bne_self_i, nbeq_self_s, nbeq_self_b, cond_false, w0, w1, w2, w3, w4, w5, w6, w7, e3, e7, e8, f8, e9, f9, e10, f10, n8, n9, n10, reVal_eq, reExpr_eq, reRead_eq, reBinding_eq, reEntry_eq, rePart_eq]
      rw [hsum]
  · simp only [Int.lt_irrefl, decide_false, cond_false]
  · simp only [Int.lt_irrefl, decide_false, cond_false]
theorem okReadSF {xs : List GRead} (h : FitD B24 (.list (.base .read) xs)) : OkReadS xs := by
  have hl := list24 h
  refine ⟨fun x hx => ?_, by omega⟩
  unfold OkReadE
  have f := h.list_mem x hx
  rw [fit_read] at f
  obtain ⟨f_0, f_1, f_2, f_3, f_4⟩ := f
  rw [fit_val] at f_4
  obtain ⟨f_4_0, f_4_1, f_4_2, f_4_3, f_4_4, f_4_5, f_4_6⟩ := f_4
  exact ⟨f_4_4, okStringS24 f_4_5 |>.1, okRowSF f_4_6⟩
def OkCellE (x : GCell) : Prop := True
def OkCellS (xs : List GCell) : Prop := (∀ x, x ∈ xs → OkCellE x) ∧ xs.length < 4611686018427387904
theorem markCellS_ok (xs : List GCell) (h : OkCellS xs) : MkOk markCellS heldCellS xs (cntCellS xs) := by
  refine markList_ok (mk := markCellS) (hd := heldCellS) (fun _ _ => rfl) (fun _ _ => rfl) cntCellE OkCellE (fun xs i x k hx hP hl h0 hk => ?_) (fun xs k => ?_) (fun xs k => ?_) xs h.1 h.2
  · unfold cntCellE at hk
    obtain ⟨k0, g0⟩ : ∃ m : Int, m = k + 1 := ⟨_, rfl⟩
    have w0 : w64 (k + 1) = k0 := by rw [g0]; exact w64_id (by omega) (by omega)
    obtain ⟨k1, g1⟩ : ∃ m : Int, m = k0 + 1 := ⟨_, rfl⟩
    have w1 : w64 (k0 + 1) = k1 := by rw [g1]; exact w64_id (by omega) (by omega)
    obtain ⟨k2, g2⟩ : ∃ m : Int, m = k1 + 1 := ⟨_, rfl⟩
    have w2 : w64 (k1 + 1) = k2 := by rw [g2]; exact w64_id (by omega) (by omega)
    obtain ⟨t3, e3⟩ := markText_ok k2 (by omega) (by omega)
    obtain ⟨k3, g3⟩ : ∃ m : Int, m = k2 + 1 := ⟨_, rfl⟩
    have w3 : w64 (k2 + 1) = k3 := by rw [g3]; exact w64_id (by omega) (by omega)
    obtain ⟨t4, e4⟩ := markText_ok k3 (by omega) (by omega)
    obtain ⟨k4, g4⟩ : ∃ m : Int, m = k3 + 1 := ⟨_, rfl⟩
    have w4 : w64 (k3 + 1) = k4 := by rw [g4]; exact w64_id (by omega) (by omega)
    obtain ⟨k5, g5⟩ : ∃ m : Int, m = k4 + 1 := ⟨_, rfl⟩
    have w5 : w64 (k4 + 1) = k5 := by rw [g5]; exact w64_id (by omega) (by omega)
    have hsum : k5 = k + (cntCellE x : Nat) := by unfold cntCellE; omega
    refine ⟨GCell.mk k k0 k1 t3 t4 k4, ?_, fun ys hy hyi => ?_⟩
    · simp only [dec_lt hx, cond_true, idx_nat, Int.toNat_natCast, hx, set_get hx, List.set_set, Option.bind_some, w_succ hx hl, w0, w1, w2, w3, w4, w5, e3, e4, reVal_eq, reExpr_eq, reRead_eq, reBinding_eq, reEntry_eq, rePart_eq]
      rw [hsum]
    · simp only [dec_lt hyi, cond_true, idx_nat, hyi, Option.bind_some, w_succ hyi hy, bne_self_i, nbeq_self_s, nbeq_self_b, cond_false, w0, w1, w2, w3, w4, w5, e3, e4, reVal_eq, reExpr_eq, reRead_eq, reBinding_eq, reEntry_eq, rePart_eq]
      rw [hsum]
  · simp only [Int.lt_irrefl, decide_false, cond_false]
  · simp only [Int.lt_irrefl, decide_false, cond_false]
theorem okCellSF {xs : List GCell} (h : FitD B24 (.list (.base .cell) xs)) : OkCellS xs := by
  have hl := list24 h
  refine ⟨fun x hx => ?_, by omega⟩
  unfold OkCellE
  trivial
theorem okCellS24 {xs : List GCell} (h : FitD B24 (.list (.base .cell) xs)) : OkCellS xs ∧ cntCellS xs ≤ 100663296 := by
  have hl := list24 h
  have key : ∀ x, x ∈ xs → OkCellE x ∧ cntCellE x ≤ 6 := by
    intro x hx
    unfold OkCellE cntCellE
    exact ⟨trivial, by omega⟩
  refine ⟨⟨fun x hx => (key x hx).1, by omega⟩, ?_⟩
  have h1 := sum_le cntCellE xs 6 fun x hx => (key x hx).2
  have h2 : xs.length * 6 ≤ 16777216 * 6 := Nat.mul_le_mul_right _ (by omega)
  unfold cntCellS; omega
def OkEditE (x : GEdit) : Prop := True
def OkEditS (xs : List GEdit) : Prop := (∀ x, x ∈ xs → OkEditE x) ∧ xs.length < 4611686018427387904
theorem markEditS_ok (xs : List GEdit) (h : OkEditS xs) : MkOk markEditS heldEditS xs (cntEditS xs) := by
  refine markList_ok (mk := markEditS) (hd := heldEditS) (fun _ _ => rfl) (fun _ _ => rfl) cntEditE OkEditE (fun xs i x k hx hP hl h0 hk => ?_) (fun xs k => ?_) (fun xs k => ?_) xs h.1 h.2
  · unfold cntEditE at hk
    obtain ⟨k0, g0⟩ : ∃ m : Int, m = k + 1 := ⟨_, rfl⟩
    have w0 : w64 (k + 1) = k0 := by rw [g0]; exact w64_id (by omega) (by omega)
    obtain ⟨k1, g1⟩ : ∃ m : Int, m = k0 + 1 := ⟨_, rfl⟩
    have w1 : w64 (k0 + 1) = k1 := by rw [g1]; exact w64_id (by omega) (by omega)
    obtain ⟨k2, g2⟩ : ∃ m : Int, m = k1 + 1 := ⟨_, rfl⟩
    have w2 : w64 (k1 + 1) = k2 := by rw [g2]; exact w64_id (by omega) (by omega)
    obtain ⟨k3, g3⟩ : ∃ m : Int, m = k2 + 1 := ⟨_, rfl⟩
    have w3 : w64 (k2 + 1) = k3 := by rw [g3]; exact w64_id (by omega) (by omega)
    obtain ⟨k4, g4⟩ : ∃ m : Int, m = k3 + 1 := ⟨_, rfl⟩
    have w4 : w64 (k3 + 1) = k4 := by rw [g4]; exact w64_id (by omega) (by omega)
    obtain ⟨t5, e5⟩ := markText_ok k4 (by omega) (by omega)
    obtain ⟨k5, g5⟩ : ∃ m : Int, m = k4 + 1 := ⟨_, rfl⟩
    have w5 : w64 (k4 + 1) = k5 := by rw [g5]; exact w64_id (by omega) (by omega)
    obtain ⟨t6, e6⟩ := markText_ok k5 (by omega) (by omega)
    obtain ⟨k6, g6⟩ : ∃ m : Int, m = k5 + 1 := ⟨_, rfl⟩
    have w6 : w64 (k5 + 1) = k6 := by rw [g6]; exact w64_id (by omega) (by omega)
    obtain ⟨k7, g7⟩ : ∃ m : Int, m = k6 + 1 := ⟨_, rfl⟩
    have w7 : w64 (k6 + 1) = k7 := by rw [g7]; exact w64_id (by omega) (by omega)
    have hsum : k7 = k + (cntEditE x : Nat) := by unfold cntEditE; omega
    refine ⟨GEdit.mk k k0 (GCell.mk k1 k2 k3 t5 t6 k6), ?_, fun ys hy hyi => ?_⟩
    · simp only [dec_lt hx, cond_true, idx_nat, Int.toNat_natCast, hx, set_get hx, List.set_set, Option.bind_some, w_succ hx hl, w0, w1, w2, w3, w4, w5, w6, w7, e5, e6, reVal_eq, reExpr_eq, reRead_eq, reBinding_eq, reEntry_eq, rePart_eq]
      rw [hsum]
    · simp only [dec_lt hyi, cond_true, idx_nat, hyi, Option.bind_some, w_succ hyi hy, bne_self_i, nbeq_self_s, nbeq_self_b, cond_false, w0, w1, w2, w3, w4, w5, w6, w7, e5, e6, reVal_eq, reExpr_eq, reRead_eq, reBinding_eq, reEntry_eq, rePart_eq]
      rw [hsum]
  · simp only [Int.lt_irrefl, decide_false, cond_false]
  · simp only [Int.lt_irrefl, decide_false, cond_false]
theorem okEditSF {xs : List GEdit} (h : FitD B24 (.list (.base .edit) xs)) : OkEditS xs := by
  have hl := list24 h
  refine ⟨fun x hx => ?_, by omega⟩
  unfold OkEditE
  trivial
theorem okEditS24 {xs : List GEdit} (h : FitD B24 (.list (.base .edit) xs)) : OkEditS xs ∧ cntEditS xs ≤ 134217728 := by
  have hl := list24 h
  have key : ∀ x, x ∈ xs → OkEditE x ∧ cntEditE x ≤ 8 := by
    intro x hx
    unfold OkEditE cntEditE
    exact ⟨trivial, by omega⟩
  refine ⟨⟨fun x hx => (key x hx).1, by omega⟩, ?_⟩
  have h1 := sum_le cntEditE xs 8 fun x hx => (key x hx).2
  have h2 : xs.length * 8 ≤ 16777216 * 8 := Nat.mul_le_mul_right _ (by omega)
  unfold cntEditS; omega
def OkTapeE (x : GTape) : Prop := OkReadS x.reads
def OkTapeS (xs : List GTape) : Prop := (∀ x, x ∈ xs → OkTapeE x) ∧ xs.length < 4611686018427387904
theorem markTapeS_ok (xs : List GTape) (h : OkTapeS xs) : MkOk markTapeS heldTapeS xs (cntTapeS xs) := by
  refine markList_ok (mk := markTapeS) (hd := heldTapeS) (fun _ _ => rfl) (fun _ _ => rfl) cntTapeE OkTapeE (fun xs i x k hx hP hl h0 hk => ?_) (fun xs k => ?_) (fun xs k => ?_) xs h.1 h.2
  · unfold cntTapeE at hk
    unfold OkTapeE at hP
    have q0 := hP
    obtain ⟨k0, g0⟩ : ∃ m : Int, m = k + 1 := ⟨_, rfl⟩
    have w0 : w64 (k + 1) = k0 := by rw [g0]; exact w64_id (by omega) (by omega)
    obtain ⟨k1, g1⟩ : ∃ m : Int, m = k0 + 1 := ⟨_, rfl⟩
    have w1 : w64 (k0 + 1) = k1 := by rw [g1]; exact w64_id (by omega) (by omega)
    obtain ⟨y2, e2, f2⟩ := markReadS_ok x.reads q0 k1 (by omega) (by omega)
    obtain ⟨k2, g2⟩ : ∃ m : Int, m = k1 + (cntReadS x.reads : Nat) := ⟨_, rfl⟩
    rw [← g2] at e2 f2
    have n2 : decide (k2 < 0) = false := decide_eq_false (by omega)
    have hsum : k2 = k + (cntTapeE x : Nat) := by unfold cntTapeE; omega
    refine ⟨GTape.mk k k0 y2, ?_, fun ys hy hyi => ?_⟩
    · simp only [dec_lt hx, cond_true, idx_nat, Int.toNat_natCast, hx, set_get hx, List.set_set, Option.bind_some, w_succ hx hl, w0, w1, e2, f2, reVal_eq, reExpr_eq, reRead_eq, reBinding_eq, reEntry_eq, rePart_eq]
      rw [hsum]
    · simp only [dec_lt hyi, cond_true, idx_nat, hyi, Option.bind_some, w_succ hyi hy, bne_self_i, nbeq_self_s, nbeq_self_b, cond_false, w0, w1, e2, f2, n2, reVal_eq, reExpr_eq, reRead_eq, reBinding_eq, reEntry_eq, rePart_eq]
      rw [hsum]
  · simp only [Int.lt_irrefl, decide_false, cond_false]
  · simp only [Int.lt_irrefl, decide_false, cond_false]
theorem okTapeSF {xs : List GTape} (h : FitD B24 (.list (.base .tape) xs)) : OkTapeS xs := by
  have hl := list24 h
  refine ⟨fun x hx => ?_, by omega⟩
  unfold OkTapeE
  have f := h.list_mem x hx
  rw [fit_tape] at f
  obtain ⟨f_0, f_1, f_2⟩ := f
  exact okReadSF f_2
def OkEntryE (x : GEntry) : Prop := OkIntS x.inputs ∧ OkValueS x.value.list ∧ OkStringS x.value.columns ∧ OkRowS x.value.rows
def OkEntryS (xs : List GEntry) : Prop := (∀ x, x ∈ xs → OkEntryE x) ∧ xs.length < 4611686018427387904
set_option maxHeartbeats 1000000 in
theorem markEntryS_ok (xs : List GEntry) (h : OkEntryS xs) : MkOk markEntryS heldEntryS xs (cntEntryS xs) := by
  refine markList_ok (mk := markEntryS) (hd := heldEntryS) (fun _ _ => rfl) (fun _ _ => rfl) cntEntryE OkEntryE (fun xs i x k hx hP hl h0 hk => ?_) (fun xs k => ?_) (fun xs k => ?_) xs h.1 h.2
  · unfold cntEntryE at hk
    unfold OkEntryE at hP
    obtain ⟨q0, q1, q2, q3⟩ := hP
    obtain ⟨k0, g0⟩ : ∃ m : Int, m = k + 1 := ⟨_, rfl⟩
    have w0 : w64 (k + 1) = k0 := by rw [g0]; exact w64_id (by omega) (by omega)
    obtain ⟨k1, g1⟩ : ∃ m : Int, m = k0 + 1 := ⟨_, rfl⟩
    have w1 : w64 (k0 + 1) = k1 := by rw [g1]; exact w64_id (by omega) (by omega)
    obtain ⟨k2, g2⟩ : ∃ m : Int, m = k1 + 1 := ⟨_, rfl⟩
    have w2 : w64 (k1 + 1) = k2 := by rw [g2]; exact w64_id (by omega) (by omega)
    obtain ⟨y3, e3, f3⟩ := markIntS_ok x.inputs q0 k2 (by omega) (by omega)
    obtain ⟨k3, g3⟩ : ∃ m : Int, m = k2 + (cntIntS x.inputs : Nat) := ⟨_, rfl⟩
    rw [← g3] at e3 f3
    have n3 : decide (k3 < 0) = false := decide_eq_false (by omega)
    obtain ⟨k4, g4⟩ : ∃ m : Int, m = k3 + 1 := ⟨_, rfl⟩
    have w4 : w64 (k3 + 1) = k4 := by rw [g4]; exact w64_id (by omega) (by omega)
    obtain ⟨k5, g5⟩ : ∃ m : Int, m = k4 + 1 := ⟨_, rfl⟩
    have w5 : w64 (k4 + 1) = k5 := by rw [g5]; exact w64_id (by omega) (by omega)
    obtain ⟨k6, g6⟩ : ∃ m : Int, m = k5 + 1 := ⟨_, rfl⟩
    have w6 : w64 (k5 + 1) = k6 := by rw [g6]; exact w64_id (by omega) (by omega)
    obtain ⟨t7, e7⟩ := markText_ok k6 (by omega) (by omega)
    obtain ⟨k7, g7⟩ : ∃ m : Int, m = k6 + 1 := ⟨_, rfl⟩
    have w7 : w64 (k6 + 1) = k7 := by rw [g7]; exact w64_id (by omega) (by omega)
    obtain ⟨y8, e8, f8⟩ := markValueS_ok x.value.list q1 k7 (by omega) (by omega)
    obtain ⟨k8, g8⟩ : ∃ m : Int, m = k7 + (cntValueS x.value.list : Nat) := ⟨_, rfl⟩
    rw [← g8] at e8 f8
    have n8 : decide (k8 < 0) = false := decide_eq_false (by omega)
    obtain ⟨y9, e9, f9⟩ := markStringS_ok x.value.columns q2 k8 (by omega) (by omega)
    obtain ⟨k9, g9⟩ : ∃ m : Int, m = k8 + (cntStringS x.value.columns : Nat) := ⟨_, rfl⟩
    rw [← g9] at e9 f9
    have n9 : decide (k9 < 0) = false := decide_eq_false (by omega)
    obtain ⟨y10, e10, f10⟩ := markRowS_ok x.value.rows q3 k9 (by omega) (by omega)
    obtain ⟨k10, g10⟩ : ∃ m : Int, m = k9 + (cntRowS x.value.rows : Nat) := ⟨_, rfl⟩
    rw [← g10] at e10 f10
    have n10 : decide (k10 < 0) = false := decide_eq_false (by omega)
    obtain ⟨k11, g11⟩ : ∃ m : Int, m = k10 + 1 := ⟨_, rfl⟩
    have w11 : w64 (k10 + 1) = k11 := by rw [g11]; exact w64_id (by omega) (by omega)
    have hsum : k11 = k + (cntEntryE x : Nat) := by unfold cntEntryE; omega
    refine ⟨GEntry.mk k k0 k1 y3 (GVal.mk k3 k4 k5 t7 y8 y9 y10) (k10.tmod 3 == 0), ?_, fun ys hy hyi => ?_⟩
    · simp only [dec_lt hx, cond_true, idx_nat, Int.toNat_natCast, hx, set_get hx, List.set_set, Option.bind_some, w_succ hx hl, w0, w1, w2, w4, w5, w6, w7, w11, e3, f3, e7, e8, f8, e9, f9, e10, f10, reVal_eq, reExpr_eq, reRead_eq, reBinding_eq, reEntry_eq, rePart_eq]
      rw [hsum]
    · simp only [dec_lt hyi, cond_true, idx_nat, hyi, Option.bind_some, w_succ hyi hy, bne_self_i, nbeq_self_s, nbeq_self_b, cond_false, w0, w1, w2, w4, w5, w6, w7, w11, e3, f3, e7, e8, f8, e9, f9, e10, f10, n3, n8, n9, n10, reVal_eq, reExpr_eq, reRead_eq, reBinding_eq, reEntry_eq, rePart_eq]
      rw [hsum]
  · simp only [Int.lt_irrefl, decide_false, cond_false]
  · simp only [Int.lt_irrefl, decide_false, cond_false]
theorem okEntrySF {xs : List GEntry} (h : FitD B24 (.list (.base .entry) xs)) : OkEntryS xs := by
  have hl := list24 h
  refine ⟨fun x hx => ?_, by omega⟩
  unfold OkEntryE
  have f := h.list_mem x hx
  rw [fit_entry] at f
  obtain ⟨f_0, f_1, f_2, f_3, f_4, f_5⟩ := f
  rw [fit_val] at f_4
  obtain ⟨f_4_0, f_4_1, f_4_2, f_4_3, f_4_4, f_4_5, f_4_6⟩ := f_4
  exact ⟨okIntS24 f_3 |>.1, f_4_4, okStringS24 f_4_5 |>.1, okRowSF f_4_6⟩
noncomputable def cntNotebook (x : GNotebook) : Nat := cntCellS x.cells
def OkNotebook (x : GNotebook) : Prop := OkCellS x.cells
theorem markNotebook_ok (x : GNotebook) (h : OkNotebook x) (k : Int) (h0 : 0 ≤ k) (hk : k + cntNotebook x ≤ 4611686018427387904) : ∃ y, markNotebook x k = some (y, k + (cntNotebook x : Nat)) ∧ heldNotebook y k = some (k + (cntNotebook x : Nat)) := by
  unfold cntNotebook at hk
  unfold OkNotebook at h
  have q0 := h
  obtain ⟨y0, e0, f0⟩ := markCellS_ok x.cells q0 (k) (by omega) (by omega)
  have n0 : decide (k + (cntCellS x.cells : Nat) < 0) = false := decide_eq_false (by omega)
  have hsum : k + (cntCellS x.cells : Nat) = k + (cntNotebook x : Nat) := by unfold cntNotebook; omega
  refine ⟨GNotebook.mk y0, ?_, ?_⟩
  · unfold markNotebook; simp only [Option.bind_some, e0, f0]
    rw [hsum]
  · unfold heldNotebook; simp only [Option.bind_some, cond_false, e0, f0, n0]
    rw [hsum]
theorem okNotebookF {x : GNotebook} (h : Fit B24 (.base .notebook) x) : OkNotebook x := by
  rw [fit_notebook] at h
  have c0 := h
  unfold OkNotebook
  exact okCellSF c0
theorem okNotebook24 {x : GNotebook} (h : Fit B24 (.base .notebook) x) : OkNotebook x ∧ cntNotebook x ≤ 100663296 := by
  rw [fit_notebook] at h
  have c0 := h
  unfold OkNotebook cntNotebook
  obtain ⟨p0, r0⟩ := okCellS24 c0
  exact ⟨p0, by omega⟩
noncomputable def cntWorld (x : GWorld) : Nat := cntFileS x.files
def OkWorld (x : GWorld) : Prop := OkFileS x.files
theorem markWorld_ok (x : GWorld) (h : OkWorld x) (k : Int) (h0 : 0 ≤ k) (hk : k + cntWorld x ≤ 4611686018427387904) : ∃ y, markWorld x k = some (y, k + (cntWorld x : Nat)) ∧ heldWorld y k = some (k + (cntWorld x : Nat)) ∧ y.clock = x.clock ∧ y.seed = x.seed := by
  unfold cntWorld at hk
  unfold OkWorld at h
  have q0 := h
  obtain ⟨y0, e0, f0⟩ := markFileS_ok x.files q0 (k) (by omega) (by omega)
  have n0 : decide (k + (cntFileS x.files : Nat) < 0) = false := decide_eq_false (by omega)
  have hsum : k + (cntFileS x.files : Nat) = k + (cntWorld x : Nat) := by unfold cntWorld; omega
  refine ⟨GWorld.mk x.clock x.seed y0, ?_, ?_, rfl, rfl⟩
  · unfold markWorld; simp only [Option.bind_some, e0, f0]
    rw [hsum]
  · unfold heldWorld; simp only [Option.bind_some, cond_false, e0, f0, n0]
    rw [hsum]
theorem okWorldF {x : GWorld} (h : Fit B24 (.base .world) x) : OkWorld x := by
  rw [fit_world] at h
  obtain ⟨c0, c1, c2⟩ := h
  unfold OkWorld
  exact okFileSF c2
theorem okWorld24 {x : GWorld} (h : Fit B24 (.base .world) x) : OkWorld x ∧ cntWorld x ≤ 33554432 := by
  rw [fit_world] at h
  obtain ⟨c0, c1, c2⟩ := h
  unfold OkWorld cntWorld
  obtain ⟨p0, r0⟩ := okFileS24 c2
  exact ⟨p0, by omega⟩
noncomputable def cntEngine (x : GEngine) : Nat := cntNotebook x.notebook + cntWorld x.world + cntTapeS x.tapes + cntEntryS x.entries
def OkEngine (x : GEngine) : Prop := OkNotebook x.notebook ∧ OkWorld x.world ∧ OkTapeS x.tapes ∧ OkEntryS x.entries
theorem markEngine_ok (x : GEngine) (h : OkEngine x) (k : Int) (h0 : 0 ≤ k) (hk : k + cntEngine x ≤ 4611686018427387904) : ∃ y, markEngine x k = some (y, k + (cntEngine x : Nat)) ∧ heldEngine y k = some (k + (cntEngine x : Nat)) ∧ y.next = x.next ∧ y.limit = x.limit ∧ y.work = x.work ∧ y.world.clock = x.world.clock ∧ y.world.seed = x.world.seed := by
  unfold cntEngine at hk
  unfold OkEngine at h
  obtain ⟨q0, q1, q2, q3⟩ := h
  obtain ⟨y0, e0, f0⟩ := markNotebook_ok x.notebook q0 (k) (by omega) (by omega)
  have n0 : decide (k + (cntNotebook x.notebook : Nat) < 0) = false := decide_eq_false (by omega)
  obtain ⟨y1, e1, f1, s10, s11⟩ := markWorld_ok x.world q1 (k + (cntNotebook x.notebook : Nat)) (by omega) (by omega)
  have n1 : decide (k + (cntNotebook x.notebook : Nat) + (cntWorld x.world : Nat) < 0) = false := decide_eq_false (by omega)
  obtain ⟨y2, e2, f2⟩ := markTapeS_ok x.tapes q2 (k + (cntNotebook x.notebook : Nat) + (cntWorld x.world : Nat)) (by omega) (by omega)
  have n2 : decide (k + (cntNotebook x.notebook : Nat) + (cntWorld x.world : Nat) + (cntTapeS x.tapes : Nat) < 0) = false := decide_eq_false (by omega)
  obtain ⟨y3, e3, f3⟩ := markEntryS_ok x.entries q3 (k + (cntNotebook x.notebook : Nat) + (cntWorld x.world : Nat) + (cntTapeS x.tapes : Nat)) (by omega) (by omega)
  have n3 : decide (k + (cntNotebook x.notebook : Nat) + (cntWorld x.world : Nat) + (cntTapeS x.tapes : Nat) + (cntEntryS x.entries : Nat) < 0) = false := decide_eq_false (by omega)
  have hsum : k + (cntNotebook x.notebook : Nat) + (cntWorld x.world : Nat) + (cntTapeS x.tapes : Nat) + (cntEntryS x.entries : Nat) = k + (cntEngine x : Nat) := by unfold cntEngine; omega
  refine ⟨GEngine.mk y0 y1 y2 y3 x.next x.limit x.work, ?_, ?_, rfl, rfl, rfl, s10, s11⟩
  · unfold markEngine; simp only [Option.bind_some, e0, f0, e1, f1, s10, s11, e2, f2, e3, f3]
    rw [hsum]
  · unfold heldEngine; simp only [Option.bind_some, cond_false, e0, f0, e1, f1, s10, s11, e2, f2, e3, f3, n0, n1, n2, n3]
    rw [hsum]
theorem okEngineF {x : GEngine} (h : Fit B24 (.base .engine) x) : OkEngine x := by
  rw [fit_engine] at h
  obtain ⟨c0, c1, c2, c3, c4, c5, c6⟩ := h
  unfold OkEngine
  exact ⟨okNotebookF c0, okWorldF c1, okTapeSF c2, okEntrySF c3⟩
end Go.Proofs.YtopcobafmnpmkaaGreat
