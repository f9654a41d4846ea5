/- Plain laws: what is drawn is drawn, and is small. -/
import Derived.Test.YtjpmhfhcbehgcaaGreatOps1
set_option linter.unusedSimpArgs false
set_option linter.unusedVariables false
namespace Go.Proofs.YtjpmhfhcbehgcaaGreat
open Go.Abs Go.Proofs

/-- a cursor that can be read on -/
def CurOk (c : GCur) : Prop := 0 ≤ c.i ∧ (c.b.length : Int) ≤ 1048576
theorem loop_ex {X ρ σ : Type} {g : X → Option (X ⊕ ρ)} (pk : σ → X) (I : Nat → σ → Prop) (R : ρ → Prop)
    (hs : ∀ n s, I n s → (∃ s' m, m < n ∧ I m s' ∧ g (pk s) = some (.inl (pk s'))) ∨ ∃ r, g (pk s) = some (.inr r) ∧ R r) : ∀ n s, I n s → ∃ r, loopD g (pk s) = some r ∧ R r := by
  intro n
  induction n using Nat.strongRecOn with
  | ind n ih =>
    intro s hI
    rcases hs n s hI with ⟨s', m, hm, hI', e1⟩ | ⟨r, e1, hR⟩
    · obtain ⟨r, q1, hR⟩ := ih m hm s' hI'
      exact ⟨r, by rw [loopD_eq, e1]; exact q1, hR⟩
    · exact ⟨r, by rw [loopD_eq, e1], hR⟩
theorem land255 (n : Int) : 0 ≤ w64 ((BitVec.ofInt 64 n &&& BitVec.ofInt 64 255).toNat : Int) ∧ w64 ((BitVec.ofInt 64 n &&& BitVec.ofInt 64 255).toNat : Int) ≤ 255 := by
  have h : (BitVec.ofInt 64 n &&& BitVec.ofInt 64 255).toNat ≤ 255 := by
    rw [BitVec.toNat_and]
    exact Nat.le_trans Nat.and_le_right (by decide)
  rw [w64_id (by omega) (by omega)]
  omega
theorem byte_ok {c : GCur} (h : CurOk c) : ∃ c' x, sL1Byte c = some (c', x) ∧ CurOk c' ∧ 0 ≤ x ∧ x ≤ 255 := by
  obtain ⟨h1, h2⟩ := h
  unfold sL1Byte
  by_cases hi : c.i < (c.b.length : Int)
  · obtain ⟨y, hy, _⟩ := idx_ex h1 hi
    rw [decide_eq_true hi, cond_true, hy, Option.bind_some]
    exact ⟨_, _, rfl, ⟨by show 0 ≤ w64 (c.i + 1); rw [w64_id (by omega) (by omega)]; omega, h2⟩, land255 _⟩
  · rw [decide_eq_false hi, cond_false]
    exact ⟨_, _, rfl, ⟨h1, h2⟩, land255 _⟩
theorem remI_ok {x n : Int} (h0 : 0 ≤ x) (hn : 0 < n) : ∃ r, remI x n = some r ∧ 0 ≤ r ∧ r < n := by
  unfold remI
  rw [if_neg (by omega)]
  exact ⟨_, rfl, Int.tmod_nonneg _ h0, Int.tmod_lt_of_pos _ hn⟩
theorem below_ok {c : GCur} (h : CurOk c) (n : Int) : ∃ c' x, sL1Below c n = some (c', x) ∧ CurOk c' ∧ 0 ≤ x ∧ (0 < n → x < n) := by
  unfold sL1Below
  by_cases h0 : n ≤ 0
  · rw [decide_eq_true h0, cond_true]
    exact ⟨c, 0, rfl, h, by omega, fun hh => by omega⟩
  rw [decide_eq_false h0, cond_false]
  by_cases h1 : n ≤ 256
  · rw [decide_eq_true h1, cond_true]
    obtain ⟨c1, x, e1, k1, p, q⟩ := byte_ok h
    obtain ⟨r, e2, r1, r2⟩ := remI_ok p (n := n) (by omega)
    simp only [e1, e2, Option.bind_some]
    exact ⟨c1, r, rfl, k1, r1, fun _ => r2⟩
  · rw [decide_eq_false h1, cond_false]
    obtain ⟨c1, x1, e1, k1, p1, q1⟩ := byte_ok h
    obtain ⟨c2, x2, e2, k2, p2, q2⟩ := byte_ok k1
    obtain ⟨c3, x3, e3, k3, p3, q3⟩ := byte_ok k2
    obtain ⟨c4, x4, e4, k4, p4, q4⟩ := byte_ok k3
    have hw : w64 ((w64 ((w64 ((w64 (x1 * 16777216)) + (w64 (x2 * 65536)))) + (w64 (x3 * 256)))) + x4) = x1 * 16777216 + x2 * 65536 + x3 * 256 + x4 := by
      rw [w64_id (n := x1 * 16777216) (by omega) (by omega), w64_id (n := x2 * 65536) (by omega) (by omega), w64_id (n := x3 * 256) (by omega) (by omega), w64_id (n := x1 * 16777216 + x2 * 65536) (by omega) (by omega), w64_id (n := x1 * 16777216 + x2 * 65536 + x3 * 256) (by omega) (by omega), w64_id (by omega) (by omega)]
    obtain ⟨r, e5, r1, r2⟩ := remI_ok (x := x1 * 16777216 + x2 * 65536 + x3 * 256 + x4) (n := n) (by omega) (by omega)
    simp only [e1, e2, e3, e4, hw, e5, Option.bind_some]
    exact ⟨c4, r, rfl, k4, r1, fun _ => r2⟩
theorem once_ok {c : GCur} (h : CurOk c) (n : Int) : ∃ c' b, sL1Once c n = some (c', b) ∧ CurOk c' := by
  obtain ⟨c', x, e, k, _⟩ := below_ok h n
  unfold sL1Once
  rw [e]
  exact ⟨c', _, rfl, k⟩
theorem pick_ok {c : GCur} (h : CurOk c) (xs : List Str) (h0 : xs ≠ []) : ∃ c' s, sL1Pick c xs = some (c', s) ∧ CurOk c' ∧ s ∈ xs := by
  have hl : 0 < xs.length := List.length_pos_iff.2 h0
  obtain ⟨c', x, e, k, p, q⟩ := below_ok h xs.length
  obtain ⟨y, hy, hm⟩ := idx_ex p (q (by omega))
  unfold sL1Pick
  simp only [e, hy, Option.bind_some]
  exact ⟨c', y, rfl, k, List.mem_of_getElem? hm⟩
theorem pickInt_ok {c : GCur} (h : CurOk c) (xs : List Int) (h0 : xs ≠ []) : ∃ c' s, sL1PickInt c xs = some (c', s) ∧ CurOk c' ∧ s ∈ xs := by
  have hl : 0 < xs.length := List.length_pos_iff.2 h0
  obtain ⟨c', x, e, k, p, q⟩ := below_ok h xs.length
  obtain ⟨y, hy, hm⟩ := idx_ex p (q (by omega))
  unfold sL1PickInt
  simp only [e, hy, Option.bind_some]
  exact ⟨c', y, rfl, k, List.mem_of_getElem? hm⟩
theorem new_ok (a : List Int) (h : (a.length : Int) ≤ 1048576) : ∃ c, sL1New a = some c ∧ CurOk c := by
  unfold sL1New
  refine loop_ex (fun (s : Int × Nat) => ((a, s.1, (s.2 : Int)) : List Int × Int × Int)) (fun n s => n + s.2 = a.length) CurOk (fun n s hI => ?_) a.length (_, 0) (by simp)
  by_cases hi : s.2 < a.length
  · have hx := List.getElem?_eq_getElem hi
    simp only [dec_lt hx, cond_true]
    by_cases h4 : (s.2 : Int) < 4000
    · simp only [decide_eq_true h4, cond_true, idx_nat, hx, Option.bind_some, w_succ hx (lim20 h)]
      exact .inl ⟨(_, s.2 + 1), n - 1, by omega, by simp only; omega, rfl⟩
    · simp only [decide_eq_false h4, cond_false]
      exact .inr ⟨_, rfl, by simp [CurOk], h⟩
  · have : decide ((s.2 : Int) < (a.length : Int)) = false := by simp; omega
    simp only [this, cond_false]
    exact .inr ⟨_, rfl, by simp [CurOk], h⟩

/-! reads -/
theorem intB {n : Int} (h0 : -1000000000 ≤ n) (h1 : n ≤ 1000000000) : FitD B20 (.int .i64 n) := int0 (wf_small h0 h1)
theorem strB {s : Str} (h : s.length ≤ 1048576) : FitD B20 (.str s) := mkStr20 (by omega)
theorem nilL {t : Ty} : FitD B20 (.list t []) := mkList20 (by simp) fun x hx => by cases hx
theorem val_small {k n : Int} (hk : FitD B20 (.int .i64 k)) (hn : FitD B20 (.int .i64 n)) : Fit B20 (.base .val) (GVal.mk k n 0 [] [] [] []) := by
  rw [fit_val]
  exact ⟨hk, hn, intB (n := 0) (by omega) (by omega), nilStr, nilL, nilL, nilL⟩
theorem read14_ok {c : GCur} (h : CurOk c) : ∃ c' r, sL14Read c = some (c', r) ∧ CurOk c' ∧ (FitD B20 (.int .i64 r.kind) ∧ FitD B20 (.int .i64 r.n) ∧ FitD B20 (.int .i64 r.time) ∧ FitD B20 (.str r.text)) := by
  unfold sL14Read
  obtain ⟨c1, x1, e1, k1, p1, q1⟩ := below_ok h 3
  obtain ⟨c2, x2, e2, k2, p2, q2⟩ := below_ok k1 7
  obtain ⟨c3, s3, e3, k3, m3⟩ := pick_ok k2 [[102], [103], [104], [122]] (by simp)
  obtain ⟨c4, x4, e4, k4, p4, q4⟩ := below_ok k3 3
  simp only [e1, e2, e3, e4, Option.bind_some]
  have := q1 (by omega); have := q2 (by omega); have := q4 (by omega)
  refine ⟨c4, _, rfl, k4, ?_, intB (by simp only; omega) (by simp only; omega), intB (by simp only; omega) (by simp only; omega), strB ?_⟩
  · show FitD B20 (.int .i64 (w64 (1 + x1)))
    rw [w64_id (by omega) (by omega)]
    exact intB (by omega) (by omega)
  · show s3.length ≤ 1048576
    have : s3.length = 1 := by
      simp at m3
      rcases m3 with rfl | rfl | rfl | rfl <;> rfl
    omega
/-- a loop that counts -/
theorem count_ex {X ρ σ : Type} {g : X → Option (X ⊕ ρ)} (pk : σ → Nat → X) (n : Nat) (I : Nat → σ → Prop) (R : ρ → Prop)
    (hs : ∀ i s, i < n → I i s → ∃ s', g (pk s i) = some (.inl (pk s' (i + 1))) ∧ I (i + 1) s') (hf : ∀ s, I n s → ∃ r, g (pk s n) = some (.inr r) ∧ R r) (s : σ) (h0 : I 0 s) : ∃ r, loopD g (pk s 0) = some r ∧ R r := by
  have key : ∀ (k i : Nat) (s : σ), n = i + k → I i s → ∃ r, loopD g (pk s i) = some r ∧ R r := by
    intro k
    induction k with
    | zero =>
      intro i s hi hI
      have : i = n := by omega
      subst this
      obtain ⟨r, e, hR⟩ := hf s hI
      exact ⟨r, by rw [loopD_eq, e], hR⟩
    | succ k ih =>
      intro i s hi hI
      obtain ⟨s', e, hI'⟩ := hs i s (by omega) hI
      obtain ⟨r, e', hR⟩ := ih (i + 1) s' (by omega) hI'
      exact ⟨r, by rw [loopD_eq, e]; exact e', hR⟩
  exact key n 0 s (by omega) h0
theorem cnt_lt {i n : Nat} (h : i < n) : decide ((i : Int) < (n : Int)) = true := by simpa using h
theorem cnt_w {i n : Nat} (h : i < n) (hn : n ≤ 1048576) : w64 ((i : Int) + 1) = ((i + 1 : Nat) : Int) := by
  rw [w64_id (by omega) (by omega)]; omega
theorem nat_of {n : Int} (h : 0 ≤ n) : ∃ m : Nat, n = (m : Int) := ⟨n.toNat, by omega⟩
theorem read_fit {k n t : Int} {s : Str} {v : GVal} (h1 : FitD B20 (.int .i64 k)) (h2 : FitD B20 (.int .i64 n)) (h3 : FitD B20 (.int .i64 t)) (h4 : FitD B20 (.str s)) (h5 : Fit B20 (.base .val) v) : Fit B20 (.base .read) (GRead.mk k n t s v) := by
  rw [fit_read]; exact ⟨h1, h2, h3, h4, h5⟩
theorem snoc_fit {t : Ty} {xs : List t.den} {x : t.den} (h : FitD B20 (.list t xs)) (hx : Fit B20 t x) (hl : (xs.length : Int) + 1 ≤ 1048576) : FitD B20 (.list t (xs ++ [x])) :=
  mkList20 (by rw [List.length_append, List.length_singleton]; omega) fun y hy => by
    rcases List.mem_append.1 hy with hy | hy
    · exact h.list_mem y hy
    · rw [List.mem_singleton.1 hy]; exact hx
theorem tape16_ok {c : GCur} (h : CurOk c) : ∃ c' l, sL16Tape c = some (c', l) ∧ CurOk c' ∧ FitD B20 (.list (.base .read) l) ∧ l.length ≤ 3 := by
  obtain ⟨c1, n, e1, k1, p1, q1⟩ := below_ok h 4
  have hn := q1 (by omega)
  obtain ⟨m, rfl⟩ := nat_of p1
  unfold sL16Tape
  simp only [e1, Option.bind_some]
  have := count_ex (g := fun (x2 : (List Int) × Int × Int × (List GRead) × Int × Int) =>
    bif (decide (x2.2.2.2.2.2 < x2.2.2.2.2.1)) then
      (sL14Read (GCur.mk x2.1 x2.2.1 x2.2.2.1)).bind fun r3 =>
      bif (r3.2.kind != 2) then
        bif (r3.2.kind != 3) then
          (sNumberValue (w64 (50 + x2.2.2.2.2.2))).bind fun r4 =>
          (gd (x2.2.2.2.1.length + ([GRead.mk r3.2.kind 0 r3.2.time [] (reVal r4)]).length)).bind fun _ =>
          some (.inl (r3.1.b, r3.1.i, r3.1.h, x2.2.2.2.1 ++ ([GRead.mk r3.2.kind 0 r3.2.time [] (reVal r4)]), x2.2.2.2.2.1, w64 (x2.2.2.2.2.2 + 1)))
        else
          (sNumberValue (w64 (50 + x2.2.2.2.2.2))).bind fun r5 =>
          (gd (x2.2.2.2.1.length + [GRead.mk r3.2.kind 0 r3.2.time r3.2.text (reVal r5)].length)).bind fun _ =>
          some (.inl (r3.1.b, r3.1.i, r3.1.h, x2.2.2.2.1 ++ [GRead.mk r3.2.kind 0 r3.2.time r3.2.text (reVal r5)], x2.2.2.2.2.1, w64 (x2.2.2.2.2.2 + 1)))
      else
        bif (r3.2.kind != 3) then
          (sNumberValue (w64 (50 + x2.2.2.2.2.2))).bind fun r6 =>
          (gd (x2.2.2.2.1.length + ([GRead.mk r3.2.kind r3.2.n r3.2.time [] (reVal r6)]).length)).bind fun _ =>
          some (.inl (r3.1.b, r3.1.i, r3.1.h, x2.2.2.2.1 ++ ([GRead.mk r3.2.kind r3.2.n r3.2.time [] (reVal r6)]), x2.2.2.2.2.1, w64 (x2.2.2.2.2.2 + 1)))
        else
          (sNumberValue (w64 (50 + x2.2.2.2.2.2))).bind fun r7 =>
          (gd (x2.2.2.2.1.length + [GRead.mk r3.2.kind r3.2.n r3.2.time r3.2.text (reVal r7)].length)).bind fun _ =>
          some (.inl (r3.1.b, r3.1.i, r3.1.h, x2.2.2.2.1 ++ [GRead.mk r3.2.kind r3.2.n r3.2.time r3.2.text (reVal r7)], x2.2.2.2.2.1, w64 (x2.2.2.2.2.2 + 1)))
    else
      some (.inr (GCur.mk x2.1 x2.2.1 x2.2.2.1, x2.2.2.2.1))) (fun (s : GCur × List GRead) (i : Nat) => (s.1.b, s.1.i, s.1.h, s.2, (m : Int), (i : Int))) m
    (fun i s => CurOk s.1 ∧ FitD B20 (.list (.base .read) s.2) ∧ s.2.length = i) (fun r => CurOk r.1 ∧ FitD B20 (.list (.base .read) r.2) ∧ r.2.length ≤ 3) (fun i s hi hs => ?_) (fun s hs => ?_) (c1, []) ⟨k1, nilL, rfl⟩
  · obtain ⟨⟨c', l⟩, e, h1, h2, h3⟩ := this
    exact ⟨c', l, e, h1, h2, h3⟩
  · obtain ⟨hc, hf, hl⟩ := hs
    obtain ⟨c', r, e, kc, f1, f2, f3, f4⟩ := read14_ok hc
    have hv : Fit B20 (.base .val) (GVal.mk 1 (50 + (i : Int)) 0 [] [] [] []) := val_small (intB (by omega) (by omega)) (intB (by omega) (by omega))
    have hw : w64 (50 + (i : Int)) = 50 + (i : Int) := w64_id (by omega) (by omega)
    have hg : ∀ x : GRead, gd (s.2.length + [x].length) = some () := fun x => gd_ok (by simp; omega)
    have z : FitD B20 (.int .i64 0) := intB (by omega) (by omega)
    simp only [cnt_lt hi, cond_true, e, Option.bind_some, sNumberValue, hw, reVal_eq, hg, cnt_w hi (show m ≤ 1048576 by omega)]
    have go : ∀ x : GRead, Fit B20 (.base .read) x → ∃ s' : GCur × List GRead, (some (.inl (c'.b, c'.i, c'.h, s.2 ++ [x], (m : Int), ((i + 1 : Nat) : Int))) : Option (((List Int) × Int × Int × (List GRead) × Int × Int) ⊕ (GCur × List GRead))) = some (.inl (s'.1.b, s'.1.i, s'.1.h, s'.2, (m : Int), ((i + 1 : Nat) : Int))) ∧ CurOk s'.1 ∧ FitD B20 (.list (.base .read) s'.2) ∧ s'.2.length = i + 1 := fun x hx =>
      ⟨(c', s.2 ++ [x]), rfl, kc, snoc_fit hf hx (by omega), by simp [hl]⟩
    cases (r.kind != 2) <;> cases (r.kind != 3)
    · exact go _ (read_fit f1 f2 f3 f4 hv)
    · exact go _ (read_fit f1 f2 f3 nilStr hv)
    · exact go _ (read_fit f1 z f3 f4 hv)
    · exact go _ (read_fit f1 z f3 nilStr hv)
  · obtain ⟨hc, hf, hl⟩ := hs
    refine ⟨(s.1, s.2), by simp only [nlt_self, cond_false], hc, hf, by show s.2.length ≤ 3; omega⟩
end Go.Proofs.YtjpmhfhcbehgcaaGreat
