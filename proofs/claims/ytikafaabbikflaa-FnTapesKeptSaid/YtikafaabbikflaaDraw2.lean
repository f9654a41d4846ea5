/- Plain laws: drawn tapes; the laws on reads and tapes. -/
import Derived.Test.YtikafaabbikflaaDraw1
import Derived.Test.YtikafaabbikflaaTape2
set_option linter.unusedSimpArgs false
set_option linter.unusedVariables false
namespace Go.Proofs.Ytikafaabbikflaa
open Go.Abs Go.Proofs

theorem small_draw {x : Int} {n : Int} (h0 : 0 ≤ x) (h1 : x < n) (hn : n ≤ 1000) : w64 (1 + x) = 1 + x := w64_id (by omega) (by omega)
theorem ex2 {α β : Type} {x : Option (α × β)} {P : α → β → Prop} (h : ∃ r, x = some r ∧ P r.1 r.2) : ∃ a b, x = some (a, b) ∧ P a b := by
  obtain ⟨⟨a, b⟩, e, h⟩ := h
  exact ⟨a, b, e, h⟩
theorem draw26_ok {c : GCur} (h : CurOk c) : ∃ c' l, sL26Draw c = some (c', l) ∧ CurOk c' ∧ Tps 4 12 l := by
  obtain ⟨c1, n, e1, k1, p1, q1⟩ := below_ok h 5
  have hn := q1 (by omega)
  obtain ⟨m, rfl⟩ := nat_of p1
  unfold sL26Draw
  simp only [e1, Option.bind_some]
  refine ex2 (count_ex (fun (s : GCur × List GTape) (i : Nat) => ((s.1.b, s.1.i, s.1.h, s.2, (m : Int), (i : Int)) : (List Int) × Int × Int × (List GTape) × Int × Int)) m
    (fun i s => CurOk s.1 ∧ Tps i (3 * i) s.2) (fun (r : GCur × List GTape) => CurOk r.1 ∧ Tps 4 12 r.2) (fun i s hi hs => ?_) (fun s hs => ?_) (c1, []) ⟨k1, nil20, by simp, fun t ht => (by cases ht)⟩)
  · obtain ⟨hc, hT⟩ := hs
    obtain ⟨c2, x2, e2, k2, p2, q2⟩ := below_ok hc 5
    obtain ⟨c3, x3, e3, k3, p3, q3⟩ := below_ok k2 3
    obtain ⟨c4, l, e4, k4, f4, l4⟩ := tape16_ok k3
    have := q2 (by omega); have := q3 (by omega)
    have hp := sPutTape_ok s.2 (1 + x2) (1 + x3) l hT f4 (by omega)
    simp only [cnt_lt hi, cond_true, e2, e3, e4, Option.bind_some, small_draw p2 (q2 (by omega)) (by omega), small_draw p3 (q3 (by omega)) (by omega), hp, cnt_w hi (show m ≤ 1048576 by omega)]
    refine ⟨(c4, putT s.2 (1 + x2) (1 + x3) l), rfl, k4, ?_⟩
    have := putT_tps hT f4 l4 (by omega) (by omega) (intB (n := 1 + x2) (by omega) (by omega)) (intB (n := 1 + x3) (by omega) (by omega))
    exact this
  · obtain ⟨hc, hT⟩ := hs
    have hT4 : Tps 4 12 s.2 := ⟨hT.1, Nat.le_trans hT.2.1 (by omega), fun t ht => Nat.le_trans (hT.2.2 t ht) (by omega)⟩
    simp only [nlt_self, cond_false]
    by_cases hl : (s.2.length : Int) > 1
    · obtain ⟨c2, b, e2, k2⟩ := once_ok hc 8
      simp only [decide_eq_true hl, cond_true, e2, Option.bind_some]
      cases b with
      | false => exact ⟨_, rfl, k2, hT4⟩
      | true =>
        obtain ⟨t, r, hs2⟩ : ∃ t r, s.2 = t :: r := by
          cases hx : s.2 with
          | nil => rw [hx] at hl; simp at hl
          | cons t r => exact ⟨t, r, rfl⟩
        rw [hs2] at hT4 ⊢
        refine ⟨(c2, GTape.mk 7 t.version t.reads :: r), rfl, k2, ?_⟩
        obtain ⟨a1, a2, a3⟩ := hT4
        have f := tape_of a1 (t := t) List.mem_cons_self
        refine ⟨mkList20 (by have := list20 a1; simpa using this) fun x hx => ?_, by simpa using a2, fun x hx => ?_⟩
        · rcases List.mem_cons.1 hx with rfl | hx
          · exact fit_tape.2 ⟨intB (n := 7) (by omega) (by omega), f.2.1, f.2.2⟩
          · exact a1.list_mem x (List.mem_cons_of_mem _ hx)
        · rcases List.mem_cons.1 hx with rfl | hx
          · exact a3 t List.mem_cons_self
          · exact a3 x (List.mem_cons_of_mem _ hx)
    · simp only [decide_eq_false hl, cond_false]
      exact ⟨_, rfl, hc, hT4⟩
theorem all_yes {α ρ : Type} (xs : List α) {a b : Option ρ} : (bif xs.all (fun _ => true) then a else b) = a := by
  have : xs.all (fun _ => true) = true := by rw [List.all_eq_true]; intro x hx; rfl
  rw [this]; rfl
/-- the first steps of a law on drawn data -/
theorem big_law {a : List Int} (ha : FitD B47 (.list (.base .u8) a)) {k : Option Bool} (hk : (a.length : Int) ≤ 1048576 → k = some true) : ((big a).bind fun r1 => bif r1 then some (true) else k) = some true := by
  unfold big
  rw [Option.bind_some]
  by_cases h : (a.length : Int) > 1048576
  · rw [decide_eq_true h]; rfl
  · rw [decide_eq_false h, cond_false]; exact hk (by omega)
theorem law_FnTapes (a : List Int) (ha : FitD B47 (.list (.base .u8) a)) : FnTapes a = some true := by
  unfold FnTapes
  refine big_law ha fun hl => ?_
  obtain ⟨c0, e0, k0⟩ := new_ok a hl
  obtain ⟨c1, x, e1, k1, f1, l1⟩ := tape16_ok k0
  obtain ⟨c2, y, e2, k2, f2, l2⟩ := tape16_ok k1
  have fm := mergeR_fit f1 f2 (by omega)
  have lm := (merge_len x y).2
  simp only [sDrawMergeReads, e0, e1, e2, Option.bind_some, iMergeReads_ok x y f1 f2 (by omega), sMergeReads_ok x y f1 f2 (by omega), sameReads_ok _ _ fm, eqd_self, Bool.not_true, cond_false,
    iMergeReads_ok (mergeR x y) y fm f2 (by omega), iMergeReads_ok (mergeR x y) x fm f1 (by omega), merge_again, merge_first]
  refine Eq.trans (scan_then (fun i : Nat => ((x, y, mergeR x y, (i : Int)) : (List GRead) × (List GRead) × (List GRead) × Int)) y (fun _ => true) false (some true) (fun i r hr => ?_) ?_) (all_yes _)
  · have hri := List.mem_of_getElem? hr
    have hl2 := lim20 (list20 f2)
    have hm : hasR (mergeR x y) r = true := hasR_merge_right y hri
    rw [← findR_has, Option.isSome_iff_exists] at hm
    obtain ⟨v, hv⟩ := hm
    simp only [dec_lt hr, cond_true, idx_nat, hr, Option.bind_some, Int.toNat_natCast, reRead_eq, reVal_eq, iFindRead_ok _ r fm, sFindRead_ok x r f1, hv, Option.elim, Bool.not_true, cond_false, w_succ hr hl2]
    cases hx : findR x r with
    | none => rfl
    | some u =>
      have e := merge_find (b := y) hx
      rw [hv] at e
      cases e
      have hu : v ∈ x := List.mem_of_find?_eq_some hx
      have fu := f1.list_mem v hu
      rw [fit_read] at fu
      simp only [sEqualValue_ok v.result v.result fu.2.2.2.2, eqd_self, Option.bind_some, cond_true, Bool.not_true, cond_false]
  · simp only [nlt_self, cond_false]; rfl
theorem law_FnCopied (a : List Int) (ha : FitD B47 (.list (.base .u8) a)) : FnCopied a = some true := by
  unfold FnCopied
  refine big_law ha fun hl => ?_
  obtain ⟨c0, e0, k0⟩ := new_ok a hl
  obtain ⟨c1, l, e1, k1, hT⟩ := draw26_ok k0
  obtain ⟨c2, x2, e2, k2, p2, q2⟩ := below_ok k1 6
  obtain ⟨c3, x3, e3, k3, p3, q3⟩ := below_ok k2 3
  obtain ⟨c4, x4, e4, k4, p4, q4⟩ := below_ok k3 4
  have q2 := q2 (by omega)
  have q3 := q3 (by omega)
  have q4 := q4 (by omega)
  simp only [sDrawCopyTape, e0, e1, e2, e3, e4, Option.bind_some, small_draw p2 q2 (by omega), small_draw p3 q3 (by omega), small_draw p4 q4 (by omega)]
  generalize hb : 1 + x2 = b
  generalize hc : 1 + x3 = c
  generalize hd : 1 + x4 = d
  have hrl := readsOf_len hT b c
  have hrf := readsOf_fit l b c hT.1
  have hO := putT_tps (c := b) (v := d) hT hrf hrl (by omega) (by omega) (intB (by omega) (by omega)) (intB (by omega) (by omega))
  simp only [iCopyTape_ok l b c d hT (by omega), sCopyTape_ok l b c d hT (by omega), Option.bind_some, sameTapes_ok _ _ hO.1, eqd_self, Bool.not_true, cond_false, sTapeOf_ok l b c hT.1]
  refine Eq.trans (scan_then (fun i : Nat => ((b, c, d, putT l b d (readsOf l b c), readsOf l b c, (i : Int)) : Int × Int × Int × (List GTape) × (List GRead) × Int)) (readsOf l b c) (fun _ => true) false (some true) (fun i r hr => ?_) ?_) (all_yes _)
  · have hm : hasR (readsOf (putT l b d (readsOf l b c)) b d) r = true := by rw [putT_readsOf]; exact hasR_merge_right _ (List.mem_of_getElem? hr)
    rw [← findR_has, Option.isSome_iff_exists] at hm
    obtain ⟨v, hv⟩ := hm
    simp only [dec_lt hr, cond_true, idx_nat, hr, Option.bind_some, Int.toNat_natCast, reRead_eq, reVal_eq, iTapeOf_ok _ b d hO.1, sFindRead_ok _ r (readsOf_fit _ b d hO.1), hv, Option.elim, Bool.not_true, cond_false, w_succ hr (lim20 (list20 hrf))]
  · simp only [nlt_self, cond_false, iCopyTape_ok _ b c d hO (by omega), copy_again, Option.bind_some, sameTapes_ok _ _ hO.1, eqd_self]
theorem ordered_ok {f : GTape → GTape → Option Bool} (hf : ∀ x y, f x y = some (befT x y)) {X : Type} (l : List GTape) (h : l.length < lim) {g : (List GTape) × Int → Option (((List GTape) × Int) ⊕ Bool)}
    (hg : ∀ x1, g x1 = bif (decide (x1.2 < (x1.1.length : Int))) then
      (idx x1.1 (w64 (x1.2 - 1))).bind fun e2 =>
      (idx x1.1 x1.2).bind fun e3 =>
      (f e2 e3).bind fun r4 =>
      bif (!r4) then
        some (.inr (false))
      else
        some (.inl (x1.1, w64 (x1.2 + 1)))
    else
      some (.inr (true))) : ∃ v, loopD g (l, 1) = some v ∧ (v = true ↔ ordT l) := by
  have key : ∀ (n i : Nat) (x : GTape) (r : List GTape), l.drop i = x :: r → l.length = i + 1 + n → ∃ v, loopD g (l, ((i + 1 : Nat) : Int)) = some v ∧ (v = true ↔ ordT (x :: r)) := by
    intro n
    induction n with
    | zero =>
      intro i x r hd hi
      have hr : r = [] := by
        have := congrArg List.length hd
        simp at this
        exact List.eq_nil_of_length_eq_zero (by omega)
      subst hr
      rw [loopD_eq, hg]
      have : decide (((i + 1 : Nat) : Int) < (l.length : Int)) = false := by simp; omega
      simp only [this, cond_false]
      exact ⟨true, rfl, fun _ => ⟨fun y hy => (by cases hy), trivial⟩, fun _ => rfl⟩
    | succ n ih =>
      intro i x r hd hi
      have h0 : l[i]? = some x := by
        have := congrArg (·[0]?) hd
        simpa using this
      have hd1 : l.drop (i + 1) = r := by
        have := congrArg (List.drop 1) hd
        rw [List.drop_drop] at this
        simpa using this
      obtain ⟨y, r', hr⟩ : ∃ y r', r = y :: r' := by
        cases hr : r with
        | nil =>
          rw [hr] at hd1
          have := congrArg List.length hd1
          simp at this
          omega
        | cons y r' => exact ⟨y, r', rfl⟩
      have h1 : l[i + 1]? = some y := by
        have := congrArg (·[0]?) hd1
        rw [hr] at this
        simpa using this
      have hw1 : w64 (((i + 1 : Nat) : Int) - 1) = ((i : Nat) : Int) := by
        have hl' : (l.length : Int) < 4611686018427387904 := Int.ofNat_lt.2 h
        rw [w64_id (by omega) (by omega)]; omega
      have hw2 : w64 (((i + 1 : Nat) : Int) + 1) = ((i + 1 + 1 : Nat) : Int) := w_succ h1 h
      rw [loopD_eq, hg]
      simp only [dec_lt h1, cond_true, hw1, hw2, idx_nat, h0, h1, Option.bind_some, hf]
      cases hb : befT x y with
      | false =>
        refine ⟨false, rfl, ?_⟩
        constructor
        · intro hh; cases hh
        · intro ho
          have := ho.1 y (by rw [hr]; rfl)
          rw [hb] at this; cases this
      | true =>
        obtain ⟨v, e, hv⟩ := ih (i + 1) y r' (by rw [hd1, hr]) (by omega)
        refine ⟨v, e, hv.trans ?_⟩
        rw [hr]
        constructor
        · intro ho
          exact ⟨fun z hz => (by cases hz; exact hb), ho⟩
        · intro ho
          exact ho.2
  cases hl : l with
  | nil =>
    rw [loopD_eq, hg]
    exact ⟨true, rfl, fun _ => trivial, fun _ => rfl⟩
  | cons x r =>
    have := key r.length 0 x r (by rw [hl]; rfl) (by rw [hl]; simp; omega)
    rw [hl] at this
    simpa using this
theorem sAreOrdered_ok (l : List GTape) (h : l.length < lim) : ∃ v, sAreOrdered l = some v ∧ (v = true ↔ ordT l) := by
  unfold sAreOrdered
  exact ordered_ok (X := Unit) (f := sL26Before) bef_s l h fun _ => rfl
theorem iAreOrdered_ok (l : List GTape) (h : l.length < lim) : ∃ v, iAreOrdered l = some v ∧ (v = true ↔ ordT l) := by
  unfold iAreOrdered
  exact ordered_ok (X := Unit) (f := iTapeBefore) bef_i l h fun _ => rfl
theorem cntR_le {N M : Nat} {l : List GTape} (h : Tps N M l) : cntR l ≤ N * M := by
  have h1 := sum_le (fun t : GTape => t.reads.length) l M h.2.2
  have h2 : l.length * M ≤ N * M := Nat.mul_le_mul_right _ h.2.1
  unfold cntR
  omega
theorem iCountReads_ok {N M : Nat} {l : List GTape} (h : Tps N M l) (hb : N * M ≤ 1000000000) : iCountReads l = some (cntR l : Int) := by
  have hl := lim20 (list20 h.1)
  unfold iCountReads
  have := (loop_foldI (g := fun (x1 : Int × (List GTape) × Int × Int) =>
    bif (decide (x1.2.2.2 < x1.2.2.1)) then
      (idx x1.2.1 x1.2.2.2).bind fun e2 =>
      some (.inl (w64 (x1.1 + (e2.reads.length : Int)), x1.2.1, x1.2.2.1, w64 (x1.2.2.2 + 1)))
    else
      some (.inr (x1.1))) (fun (s : Int) (i : Nat) => (s, l, (l.length : Int), (i : Int))) l (fun s t => s + (t.reads.length : Int)) id (fun i s => s = (cntR (l.take i) : Int)) (fun i t s ht hs => ?_) (fun i t s ht hs => ?_) (fun s hs => ?_) 0 (by simp [cntR]))
  · refine this.1.trans ?_
    have e := this.2
    rw [List.take_length] at e
    simp only [id, e]
  · rw [hs, take_snoc ht]
    simp only [cntR, List.map_append, List.sum_append, List.map_cons, List.map_nil, List.sum_cons, List.sum_nil, Nat.add_zero]
    omega
  · have hc := cntR_le h
    have hs1 : cntR (l.take i) ≤ cntR l := sub_sum _ (List.take_sublist _ _)
    have h3 := h.2.2 t (List.mem_of_getElem? ht)
    have hM : (t.reads.length : Int) ≤ 1048576 := list20 (tape_of h.1 (List.mem_of_getElem? ht)).2.2
    simp only [dec_lt ht, cond_true, idx_nat, ht, Option.bind_some, w_succ ht hl, hs]
    rw [w64_id (by omega) (by omega)]
  · simp only [nlt_self, cond_false, id]
theorem law_FnTapesKept (a : List Int) (ha : FitD B47 (.list (.base .u8) a)) : FnTapesKept a = some true := by
  unfold FnTapesKept
  refine big_law ha fun hl => ?_
  obtain ⟨c0, e0, k0⟩ := new_ok a hl
  obtain ⟨c1, l, e1, k1, hT⟩ := draw26_ok k0
  obtain ⟨c2, x2, e2, k2, p2, q2⟩ := below_ok k1 6
  obtain ⟨c3, x3, e3, k3, p3, q3⟩ := below_ok k2 3
  obtain ⟨c4, d, e4, k4, f4, l4⟩ := tape16_ok k3
  have q2 := q2 (by omega)
  have q3 := q3 (by omega)
  simp only [sDrawPutTape, e0, e1, e2, e3, e4, Option.bind_some, small_draw p2 q2 (by omega), small_draw p3 q3 (by omega)]
  generalize hb : 1 + x2 = b
  generalize hc : 1 + x3 = c
  have hO := putT_tps (c := b) (v := c) hT f4 l4 (by omega) (by omega) (intB (by omega) (by omega)) (intB (by omega) (by omega))
  have hrl := readsOf_len hT b c
  have hrf := readsOf_fit l b c hT.1
  obtain ⟨v1, o1, ho1⟩ := sAreOrdered_ok l (lim20 (list20 hT.1))
  obtain ⟨v2, o2, ho2⟩ := iAreOrdered_ok (putT l b c d) (lim20 (list20 hO.1))
  have hmf := mergeR_fit hrf f4 (by omega)
  have hcnt : ¬ ((cntR (putT l b c d) : Int) < (cntR l : Int)) := by have := cntR_put l b c d; omega
  simp only [iPutTape_ok l b c d hT f4 (by omega), sPutTape_ok l b c d hT f4 (by omega), Option.bind_some, sameTapes_ok _ _ hO.1, eqd_self, Bool.not_true, cond_false, o1, o2, sTapeOf_ok l b c hT.1, iTapeOf_ok _ b c hO.1, putT_readsOf,
    sMergeReads_ok _ d hrf f4 (by omega), sameReads_ok _ _ hmf, iCountReads_ok hT (by omega), iCountReads_ok hO (by omega), decide_eq_false hcnt]
  have key : ∀ (g : (List GTape) × Int × Int × (List GRead) × (List GTape) × Int → Option (((List GTape) × Int × Int × (List GRead) × (List GTape) × Int) ⊕ Bool)), (∀ x31, g x31 = bif (decide (x31.2.2.2.2.2 < (x31.1.length : Int))) then
      (idx x31.1 x31.2.2.2.2.2).bind fun _ =>
      (x31.1[x31.2.2.2.2.2.toNat]?).bind fun e33 =>
      bif (e33.cell != x31.2.1) then
        (iTapeOf x31.2.2.2.2.1 e33.cell e33.version).bind fun r34 =>
        (sTapeOf x31.1 e33.cell e33.version).bind fun r35 =>
        (sameReads r34 r35).bind fun r36 =>
        bif (!r36) then
          some (.inr (false))
        else
          some (.inl (x31.1, x31.2.1, x31.2.2.1, x31.2.2.2.1, x31.2.2.2.2.1, w64 (x31.2.2.2.2.2 + 1)))
      else
      bif (e33.version != x31.2.2.1) then
        (iTapeOf x31.2.2.2.2.1 e33.cell e33.version).bind fun r37 =>
        (sTapeOf x31.1 e33.cell e33.version).bind fun r38 =>
        (sameReads r37 r38).bind fun r39 =>
        bif (!r39) then
          some (.inr (false))
        else
          some (.inl (x31.1, x31.2.1, x31.2.2.1, x31.2.2.2.1, x31.2.2.2.2.1, w64 (x31.2.2.2.2.2 + 1)))
      else
        some (.inl (x31.1, x31.2.1, x31.2.2.1, x31.2.2.2.1, x31.2.2.2.2.1, w64 (x31.2.2.2.2.2 + 1)))
    else
      (
        (iPutTape x31.2.2.2.2.1 x31.2.1 x31.2.2.1 x31.2.2.2.1).bind fun r40 =>
        (sameTapes r40 x31.2.2.2.2.1).bind fun r41 =>
        some (r41)
      ).bind fun r => some (.inr r)) → loopD g (l, b, c, d, putT l b c d, 0) = some true := by
    intro g hg
    refine Eq.trans (scan_then (fun i : Nat => ((l, b, c, d, putT l b c d, (i : Int)) : (List GTape) × Int × Int × (List GRead) × (List GTape) × Int)) l (fun _ => true) false (some true) (fun i t ht => ?_) ?_) (all_yes _)
    · have hne : ¬ (t.cell = b ∧ t.version = c) → readsOf (putT l b c d) t.cell t.version = readsOf l t.cell t.version := fun h => putT_other l b c d h
      rw [hg]
      simp only [dec_lt ht, cond_true, idx_nat, ht, Option.bind_some, Int.toNat_natCast, bne_dec, w_succ ht (lim20 (list20 hT.1)), sTapeOf_ok l _ _ hT.1, iTapeOf_ok _ _ _ hO.1]
      by_cases h1 : t.cell = b
      · by_cases h2 : t.version = c
        · rw [eqd_true h1, eqd_true h2]; rfl
        · rw [eqd_true h1, eqd_false h2, hne fun h => h2 h.2]
          simp only [Bool.not_true, Bool.not_false, cond_true, cond_false, sameReads_ok _ _ (readsOf_fit l _ _ hT.1), eqd_self, Option.bind_some]
      · rw [eqd_false h1, hne fun h => h1 h.1]
        simp only [Bool.not_true, Bool.not_false, cond_true, cond_false, sameReads_ok _ _ (readsOf_fit l _ _ hT.1), eqd_self, Option.bind_some]
    · rw [hg]
      simp only [nlt_self, cond_false, iPutTape_ok _ b c d hO f4 (by omega), putT_again, Option.bind_some, sameTapes_ok _ _ hO.1, eqd_self]
  cases v1 with
  | false => simp only [cond_false]; exact key _ fun _ => rfl
  | true =>
    have : v2 = true := ho2.2 (ordT_put (ho1.1 rfl) b c d)
    subst this
    simp only [cond_true, Bool.not_true, cond_false]
    exact key _ fun _ => rfl
end Go.Proofs.Ytikafaabbikflaa
