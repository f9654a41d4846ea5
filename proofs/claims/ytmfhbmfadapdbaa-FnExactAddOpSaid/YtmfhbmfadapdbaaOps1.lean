/- Plain laws: MissingOps, AddOp. -/
import Derived.Test.YtmfhbmfadapdbaaCopy1
set_option linter.unusedSimpArgs false
set_option linter.unusedVariables false
namespace Go.Proofs.Ytmfhbmfadapdbaa
open Go.Abs Go.Proofs

theorem sub_sum {α : Type} (f : α → Nat) {xs ys : List α} (h : xs.Sublist ys) : (xs.map f).sum ≤ (ys.map f).sum := by
  induction h with
  | slnil => exact Nat.le_refl _
  | cons x _ ih => simp only [List.map_cons, List.sum_cons]; omega
  | cons_cons x _ ih => simp only [List.map_cons, List.sum_cons]; omega
theorem sub_snoc {α : Type} {xs ys : List α} {i : Nat} {x : α} (hx : ys[i]? = some x) (h : xs.Sublist (ys.take i)) : (xs ++ [x]).Sublist (ys.take (i + 1)) ∧ xs.Sublist (ys.take (i + 1)) := by
  rw [take_snoc hx]
  exact ⟨h.append (List.Sublist.refl _), h.trans (List.sublist_append_left _ _)⟩
theorem sub_fit {xs ys : List GOp} (h : xs.Sublist ys) (hy : FitD B20 (.list (.base .op) ys)) : FitD B20 (.list (.base .op) xs) :=
  mkList20 (by have := list20 hy; have := h.length_le; omega) fun x hx => hy.list_mem x (h.subset hx)
theorem missingOps_eq (a : GReplica) (b : List Int) (ha : Fit B20 (.base .replica) a) (hb : (b.length : Int) ≤ 1048576) :
    ∃ w, sMissingOps a b = some w ∧ iMissingOps a b = some w ∧ w.Sublist a.ops := by
  rw [fit_replica] at ha
  have hl := list20 ha.2
  have hll := lim20 hl
  unfold sMissingOps iMissingOps
  refine loop_both (fun (s : List GOp) (i : Nat) => ((b, a.id, a.ops, s, (i : Int)) : (List Int) × Int × (List GOp) × (List GOp) × Int))
    (fun (s : List GOp) (i : Nat) => ((b, a.id, a.ops, s, a.ops, (a.ops.length : Int), (i : Int)) : (List Int) × Int × (List GOp) × (List GOp) × (List GOp) × Int × Int)) a.ops
    (fun (i : Nat) (s : List GOp) => s.Sublist (a.ops.take i)) (fun (s : List GOp) => s.Sublist a.ops) (fun i x s hx hI => ?_) (fun s hI => ?_) [] (List.nil_sublist _)
  · have hil := (List.getElem?_eq_some_iff.1 hx).1
    have hf := ha.2.list_mem x (List.mem_of_getElem? hx)
    obtain ⟨k1, k2⟩ := sub_snoc hx hI
    have hsl : s.length ≤ i := by have := hI.length_le; rw [List.length_take] at this; omega
    have g1 : gd (s.length + [x].length) = some () := gd_ok (by simp; omega)
    have hw : w64 ((b.length : Int) - 1) = (b.length : Int) - 1 := w64_id (by omega) (by omega)
    have hcut : eff.cutL a.ops none (some (i : Int)) = some (a.ops.take i) := cut_take (by omega) (by omega)
    obtain ⟨v, c1, c2⟩ := countBy_eq (a.ops.take i) x.by_ (Nat.lt_of_le_of_lt (by rw [List.length_take]; omega) hll)
    simp only [dec_lt hx, cond_true, idx_nat, hx, Option.bind_some, w_succ hx hll, sL1In_ok, hw, sL41Copy_ok x hf, iCopyOp_ok x hf, g1, hcut, c1, c2]
    by_cases h0 : 0 ≤ x.by_
    · by_cases h1 : x.by_ < (b.length : Int)
      · obtain ⟨y, hy, _⟩ := idx_ex h0 h1
        have e2 : (!(decide (v < y))) = decide (v ≥ y) := by rw [dnlt, Bool.not_not]
        simp only [e2, decide_eq_true (show x.by_ ≥ 0 by omega), decide_eq_true (show 0 ≤ x.by_ by omega), decide_eq_true (show x.by_ ≤ (b.length : Int) - 1 by omega), Bool.and_self, Bool.not_true, decide_eq_true h1, cond_true, cond_false, hy, Option.bind_some]
        cases decide (v ≥ y) with
        | true => exact .inl ⟨_, rfl, rfl, k1⟩
        | false => exact .inl ⟨_, rfl, rfl, k2⟩
      · simp only [decide_eq_true (show x.by_ ≥ 0 by omega), decide_eq_true (show 0 ≤ x.by_ by omega), decide_eq_false (show ¬ x.by_ ≤ (b.length : Int) - 1 by omega), Bool.and_false, Bool.not_false, decide_eq_false h1, cond_true, cond_false]
        exact .inl ⟨_, rfl, rfl, k1⟩
    · simp only [decide_eq_false (show ¬ x.by_ ≥ 0 by omega), decide_eq_false (show ¬ 0 ≤ x.by_ by omega), Bool.false_and, Bool.not_false, cond_true, cond_false]
      exact .inl ⟨_, rfl, rfl, k1⟩
  · simp only [Int.lt_irrefl, decide_false, cond_false]
    exact ⟨_, rfl, rfl, by rw [List.take_length] at hI; exact hI⟩
theorem law_FnExactMissingOps (a : GReplica) (b : List Int) (ha : Fit B47 (.base .replica) a) (hb47 : FitD B47 (.list (.base .int) b)) : FnExactMissingOps a b = some true := by
  unfold FnExactMissingOps
  by_cases hb : (b.length : Int) > 1048576
  · rw [decide_eq_true hb]; rfl
  rw [decide_eq_false hb, cond_false]
  have pb : FitD B20 (.list (.base .int) b) := mkList20 (by omega) fun x hx d hd => by
    have := hb47.list_mem x hx d hd
    have e : d = .int .i64 x := by simpa [Ty.cells, Base.cells] using hd
    subst e
    exact this.int_any
  refine law1c (szReplica_ok a ha) _ (by omega) (by omega) fun pa r1 h0 h1 hc => ?_
  have fa := pa; rw [fit_replica] at fa
  obtain ⟨w, hs, hi, hw⟩ := missingOps_eq a b pa (by omega)
  have pw := sub_fit hw fa.2
  have oa := okReplicaF (pa.mono le24)
  have ow := okOpSF (pw.mono le24)
  have hsum : cntOpS w ≤ cntOpS a.ops := sub_sum cntOpE hw
  rw [cntReplicaE_eq] at hc
  have na : (cntReplica a : Int) ≤ 20971521 := by unfold cntReplica; omega
  obtain ⟨ob, nb⟩ := ints_ok (w := b) (by omega)
  obtain ⟨y1, e1, _⟩ := markReplica_ok a oa 1 (by omega) (by omega)
  obtain ⟨y2, e2, _⟩ := markIntS_ok b ob (1 + (cntReplica a : Nat)) (by omega) (by omega)
  obtain ⟨y3, e3, e4⟩ := markOpS_ok w ow 1 (by omega) (by omega)
  have heq := eqIntS_len b (lim20 (by omega))
  simp only [toReplica_ok a pa, toIntS_ok b pb, hs, hi, heq, eqReplica_ok a pa, eqOpS_ok w pw, e1, e2, e3, e4, Option.bind_some, Bool.not_true, cond_false,
    decide_eq_false (show ¬ (1 + (cntReplica a : Nat) + (cntIntS b : Nat) : Int) < 0 by omega), decide_eq_false (show ¬ (1 + (cntOpS w : Nat) : Int) < 0 by omega), bne_self_i]

/-! AddOp -/
theorem w64_wf (n : Int) : (Lit.int .i64 (w64 n)).wf = true := by
  unfold Lit.wf w64
  simp [IntKind.wrap, IntKind.bits, IntKind.signed, IntKind.min, IntKind.max]
  omega
theorem validReplica_len (a : GReplica) (h : Fit B20 (.base .replica) a) : ∃ v, sIsValidReplica a = some v ∧ iIsValidReplica a = some v ∧ (v = true → (a.ops.length : Int) ≤ 60) := by
  rw [fit_replica] at h
  obtain ⟨v, e1, e2, e3⟩ := validLog_eq2 a.ops h.2
  unfold sIsValidReplica iIsValidReplica
  simp only [sL1In_ok, iWithin_ok, Option.bind_some, e1, e2]
  cases (decide (0 ≤ a.id) && decide (a.id ≤ 2))
  · exact ⟨_, rfl, rfl, fun h => by cases h⟩
  · exact ⟨_, rfl, rfl, e3⟩
theorem addOp_eq (a : GReplica) (b : GOp) (ha : Fit B20 (.base .replica) a) (hb : Fit B20 (.base .op) b) :
    ∃ w ok, sAddOp a b = some (w, ok) ∧ iAddOp a b = some (w, ok) ∧ Fit B20 (.base .replica) w ∧ cntReplica w ≤ cntReplica a + cntOpE b + 3 := by
  have fa := ha; rw [fit_replica] at fa
  have fb := hb; rw [fit_op] at fb
  obtain ⟨b0, b1, b2, b3, b4, b5, b6, b7, b8, b9⟩ := fb
  have hl := list20 fa.2
  have hll := lim20 hl
  obtain ⟨t, t1, t2⟩ := lastTime_eq a.ops hll
  obtain ⟨w, s1, s2, s3, s4⟩ := seenBy_eq2 a hll
  obtain ⟨v, v1, v2, v3⟩ := validReplica_len a ha
  have g1 : ∀ x : GOp, gd (a.ops.length + [x].length) = some () := fun x => gd_ok (by simp; omega)
  unfold sAddOp iAddOp
  rw [sL41Copy_ok b hb, t1, s1, sL43Copy_ok a ha, v1, iCopyReplica_ok a ha, v2, iCopyOp_ok b hb, t2, s2]
  simp only [Option.bind_some, g1]
  cases v with
  | false => exact ⟨a, false, rfl, rfl, ha, by omega⟩
  | true =>
    have h60 := v3 rfl
    have fx : Fit B20 (.base .op) (GOp.mk (w64 (t + 1)) a.id b.kind w b.edit b.src b.dst b.cell b.version b.reads) := by
      rw [fit_op]
      refine ⟨int0 (w64_wf _), fa.1, b2, mkList20 (show (w.length : Int) ≤ 1048576 by omega) fun x hx d hd => ?_, b4, b5, b6, b7, b8, b9⟩
      have e : d = .int .i64 x := by simpa [Ty.cells, Base.cells] using hd
      subst e
      rcases s4 x hx with rfl | ⟨n, rfl⟩
      · exact int0 (wf_small (by omega) (by omega))
      · exact int0 (w64_wf n)
    have fn : Fit B20 (.base .replica) (GReplica.mk a.id (a.ops ++ [GOp.mk (w64 (t + 1)) a.id b.kind w b.edit b.src b.dst b.cell b.version b.reads])) := by
      rw [fit_replica]
      refine ⟨fa.1, mkList20 (by simp; omega) fun x hx => ?_⟩
      rcases List.mem_append.1 hx with hx | hx
      · exact fa.2.list_mem x hx
      · simp only [List.mem_singleton] at hx; subst hx; exact fx
    obtain ⟨u, u1, u2, _⟩ := validReplica_len _ fn
    simp only [Bool.not_true, cond_false, u1, u2, Option.bind_some]
    cases u with
    | false => exact ⟨a, false, rfl, rfl, ha, by omega⟩
    | true =>
      refine ⟨_, true, rfl, rfl, fn, ?_⟩
      unfold cntReplica
      simp only [cntOpS_eq, List.map_append, List.map_cons, List.map_nil, List.sum_append, List.sum_cons, List.sum_nil, cntOpE_eq]
      obtain ⟨_, hw⟩ := ints_ok (w := w) (by omega)
      have : cntIntS w ≤ 3 := by have := sum_le (fun _ : Int => 1) w 1 (fun _ _ => Nat.le_refl _); unfold cntIntS; omega
      omega
theorem law_FnExactAddOp (a : GReplica) (b : GOp) (ha : Fit B47 (.base .replica) a) (hb : Fit B47 (.base .op) b) : FnExactAddOp a b = some true := by
  refine law1c (szReplica_ok a ha) _ (by omega) (by omega) fun pa r1 h0 h1 hc => ?_
  refine law1c (szOp_ok b hb) _ (by omega) (by omega) fun pb r2 h2 h3 hc2 => ?_
  obtain ⟨w, ok, hs, hi, hw, hcw⟩ := addOp_eq a b pa pb
  have oa := okReplicaF (pa.mono le24)
  have ob := okOpF (pb.mono le24)
  have ow := okReplicaF (hw.mono le24)
  rw [cntReplicaE_eq] at hc
  have na : (cntReplica a : Int) ≤ 20971521 := by unfold cntReplica; omega
  have nb : (cntOpE b : Int) ≤ 20971540 := by omega
  have nb' : cntOp b ≤ cntOpE b := by rw [cntOpE_eq]; unfold cntOp; omega
  obtain ⟨y1, e1, _⟩ := markReplica_ok a oa 1 (by omega) (by omega)
  obtain ⟨y2, e2, _⟩ := markOp_ok b ob (1 + (cntReplica a : Nat)) (by omega) (by omega)
  obtain ⟨y3, e3, e4, e5⟩ := markReplica_ok w ow 1 (by omega) (by omega)
  have e6 : GReplica.mk w.id y3.ops = y3 := by rw [← e5]
  simp only [toReplica_ok a pa, toOp_ok b pb, hs, hi, eqReplica_ok a pa, eqReplica_ok w hw, eqOp_ok b pb, e1, e2, e3, e4, e6, Option.bind_some, Bool.not_true, cond_false, beq_self_eq_true,
    decide_eq_false (show ¬ (1 + (cntReplica a : Nat) + (cntOp b : Nat) : Int) < 0 by omega), decide_eq_false (show ¬ (1 + (cntReplica w : Nat) : Int) < 0 by omega), bne_self_i]
end Go.Proofs.Ytmfhbmfadapdbaa
