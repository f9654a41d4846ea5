/- Plain laws: Pull. -/
import Derived.Test.YtijhfajcbmpndaaGreatMerge
set_option linter.unusedSimpArgs false
set_option linter.unusedVariables false
namespace Go.Proofs.YtijhfajcbmpndaaGreat
open Go.Abs Go.Proofs

theorem pull_eq (a b : GReplica) (ha : Fit B20 (.base .replica) a) (hb : Fit B20 (.base .replica) b) :
    ∃ w ok, sPull a b = some (w, ok) ∧ iPull a b = some (w, ok) ∧ Fit B20 (.base .replica) w ∧ cntReplica w ≤ cntReplica a + cntReplica b := by
  have fa := ha; rw [fit_replica] at fa
  have fb := hb; rw [fit_replica] at fb
  have la := list20 fa.2
  have lb := list20 fb.2
  have hs := sMergeOps_eq a.ops b.ops (by omega) (by omega) (fun x hx => fa.2.list_mem x hx) (fun x hx => fb.2.list_mem x hx)
  have hi := iMergeOps_eq a.ops b.ops (by omega) (by omega) (fun x hx => fa.2.list_mem x hx) (fun x hx => fb.2.list_mem x hx)
  have hlen := mergeL_len a.ops b.ops
  have hsum : cntOpS (mergeL a.ops b.ops) ≤ cntOpS a.ops + cntOpS b.ops := mergeL_sum cntOpE a.ops b.ops
  obtain ⟨v, v1, v2, v3⟩ := validReplica_len a ha
  obtain ⟨u, u1, u2, u3⟩ := validReplica_len b hb
  unfold sPull iPull
  rw [hs, hi]
  simp only [Option.bind_some, v1, v2, u1, u2, sL43Copy_ok a ha, iCopyReplica_ok a ha]
  cases v with
  | false => exact ⟨a, false, rfl, rfl, ha, by omega⟩
  | true =>
    cases u with
    | false => exact ⟨a, false, rfl, rfl, ha, by omega⟩
    | true =>
      have h1 := v3 rfl
      have h2 := u3 rfl
      have fn : Fit B20 (.base .replica) (GReplica.mk a.id (mergeL a.ops b.ops)) := by
        rw [fit_replica]
        refine ⟨fa.1, mkList20 (by show ((mergeL a.ops b.ops).length : Int) ≤ 1048576; omega) fun x hx => ?_⟩
        rcases mergeL_mem hx with h | h
        · exact fa.2.list_mem x h
        · exact fb.2.list_mem x h
      obtain ⟨z, z1, z2, _⟩ := validReplica_len _ fn
      simp only [Bool.not_true, cond_false, z1, z2, Option.bind_some]
      cases z with
      | false => exact ⟨a, false, rfl, rfl, ha, by omega⟩
      | true => exact ⟨_, true, rfl, rfl, fn, by unfold cntReplica; omega⟩
theorem law_FnExactPull (a b : GReplica) (ha : Fit B47 (.base .replica) a) (hb : Fit B47 (.base .replica) b) : FnExactPull a b = some true := by
  refine law1c (szReplica_ok a ha) _ (by omega) (by omega) fun pa r1 h0 h1 hc => ?_
  refine law1c (szReplica_ok b hb) _ (by omega) (by omega) fun pb r2 h2 h3 hc2 => ?_
  obtain ⟨w, ok, hs, hi, hw, hcw⟩ := pull_eq a b pa pb
  have oa := okReplicaF (pa.mono le24)
  have ob := okReplicaF (pb.mono le24)
  have ow := okReplicaF (hw.mono le24)
  rw [cntReplicaE_eq] at hc hc2
  have na : (cntReplica a : Int) ≤ 20971521 := by unfold cntReplica; omega
  have nb : (cntReplica b : Int) ≤ 20971521 := by unfold cntReplica; omega
  obtain ⟨y1, e1, _⟩ := markReplica_ok a oa 1 (by omega) (by omega)
  obtain ⟨y2, e2, _⟩ := markReplica_ok b ob (1 + (cntReplica a : Nat)) (by omega) (by omega)
  obtain ⟨y3, e3, e4, e5⟩ := markReplica_ok w ow 1 (by omega) (by omega)
  have e6 : GReplica.mk w.id y3.ops = y3 := by rw [← e5]
  simp only [toReplica_ok a pa, toReplica_ok b pb, hs, hi, eqReplica_ok a pa, eqReplica_ok w hw, eqReplica_ok b pb, e1, e2, e3, e4, e6, Option.bind_some, Bool.not_true, cond_false, beq_self_eq_true,
    decide_eq_false (show ¬ (1 + (cntReplica a : Nat) + (cntReplica b : Nat) : Int) < 0 by omega), decide_eq_false (show ¬ (1 + (cntReplica w : Nat) : Int) < 0 by omega), bne_self_i]
end Go.Proofs.YtijhfajcbmpndaaGreat
