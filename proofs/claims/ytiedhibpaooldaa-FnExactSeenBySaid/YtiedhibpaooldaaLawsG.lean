/- Plain laws with marks: SeenBy. -/
import Derived.Test.YtiedhibpaooldaaLawsF
set_option linter.unusedSimpArgs false
set_option linter.unusedVariables false
namespace Go.Proofs.Ytiedhibpaooldaa
open Go.Abs Go.Proofs

theorem seenBy_eq2 (a : GReplica) (h : a.ops.length < lim) : ∃ w, sSeenBy a = some w ∧ iSeenBy a = some w ∧ (w.length : Int) ≤ 3 ∧ ∀ x ∈ w, x = 0 ∨ ∃ n, x = w64 n := by
  obtain ⟨v0, s0, i0, z0⟩ := countBy_eq2 a.ops 0 h
  obtain ⟨v1, s1, i1, z1⟩ := countBy_eq2 a.ops 1 h
  obtain ⟨v2, s2, i2, z2⟩ := countBy_eq2 a.ops 2 h
  have g0 : gd (([] : List Int).length + [v0].length) = some () := gd_ok (by simp)
  have g1 : gd (([] ++ [v0] : List Int).length + [v1].length) = some () := gd_ok (by simp)
  have g2 : gd (([] ++ [v0] ++ [v1] : List Int).length + [v2].length) = some () := gd_ok (by simp)
  have w1 : w64 (0 + 1) = 1 := by decide
  have w2 : w64 (1 + 1) = 2 := by decide
  have w3 : w64 (2 + 1) = 3 := by decide
  refine ⟨[] ++ [v0] ++ [v1] ++ [v2], ?_, ?_, by simp, fun x hx => by
    simp at hx
    rcases hx with rfl | rfl | rfl
    · exact z0
    · exact z1
    · exact z2⟩
  · unfold sSeenBy
    rw [loopD_eq]
    simp only [show decide ((0 : Int) < 3) = true from rfl, cond_true, s0, g0, w1, Option.bind_some]
    rw [loopD_eq]
    simp only [show decide ((1 : Int) < 3) = true from rfl, cond_true, s1, g1, w2, Option.bind_some]
    rw [loopD_eq]
    simp only [show decide ((2 : Int) < 3) = true from rfl, cond_true, s2, g2, w3, Option.bind_some]
    rw [loopD_eq]
    simp only [show decide ((3 : Int) < 3) = false from rfl, cond_false]
  · unfold iSeenBy
    rw [loopD_eq]
    simp only [show decide ((0 : Int) < 3) = true from rfl, cond_true, i0, g0, w1, Option.bind_some]
    rw [loopD_eq]
    simp only [show decide ((1 : Int) < 3) = true from rfl, cond_true, i1, g1, w2, Option.bind_some]
    rw [loopD_eq]
    simp only [show decide ((2 : Int) < 3) = true from rfl, cond_true, i2, g2, w3, Option.bind_some]
    rw [loopD_eq]
    simp only [show decide ((3 : Int) < 3) = false from rfl, cond_false]
theorem seenBy_eq (a : GReplica) (h : a.ops.length < lim) : ∃ w, sSeenBy a = some w ∧ iSeenBy a = some w ∧ (w.length : Int) ≤ 3 := by
  obtain ⟨w, e1, e2, e3, _⟩ := seenBy_eq2 a h
  exact ⟨w, e1, e2, e3⟩
theorem law_FnExactSeenBy (a : GReplica) (ha : Fit B47 (.base .replica) a) : FnExactSeenBy a = some true := by
  refine law1c (szReplica_ok a ha) _ (by omega) (by omega) fun pa r1 h0 h1 hc => ?_
  have fa := pa; rw [fit_replica] at fa
  obtain ⟨w, hs, hi, hw⟩ := seenBy_eq a (lim20 (list20 fa.2))
  have oa := okReplicaF (pa.mono le24)
  rw [cntReplicaE_eq] at hc
  have na : (cntReplica a : Int) ≤ 20971521 := by unfold cntReplica; omega
  obtain ⟨ow, nw⟩ := ints_ok (w := w) (by omega)
  obtain ⟨y1, e1, _⟩ := markReplica_ok a oa 1 (by omega) (by omega)
  obtain ⟨y3, e3, e4⟩ := markIntS_ok w ow 1 (by omega) (by omega)
  have heq := eqIntS_len w (lim20 (by omega))
  simp only [toReplica_ok a pa, hs, hi, heq, eqReplica_ok a pa, e1, e3, e4, Option.bind_some, Bool.not_true, cond_false,
    decide_eq_false (show ¬ (1 + (cntReplica a : Nat) : Int) < 0 by omega), decide_eq_false (show ¬ (1 + (cntIntS w : Nat) : Int) < 0 by omega), bne_self_i]
end Go.Proofs.Ytiedhibpaooldaa
