/- Plain laws: UndoEdits, RedoEdits, DoEdits. -/
import Derived.Test.YtmfhbmfadapdbaaHist1
set_option linter.unusedSimpArgs false
set_option linter.unusedVariables false
namespace Go.Proofs.Ytmfhbmfadapdbaa
open Go.Abs Go.Proofs

theorem hist_fit {nb : GNotebook} {ns : List GNode} {p : Int} (h1 : Fit B20 (.base .notebook) nb) (h2 : FitD B20 (.list (.base .node) ns)) (h3 : FitD B20 (.int .i64 p)) : Fit B20 (.base .history) (GHistory.mk nb ns p) := by
  rw [fit_history]; exact ⟨h1, h2, h3⟩
theorem step_eq (a : GHistory) (b : List GEdit) (c : Int) (ha : Fit B20 (.base .history) a) (hb : FitD B20 (.list (.base .edit) b)) (hc : FitD B20 (.int .i64 c)) :
    ∃ w ok, sL40Move a b c = some (w, ok) ∧ iStep a b c = some (w, ok) ∧ Fit B20 (.base .history) w ∧ (ok = true → w.nodes = a.nodes ∧ w.pos = c) := by
  have pf := ha; rw [fit_history] at pf
  obtain ⟨⟨nb, n⟩, e1, e2, hn⟩ := applyBatch_eq a.notebook b pf.1 hb
  unfold sL40Move iStep
  rw [copyHistS a ha, copyHistI a ha, e1, e2]
  simp only [Option.bind_some]
  cases decide (n ≥ 0) with
  | true => exact ⟨a, false, rfl, rfl, ha, fun e => by cases e⟩
  | false => exact ⟨_, true, rfl, rfl, hist_fit hn pf.2.1 hc, fun _ => ⟨rfl, rfl⟩⟩
theorem undo_eq (a : GHistory) (ha : Fit B20 (.base .history) a) :
    ∃ w ok, sUndoEdits a = some (w, ok) ∧ iUndoEdits a = some (w, ok) ∧ Fit B20 (.base .history) w ∧
      (ok = true → HistV a ∧ a.pos ≠ 0 ∧ w.nodes = a.nodes ∧ ∃ (m : Nat) (x : GNode), a.pos = (m : Int) ∧ a.nodes[m]? = some x ∧ w.pos = x.parent) := by
  obtain ⟨v, e1, e2, hv⟩ := validHistory_eq a ha
  unfold sUndoEdits iUndoEdits
  rw [e1, e2, copyHistS a ha, copyHistI a ha]
  simp only [Option.bind_some]
  cases v with
  | false => exact ⟨a, false, rfl, rfl, ha, fun e => by cases e⟩
  | true =>
    simp only [Bool.not_true, cond_false]
    by_cases hp : a.pos = 0
    · have hp' : (a.pos == 0) = true := by simpa using hp
      simp only [hp', cond_true]
      exact ⟨a, false, rfl, rfl, ha, fun e => by cases e⟩
    · have hp' : (a.pos == 0) = false := by simpa using hp
      obtain ⟨hV, _⟩ := hv rfl
      obtain ⟨q1, q2, q3, q4⟩ := hV
      obtain ⟨m, hm⟩ := Int.eq_ofNat_of_zero_le q3.1
      have hml : m < a.nodes.length := by omega
      have hx := List.getElem?_eq_getElem hml
      have hf := node_fit ha (List.mem_of_getElem? hx)
      obtain ⟨w, ok, s1, s2, s3, s4⟩ := step_eq a a.nodes[m].undo a.nodes[m].parent ha hf.2.2 hf.1
      have hi : idx a.nodes a.pos = some a.nodes[m] := by rw [hm, idx_nat]; exact hx
      simp only [hp', cond_false, hi, Option.bind_some, s1, s2]
      exact ⟨w, ok, rfl, rfl, s3, fun hok => ⟨⟨q1, q2, q3, q4⟩, hp, (s4 hok).1, m, _, hm, hx, (s4 hok).2⟩⟩
theorem redo_eq (a : GHistory) (b : Int) (ha : Fit B20 (.base .history) a) :
    ∃ w ok, sRedoEdits a b = some (w, ok) ∧ iRedoEdits a b = some (w, ok) ∧ Fit B20 (.base .history) w ∧ (ok = true → w.nodes = a.nodes ∧ w.pos = b) := by
  obtain ⟨v, e1, e2, hv⟩ := validHistory_eq a ha
  unfold sRedoEdits iRedoEdits
  rw [e1, e2, copyHistS a ha, copyHistI a ha]
  simp only [Option.bind_some]
  cases v with
  | false => exact ⟨a, false, rfl, rfl, ha, fun e => by cases e⟩
  | true =>
    obtain ⟨⟨q1, q2, q3, q4⟩, _⟩ := hv rfl
    have hw : w64 ((a.nodes.length : Int) - 1) = (a.nodes.length : Int) - 1 := w64_id (by omega) (by omega)
    simp only [Bool.not_true, cond_false, sL1In_ok, iWithin_ok, Option.bind_some, hw]
    by_cases hb0 : 0 ≤ b ∧ b ≤ (a.nodes.length : Int) - 1
    · obtain ⟨m, hm⟩ := Int.eq_ofNat_of_zero_le hb0.1
      subst hm
      have hml : m < a.nodes.length := by omega
      have hx := List.getElem?_eq_getElem hml
      have hf := node_fit ha (List.mem_of_getElem? hx)
      have d1 : (decide (0 ≤ (m : Int)) && decide ((m : Int) ≤ (a.nodes.length : Int) - 1)) = true := by simp; omega
      simp only [d1, Bool.not_true, cond_false, idx_nat, hx, Option.bind_some]
      by_cases hm0 : m = 0
      · subst hm0
        have d2 : (decide (1 ≤ ((0 : Nat) : Int)) && decide (((0 : Nat) : Int) ≤ (a.nodes.length : Int) - 1)) = false := by simp
        have d3 : (a.nodes[0].parent != a.pos) = true := by
          rcases q4 0 _ hx with ⟨_, hp⟩ | ⟨h1, h2⟩
          · rw [hp]; simp; omega
          · omega
        simp only [d2, d3, Bool.not_false, cond_true]
        exact ⟨a, false, rfl, rfl, ha, fun e => by cases e⟩
      · have d2 : (decide (1 ≤ (m : Int)) && decide ((m : Int) ≤ (a.nodes.length : Int) - 1)) = true := by simp; omega
        simp only [d2, Bool.not_true, cond_false]
        cases hpar : (a.nodes[m].parent != a.pos) with
        | true => exact ⟨a, false, rfl, rfl, ha, fun e => by cases e⟩
        | false =>
          obtain ⟨w, ok, s1, s2, s3, s4⟩ := step_eq a a.nodes[m].edits (m : Int) ha hf.2.1 (int0 (wf_small (by omega) (by omega)))
          simp only [cond_false, s1, s2, Option.bind_some]
          exact ⟨w, ok, rfl, rfl, s3, s4⟩
    · have d1 : (decide (0 ≤ b) && decide (b ≤ (a.nodes.length : Int) - 1)) = false := by
        rw [Bool.eq_false_iff]; simpa using fun h1 h2 => hb0 ⟨h1, h2⟩
      have d2 : (decide (1 ≤ b) && decide (b ≤ (a.nodes.length : Int) - 1)) = false := by
        rw [Bool.eq_false_iff]; simpa using fun h1 h2 => hb0 ⟨by omega, h2⟩
      simp only [d1, d2, Bool.not_false, cond_true]
      exact ⟨a, false, rfl, rfl, ha, fun e => by cases e⟩
theorem doEdits_eq (a : GHistory) (b : List GEdit) (ha : Fit B20 (.base .history) a) (hb : FitD B20 (.list (.base .edit) b)) :
    ∃ w ok, sDoEdits a b = some (w, ok) ∧ iDoEdits a b = some (w, ok) ∧ Fit B20 (.base .history) w := by
  have pf := ha; rw [fit_history] at pf
  obtain ⟨v, e1, e2, hv⟩ := validHistory_eq a ha
  obtain ⟨⟨bk, ok⟩, ⟨nb, n⟩, i1, i2, i3, i4, i5⟩ := inverseBatch_eq a.notebook b pf.1 hb
  obtain ⟨⟨nb', n'⟩, p1, p2, p3⟩ := applyBatch_eq a.notebook b pf.1 hb
  rw [i3] at p1
  cases p1
  have hbl := list20 hb
  unfold sDoEdits iDoEdits
  rw [e1, e2, copyHistS a ha, copyHistI a ha, i1, i2, i3]
  simp only [Option.bind_some]
  cases v with
  | false => exact ⟨a, false, rfl, rfl, ha⟩
  | true =>
    obtain ⟨⟨q1, q2, q3, q4⟩, _⟩ := hv rfl
    simp only [Bool.not_true, cond_false]
    by_cases h20 : a.nodes.length = 20
    · have d1 : decide ((a.nodes.length : Int) ≥ 20) = true := by simp; omega
      have d2 : ((a.nodes.length : Int) == 20) = true := by simp; omega
      simp only [d1, d2, cond_true]
      exact ⟨a, false, rfl, rfl, ha⟩
    · have d1 : decide ((a.nodes.length : Int) ≥ 20) = false := by simp; omega
      have d2 : ((a.nodes.length : Int) == 20) = false := by simp; omega
      have st : iStep a b (a.nodes.length : Int) = bif (decide (n ≥ 0)) then some (a, false) else some (GHistory.mk nb a.nodes (a.nodes.length : Int), true) := by
        unfold iStep
        rw [copyHistI a ha, p2]
        rfl
      simp only [d1, d2, cond_false, st]
      cases hn : decide (n ≥ 0) with
      | true =>
        have hok : ok = false := by
          cases ok with
          | false => rfl
          | true => have := i5.1 rfl; simp at hn; omega
        subst hok
        simp only [Bool.not_false, cond_true, Option.bind_some, cond_false]
        exact ⟨a, false, rfl, rfl, ha⟩
      | false =>
        have hok : ok = true := i5.2 (by simpa using hn)
        subst hok
        have g1 : gd (a.nodes.length + [GNode.mk a.pos b bk].length) = some () := gd_ok (by simp; omega)
        have hw : w64 (((a.nodes ++ [GNode.mk a.pos b bk]).length : Int) - 1) = (a.nodes.length : Int) := by
          rw [w64_id (by simp <;> omega) (by simp <;> omega)]; simp
        simp only [Bool.not_true, cond_true, cond_false, Option.bind_some, copyEditsI b (by omega), copyEditsS b (by omega), g1, hw]
        refine ⟨_, true, rfl, rfl, hist_fit p3 (mkList20 (by simp; omega) fun x hx => ?_) (int0 (wf_small (by omega) (by omega)))⟩
        rcases List.mem_append.1 hx with hx | hx
        · exact pf.2.1.list_mem x hx
        · simp at hx
          subst hx
          rw [fit_node]
          exact ⟨pf.2.2, hb, i4⟩
theorem histLaw {a w : GHistory} (ha : Fit B20 (.base .history) a) (hw : Fit B20 (.base .history) w) :
    (∃ y1, markHistory a 1 = some (y1, 1 + ((cntHistory a : Nat) : Int))) ∧ cntHistory a ≤ 4611686018427387000 ∧ cntHistory w ≤ 4611686018427387000 ∧ ∃ y3, markHistory w 1 = some (y3, 1 + ((cntHistory w : Nat) : Int)) ∧ heldHistory y3 1 = some (1 + ((cntHistory w : Nat) : Int)) ∧ y3.pos = w.pos := by
  obtain ⟨oa, na⟩ := okHistory24 (ha.mono le24)
  obtain ⟨ow, nw⟩ := okHistory24 (hw.mono le24)
  obtain ⟨y1, e1, _⟩ := markHistory_ok a oa 1 (by omega) (by omega)
  obtain ⟨y3, e3, e4, e5⟩ := markHistory_ok w ow 1 (by omega) (by omega)
  exact ⟨⟨y1, e1⟩, by omega, by omega, y3, e3, e4, e5⟩
theorem law_FnExactUndoEdits (a : GHistory) (ha : Fit B47 (.base .history) a) : FnExactUndoEdits a = some true := by
  refine law1 (szHistory_ok a ha) _ (by omega) (by omega) fun pa r1 h0 h1 => ?_
  obtain ⟨w, b, hs, hi, hw, _⟩ := undo_eq a pa
  obtain ⟨⟨y1, e1⟩, na, nw, y3, e3, e4, e5⟩ := histLaw pa hw
  simp only [toHistory_ok a pa, hs, hi, eqHistory_ok w hw, eqHistory_ok a pa, e1, e3, hist_mk e5, e4, Option.bind_some, Bool.not_true, cond_false, beq_self_eq_true,
    decide_eq_false (show ¬ (1 + (cntHistory a : Nat) : Int) < 0 by omega), decide_eq_false (show ¬ (1 + (cntHistory w : Nat) : Int) < 0 by omega), bne_self_i]
theorem law_FnExactRedoEdits (a : GHistory) (b : Int) (ha : Fit B47 (.base .history) a) : FnExactRedoEdits a b = some true := by
  refine law1 (szHistory_ok a ha) _ (by omega) (by omega) fun pa r1 h0 h1 => ?_
  obtain ⟨w, ok, hs, hi, hw, _⟩ := redo_eq a b pa
  obtain ⟨⟨y1, e1⟩, na, nw, y3, e3, e4, e5⟩ := histLaw pa hw
  simp only [toHistory_ok a pa, hs, hi, eqHistory_ok w hw, eqHistory_ok a pa, e1, e3, hist_mk e5, e4, Option.bind_some, Bool.not_true, cond_false, beq_self_eq_true,
    decide_eq_false (show ¬ (1 + (cntHistory a : Nat) : Int) < 0 by omega), decide_eq_false (show ¬ (1 + (cntHistory w : Nat) : Int) < 0 by omega), bne_self_i]
theorem law_FnExactDoEdits (a : GHistory) (b : List GEdit) (ha : Fit B47 (.base .history) a) (hb : FitD B47 (.list (.base .edit) b)) : FnExactDoEdits a b = some true := by
  refine law1 (szHistory_ok a ha) _ (by omega) (by omega) fun pa r1 h0 h1 => ?_
  refine law1 (szEditS_ok b hb) _ (by omega) (by omega) fun pb r2 h2 h3 => ?_
  obtain ⟨w, ok, hs, hi, hw⟩ := doEdits_eq a b pa pb
  obtain ⟨⟨y1, e1⟩, na, nw, y3, e3, e4, e5⟩ := histLaw pa hw
  obtain ⟨oa, na'⟩ := okHistory24 (pa.mono le24)
  obtain ⟨ob, nb⟩ := okEditS24 (pb.mono le24)
  obtain ⟨y2, e2, _⟩ := markEditS_ok b ob (1 + (cntHistory a : Nat)) (by omega) (by omega)
  simp only [toHistory_ok a pa, toEditS_ok b pb, hs, hi, eqHistory_ok w hw, eqHistory_ok a pa, eqEditS_ok b pb, e1, e2, e3, hist_mk e5, e4, Option.bind_some, Bool.not_true, cond_false, beq_self_eq_true,
    decide_eq_false (show ¬ (1 + (cntHistory a : Nat) + (cntEditS b : Nat) : Int) < 0 by omega), decide_eq_false (show ¬ (1 + (cntHistory w : Nat) : Int) < 0 by omega), bne_self_i]
end Go.Proofs.Ytmfhbmfadapdbaa
