/- Plain laws: valid cells, notebooks and histories; both sides alike. -/
import Derived.Test.YtmfhbmfadapdbaaPlain4
set_option linter.unusedSimpArgs false
set_option linter.unusedVariables false
namespace Go.Proofs.Ytmfhbmfadapdbaa
open Go.Abs Go.Proofs

theorem validName_eq (a : Str) (h : a.length < lim) : ∃ b, iIsValidName a = some b ∧ sIsValidName a = some b := by
  obtain ⟨b, hb, hb'⟩ := reserved_eq a
  unfold iIsValidName sIsValidName
  rw [iIsWord_ok a h, sL2Shape_ok a h, hb, hb']
  have e : decide (1 ≤ (a.length : Int)) = decide ((a.length : Int) > 0) := rfl
  rw [e]
  cases allAt okc a 0 <;> cases decide ((a.length : Int) > 0) <;> cases decide ((a.length : Int) ≤ 8) <;> exact ⟨_, rfl, rfl⟩
theorem validCell_eq (c : GCell) (h : Fit B20 (.base .cell) c) : ∃ b, iIsValidCell c = some b ∧ sIsValidCell c = some b := by
  rw [fit_cell] at h
  obtain ⟨b, hb, hb'⟩ := validName_eq c.name (lim20 (str20 h.2.2.2.1))
  have h2 := lim20 (str20 h.2.2.2.2.1)
  unfold iIsValidCell sIsValidCell
  rw [iIsPrintable_ok _ h2, sIsPrintable_ok _ h2]
  simp only [iWithin_ok, sL1In_ok, hb, hb', Option.bind_some]
  refine ex_same ?_
  repeat' first | exact ⟨_, rfl⟩ | apply ex_bif
theorem sCellIndex_ok (a : GNotebook) (b : Int) (h : a.cells.length < lim) : sCellIndex a b = some (firstAt (fun c => c.id == b) a.cells 0) := by
  refine scan_first (fun i => ((b, a.cells, (i : Int)) : Int × List GCell × Int)) a.cells (fun c => c.id == b) (fun i x hx => ?_) ?_
  · obtain ⟨hlt, rfl⟩ := List.getElem?_eq_some_iff.1 hx
    simp only [lt_of_nat hlt, cond_true, idx_nat, hx, Option.bind_some, w64_succ hlt h]
  · simp only [nlt_self, cond_false]
theorem iCellIndex_ok (a : GNotebook) (b : Int) (h : a.cells.length < lim) : iCellIndex a b = some (firstAt (fun c => c.id == b) a.cells 0) := by
  refine scan_first (fun i => ((b, a.cells, (a.cells.length : Int), (i : Int)) : Int × List GCell × Int × Int)) a.cells (fun c => c.id == b) (fun i x hx => ?_) ?_
  · obtain ⟨hlt, rfl⟩ := List.getElem?_eq_some_iff.1 hx
    simp only [lt_of_nat hlt, cond_true, idx_nat, hx, Option.bind_some, w64_succ hlt h]
  · simp only [nlt_self, cond_false]
open Classical in
noncomputable def cellB (c : GCell) : Bool := (sIsValidCell c).getD false
theorem validNotebook_eq (n : GNotebook) (h0 : Fit B20 (.base .notebook) n) : ∃ b, iIsValidNotebook n = some b ∧ sIsValidNotebook n = some b := by
  rw [fit_notebook] at h0
  have h : n.cells.length < lim ∧ ∀ x ∈ n.cells, Fit B20 (.base .cell) x := ⟨lim20 (list20 h0), h0.list_mem⟩
  refine ⟨allAt (fun c i => cellB c && !(firstAt (fun d => d.id == c.id) n.cells 0 != (i : Int))) n.cells 0 && decide ((n.cells.length : Int) ≤ 8), ?_, ?_⟩
  · refine scan_all (fun i => ((n.cells, n.cells, (n.cells.length : Int), (i : Int)) : List GCell × List GCell × Int × Int)) n.cells _ _ (fun i x hx => ?_) ?_
    · obtain ⟨hlt, rfl⟩ := List.getElem?_eq_some_iff.1 hx
      obtain ⟨b, h1, h2⟩ := validCell_eq _ (h.2 _ (List.getElem_mem hlt))
      have hc : cellB n.cells[i] = b := by unfold cellB; rw [h2]; rfl
      simp only [lt_of_nat hlt, cond_true, idx_nat, hx, Option.bind_some, w64_succ hlt h.1, h1, hc, iCellIndex_ok ⟨n.cells⟩ _ h.1]
      cases b <;> cases (firstAt (fun d => d.id == n.cells[i].id) n.cells 0 != (i : Int)) <;> rfl
    · simp only [nlt_self, cond_false]
  · refine scan_all (fun i => ((n.cells, (i : Int)) : List GCell × Int)) n.cells _ _ (fun i x hx => ?_) ?_
    · obtain ⟨hlt, rfl⟩ := List.getElem?_eq_some_iff.1 hx
      obtain ⟨b, h1, h2⟩ := validCell_eq _ (h.2 _ (List.getElem_mem hlt))
      have hc : cellB n.cells[i] = b := by unfold cellB; rw [h2]; rfl
      simp only [lt_of_nat hlt, cond_true, idx_nat, hx, Option.bind_some, w64_succ hlt h.1, h2, hc, sCellIndex_ok ⟨n.cells⟩ _ h.1]
      cases b <;> cases (firstAt (fun d => d.id == n.cells[i].id) n.cells 0 != (i : Int)) <;> rfl
    · simp only [nlt_self, cond_false]
end Go.Proofs.Ytmfhbmfadapdbaa
