/- Sizes, copies and equality of this translation, by genbasic.py. -/
import Derived.Test.YtdlfoecpgaenpaaGreatDoorBasic0
set_option linter.unusedSimpArgs false
set_option linter.unusedVariables false
namespace Go.Proofs.YtdlfoecpgaenpaaGreatDoor
open Go.Abs Go.Proofs
theorem fit_cell {L : Nat} {x : GCell} : Fit L (.base .cell) x ↔ FitD L (.int .i64 x.id) /\ FitD L (.int .i64 x.version) /\ FitD L (.int .i64 x.kind) /\ FitD L (.str x.name) /\ FitD L (.str x.code) /\ FitD L (.int .i64 x.n) := by
 simp only [Fit, Ty.cells, Base.cells, List.mem_cons, List.not_mem_nil, or_false, forall_eq_or_imp, forall_eq]
theorem fit_notebook {L : Nat} {x : GNotebook} : Fit L (.base .notebook) x ↔ FitD L (.list (.base .cell) x.cells) := by
 simp only [Fit, Ty.cells, Base.cells, List.mem_cons, List.not_mem_nil, or_false, forall_eq_or_imp, forall_eq]
noncomputable def cntCellE (x : GCell) : Nat := 1 + 1 + 1 + 1 + 1 + 1
noncomputable def cntCellS (xs : List GCell) : Nat := (xs.map cntCellE).sum
theorem cntCellE_eq (x : GCell) : cntCellE x = 1 + 1 + 1 + 1 + 1 + 1 := by
 unfold cntCellE; simp only [Nat.add_assoc]; try omega
noncomputable def cntNotebookE (x : GNotebook) : Nat := cntCellS x.cells
theorem cntNotebookE_eq (x : GNotebook) : cntNotebookE x = cntCellS x.cells := by
 unfold cntNotebookE; simp only [Nat.add_assoc]; try omega
theorem szCell_ok (x : GCell) (h : Fit B47 (.base .cell) x) : SzK szCell (Fit B20 (.base .cell) x) x (cntCellE x) 6 := by
 intro l h0 h1
 rw [fit_cell] at h ⊢
 obtain ⟨c0, c1, c2, c3, c4, c5⟩ := h
 unfold szCell
 have s1 := str47 c3
 rw [w64_id (n := l - (x.name.length : Int)) (by omega) (by omega)]
 by_cases q1 : l - (x.name.length : Int) < 0
 ·exact ⟨-1, by simp only [q1, decide_true, cond_true], .inl (by omega)⟩
 rw [decide_eq_false q1, cond_false]
 obtain ⟨r1, er1⟩ : ∃ r, r = l - (x.name.length : Int) := ⟨_, rfl⟩
 rw [<- er1]
 have s2 := str47 c4
 rw [w64_id (n := r1 - (x.code.length : Int)) (by omega) (by omega)]
 by_cases q2 : r1 - (x.code.length : Int) < 0
 ·exact ⟨-1, by simp only [q2, decide_true, cond_true], .inl (by omega)⟩
 rw [decide_eq_false q2, cond_false]
 obtain ⟨r2, er2⟩ : ∃ r, r = r1 - (x.code.length : Int) := ⟨_, rfl⟩
 rw [<- er2]
 exact ⟨r2, rfl, .inr ⟨by omega, by omega, by rw [cntCellE_eq]; omega, c0.int_any, c1.int_any, c2.int_any, mkStr20 (by omega), mkStr20 (by omega), c5.int_any⟩⟩
theorem szCellS_ok (xs : List GCell) (h : FitD B47 (.list (.base .cell) xs)) : SzK szCellS (FitD B20 (.list (.base .cell) xs)) xs (cntCellS xs) 0 :=
 szList_ok (t := .base .cell) (f := fun e b => szCell e b) (fun _ _ => rfl) cntCellE 6 (by omega) xs (fun y _ hf => szCell_ok y hf) h
theorem toCell_ok (x : GCell) (h : Fit B20 (.base .cell) x) : toCell x = some x := by
 rfl
theorem toCellS_ok (xs : List GCell) (h : FitD B20 (.list (.base .cell) xs)) : toCellS xs = some xs :=
 toList_ok (t := .base .cell) (fun _ => rfl) xs (fun y _ hf => toCell_ok y hf) h
theorem eqCell_24 (x : GCell) (h : Fit B24 (.base .cell) x) : eqCell x x = some true := by
 unfold eqCell
 simp
theorem eqCellS_24 (xs : List GCell) (h : FitD B24 (.list (.base .cell) xs)) : eqCellS xs xs = some true :=
 eqList_ok (t := .base .cell) (fun _ _ => rfl) xs (fun y _ hf => eqCell_24 y hf) h
theorem szNotebook_ok (x : GNotebook) (h : Fit B47 (.base .notebook) x) : SzK szNotebook (Fit B20 (.base .notebook) x) x (cntNotebookE x) 0 := by
 intro l h0 h1
 rw [fit_notebook] at h ⊢
 have c0 := h
 unfold szNotebook
 obtain ⟨r1, e1, p1⟩ := szCellS_ok x.cells c0 l (by omega) (by omega)
 rw [e1, Option.bind_some]
 rcases p1 with p1 | ⟨a1, b1, d1, p1⟩
 ·exact ⟨-1, by simp only [p1, decide_true, cond_true], .inl (by omega)⟩
 rw [decide_eq_false (show ¬ r1 < 0 by omega), cond_false]
 exact ⟨r1, rfl, .inr ⟨by omega, by omega, by rw [cntNotebookE_eq]; omega, p1⟩⟩
theorem toNotebook_ok (x : GNotebook) (h : Fit B20 (.base .notebook) x) : toNotebook x = some x := by
 rw [fit_notebook] at h
 have c0 := h
 unfold toNotebook
 rw [toCellS_ok x.cells c0]
 rfl
theorem eqNotebook_24 (x : GNotebook) (h : Fit B24 (.base .notebook) x) : eqNotebook x x = some true := by
 rw [fit_notebook] at h
 have c0 := h
 unfold eqNotebook
 rw [eqCellS_24 x.cells c0]
 simp
theorem eqNotebook_ok (x : GNotebook) (h : Fit B20 (.base .notebook) x) : eqNotebook x x = some true := eqNotebook_24 x (h.mono le24)
end Go.Proofs.YtdlfoecpgaenpaaGreatDoor
