/- Plain law: RenameVariable. -/
import Derived.Test.YtdlfoecpgaenpaaGreatDoorRenV2
import Derived.Test.YtdlfoecpgaenpaaGreatDoorMarks
set_option linter.unusedSimpArgs false
set_option linter.unusedVariables false
namespace Go.Proofs.YtdlfoecpgaenpaaGreatDoor
open Go.Abs Go.Proofs
theorem wfS {n : Int} (h0 : -1000000000 <= n) (h1 : n <= 1000000000) : (Lit.int .i64 n).wf = true := by
 unfold Lit.wf
 simp [IntKind.bits, IntKind.signed, IntKind.min, IntKind.max]
 omega
abbrev FitC (cs : List GCell) : Prop := ∀ x, x ∈ cs -> Fit B20 (.base .cell) x
theorem setC {cs : List GCell} (h : FitC cs) (k : Nat) {y : GCell} (hy : Fit B20 (.base .cell) y) : FitC (cs.set k y) := by
 intro x hx
 rcases List.mem_or_eq_of_mem_set hx with hx | rfl
 ·exact h x hx
 ·exact hy
theorem updC_fit {x : GCell} (h : Fit B20 (.base .cell) x) (d : Bool) {t : Str} (ht : t.length <= 120) (h0 : 1 <= x.version) (h9 : x.version <= 999) : Fit B20 (.base .cell) (updC d t x) := by
 rw [fit_cell] at h ⊢
 refine ⟨h.1, .int .i64 _ (wfS ?_ ?_), h.2.2.1, h.2.2.2.1, mkStr20 (by show (t.length : Int) <= _; omega), h.2.2.2.2.2⟩
 ·show -1000000000 <= (if d = true then x.version + 1 else x.version)
  split <;> omega
 ·show (if d = true then x.version + 1 else x.version) <= _
  split <;> omega
theorem loopC_fit (d : Bool) (b c : Str) : ∀ (ps : List GPart) (i : Nat) (cs : List GCell) (full : Bool) (x : List GCell × Bool), FitC cs -> (∀ j y, i <= j -> cs[j]? = some y -> 1 <= y.version /\ y.version <= 999) -> loopC d b c i ps cs full = some x -> FitC x.1
 | [], i, cs, full, x, hc, _, h => by cases h; exact hc
 | p :: r, i, cs, full, x, hc, hv, h => by
  unfold loopC at h
  split at h
  ·split at h
   ·rename_i ht
    split at h
    ·rename_i y hy
     refine loopC_fit d b c r (i + 1) _ _ x (setC hc i (updC_fit (hc y (List.mem_of_getElem? hy)) d ht (hv i y (Nat.le_refl _) hy).1 (hv i y (Nat.le_refl _) hy).2)) (fun j z hj hz => ?_) h
     rw [List.getElem?_set_ne (by omega)] at hz
     exact hv j z (by omega) hz
    ·cases h
   ·cases h
  ·exact loopC_fit d b c r (i + 1) cs full x hc (fun j y hj hy => hv j y (by omega) hy) h
theorem nameC_fit {c : Str} (hc : c.length <= 1048576) {cs : List GCell} (h : FitC cs) (k : Nat) : FitC (nameC c cs k) := by
 unfold nameC
 split
 ·rename_i x hx
  refine setC h k ?_
  have := h x (List.mem_of_getElem? hx)
  rw [fit_cell] at this ⊢
  exact ⟨this.1, this.2.1, this.2.2.1, mkStr20 (by show (c.length : Int) <= _; omega), this.2.2.2.2.1, this.2.2.2.2.2⟩
 ·exact h
theorem cells_fit {cs : List GCell} (h : Fit B20 (.base .notebook) ⟨cs⟩) : FitC cs /\ cs.length <= 1048576 := by
 rw [fit_notebook] at h
 have hl : (cs.length : Int) <= 1048576 := list20 h
 exact ⟨fun x hx => h.list_mem x hx, by omega⟩
theorem fit_cells {cs : List GCell} (h : FitC cs) (hl : cs.length <= 1048576) : Fit B20 (.base .notebook) ⟨cs⟩ := by
 rw [fit_notebook]
 exact mkList20 (by show (cs.length : Int) <= _; omega) h
theorem cellL_of {cs : List GCell} (h : FitC cs) : ∀ x, x ∈ cs -> CellL x := by
 intro x hx
 have := h x hx
 rw [fit_cell] at this
 have s1 := str20 this.2.2.2.1
 have s2 := str20 this.2.2.2.2.1
 exact ⟨by omega, by omega⟩
theorem renP_fit (cs : List GCell) (b c : Str) (d : Bool) (h : Fit B20 (.base .notebook) ⟨cs⟩) (hc : c.length <= 1048576) : Fit B20 (.base .notebook) (renP cs b c d).1 := by
 obtain ⟨hC, hl⟩ := cells_fit h
 have bb : ∀ (x : Bool) (p q : GNotebook × Int), (x = true -> Fit B20 (.base .notebook) p.1) -> (x = false -> Fit B20 (.base .notebook) q.1) -> Fit B20 (.base .notebook) (bif x then p else q).1 := by
  intro x p q hp hq
  cases x
  ·exact hq rfl
  ·exact hp rfl
 unfold renP
 refine bb _ _ _ (fun _ => h) fun hv => ?_
 have hv' : bookV cs = true := by simpa using hv
 refine bb _ _ _ (fun _ => h) fun _ => bb _ _ _ (fun _ => h) fun _ => bb _ _ _ (fun _ => h) fun _ => bb _ _ _ (fun _ => h) fun _ => bb _ _ _ (fun _ => h) fun _ => bb _ _ _ (fun _ => h) fun _ => ?_
 have hs := book_small (cellL_of hC) hv'
 have hver : ∀ x, x ∈ cs -> 1 <= x.version /\ x.version <= 999 := fun x hx => ⟨(hs.2 x hx).2.v0, (hs.2 x hx).2.v9⟩
 unfold finC
 split
 ·exact h
 ·exact h
 ·rename_i out e
  have h1 := loopC_fit d b c _ 0 _ _ _ (nameC_fit hc hC _) (fun j y _ hy => nameC_ver hver y (List.mem_of_getElem? hy)) e
  have h2 := loopC_len _ _ _ _ _ _ _ _ e
  rw [nameC_len] at h2
  exact fit_cells h1 (by show out.length <= _; have h3 : out.length = cs.length := h2; omega)
theorem law_FnExactRenameVariable (a : GNotebook) (b c : Str) (ha : Fit B47 (.base .notebook) a) (hb : FitD B47 (.str b)) (hc : FitD B47 (.str c)) : FnExactRenameVariable a b c = some true := by
 unfold FnExactRenameVariable
 by_cases h1 : (b.length : Int) > 1048576
 ·rw [decide_eq_true h1]; rfl
 by_cases h2 : (c.length : Int) > 1048576
 ·rw [decide_eq_false h1, decide_eq_true h2]; rfl
 rw [decide_eq_false h1, decide_eq_false h2, cond_false, cond_false]
 refine law1 (szNotebook_ok a ha) _ (by omega) (by omega) fun pa r1 h0 h3 => ?_
 obtain ⟨cs⟩ := a
 obtain ⟨hC, hl⟩ := cells_fit pa
 obtain ⟨e1, e2⟩ := rename_alike cs b c hl (cellL_of hC) (by omega) (by omega)
 have hw := renP_fit cs b c true pa (by omega)
 generalize renP cs b c true = w at *
 obtain ⟨oa, na⟩ := okNotebook24 (pa.mono le24)
 obtain ⟨ow, nw⟩ := okNotebook24 (x := w.1) (hw.mono le24)
 obtain ⟨y1, m1, _⟩ := markNotebook_ok _ oa 1 (by omega) (by omega)
 obtain ⟨y3, m3, m4⟩ := markNotebook_ok w.1 ow 1 (by omega) (by omega)
 simp only [toNotebook_ok _ pa, e1, e2, eqNotebook_ok w.1 hw, eqNotebook_ok _ pa, m1, m3, m4, Option.bind_some, Bool.not_true, cond_false,
  decide_eq_false (show ¬ (1 + (cntNotebook ⟨cs⟩ : Nat) : Int) < 0 by omega), decide_eq_false (show ¬ (1 + (cntNotebook w.1 : Nat) : Int) < 0 by omega), bne_self_i]
end Go.Proofs.YtdlfoecpgaenpaaGreatDoor
