/- Plain laws: HasSeen, valid logs and replicas, equality of documents. -/
import Derived.Test.YtikafaabbikflaaLawsC
set_option linter.unusedSimpArgs false
set_option linter.unusedVariables false
namespace Go.Proofs.Ytikafaabbikflaa
open Go.Abs Go.Proofs

theorem idx_ex {α : Type} {xs : List α} {n : Int} (h0 : 0 ≤ n) (h1 : n < xs.length) : ∃ x, idx xs n = some x ∧ xs[n.toNat]? = some x := by
  have hl : n.toNat < xs.length := by omega
  exact ⟨xs[n.toNat], by unfold idx; rw [if_pos h0]; simp [hl], by simp [hl]⟩
theorem cut_take {α : Type} {xs : List α} {n : Int} (h0 : 0 ≤ n) (h1 : n ≤ xs.length) : eff.cutL xs none (some n) = some (xs.take n.toNat) := by
  unfold eff.cutL
  simp [h0, h1]
theorem w64_len {n : Nat} (h : n < lim) : w64 ((n : Int) - 1) = (n : Int) - 1 := by
  have h' : (n : Int) < 4611686018427387904 := Int.ofNat_lt.2 h
  exact w64_id (by omega) (by omega)

theorem w64_pred' {i n : Nat} (h : i < n) (hn : n < lim) (h0 : (i : Int) > 0) : w64 ((i : Int) - 1) = ((i - 1 : Nat) : Int) := by
  have h' : (i : Int) < (n : Int) := Int.ofNat_lt.2 h
  have hn' : (n : Int) < 4611686018427387904 := Int.ofNat_lt.2 hn
  rw [w64_id (by omega) (by omega)]
  omega

theorem notebook_eqd (a b : GNotebook) : eqd a b = eqd a.cells b.cells := by
  rw [Bool.eq_iff_iff]
  simp only [eqd_iff]
  cases a; cases b
  simp only [GNotebook.mk.injEq]
theorem sEqualNotebook_ok (a b : GNotebook) (h : a.cells.length < lim) : sEqualNotebook a b = some (eqd a b) := by
  rw [notebook_eqd, ← bif_some]
  refine cmpWrap fun hl => cmpLoop (fun i => ((a.cells, b.cells, (i : Int)) : List GCell × List GCell × Int)) _ rfl a.cells b.cells hl _ _ (fun i x y hx hy hlt => ?_) ?_
  · simp only [lt_of_nat hlt, cond_true, idx_nat, hx, hy, Option.bind_some, w64_succ hlt h, cell_dec, bif_not]
  · simp only [nlt_self, cond_false]; rfl
theorem tape_dec (x y : GTape) : eqd x y = (eqd x.cell y.cell && (eqd x.version y.version && eqd x.reads y.reads)) := by
  rw [Bool.eq_iff_iff]
  simp only [eqd_iff, Bool.and_eq_true]
  cases x; cases y
  simp only [GTape.mk.injEq]
theorem sL42Tapes_ok (a b : List GTape) (ha : FitD B20 (.list (.base .tape) a)) : sL42Tapes a b = some (eqd a b) := by
  have h := lim20 (list20 ha)
  rw [← bif_some]
  refine cmpWrap fun hl => cmpLoop (fun i => ((a, b, (i : Int)) : List GTape × List GTape × Int)) _ rfl a b hl _ _ (fun i x y hx hy hlt => ?_) ?_
  · have hf := ha.list_mem x (List.mem_of_getElem? hx)
    rw [fit_tape] at hf
    simp only [lt_of_nat hlt, cond_true, idx_nat, hx, hy, Option.bind_some, w64_succ hlt h, sL41Same_ok _ _ hf.2.2, bif_not, tape_dec, bne_dec]
    cases eqd x.cell y.cell <;> cases eqd x.version y.version <;> cases eqd x.reads y.reads <;> rfl
  · simp only [nlt_self, cond_false]; rfl
theorem sEqualDocument_ok (a b : GDocument) (h : Fit B20 (.base .document) a) : sEqualDocument a b = some (eqd a.notebook b.notebook && eqd a.tapes b.tapes) := by
  rw [fit_document, fit_notebook] at h
  unfold sEqualDocument
  rw [sEqualNotebook_ok _ _ (lim20 (list20 h.1)), sL42Tapes_ok _ _ h.2.1]
  cases eqd a.notebook b.notebook <;> rfl
end Go.Proofs.Ytikafaabbikflaa
