/- Plain laws: HasSeen, valid logs and replicas, equality of documents. -/
import Derived.Test.YtiedhibpaooldaaLawsC
set_option linter.unusedSimpArgs false
set_option linter.unusedVariables false
namespace Go.Proofs.Ytiedhibpaooldaa
open Go.Abs Go.Proofs

theorem idx_ex {α : Type} {xs : List α} {n : Int} (h0 : 0 ≤ n) (h1 : n < xs.length) : ∃ x, idx xs n = some x ∧ xs[n.toNat]? = some x := by
  have hl : n.toNat < xs.length := by omega
  exact ⟨xs[n.toNat], by unfold idx; rw [if_pos h0]; simp [hl], by simp [hl]⟩
theorem cut_take {α : Type} {xs : List α} {n : Int} (h0 : 0 ≤ n) (h1 : n ≤ xs.length) : eff.cutL xs none (some n) = some (xs.take n.toNat) := by
  unfold eff.cutL
  simp [h0, h1]
theorem w64_len {n : Nat} (h : n < lim) : w64 ((n : Int) - 1) = (n : Int) - 1 := by
  have h' : (n : Int) < 4611686018427387904 := Int.ofNat_lt.2 h
  exact w64_id (by omega) (by omega)

theorem w64_pred' {i n : Nat} (h : i < n) (hn : n < lim) (h0 : (i : Int) > 0) : w64 ((i : Int) - 1) = ((i - 1 : Nat) : Int) := by
  have h' : (i : Int) < (n : Int) := Int.ofNat_lt.2 h
  have hn' : (n : Int) < 4611686018427387904 := Int.ofNat_lt.2 hn
  rw [w64_id (by omega) (by omega)]
  omega

theorem iSameCell_ok (a b : List GCell) (h : a.length < lim) : iSameCell a b = some (eqd a b) := by
  rw [← bif_some]
  refine cmpWrap fun hl => cmpLoop (fun i => ((a, b, (a.length : Int), (i : Int)) : List GCell × List GCell × Int × Int)) _ rfl a b hl _ _ (fun i x y hx hy hlt => ?_) ?_
  · simp only [lt_of_nat hlt, cond_true, idx_nat, hx, hy, Option.bind_some, w64_succ hlt h, cell_dec, bif_not]
  · simp only [nlt_self, cond_false]; rfl
theorem notebook_eqd (a b : GNotebook) : eqd a b = eqd a.cells b.cells := by
  rw [Bool.eq_iff_iff]
  simp only [eqd_iff]
  cases a; cases b
  simp only [GNotebook.mk.injEq]
theorem sEqualNotebook_ok (a b : GNotebook) (h : a.cells.length < lim) : sEqualNotebook a b = some (eqd a b) := by
  rw [notebook_eqd, ← bif_some]
  refine cmpWrap fun hl => cmpLoop (fun i => ((a.cells, b.cells, (i : Int)) : List GCell × List GCell × Int)) _ rfl a.cells b.cells hl _ _ (fun i x y hx hy hlt => ?_) ?_
  · simp only [lt_of_nat hlt, cond_true, idx_nat, hx, hy, Option.bind_some, w64_succ hlt h, cell_dec, bif_not]
  · simp only [nlt_self, cond_false]; rfl
theorem iEqualNotebook_ok (a b : GNotebook) (h : a.cells.length < lim) : iEqualNotebook a b = some (eqd a b) := by
  unfold iEqualNotebook
  rw [iSameCell_ok _ _ h, notebook_eqd]; rfl
theorem tape_dec (x y : GTape) : eqd x y = (eqd x.cell y.cell && (eqd x.version y.version && eqd x.reads y.reads)) := by
  rw [Bool.eq_iff_iff]
  simp only [eqd_iff, Bool.and_eq_true]
  cases x; cases y
  simp only [GTape.mk.injEq]
end Go.Proofs.Ytiedhibpaooldaa
