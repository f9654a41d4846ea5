/- Plain laws: HasSeen, valid logs and replicas, equality of documents. -/
import Derived.Test.YtopcobafmnpmkaaGreatLawsC
set_option linter.unusedSimpArgs false
set_option linter.unusedVariables false
namespace Go.Proofs.YtopcobafmnpmkaaGreat
open Go.Abs Go.Proofs

theorem idx_ex {α : Type} {xs : List α} {n : Int} (h0 : 0 ≤ n) (h1 : n < xs.length) : ∃ x, idx xs n = some x ∧ xs[n.toNat]? = some x := by
  have hl : n.toNat < xs.length := by omega
  exact ⟨xs[n.toNat], by unfold idx; rw [if_pos h0]; simp [hl], by simp [hl]⟩
theorem cut_take {α : Type} {xs : List α} {n : Int} (h0 : 0 ≤ n) (h1 : n ≤ xs.length) : eff.cutL xs none (some n) = some (xs.take n.toNat) := by
  unfold eff.cutL
  simp [h0, h1]
theorem w64_len {n : Nat} (h : n < lim) : w64 ((n : Int) - 1) = (n : Int) - 1 := by
  have h' : (n : Int) < 4611686018427387904 := Int.ofNat_lt.2 h
  exact w64_id (by omega) (by omega)

theorem w64_pred' {i n : Nat} (h : i < n) (hn : n < lim) (h0 : (i : Int) > 0) : w64 ((i : Int) - 1) = ((i - 1 : Nat) : Int) := by
  have h' : (i : Int) < (n : Int) := Int.ofNat_lt.2 h
  have hn' : (n : Int) < 4611686018427387904 := Int.ofNat_lt.2 hn
  rw [w64_id (by omega) (by omega)]
  omega

theorem notebook_eqd (a b : GNotebook) : eqd a b = eqd a.cells b.cells := by
  rw [Bool.eq_iff_iff]
  simp only [eqd_iff]
  cases a; cases b
  simp only [GNotebook.mk.injEq]
theorem tape_dec (x y : GTape) : eqd x y = (eqd x.cell y.cell && (eqd x.version y.version && eqd x.reads y.reads)) := by
  rw [Bool.eq_iff_iff]
  simp only [eqd_iff, Bool.and_eq_true]
  cases x; cases y
  simp only [GTape.mk.injEq]
end Go.Proofs.YtopcobafmnpmkaaGreat
