/- Plain laws: equality of lists, values, reads, operations; valid logs and replicas; HasSeen. -/
import Derived.Test.YtopcobafmnpmkaaGreatLawsB
set_option linter.unusedSimpArgs false
set_option linter.unusedVariables false
namespace Go.Proofs.YtopcobafmnpmkaaGreat
open Go.Abs Go.Proofs

section eqs
/-- are they equal -/
noncomputable def eqd {α : Type} (a b : α) : Bool := @decide (a = b) (Classical.propDecidable _)
theorem eqd_iff {α : Type} {a b : α} : eqd a b = true ↔ a = b := by unfold eqd; exact @decide_eq_true_iff _ (Classical.propDecidable _)
theorem eqd_true {α : Type} {a b : α} (h : a = b) : eqd a b = true := eqd_iff.2 h
theorem eqd_false {α : Type} {a b : α} (h : ¬ a = b) : eqd a b = false := by
  cases he : eqd a b with
  | false => rfl
  | true => exact absurd (eqd_iff.1 he) h
theorem eqd_self {α : Type} (a : α) : eqd a a = true := eqd_true rfl
/-- a loop that compares two lists place by place -/
theorem cmpLoop {α X ρ : Type} {g : X → Option (X ⊕ ρ)} (pk : Nat → X) (z : X) (hz : pk 0 = z) (xs ys : List α) (hl : xs.length = ys.length) (no : ρ) (fin : Option ρ)
    (h1 : ∀ i x y, xs[i]? = some x → ys[i]? = some y → i < xs.length → g (pk i) = bif eqd x y then some (.inl (pk (i + 1))) else some (.inr no))
    (h2 : g (pk xs.length) = fin.bind fun r => some (.inr r)) : loopD g z = bif eqd xs ys then fin else some no := by
  have key : ∀ (n i : Nat), xs.length = i + n → loopD g (pk i) = bif eqd (xs.drop i) (ys.drop i) then fin else some no := by
    intro n
    induction n with
    | zero =>
      intro i hi
      rw [List.drop_eq_nil_of_le (by omega), List.drop_eq_nil_of_le (by omega), loopD_eq]
      have : i = xs.length := by omega
      subst this
      rw [h2, eqd_self]
      cases fin <;> rfl
    | succ n ih =>
      intro i hi
      have hlt : i < xs.length := by omega
      have hlt' : i < ys.length := by omega
      rw [List.drop_eq_getElem_cons hlt, List.drop_eq_getElem_cons hlt', loopD_eq, h1 i xs[i] ys[i] (List.getElem?_eq_getElem hlt) (List.getElem?_eq_getElem hlt') hlt]
      by_cases he : xs[i] = ys[i]
      · rw [eqd_true he]
        have e : eqd (xs[i] :: xs.drop (i + 1)) (ys[i] :: ys.drop (i + 1)) = eqd (xs.drop (i + 1)) (ys.drop (i + 1)) := by
          rw [Bool.eq_iff_iff, eqd_iff, eqd_iff, he]
          exact ⟨fun h => (List.cons.inj h).2, fun h => by rw [h]⟩
        rw [e]
        exact ih (i + 1) (by omega)
      · rw [eqd_false he, eqd_false (fun h => he (List.cons.inj h).1)]
        rfl
  rw [← hz]
  simpa using key xs.length 0 (by omega)
theorem cmpWrap {α ρ : Type} {xs ys : List α} {r : Option ρ} {no : ρ} {fin : Option ρ} (h : xs.length = ys.length → r = bif eqd xs ys then fin else some no) :
    (bif ((xs.length : Int) != (ys.length : Int)) then some no else r) = bif eqd xs ys then fin else some no := by
  by_cases hl : xs.length = ys.length
  · rw [h hl, hl]; simp
  · have : ((xs.length : Int) != (ys.length : Int)) = true := by
      simp only [bne_iff_ne, ne_eq]; omega
    rw [this, cond_true, eqd_false (fun e => hl (by rw [e]))]
    rfl
theorem bif_some (b : Bool) : (bif b then some true else some false) = some b := by cases b <;> rfl
theorem bif_not {α : Type} (b : Bool) (x y : α) : (bif (!b) then x else y) = bif b then y else x := by cases b <;> rfl
theorem beq_dec {α : Type} [BEq α] [LawfulBEq α] (a b : α) : (a == b) = eqd a b := by
  rw [Bool.eq_iff_iff, eqd_iff]; exact beq_iff_eq
theorem bne_dec {α : Type} [BEq α] [LawfulBEq α] (a b : α) : (a != b) = !eqd a b := by
  rw [← beq_dec]; rfl

theorem origin_dec (x y : GOrigin) : ((x.cell == y.cell) && (x.row == y.row)) = eqd x y := by
  simp only [beq_dec]
  rw [Bool.eq_iff_iff]
  simp only [eqd_iff, Bool.and_eq_true]
  cases x; cases y
  simp only [GOrigin.mk.injEq]
theorem row_dec (x y : GRow) : (bif eqd x.cells y.cells then eqd x.orig y.orig else false) = eqd x y := by
  have e : eqd x y = (eqd x.cells y.cells && eqd x.orig y.orig) := by
    rw [Bool.eq_iff_iff]
    simp only [eqd_iff, Bool.and_eq_true]
    cases x; cases y
    simp only [GRow.mk.injEq]
  rw [e]
  cases eqd x.cells y.cells <;> rfl

theorem read_dec (x y : GRead) : eqd x y = (eqd x.kind y.kind && (eqd x.n y.n && (eqd x.time y.time && (eqd x.text y.text && eqd x.result y.result)))) := by
  rw [Bool.eq_iff_iff]
  simp only [eqd_iff, Bool.and_eq_true]
  cases x; cases y
  simp only [GRead.mk.injEq]
theorem cell_dec (x y : GCell) : ((x.id == y.id) && ((x.version == y.version) && ((x.kind == y.kind) && ((x.name == y.name) && ((x.code == y.code) && (x.n == y.n)))))) = eqd x y := by
  simp only [beq_dec]
  rw [Bool.eq_iff_iff]
  simp only [eqd_iff, Bool.and_eq_true]
  cases x; cases y
  simp only [GCell.mk.injEq]
theorem edit_dec (x y : GEdit) : ((x.kind == y.kind) && ((x.pos == y.pos) && ((x.cell.id == y.cell.id) && ((x.cell.version == y.cell.version) && ((x.cell.kind == y.cell.kind) && ((x.cell.name == y.cell.name) && ((x.cell.code == y.cell.code) && (x.cell.n == y.cell.n)))))))) = eqd x y := by
  rw [cell_dec]
  simp only [beq_dec]
  rw [Bool.eq_iff_iff]
  simp only [eqd_iff, Bool.and_eq_true]
  cases x; cases y
  simp only [GEdit.mk.injEq]
theorem op_dec (x y : GOp) : eqd x y = (eqd x.time y.time && (eqd x.by_ y.by_ && (eqd x.kind y.kind && (eqd x.seen y.seen && (eqd x.edit y.edit && (eqd x.src y.src && (eqd x.dst y.dst && (eqd x.cell y.cell && (eqd x.version y.version && eqd x.reads y.reads))))))))) := by
  rw [Bool.eq_iff_iff]
  simp only [eqd_iff, Bool.and_eq_true]
  cases x; cases y
  simp only [GOp.mk.injEq]
end eqs

end Go.Proofs.YtopcobafmnpmkaaGreat
