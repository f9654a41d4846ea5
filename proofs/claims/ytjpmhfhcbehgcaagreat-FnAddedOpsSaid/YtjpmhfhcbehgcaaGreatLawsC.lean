/- Plain laws: equality of lists, values, reads, operations; valid logs and replicas; HasSeen. -/
import Derived.Test.YtjpmhfhcbehgcaaGreatLawsB
set_option linter.unusedSimpArgs false
set_option linter.unusedVariables false
namespace Go.Proofs.YtjpmhfhcbehgcaaGreat
open Go.Abs Go.Proofs

section eqs
/-- are they equal -/
noncomputable def eqd {α : Type} (a b : α) : Bool := @decide (a = b) (Classical.propDecidable _)
theorem eqd_iff {α : Type} {a b : α} : eqd a b = true ↔ a = b := by unfold eqd; exact @decide_eq_true_iff _ (Classical.propDecidable _)
theorem eqd_true {α : Type} {a b : α} (h : a = b) : eqd a b = true := eqd_iff.2 h
theorem eqd_false {α : Type} {a b : α} (h : ¬ a = b) : eqd a b = false := by
  cases he : eqd a b with
  | false => rfl
  | true => exact absurd (eqd_iff.1 he) h
theorem eqd_self {α : Type} (a : α) : eqd a a = true := eqd_true rfl
/-- a loop that compares two lists place by place -/
theorem cmpLoop {α X ρ : Type} {g : X → Option (X ⊕ ρ)} (pk : Nat → X) (z : X) (hz : pk 0 = z) (xs ys : List α) (hl : xs.length = ys.length) (no : ρ) (fin : Option ρ)
    (h1 : ∀ i x y, xs[i]? = some x → ys[i]? = some y → i < xs.length → g (pk i) = bif eqd x y then some (.inl (pk (i + 1))) else some (.inr no))
    (h2 : g (pk xs.length) = fin.bind fun r => some (.inr r)) : loopD g z = bif eqd xs ys then fin else some no := by
  have key : ∀ (n i : Nat), xs.length = i + n → loopD g (pk i) = bif eqd (xs.drop i) (ys.drop i) then fin else some no := by
    intro n
    induction n with
    | zero =>
      intro i hi
      rw [List.drop_eq_nil_of_le (by omega), List.drop_eq_nil_of_le (by omega), loopD_eq]
      have : i = xs.length := by omega
      subst this
      rw [h2, eqd_self]
      cases fin <;> rfl
    | succ n ih =>
      intro i hi
      have hlt : i < xs.length := by omega
      have hlt' : i < ys.length := by omega
      rw [List.drop_eq_getElem_cons hlt, List.drop_eq_getElem_cons hlt', loopD_eq, h1 i xs[i] ys[i] (List.getElem?_eq_getElem hlt) (List.getElem?_eq_getElem hlt') hlt]
      by_cases he : xs[i] = ys[i]
      · rw [eqd_true he]
        have e : eqd (xs[i] :: xs.drop (i + 1)) (ys[i] :: ys.drop (i + 1)) = eqd (xs.drop (i + 1)) (ys.drop (i + 1)) := by
          rw [Bool.eq_iff_iff, eqd_iff, eqd_iff, he]
          exact ⟨fun h => (List.cons.inj h).2, fun h => by rw [h]⟩
        rw [e]
        exact ih (i + 1) (by omega)
      · rw [eqd_false he, eqd_false (fun h => he (List.cons.inj h).1)]
        rfl
  rw [← hz]
  simpa using key xs.length 0 (by omega)
theorem cmpWrap {α ρ : Type} {xs ys : List α} {r : Option ρ} {no : ρ} {fin : Option ρ} (h : xs.length = ys.length → r = bif eqd xs ys then fin else some no) :
    (bif ((xs.length : Int) != (ys.length : Int)) then some no else r) = bif eqd xs ys then fin else some no := by
  by_cases hl : xs.length = ys.length
  · rw [h hl, hl]; simp
  · have : ((xs.length : Int) != (ys.length : Int)) = true := by
      simp only [bne_iff_ne, ne_eq]; omega
    rw [this, cond_true, eqd_false (fun e => hl (by rw [e]))]
    rfl
theorem bif_some (b : Bool) : (bif b then some true else some false) = some b := by cases b <;> rfl
theorem bif_not {α : Type} (b : Bool) (x y : α) : (bif (!b) then x else y) = bif b then y else x := by cases b <;> rfl
theorem beq_dec {α : Type} [BEq α] [LawfulBEq α] (a b : α) : (a == b) = eqd a b := by
  rw [Bool.eq_iff_iff, eqd_iff]; exact beq_iff_eq
theorem bne_dec {α : Type} [BEq α] [LawfulBEq α] (a b : α) : (a != b) = !eqd a b := by
  rw [← beq_dec]; rfl

theorem sL1Ints_ok (a b : List Int) (h : a.length < lim) : sL1Ints a b = some (eqd a b) := by
  rw [← bif_some]
  refine cmpWrap fun hl => cmpLoop (fun i => ((a, b, (i : Int)) : List Int × List Int × Int)) _ rfl a b hl _ _ (fun i x y hx hy hlt => ?_) ?_
  · simp only [lt_of_nat hlt, cond_true, idx_nat, hx, hy, Option.bind_some, w64_succ hlt h, bne_dec, bif_not]
  · simp only [nlt_self, cond_false]; rfl
theorem sL3Texts_ok (a b : List Str) (h : a.length < lim) : sL3Texts a b = some (eqd a b) := by
  rw [← bif_some]
  refine cmpWrap fun hl => cmpLoop (fun i => ((a, b, (i : Int)) : List Str × List Str × Int)) _ rfl a b hl _ _ (fun i x y hx hy hlt => ?_) ?_
  · simp only [lt_of_nat hlt, cond_true, idx_nat, hx, hy, Option.bind_some, w64_succ hlt h, beq_dec, bif_not]
  · simp only [nlt_self, cond_false]; rfl
theorem origin_dec (x y : GOrigin) : ((x.cell == y.cell) && (x.row == y.row)) = eqd x y := by
  simp only [beq_dec]
  rw [Bool.eq_iff_iff]
  simp only [eqd_iff, Bool.and_eq_true]
  cases x; cases y
  simp only [GOrigin.mk.injEq]
theorem sL3Origins_ok (a b : List GOrigin) (h : a.length < lim) : sL3Origins a b = some (eqd a b) := by
  rw [← bif_some]
  refine cmpWrap fun hl => cmpLoop (fun i => ((a, b, (i : Int)) : List GOrigin × List GOrigin × Int)) _ rfl a b hl _ _ (fun i x y hx hy hlt => ?_) ?_
  · simp only [lt_of_nat hlt, cond_true, idx_nat, hx, hy, Option.bind_some, w64_succ hlt h, origin_dec, bif_not]
  · simp only [nlt_self, cond_false]; rfl
theorem row_dec (x y : GRow) : (bif eqd x.cells y.cells then eqd x.orig y.orig else false) = eqd x y := by
  have e : eqd x y = (eqd x.cells y.cells && eqd x.orig y.orig) := by
    rw [Bool.eq_iff_iff]
    simp only [eqd_iff, Bool.and_eq_true]
    cases x; cases y
    simp only [GRow.mk.injEq]
  rw [e]
  cases eqd x.cells y.cells <;> rfl
/-- values, with the origins of rows -/
theorem sL3SameG_ok : ∀ (n : Nat) (a b : GVal), siz a < n → Fit B20 (.base .val) a → sL3SameG n a b true = some (eqd a b)
  | 0, a, b, h, _ => absurd h (Nat.not_lt_zero _)
  | n + 1, a, b, hn, ha => by
    have ih := sL3SameG_ok n
    rw [fit_val] at ha
    obtain ⟨_, _, _, _, c4, c5, c6⟩ := ha
    have hll := lim20 (list20 c4)
    have hlr := lim20 (list20 c6)
    show sL3SameB (sL3SameG n) a b true = _
    unfold sL3SameB
    rw [sL3Texts_ok _ _ (lim20 (list20 c5)), Option.bind_some]
    simp only [bne_dec, beq_dec, bif_not]
    have no : ∀ {p : Prop}, (a = b → p) → ¬ p → eqd a b = false := fun h hp => eqd_false fun e => hp (h e)
    by_cases e1 : a.kind = b.kind
    case neg => rw [eqd_false e1, no (fun h => by rw [h]) e1]; rfl
    by_cases e2 : a.n = b.n
    case neg => rw [eqd_true e1, eqd_false e2, no (fun h => by rw [h]) e2]; rfl
    by_cases e3 : a.step = b.step
    case neg => rw [eqd_true e1, eqd_true e2, eqd_false e3, no (fun h => by rw [h]) e3]; rfl
    by_cases e4 : a.text = b.text
    case neg => rw [eqd_true e1, eqd_true e2, eqd_true e3, eqd_false e4, no (fun h => by rw [h]) e4]; rfl
    rw [eqd_true e1, eqd_true e2, eqd_true e3, eqd_true e4]
    simp only [cond_true]
    by_cases e5 : a.columns = b.columns
    case neg =>
      rw [eqd_false e5, no (fun h => by rw [h]) e5]
      cases eqd (a.list.length : Int) (b.list.length : Int) <;> rfl
    rw [eqd_true e5]
    simp only [cond_true]
    by_cases hl : a.list.length = b.list.length
    case neg =>
      rw [eqd_false (show ¬ ((a.list.length : Int) = (b.list.length : Int)) by omega), no (fun h => by rw [h]) hl]
      rfl
    by_cases hr : a.rows.length = b.rows.length
    case neg =>
      rw [eqd_false (show ¬ ((a.rows.length : Int) = (b.rows.length : Int)) by omega), no (fun h => by rw [h]) hr]
      cases eqd (a.list.length : Int) (b.list.length : Int) <;> rfl
    rw [eqd_true (show (a.list.length : Int) = (b.list.length : Int) by omega), eqd_true (show (a.rows.length : Int) = (b.rows.length : Int) by omega)]
    simp only [cond_true]
    rw [cmpLoop (fun i : Nat => (true, a.kind, a.n, a.step, a.text, a.list, a.columns, a.rows, b.kind, b.n, b.step, b.text, b.list, b.columns, b.rows, (i : Int))) (true, a.kind, a.n, a.step, a.text, a.list, a.columns, a.rows, b.kind, b.n, b.step, b.text, b.list, b.columns, b.rows, 0) rfl a.list b.list hl false (some (eqd a.rows b.rows)) (fun i x y hx hy hlt => by
      simp only [lt_of_nat hlt, cond_true, idx_nat, hx, hy, Option.bind_some, w64_succ hlt hll, reVal_eq, bif_not]
      rw [ih x y (by have := siz_mem (List.mem_of_getElem? hx); have := siz_list (v := a); omega) (c4.list_mem x (List.mem_of_getElem? hx)), Option.bind_some]) (by
      simp only [nlt_self, cond_false]
      rw [cmpLoop (fun i : Nat => (true, a.kind, a.n, a.step, a.text, a.list, a.columns, a.rows, b.kind, b.n, b.step, b.text, b.list, b.columns, b.rows, (i : Int))) (true, a.kind, a.n, a.step, a.text, a.list, a.columns, a.rows, b.kind, b.n, b.step, b.text, b.list, b.columns, b.rows, 0) rfl a.rows b.rows hr false (some true) (fun i x y hx hy hlt => by
        have hf := c6.list_mem x (List.mem_of_getElem? hx)
        rw [fit_row] at hf
        simp only [lt_of_nat hlt, cond_true, idx_nat, hx, hy, Option.bind_some, w64_succ hlt hlr, sL1Ints_ok _ _ (lim20 (list20 hf.1)), sL3Origins_ok _ _ (lim20 (list20 hf.2)), bif_not, ← row_dec x y]
        cases eqd x.cells y.cells <;> cases eqd x.orig y.orig <;> rfl) (by
        simp only [nlt_self, cond_false]; rfl), bif_some])]
    have hval : eqd a b = (eqd a.list b.list && eqd a.rows b.rows) := by
      rw [Bool.eq_iff_iff]
      simp only [eqd_iff, Bool.and_eq_true]
      constructor
      · intro h; rw [h]; exact ⟨rfl, rfl⟩
      · intro h
        cases a; cases b
        simp only at e1 e2 e3 e4 e5 h
        rw [e1, e2, e3, e4, e5, h.1, h.2]
    rw [hval]
    cases eqd a.list b.list <;> rfl
theorem sL3Same_ok (a b : GVal) (ha : Fit B20 (.base .val) a) : sL3Same a b true = some (eqd a b) := sL3SameG_ok _ a b (by omega) ha
theorem sEqualValue_ok (a b : GVal) (ha : Fit B20 (.base .val) a) : sEqualValue a b = some (eqd a b) := by
  unfold sEqualValue
  simp only [reVal_eq]
  rw [sL3Same_ok a b ha, Option.bind_some]

theorem read_dec (x y : GRead) : eqd x y = (eqd x.kind y.kind && (eqd x.n y.n && (eqd x.time y.time && (eqd x.text y.text && eqd x.result y.result)))) := by
  rw [Bool.eq_iff_iff]
  simp only [eqd_iff, Bool.and_eq_true]
  cases x; cases y
  simp only [GRead.mk.injEq]
theorem sameRead_dec (x y : GRead) : sL16Same x y = some (eqd x.kind y.kind && (eqd x.n y.n && (eqd x.text y.text && eqd x.time y.time))) := by
  unfold sL16Same
  simp only [beq_dec]
  cases eqd x.kind y.kind <;> cases eqd x.n y.n <;> cases eqd x.text y.text <;> rfl
theorem sL41Same_ok (a b : List GRead) (ha : FitD B20 (.list (.base .read) a)) : sL41Same a b = some (eqd a b) := by
  have h := lim20 (list20 ha)
  rw [← bif_some]
  refine cmpWrap fun hl => cmpLoop (fun i => ((a, b, (i : Int)) : List GRead × List GRead × Int)) _ rfl a b hl _ _ (fun i x y hx hy hlt => ?_) ?_
  · have hf := ha.list_mem x (List.mem_of_getElem? hx)
    rw [fit_read] at hf
    simp only [lt_of_nat hlt, cond_true, idx_nat, hx, hy, Option.bind_some, w64_succ hlt h, reRead_eq, reVal_eq, sameRead_dec, sEqualValue_ok x.result y.result hf.2.2.2.2, bif_not, read_dec]
    cases eqd x.kind y.kind <;> cases eqd x.n y.n <;> cases eqd x.text y.text <;> cases eqd x.time y.time <;> cases eqd x.result y.result <;> rfl
  · simp only [nlt_self, cond_false]; rfl
theorem cell_dec (x y : GCell) : ((x.id == y.id) && ((x.version == y.version) && ((x.kind == y.kind) && ((x.name == y.name) && ((x.code == y.code) && (x.n == y.n)))))) = eqd x y := by
  simp only [beq_dec]
  rw [Bool.eq_iff_iff]
  simp only [eqd_iff, Bool.and_eq_true]
  cases x; cases y
  simp only [GCell.mk.injEq]
theorem edit_dec (x y : GEdit) : ((x.kind == y.kind) && ((x.pos == y.pos) && ((x.cell.id == y.cell.id) && ((x.cell.version == y.cell.version) && ((x.cell.kind == y.cell.kind) && ((x.cell.name == y.cell.name) && ((x.cell.code == y.cell.code) && (x.cell.n == y.cell.n)))))))) = eqd x y := by
  rw [cell_dec]
  simp only [beq_dec]
  rw [Bool.eq_iff_iff]
  simp only [eqd_iff, Bool.and_eq_true]
  cases x; cases y
  simp only [GEdit.mk.injEq]
theorem op_dec (x y : GOp) : eqd x y = (eqd x.time y.time && (eqd x.by_ y.by_ && (eqd x.kind y.kind && (eqd x.seen y.seen && (eqd x.edit y.edit && (eqd x.src y.src && (eqd x.dst y.dst && (eqd x.cell y.cell && (eqd x.version y.version && eqd x.reads y.reads))))))))) := by
  rw [Bool.eq_iff_iff]
  simp only [eqd_iff, Bool.and_eq_true]
  cases x; cases y
  simp only [GOp.mk.injEq]
theorem sEqualOp_ok (a b : GOp) (ha : Fit B20 (.base .op) a) : sEqualOp a b = some (eqd a b) := by
  rw [fit_op] at ha
  obtain ⟨_, _, _, c3, _, _, _, _, _, c9⟩ := ha
  unfold sEqualOp
  simp only [edit_dec, sL1Ints_ok _ _ (lim20 (list20 c3)), sL41Same_ok _ _ c9, Option.bind_some, bif_not, op_dec]
  simp only [beq_dec, bne_dec, bif_not]
  cases eqd a.time b.time <;> cases eqd a.by_ b.by_ <;> cases eqd a.kind b.kind <;> cases eqd a.seen b.seen <;> cases eqd a.edit b.edit <;> cases eqd a.src b.src <;>
    cases eqd a.dst b.dst <;> cases eqd a.cell b.cell <;> cases eqd a.version b.version <;> rfl
end eqs

end Go.Proofs.YtjpmhfhcbehgcaaGreat
