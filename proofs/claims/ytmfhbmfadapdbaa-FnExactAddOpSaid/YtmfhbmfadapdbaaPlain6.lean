/- The plain law of IsValidHistory. -/
import Derived.Test.YtmfhbmfadapdbaaLawsA
set_option linter.unusedSimpArgs false
set_option linter.unusedVariables false
namespace Go.Proofs.Ytmfhbmfadapdbaa
open Go.Abs Go.Proofs

/-- the node's parent fits its place -/
def okn (e : GNode) (i : Nat) : Bool := bif ((i : Int) == 0) then !(e.parent != (-1)) else (decide (0 ≤ e.parent) && decide (e.parent ≤ w64 ((i : Int) - 1)))
theorem w64_pred {i : Nat} (h : i < lim) : w64 ((i : Int) - 1) = (i : Int) - 1 := by
  have h' : (i : Int) < 4611686018427387904 := Int.ofNat_lt.2 h
  exact w64_id (by omega) (by omega)
theorem sIsValidHistory_ok (a : GHistory) (h : a.nodes.length < lim) {b : Bool} (hb : sIsValidNotebook a.notebook = some b) :
    sIsValidHistory a = some (allAt okn a.nodes 0 && (b && (decide (1 ≤ (a.nodes.length : Int)) && decide ((a.nodes.length : Int) ≤ 20)) && (decide (0 ≤ a.pos) && decide (a.pos ≤ w64 ((a.nodes.length : Int) - 1))))) := by
  refine scan_all (fun i => ((a.notebook.cells, a.nodes, a.pos, (a.nodes.length : Int), (i : Int)) : List GCell × List GNode × Int × Int × Int)) a.nodes _ _ (fun i x hx => ?_) ?_
  · obtain ⟨hlt, rfl⟩ := List.getElem?_eq_some_iff.1 hx
    have hl := h
    simp only [lt_of_nat hlt, cond_true]
    by_cases hi : i = 0
    · subst hi
      have e : idx a.nodes 0 = some a.nodes[0] := by rw [← hx]; exact idx_nat a.nodes 0
      have e1 : ((0 : Nat) : Int) = 0 := rfl
      have e2 : w64 (0 + 1) = ((0 + 1 : Nat) : Int) := by decide
      simp only [okn, e1, beq_self_eq_true, cond_true, e, Option.bind_some, show decide ((0 : Int) > 0) = false by decide, cond_false, e2]
      cases (a.nodes[0].parent != -1) <;> rfl
    · have e1 : ((i : Int) == 0) = false := by simpa using hi
      have e2 : decide ((i : Int) > 0) = true := by simp; omega
      simp only [okn, e1, e2, cond_true, cond_false, idx_nat, hx, Option.bind_some, sL1In_ok, w64_succ hlt hl]
      cases (decide (0 ≤ a.nodes[i].parent) && decide (a.nodes[i].parent ≤ w64 ((i : Int) - 1))) <;> rfl
  · have e : sIsValidNotebook (GNotebook.mk a.notebook.cells) = some b := hb
    simp only [nlt_self, cond_false, e, Option.bind_some, sL1In_ok]
    cases b <;> cases (decide (1 ≤ (a.nodes.length : Int)) && decide ((a.nodes.length : Int) ≤ 20)) <;> simp
theorem allAt_shift {α : Type} (p q : α → Nat → Bool) (xs : List α) : ∀ i j, (∀ k x, xs[k]? = some x → p x (i + k) = q x (j + k)) → allAt p xs i = allAt q xs j := by
  induction xs with
  | nil => intro i j _; rfl
  | cons x r ih =>
    intro i j h
    simp only [allAt]
    have h0 := h 0 x rfl
    simp only [Nat.add_zero] at h0
    rw [h0, ih (i + 1) (j + 1) fun k y hk => (by have := h (k + 1) y hk; simpa [Nat.add_assoc, Nat.add_comm 1 k] using this)]
theorem iIsValidHistory_ok (a : GHistory) (h : a.nodes.length < lim) {b : Bool} (hb : iIsValidNotebook a.notebook = some b) :
    iIsValidHistory a = some (allAt okn a.nodes 0 && (b && (decide (1 ≤ (a.nodes.length : Int)) && decide ((a.nodes.length : Int) ≤ 20)) && (decide (0 ≤ a.pos) && decide (a.pos ≤ w64 ((a.nodes.length : Int) - 1))))) := by
  unfold iIsValidHistory
  have hl := h
  rw [hb]
  simp only [Option.bind_some, iWithin_ok]
  cases b with
  | false => simp
  | true =>
    simp only [Bool.not_true, cond_false]
    cases hc : (decide (1 ≤ (a.nodes.length : Int)) && decide ((a.nodes.length : Int) ≤ 20)) with
    | false => simp
    | true =>
      simp only [Bool.not_true, cond_false]
      have h1 : 1 ≤ a.nodes.length := by
        simp only [Bool.and_eq_true, decide_eq_true_eq] at hc
        omega
      cases hn : a.nodes with
      | nil => rw [hn] at h1; cases h1
      | cons x r =>
        have e : idx (x :: r) 0 = some x := rfl
        rw [e]
        simp only [Option.bind_some]
        have e1 : ((0 : Nat) : Int) = 0 := rfl
        cases hp : (x.parent != -1) with
        | true => simp [allAt, okn, hp]
        | false =>
          simp only [cond_false]
          cases hq : (decide (0 ≤ a.pos) && decide (a.pos ≤ w64 (((x :: r).length : Int) - 1))) with
          | false => simp
          | true =>
            simp only [Bool.not_true, cond_false]
            have ec : eff.cutL (x :: r) (some 1) none = some r := by
              unfold eff.cutL
              simp
              omega
            rw [ec, Option.bind_some]
            have hr : r.length < lim := by rw [hn] at hl; simp at hl; omega
            have := scan_all (g := fun (x6 : (List GNode) × Int × Int) =>
    bif (decide (x6.2.2 < x6.2.1)) then
      (idx x6.1 x6.2.2).bind fun e7 =>
      bif (!(decide (0 ≤ e7.parent) && decide (e7.parent ≤ x6.2.2))) then
        some (.inr (false))
      else
        some (.inl (x6.1, x6.2.1, w64 (x6.2.2 + 1)))
    else
      some (.inr (true))) (fun i => ((r, (r.length : Int), (i : Int)) : List GNode × Int × Int)) r (fun e i => decide (0 ≤ e.parent) && decide (e.parent ≤ (i : Int))) true (by
                intro i y hy
                obtain ⟨hlt, rfl⟩ := List.getElem?_eq_some_iff.1 hy
                simp only [lt_of_nat hlt, cond_true, idx_nat, hy, Option.bind_some, w64_succ hlt hr]
                cases (decide (0 ≤ r[i].parent) && decide (r[i].parent ≤ (i : Int))) <;> rfl) (by
                simp only [nlt_self, cond_false])
            refine Eq.trans this ?_
            have e2 : allAt okn (x :: r) 0 = allAt (fun (e : GNode) (i : Nat) => decide (0 ≤ e.parent) && decide (e.parent ≤ (i : Int))) r 0 := by
              simp only [allAt, okn, e1, beq_self_eq_true, cond_true, hp, Bool.not_false, Bool.true_and]
              refine allAt_shift _ _ r 1 0 fun k y hk => ?_
              obtain ⟨hlt, rfl⟩ := List.getElem?_eq_some_iff.1 hk
              have e3 : (((1 + k : Nat) : Int) == 0) = false := beq_eq_false_iff_ne.2 (by omega)
              show (bif (((1 + k : Nat) : Int) == 0) then _ else (decide (0 ≤ r[k].parent) && decide (r[k].parent ≤ w64 (((1 + k : Nat) : Int) - 1)))) = _
              rw [e3, cond_false, w64_pred (show 1 + k < lim by omega)]
              have e4 : ((1 + k : Nat) : Int) - 1 = ((0 + k : Nat) : Int) := by omega
              rw [e4]
            rw [e2]
            first | rfl | simp

end Go.Proofs.Ytmfhbmfadapdbaa
