/-
  FnExactIsValidHistory, called with any history that can be read, returns true, and the history reads afterwards as it did.
  No condition but the row's own.
-/
import Derived.Test.YtdjpggeakgdmmaaLink3
import Derived.Test.YtdjpggeakgdmmaaPlain6
import Derived.Test.YtdjpggeakgdmmaaDen4
namespace Go.Proofs.Ytdjpggeakgdmmaa
open Go.Abs Go.Proofs Go.RowKit

theorem fit_lim {n : Nat} (h : n ≤ reachBytes) : n < lim := Nat.lt_of_le_of_lt h (by decide)
theorem fit_cell {c : GCell} (h : ∀ d, d ∈ Base.cells .cell c → FitD reachBytes d) : CellFit c := by
  simp only [Base.cells, List.mem_cons, List.not_mem_nil, or_false, forall_eq_or_imp, forall_eq] at h
  exact ⟨fit_lim h.2.2.2.1.str_le, fit_lim h.2.2.2.2.1.str_le⟩
theorem fit_edit {c : GEdit} (h : ∀ d, d ∈ Base.cells .edit c → FitD reachBytes d) : EditFit c :=
  fit_cell fun d hd => h d (by simp only [Base.cells, List.mem_cons, List.not_mem_nil, or_false] at hd ⊢; exact .inr (.inr hd))
theorem fit_list {α : Type} {t : Ty} (e : t.den = α) {Q : α → Prop} {xs : List t.den} (h : FitD reachBytes (.list t xs)) (hq : ∀ x : t.den, (∀ d, d ∈ t.cells x → FitD reachBytes d) → Q (e ▸ x)) : FitL Q (e ▸ xs) := by
  subst e
  exact ⟨fit_lim h.list_le, fun x hx => hq x (h.list_mem x hx)⟩
theorem fit_node {c : GNode} (h : ∀ d, d ∈ Base.cells .node c → FitD reachBytes d) : NodeFit c := by
  simp only [Base.cells, List.mem_cons, List.not_mem_nil, or_false, forall_eq_or_imp, forall_eq] at h
  exact ⟨fit_list (t := .base .edit) rfl h.2.1 fun x => fit_edit, fit_list (t := .base .edit) rfl h.2.2 fun x => fit_edit⟩
theorem fit_history {c : GHistory} (h : ∀ d, d ∈ Base.cells .history c → FitD reachBytes d) : HistoryFit c := by
  simp only [Base.cells, List.mem_cons, List.not_mem_nil, or_false, forall_eq_or_imp, forall_eq] at h
  exact ⟨fit_list (t := .base .cell) rfl h.1 fun x => fit_cell, fit_list (t := .base .node) rfl h.2.1 fun x => fit_node⟩

set_option maxRecDepth 100000 in
theorem fnExactIsValidHistory_lifted (os : Os) (started : os.Started) (H : Type) (enc : TypeId × Value → H) :
    ReturnsInHanded {} Try.checked os 7 .any (Rows.fnExactIsValidHistorySpec.pre6 enc Try.prog Try.f7 Rows.fnExactIsValidHistoryRow.domain false) (Rows.fnExactIsValidHistorySpec.post enc Try.prog Try.f7 false true false false) := by
  refine returnsInHanded_of_change_sized (C := Try.checked) own_ok started (by kernel_rfl) Try.func7
    (ChangeSpec.witness6 (enc := enc) (C := Try.checked) false ⟨#[], #[.agg #[.slice none 0 0, .slice none 0 0, .int .i64 0]], []⟩ 8 (by kernel_rfl) (by kernel_rfl) (by kernel_rfl) (by kernel_rfl)) ?_
  intro W base args ds gs before hval hW _ hsz _
  exact law_post (P := Try.prog) (T := tt) (fn := Try.f7) (ss := [⟨true, .base .history⟩]) elem_ok laid_ok FnExactIsValidHistory_sound (by kernel_rfl) (by kernel_rfl) (tb := 4) (by kernel_rfl) (by kernel_rfl) rfl
    (fun ds h => (by
      match ds, h with
      | [d], _ => rfl)) (fun x fx => law_FnExactIsValidHistory x (fit_history fun d hd => fx d hd)) hval hW hsz

theorem fnExactIsValidHistory_holds : Rows.FnExactIsValidHistorySaid :=
  OpenClaim.holds_of_wide 7 Try.f7 rfl rfl rfl rfl rfl rfl rfl ⟨rfl, rfl, rfl, rfl, rfl⟩ rfl rfl rfl rfl rfl (by kernel_rfl) Try.func7 (by kernel_rfl)
    (of_decide_eq_true (by kernel_rfl)) (by unfold Func.isWrapper; first | (rw [if_pos (by decide +kernel)]; kernel_rfl) | (rw [if_neg (by decide +kernel)]; exact ⟨rfl, rfl⟩))
    (fun os started H enc _ => fnExactIsValidHistory_lifted os started H enc)

#print axioms fnExactIsValidHistory_holds
end Go.Proofs.Ytdjpggeakgdmmaa
