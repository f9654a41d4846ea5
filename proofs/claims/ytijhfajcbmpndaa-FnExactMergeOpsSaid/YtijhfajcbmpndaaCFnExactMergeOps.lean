/-
  FnExactMergeOps, called with any arguments that can be read, returns true, and its arguments read afterwards as they did.
  No condition but the row's own.
-/
import Derived.Test.YtijhfajcbmpndaaFacts
import Derived.Test.YtijhfajcbmpndaaMerge
import Derived.Test.YtijhfajcbmpndaaDen3
namespace Go.Proofs.Ytijhfajcbmpndaa
open Go.Abs Go.Proofs Go.RowKit

set_option maxRecDepth 100000 in
theorem fnExactMergeOps_lifted (os : Os) (started : os.Started) (H : Type) (enc : TypeId × Value → H) :
    ReturnsInHanded {} Try.checked os 3 .any (Rows.fnExactMergeOpsSpec.pre6 enc Try.prog Try.f3 Rows.fnExactMergeOpsRow.domain false) (Rows.fnExactMergeOpsSpec.post enc Try.prog Try.f3 false true false false) := by
  refine returnsInHanded_of_change_sized (C := Try.checked) own_ok started (by kernel_rfl) Try.func3
    (ChangeSpec.witness6 (enc := enc) (C := Try.checked) false ⟨#[], #[.slice none 0 0, .slice none 0 0], []⟩ 8 (by kernel_rfl) (by kernel_rfl) (by kernel_rfl) (by kernel_rfl)) ?_
  intro W base args ds gs before hval hW _ hsz _
  exact law_post (P := Try.prog) (T := tt) (fn := Try.f3) (ss := [⟨false, .list (.base .op)⟩, ⟨false, .list (.base .op)⟩]) elem_ok laid_ok FnExactMergeOps_sound (by kernel_rfl) (by kernel_rfl) (tb := 4) (by kernel_rfl) (by kernel_rfl) rfl
    (fun ds h => (by
      match ds, h with
      | [d0, d1], _ => rfl)) (fun x fx => law_FnExactMergeOps x.1 x.2 (show FitD B47 (.list (.base .op) x.1) from (show Fit B47 (.list (.base .op)) x.1 from (fun d hd => fx d (List.mem_append_left _ hd))) _ List.mem_cons_self) (show FitD B47 (.list (.base .op) x.2) from (show Fit B47 (.list (.base .op)) x.2 from (fun d hd => fx d (List.mem_append_right _ hd))) _ List.mem_cons_self)) hval hW hsz

set_option maxHeartbeats 4000000 in
set_option maxRecDepth 100000 in
theorem fnExactMergeOps_facts : joinedFacts Try.prog 3 Try.f3 Rows.fnExactMergeOpsSpec Rows.fnExactMergeOpsRow = true := by
  unfold joinedFacts
  repeat' (with_reducible refine and_i ?_ ?_)
  all_goals first
    | with_reducible exact laid_ok
    | with_reducible exact rowed_ok
    | with_reducible exact enter_ok
    | with_reducible exact lifts_ok
    | with_reducible exact make_ok
    | with_reducible exact keys_ok
    | (as_aux_lemma => kernel_rfl)

theorem fnExactMergeOps_holds : Rows.FnExactMergeOpsSaid :=
  OpenClaim.holds_of_wide 3 Try.f3 rfl rfl rfl rfl rfl rfl rfl ⟨rfl, rfl, rfl, rfl, rfl⟩ rfl rfl rfl rfl rfl (by kernel_rfl) Try.func3 fnExactMergeOps_facts
    (of_decide_eq_true (by kernel_rfl)) (by unfold Func.isWrapper; first | (rw [if_pos (by decide +kernel)]; kernel_rfl) | (rw [if_neg (by decide +kernel)]; exact ⟨rfl, rfl⟩))
    (fun os started H enc _ => fnExactMergeOps_lifted os started H enc)

#print axioms fnExactMergeOps_holds
end Go.Proofs.Ytijhfajcbmpndaa
