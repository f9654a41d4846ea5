/-
  FnExactHasSeen, called with any arguments that can be read, returns true, and its arguments read afterwards as they did.
  No condition but the row's own.
-/
import Derived.Test.YtiedhibpaooldaaFacts
import Derived.Test.YtiedhibpaooldaaLawsD
import Derived.Test.YtiedhibpaooldaaDen5
namespace Go.Proofs.Ytiedhibpaooldaa
open Go.Abs Go.Proofs Go.RowKit

set_option maxRecDepth 100000 in
theorem fnExactHasSeen_lifted (os : Os) (started : os.Started) (H : Type) (enc : TypeId × Value → H) :
    ReturnsInHanded {} Try.checked os 6 .any (Rows.fnExactHasSeenSpec.pre6 enc Try.prog Try.f6 Rows.fnExactHasSeenRow.domain false) (Rows.fnExactHasSeenSpec.post enc Try.prog Try.f6 false true false false) := by
  refine returnsInHanded_of_change_sized (C := Try.checked) own_ok started (by kernel_rfl) Try.func6
    (ChangeSpec.witness6 (enc := enc) (C := Try.checked) false ⟨#[], #[.agg #[.int .i64 0, .int .i64 0, .int .i64 0, .slice none 0 0, .int .i64 0, .int .i64 0, .int .i64 0, .int .i64 0, .int .i64 0, .string ByteArray.empty, .string ByteArray.empty, .int .i64 0, .string ByteArray.empty, .string ByteArray.empty, .int .i64 0, .int .i64 0, .slice none 0 0], .slice none 0 0, .int .i64 0], []⟩ 8 (by kernel_rfl) (by kernel_rfl) (by kernel_rfl) (by kernel_rfl)) ?_
  intro W base args ds gs before hval hW _ hsz _
  exact law_post (P := Try.prog) (T := tt) (fn := Try.f6) (ss := [⟨true, .base .op⟩, ⟨false, .list (.base .op)⟩, ⟨false, .base .int⟩]) elem_ok laid_ok FnExactHasSeen_sound (by kernel_rfl) (by kernel_rfl) (tb := 4) (by kernel_rfl) (by kernel_rfl) rfl
    (fun ds h => (by
      match ds, h with
      | [d0, d1, d2], _ => rfl)) (fun x fx => law_FnExactHasSeen x.1 x.2.1 x.2.2 (fun d hd => fx d (List.mem_append_left _ hd)) (show FitD B47 (.list (.base .op) x.2.1) from (show Fit B47 (.list (.base .op)) x.2.1 from (fun d hd => fx d (List.mem_append_right _ (List.mem_append_left _ hd)))) _ List.mem_cons_self)) hval hW hsz

set_option maxHeartbeats 4000000 in
set_option maxRecDepth 100000 in
theorem fnExactHasSeen_facts : joinedFacts Try.prog 6 Try.f6 Rows.fnExactHasSeenSpec Rows.fnExactHasSeenRow = true := by
  unfold joinedFacts
  repeat' (with_reducible refine and_i ?_ ?_)
  all_goals first
    | with_reducible exact laid_ok
    | with_reducible exact rowed_ok
    | with_reducible exact enter_ok
    | with_reducible exact lifts_ok
    | with_reducible exact make_ok
    | with_reducible exact keys_ok
    | (as_aux_lemma => kernel_rfl)

theorem fnExactHasSeen_holds : Rows.FnExactHasSeenSaid :=
  OpenClaim.holds_of_wide 6 Try.f6 rfl rfl rfl rfl rfl rfl rfl ⟨rfl, rfl, rfl, rfl, rfl⟩ rfl rfl rfl rfl rfl (by kernel_rfl) Try.func6 fnExactHasSeen_facts
    (of_decide_eq_true (by kernel_rfl)) (by unfold Func.isWrapper; first | (rw [if_pos (by decide +kernel)]; kernel_rfl) | (rw [if_neg (by decide +kernel)]; exact ⟨rfl, rfl⟩))
    (fun os started H enc _ => fnExactHasSeen_lifted os started H enc)

#print axioms fnExactHasSeen_holds
end Go.Proofs.Ytiedhibpaooldaa
