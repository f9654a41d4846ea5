/-
  FnExactIsValidReplica, called with any arguments that can be read, returns true, and its arguments read afterwards as they did.
  No condition but the row's own.
-/
import Derived.Test.YtiedhibpaooldaaFacts
import Derived.Test.YtiedhibpaooldaaLawsD
import Derived.Test.YtiedhibpaooldaaDen5
namespace Go.Proofs.Ytiedhibpaooldaa
open Go.Abs Go.Proofs Go.RowKit

set_option maxRecDepth 100000 in
theorem fnExactIsValidReplica_lifted (os : Os) (started : os.Started) (H : Type) (enc : TypeId × Value → H) :
    ReturnsInHanded {} Try.checked os 12 .any (Rows.fnExactIsValidReplicaSpec.pre6 enc Try.prog Try.f12 Rows.fnExactIsValidReplicaRow.domain false) (Rows.fnExactIsValidReplicaSpec.post enc Try.prog Try.f12 false true false false) := by
  refine returnsInHanded_of_change_sized (C := Try.checked) own_ok started (by kernel_rfl) Try.func12
    (ChangeSpec.witness6 (enc := enc) (C := Try.checked) false ⟨#[], #[.agg #[.int .i64 0, .slice none 0 0]], []⟩ 8 (by kernel_rfl) (by kernel_rfl) (by kernel_rfl) (by kernel_rfl)) ?_
  intro W base args ds gs before hval hW _ hsz _
  exact law_post (P := Try.prog) (T := tt) (fn := Try.f12) (ss := [⟨true, .base .replica⟩]) elem_ok laid_ok FnExactIsValidReplica_sound (by kernel_rfl) (by kernel_rfl) (tb := 4) (by kernel_rfl) (by kernel_rfl) rfl
    (fun ds h => (by
      match ds, h with
      | [d0], _ => rfl)) (fun x fx => law_FnExactIsValidReplica x (fun d hd => fx d (hd))) hval hW hsz

set_option maxHeartbeats 4000000 in
set_option maxRecDepth 100000 in
theorem fnExactIsValidReplica_facts : joinedFacts Try.prog 12 Try.f12 Rows.fnExactIsValidReplicaSpec Rows.fnExactIsValidReplicaRow = true := by
  unfold joinedFacts
  repeat' (with_reducible refine and_i ?_ ?_)
  all_goals first
    | with_reducible exact laid_ok
    | with_reducible exact rowed_ok
    | with_reducible exact enter_ok
    | with_reducible exact lifts_ok
    | with_reducible exact make_ok
    | with_reducible exact keys_ok
    | (as_aux_lemma => kernel_rfl)

theorem fnExactIsValidReplica_holds : Rows.FnExactIsValidReplicaSaid :=
  OpenClaim.holds_of_wide 12 Try.f12 rfl rfl rfl rfl rfl rfl rfl ⟨rfl, rfl, rfl, rfl, rfl⟩ rfl rfl rfl rfl rfl (by kernel_rfl) Try.func12 fnExactIsValidReplica_facts
    (of_decide_eq_true (by kernel_rfl)) (by unfold Func.isWrapper; first | (rw [if_pos (by decide +kernel)]; kernel_rfl) | (rw [if_neg (by decide +kernel)]; exact ⟨rfl, rfl⟩))
    (fun os started H enc _ => fnExactIsValidReplica_lifted os started H enc)

#print axioms fnExactIsValidReplica_holds
end Go.Proofs.Ytiedhibpaooldaa
