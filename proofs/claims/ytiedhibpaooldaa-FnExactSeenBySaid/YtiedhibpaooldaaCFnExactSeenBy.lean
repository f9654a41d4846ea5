/-
  FnExactSeenBy, called with any arguments that can be read, returns true, and its arguments read afterwards as they did.
  No condition but the row's own.
-/
import Derived.Test.YtiedhibpaooldaaFacts
import Derived.Test.YtiedhibpaooldaaLawsG
import Derived.Test.YtiedhibpaooldaaDen2
namespace Go.Proofs.Ytiedhibpaooldaa
open Go.Abs Go.Proofs Go.RowKit

set_option maxRecDepth 100000 in
theorem fnExactSeenBy_lifted (os : Os) (started : os.Started) (H : Type) (enc : TypeId × Value → H) :
    ReturnsInHanded {} Try.checked os 13 .any (Rows.fnExactSeenBySpec.pre6 enc Try.prog Try.f13 Rows.fnExactSeenByRow.domain false) (Rows.fnExactSeenBySpec.post enc Try.prog Try.f13 false true false false) := by
  refine returnsInHanded_of_change_sized (C := Try.checked) own_ok started (by kernel_rfl) Try.func13
    (ChangeSpec.witness6 (enc := enc) (C := Try.checked) false ⟨#[], #[.agg #[.int .i64 0, .slice none 0 0]], []⟩ 8 (by kernel_rfl) (by kernel_rfl) (by kernel_rfl) (by kernel_rfl)) ?_
  intro W base args ds gs before hval hW _ hsz _
  exact law_post (P := Try.prog) (T := tt) (fn := Try.f13) (ss := [⟨true, .base .replica⟩]) elem_ok laid_ok FnExactSeenBy_sound (by kernel_rfl) (by kernel_rfl) (tb := 4) (by kernel_rfl) (by kernel_rfl) rfl
    (fun ds h => (by
      match ds, h with
      | [d0], _ => rfl)) (fun x fx => law_FnExactSeenBy x (fun d hd => fx d (hd))) hval hW hsz

set_option maxHeartbeats 4000000 in
set_option maxRecDepth 100000 in
theorem fnExactSeenBy_facts : joinedFacts Try.prog 13 Try.f13 Rows.fnExactSeenBySpec Rows.fnExactSeenByRow = true := by
  unfold joinedFacts
  repeat' (with_reducible refine and_i ?_ ?_)
  all_goals first
    | with_reducible exact laid_ok
    | with_reducible exact rowed_ok
    | with_reducible exact enter_ok
    | with_reducible exact lifts_ok
    | with_reducible exact make_ok
    | with_reducible exact keys_ok
    | (as_aux_lemma => kernel_rfl)

theorem fnExactSeenBy_holds : Rows.FnExactSeenBySaid :=
  OpenClaim.holds_of_wide 13 Try.f13 rfl rfl rfl rfl rfl rfl rfl ⟨rfl, rfl, rfl, rfl, rfl⟩ rfl rfl rfl rfl rfl (by kernel_rfl) Try.func13 fnExactSeenBy_facts
    (of_decide_eq_true (by kernel_rfl)) (by unfold Func.isWrapper; first | (rw [if_pos (by decide +kernel)]; kernel_rfl) | (rw [if_neg (by decide +kernel)]; exact ⟨rfl, rfl⟩))
    (fun os started H enc _ => fnExactSeenBy_lifted os started H enc)

#print axioms fnExactSeenBy_holds
end Go.Proofs.Ytiedhibpaooldaa
