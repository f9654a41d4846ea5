/-
  FnExactChangedVersions, called with any arguments that can be read, returns true, and its arguments read afterwards as they did.
  No condition but the row's own.
-/
import Derived.Test.YtiedhibpaooldaaFacts
import Derived.Test.YtiedhibpaooldaaLawsF
import Derived.Test.YtiedhibpaooldaaDen5
namespace Go.Proofs.Ytiedhibpaooldaa
open Go.Abs Go.Proofs Go.RowKit

set_option maxRecDepth 100000 in
theorem fnExactChangedVersions_lifted (os : Os) (started : os.Started) (H : Type) (enc : TypeId × Value → H) :
    ReturnsInHanded {} Try.checked os 3 .any (Rows.fnExactChangedVersionsSpec.pre6 enc Try.prog Try.f3 Rows.fnExactChangedVersionsRow.domain false) (Rows.fnExactChangedVersionsSpec.post enc Try.prog Try.f3 false true false false) := by
  refine returnsInHanded_of_change_sized (C := Try.checked) own_ok started (by kernel_rfl) Try.func3
    (ChangeSpec.witness6 (enc := enc) (C := Try.checked) false ⟨#[], #[.agg #[.slice none 0 0], .agg #[.slice none 0 0]], []⟩ 8 (by kernel_rfl) (by kernel_rfl) (by kernel_rfl) (by kernel_rfl)) ?_
  intro W base args ds gs before hval hW _ hsz _
  exact law_post (P := Try.prog) (T := tt) (fn := Try.f3) (ss := [⟨true, .base .notebook⟩, ⟨true, .base .notebook⟩]) elem_ok laid_ok FnExactChangedVersions_sound (by kernel_rfl) (by kernel_rfl) (tb := 4) (by kernel_rfl) (by kernel_rfl) rfl
    (fun ds h => (by
      match ds, h with
      | [d0, d1], _ => rfl)) (fun x fx => law_FnExactChangedVersions x.1 x.2 (fun d hd => fx d (List.mem_append_left _ hd)) (fun d hd => fx d (List.mem_append_right _ hd))) hval hW hsz

set_option maxHeartbeats 4000000 in
set_option maxRecDepth 100000 in
theorem fnExactChangedVersions_facts : joinedFacts Try.prog 3 Try.f3 Rows.fnExactChangedVersionsSpec Rows.fnExactChangedVersionsRow = true := by
  unfold joinedFacts
  repeat' (with_reducible refine and_i ?_ ?_)
  all_goals first
    | with_reducible exact laid_ok
    | with_reducible exact rowed_ok
    | with_reducible exact enter_ok
    | with_reducible exact lifts_ok
    | with_reducible exact make_ok
    | with_reducible exact keys_ok
    | (as_aux_lemma => kernel_rfl)

theorem fnExactChangedVersions_holds : Rows.FnExactChangedVersionsSaid :=
  OpenClaim.holds_of_wide 3 Try.f3 rfl rfl rfl rfl rfl rfl rfl ⟨rfl, rfl, rfl, rfl, rfl⟩ rfl rfl rfl rfl rfl (by kernel_rfl) Try.func3 fnExactChangedVersions_facts
    (of_decide_eq_true (by kernel_rfl)) (by unfold Func.isWrapper; first | (rw [if_pos (by decide +kernel)]; kernel_rfl) | (rw [if_neg (by decide +kernel)]; exact ⟨rfl, rfl⟩))
    (fun os started H enc _ => fnExactChangedVersions_lifted os started H enc)

#print axioms fnExactChangedVersions_holds
end Go.Proofs.Ytiedhibpaooldaa
