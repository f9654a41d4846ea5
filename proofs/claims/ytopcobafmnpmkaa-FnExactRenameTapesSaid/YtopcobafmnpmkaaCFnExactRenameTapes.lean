/-
  FnExactRenameTapes, called with any arguments that can be read, returns true, and its arguments read afterwards as they did.
  No condition but the row's own.
-/
import Derived.Test.YtopcobafmnpmkaaFacts
import Derived.Test.YtopcobafmnpmkaaRen1
import Derived.Test.YtopcobafmnpmkaaDen1
namespace Go.Proofs.Ytopcobafmnpmkaa
open Go.Abs Go.Proofs Go.RowKit

set_option maxRecDepth 100000 in
theorem fnExactRenameTapes_lifted (os : Os) (started : os.Started) (H : Type) (enc : TypeId × Value → H) :
    ReturnsInHanded {} Try.checked os 3 .any (Rows.fnExactRenameTapesSpec.pre6 enc Try.prog Try.f3 Rows.fnExactRenameTapesRow.domain false) (Rows.fnExactRenameTapesSpec.post enc Try.prog Try.f3 false true false false) := by
  refine returnsInHanded_of_change_sized (C := Try.checked) own_ok started (by kernel_rfl) Try.func3
    (ChangeSpec.witness6 (enc := enc) (C := Try.checked) false ⟨#[], #[.slice none 0 0, .agg #[.slice none 0 0], .agg #[.slice none 0 0]], []⟩ 8 (by kernel_rfl) (by kernel_rfl) (by kernel_rfl) (by kernel_rfl)) ?_
  intro W base args ds gs before hval hW _ hsz _
  exact law_post (P := Try.prog) (T := tt) (fn := Try.f3) (ss := [⟨false, .list (.base .tape)⟩, ⟨true, .base .notebook⟩, ⟨true, .base .notebook⟩]) elem_ok laid_ok FnExactRenameTapes_sound (by kernel_rfl) (by kernel_rfl) (tb := 4) (by kernel_rfl) (by kernel_rfl) rfl
    (fun ds h => (by
      match ds, h with
      | [d0, d1, d2], _ => rfl)) (fun x fx => law_FnExactRenameTapes x.1 x.2.1 x.2.2 (show FitD B47 (.list (.base .tape) x.1) from (show Fit B47 (.list (.base .tape)) x.1 from (fun d hd => fx d (List.mem_append_left _ hd))) _ List.mem_cons_self) (fun d hd => fx d (List.mem_append_right _ (List.mem_append_left _ hd))) (fun d hd => fx d (List.mem_append_right _ (List.mem_append_right _ hd)))) hval hW hsz

set_option maxHeartbeats 4000000 in
set_option maxRecDepth 100000 in
theorem fnExactRenameTapes_facts : joinedFacts Try.prog 3 Try.f3 Rows.fnExactRenameTapesSpec Rows.fnExactRenameTapesRow = true := by
  unfold joinedFacts
  repeat' (with_reducible refine and_i ?_ ?_)
  all_goals first
    | with_reducible exact laid_ok
    | with_reducible exact rowed_ok
    | with_reducible exact enter_ok
    | with_reducible exact lifts_ok
    | with_reducible exact make_ok
    | with_reducible exact keys_ok
    | (as_aux_lemma => kernel_rfl)

theorem fnExactRenameTapes_holds : Rows.FnExactRenameTapesSaid :=
  OpenClaim.holds_of_wide 3 Try.f3 rfl rfl rfl rfl rfl rfl rfl ⟨rfl, rfl, rfl, rfl, rfl⟩ rfl rfl rfl rfl rfl (by kernel_rfl) Try.func3 fnExactRenameTapes_facts
    (of_decide_eq_true (by kernel_rfl)) (by unfold Func.isWrapper; first | (rw [if_pos (by decide +kernel)]; kernel_rfl) | (rw [if_neg (by decide +kernel)]; exact ⟨rfl, rfl⟩))
    (fun os started H enc _ => fnExactRenameTapes_lifted os started H enc)

#print axioms fnExactRenameTapes_holds
end Go.Proofs.Ytopcobafmnpmkaa
