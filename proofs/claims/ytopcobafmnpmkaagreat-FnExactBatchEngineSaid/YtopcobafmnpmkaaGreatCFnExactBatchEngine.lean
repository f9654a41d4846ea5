/-
  FnExactBatchEngine, called with any arguments that can be read, returns true, and its arguments read afterwards as they did.
  No condition but the row's own.
-/
import Derived.Test.YtopcobafmnpmkaaGreatFacts
import Derived.Test.YtopcobafmnpmkaaGreatEng1
import Derived.Test.YtopcobafmnpmkaaGreatDen2
namespace Go.Proofs.YtopcobafmnpmkaaGreat
open Go.Abs Go.Proofs Go.RowKit

set_option maxRecDepth 100000 in
theorem fnExactBatchEngine_lifted (os : Os) (started : os.Started) (H : Type) (enc : TypeId × Value → H) :
    ReturnsInHanded {} Tryz.checked os 3 .any (Rows.fnExactBatchEngineSpec.pre6 enc Tryz.prog Tryz.f3 Rows.fnExactBatchEngineRow.domain false) (Rows.fnExactBatchEngineSpec.post enc Tryz.prog Tryz.f3 false true false false) := by
  refine returnsInHanded_of_change_sized (C := Tryz.checked) own_ok started (by kernel_rfl) Tryz.func3
    (ChangeSpec.witness6 (enc := enc) (C := Tryz.checked) false ⟨#[], #[.agg #[.slice none 0 0, .int .i64 0, .int .i64 0, .slice none 0 0, .slice none 0 0, .slice none 0 0, .int .i64 0, .int .i64 0, .int .i64 0], .slice none 0 0], []⟩ 8 (by kernel_rfl) (by kernel_rfl) (by kernel_rfl) (by kernel_rfl)) ?_
  intro W base args ds gs before hval hW _ hsz _
  exact law_post (P := Tryz.prog) (T := tt) (fn := Tryz.f3) (ss := [⟨true, .base .engine⟩, ⟨false, .list (.base .edit)⟩]) elem_ok laid_ok FnExactBatchEngine_sound (by kernel_rfl) (by kernel_rfl) (tb := 4) (by kernel_rfl) (by kernel_rfl) rfl
    (fun ds h => (by
      match ds, h with
      | [d0, d1], _ => rfl)) (fun x fx => law_FnExactBatchEngine x.1 x.2 (fun d hd => fx d (List.mem_append_left _ hd)) (show FitD B47 (.list (.base .edit) x.2) from (show Fit B47 (.list (.base .edit)) x.2 from (fun d hd => fx d (List.mem_append_right _ hd))) _ List.mem_cons_self)) hval hW hsz

set_option maxHeartbeats 4000000 in
set_option maxRecDepth 100000 in
theorem fnExactBatchEngine_facts : joinedFacts Tryz.prog 3 Tryz.f3 Rows.fnExactBatchEngineSpec Rows.fnExactBatchEngineRow = true := by
  unfold joinedFacts
  repeat' (with_reducible refine and_i ?_ ?_)
  all_goals first
    | with_reducible exact laid_ok
    | with_reducible exact rowed_ok
    | with_reducible exact enter_ok
    | with_reducible exact lifts_ok
    | with_reducible exact make_ok
    | with_reducible exact keys_ok
    | (as_aux_lemma => kernel_rfl)

theorem fnExactBatchEngine_holds : Rows.FnExactBatchEngineSaid :=
  OpenClaim.holds_of_wide 3 Tryz.f3 rfl rfl rfl rfl rfl rfl rfl ⟨rfl, rfl, rfl, rfl, rfl⟩ rfl rfl rfl rfl rfl (by kernel_rfl) Tryz.func3 fnExactBatchEngine_facts
    (of_decide_eq_true (by kernel_rfl)) (by unfold Func.isWrapper; first | (rw [if_pos (by decide +kernel)]; kernel_rfl) | (rw [if_neg (by decide +kernel)]; exact ⟨rfl, rfl⟩))
    (fun os started H enc _ => fnExactBatchEngine_lifted os started H enc)

#print axioms fnExactBatchEngine_holds
end Go.Proofs.YtopcobafmnpmkaaGreat
