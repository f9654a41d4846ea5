/-
  FnAddedOps, called with any arguments that can be read, returns true, and its arguments read afterwards as they did.
  No condition but the row's own.
-/
import Derived.Test.YtjpmhfhcbehgcaaGreatFacts
import Derived.Test.YtjpmhfhcbehgcaaGreatAdds1
import Derived.Test.YtjpmhfhcbehgcaaGreatDen1
namespace Go.Proofs.YtjpmhfhcbehgcaaGreat
open Go.Abs Go.Proofs Go.RowKit

set_option maxRecDepth 100000 in
theorem fnAddedOps_lifted (os : Os) (started : os.Started) (H : Type) (enc : TypeId × Value → H) :
    ReturnsInHanded {} Tryz.checked os 3 .any (Rows.fnAddedOpsSpec.pre6 enc Tryz.prog Tryz.f3 Rows.fnAddedOpsRow.domain false) (Rows.fnAddedOpsSpec.post enc Tryz.prog Tryz.f3 false true false false) := by
  refine returnsInHanded_of_change_sized (C := Tryz.checked) own_ok started (by kernel_rfl) Tryz.func3
    (ChangeSpec.witness6 (enc := enc) (C := Tryz.checked) false ⟨#[], #[.slice none 0 0], []⟩ 8 (by kernel_rfl) (by kernel_rfl) (by kernel_rfl) (by kernel_rfl)) ?_
  intro W base args ds gs before hval hW _ hsz _
  exact law_post (P := Tryz.prog) (T := tt) (fn := Tryz.f3) (ss := [⟨false, .list (.base .u8)⟩]) elem_ok laid_ok FnAddedOps_sound (by kernel_rfl) (by kernel_rfl) (tb := 4) (by kernel_rfl) (by kernel_rfl) rfl
    (fun ds h => (by
      match ds, h with
      | [d0], _ => rfl)) (fun x fx => law_FnAddedOps x (show FitD B47 (.list (.base .u8) x) from (show Fit B47 (.list (.base .u8)) x from (fun d hd => fx d (hd))) _ List.mem_cons_self)) hval hW hsz (amb_any W)

set_option maxHeartbeats 4000000 in
set_option maxRecDepth 100000 in
theorem fnAddedOps_facts : joinedFacts Tryz.prog 3 Tryz.f3 Rows.fnAddedOpsSpec Rows.fnAddedOpsRow = true := by
  unfold joinedFacts
  repeat' (with_reducible refine and_i ?_ ?_)
  all_goals first
    | with_reducible exact laid_ok
    | with_reducible exact rowed_ok
    | with_reducible exact enter_ok
    | with_reducible exact lifts_ok
    | with_reducible exact make_ok
    | with_reducible exact keys_ok
    | (as_aux_lemma => kernel_rfl)

theorem fnAddedOps_holds : Rows.FnAddedOpsSaid :=
  OpenClaim.holds_of_wide 3 Tryz.f3 rfl rfl rfl rfl rfl rfl rfl ⟨rfl, rfl, rfl, rfl, rfl⟩ rfl rfl rfl rfl rfl (by kernel_rfl) Tryz.func3 fnAddedOps_facts
    (of_decide_eq_true (by kernel_rfl)) (by unfold Func.isWrapper; first | (rw [if_pos (by decide +kernel)]; kernel_rfl) | (rw [if_neg (by decide +kernel)]; exact ⟨rfl, rfl⟩))
    (fun os started H enc _ => fnAddedOps_lifted os started H enc)

#print axioms fnAddedOps_holds
end Go.Proofs.YtjpmhfhcbehgcaaGreat
