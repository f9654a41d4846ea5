/-
  FnExactIsValidHistory, called with any arguments that can be read, returns true, and its arguments read afterwards as they did.
  No condition but the row's own.
-/
import Derived.Test.YtdjpggeakgdmmaaLink3
import Derived.Test.YtdjpggeakgdmmaaPlain6
import Derived.Test.YtdjpggeakgdmmaaDen3
namespace Go.Proofs.Ytdjpggeakgdmmaa
open Go.Abs Go.Proofs Go.RowKit

set_option maxRecDepth 100000 in
theorem fnExactIsValidHistory_lifted (os : Os) (started : os.Started) (H : Type) (enc : TypeId × Value → H) :
    ReturnsInHanded {} Try.checked os 7 .any (Rows.fnExactIsValidHistorySpec.pre6 enc Try.prog Try.f7 Rows.fnExactIsValidHistoryRow.domain false) (Rows.fnExactIsValidHistorySpec.post enc Try.prog Try.f7 false true false false) := by
  refine returnsInHanded_of_change_sized (C := Try.checked) own_ok started (by kernel_rfl) Try.func7
    (ChangeSpec.witness6 (enc := enc) (C := Try.checked) false ⟨#[], #[.agg #[.slice none 0 0, .slice none 0 0, .int .i64 0]], []⟩ 8 (by kernel_rfl) (by kernel_rfl) (by kernel_rfl) (by kernel_rfl)) ?_
  intro W base args ds gs before hval hW _ hsz _
  exact law_post (P := Try.prog) (T := tt) (fn := Try.f7) (ss := [⟨true, .base .history⟩]) elem_ok laid_ok FnExactIsValidHistory_sound (by kernel_rfl) (by kernel_rfl) (tb := 4) (by kernel_rfl) (by kernel_rfl) rfl
    (fun ds h => (by
      match ds, h with
      | [d0], _ => rfl)) (fun x fx => law_FnExactIsValidHistory x (fun d hd => fx d (hd))) hval hW hsz

theorem fnExactIsValidHistory_holds : Rows.FnExactIsValidHistorySaid :=
  OpenClaim.holds_of_wide 7 Try.f7 rfl rfl rfl rfl rfl rfl rfl ⟨rfl, rfl, rfl, rfl, rfl⟩ rfl rfl rfl rfl rfl (by kernel_rfl) Try.func7 (by kernel_rfl)
    (of_decide_eq_true (by kernel_rfl)) (by unfold Func.isWrapper; first | (rw [if_pos (by decide +kernel)]; kernel_rfl) | (rw [if_neg (by decide +kernel)]; exact ⟨rfl, rfl⟩))
    (fun os started H enc _ => fnExactIsValidHistory_lifted os started H enc)

#print axioms fnExactIsValidHistory_holds
end Go.Proofs.Ytdjpggeakgdmmaa
