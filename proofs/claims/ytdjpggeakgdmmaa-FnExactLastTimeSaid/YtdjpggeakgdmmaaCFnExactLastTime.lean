/-
  FnExactLastTime, called with any arguments that can be read, returns true, and its arguments read afterwards as they did.
  No condition but the row's own.
-/
import Derived.Test.YtdjpggeakgdmmaaLink3
import Derived.Test.YtdjpggeakgdmmaaLawsA
import Derived.Test.YtdjpggeakgdmmaaDen3
namespace Go.Proofs.Ytdjpggeakgdmmaa
open Go.Abs Go.Proofs Go.RowKit

set_option maxRecDepth 100000 in
theorem fnExactLastTime_lifted (os : Os) (started : os.Started) (H : Type) (enc : TypeId × Value → H) :
    ReturnsInHanded {} Try.checked os 13 .any (Rows.fnExactLastTimeSpec.pre6 enc Try.prog Try.f13 Rows.fnExactLastTimeRow.domain false) (Rows.fnExactLastTimeSpec.post enc Try.prog Try.f13 false true false false) := by
  refine returnsInHanded_of_change_sized (C := Try.checked) own_ok started (by kernel_rfl) Try.func13
    (ChangeSpec.witness6 (enc := enc) (C := Try.checked) false ⟨#[], #[.slice none 0 0], []⟩ 8 (by kernel_rfl) (by kernel_rfl) (by kernel_rfl) (by kernel_rfl)) ?_
  intro W base args ds gs before hval hW _ hsz _
  exact law_post (P := Try.prog) (T := tt) (fn := Try.f13) (ss := [⟨false, .list (.base .op)⟩]) elem_ok laid_ok FnExactLastTime_sound (by kernel_rfl) (by kernel_rfl) (tb := 4) (by kernel_rfl) (by kernel_rfl) rfl
    (fun ds h => (by
      match ds, h with
      | [d0], _ => rfl)) (fun x fx => law_FnExactLastTime x (show FitD B47 (.list (.base .op) x) from (show Fit B47 (.list (.base .op)) x from (fun d hd => fx d (hd))) _ List.mem_cons_self)) hval hW hsz

theorem fnExactLastTime_holds : Rows.FnExactLastTimeSaid :=
  OpenClaim.holds_of_wide 13 Try.f13 rfl rfl rfl rfl rfl rfl rfl ⟨rfl, rfl, rfl, rfl, rfl⟩ rfl rfl rfl rfl rfl (by kernel_rfl) Try.func13 (by kernel_rfl)
    (of_decide_eq_true (by kernel_rfl)) (by unfold Func.isWrapper; first | (rw [if_pos (by decide +kernel)]; kernel_rfl) | (rw [if_neg (by decide +kernel)]; exact ⟨rfl, rfl⟩))
    (fun os started H enc _ => fnExactLastTime_lifted os started H enc)

#print axioms fnExactLastTime_holds
end Go.Proofs.Ytdjpggeakgdmmaa
