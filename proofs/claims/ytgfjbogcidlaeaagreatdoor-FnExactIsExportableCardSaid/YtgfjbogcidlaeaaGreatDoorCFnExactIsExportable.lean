import Derived.Test.YtgfjbogcidlaeaaGreatDoorFacts
import Derived.Test.YtgfjbogcidlaeaaGreatDoorGraph1
import Derived.Test.YtgfjbogcidlaeaaGreatDoorDen5
import Derived.Test.YtgfjbogcidlaeaaGreatDoorDoorC
import Derived.Test.YtgfjbogcidlaeaaGreatDoorCards
import Derived.Test.YtgfjbogcidlaeaaGreatDoorTie
import Derived.SevenTiedAt
/-
  FnExactIsExportable, called with any arguments that can be read, returns true, and its arguments read afterwards as they did.
  No condition but the row's own; what the row lists of package-level variables is tied to the program's text by the given tie.
-/
namespace Go.Proofs.YtgfjbogcidlaeaaGreatDoor
open Go.Abs Go.Proofs Go.RowKit

set_option maxRecDepth 100000 in
theorem fnExactIsExportable_lifted (os : Os) (started : os.Started) (H : Type) (enc : TypeId × Value → H) :
    ReturnsInHanded {} Tryz.checked os 3 .any (fun w args => (Rows.fnExactIsExportableSpec.pre enc Tryz.prog Tryz.f3 Rows.fnExactIsExportableRow.domain false w args ∧ laidMetH Tryz.prog laidL w) ∧ sizedMet enc Tryz.prog Tryz.f3 (OpenSpec.ofChange Rows.fnExactIsExportableSpec) false w args)
      (Rows.fnExactIsExportableSpec.post enc Tryz.prog Tryz.f3 false true false false) := by
  refine handed_of_change_and_shaped (C := Tryz.checked) (X := fun w _ => laidMetH Tryz.prog laidL w) (fun _ _ _ hh h => h.of_heap hh) own_ok started (by kernel_rfl) Tryz.func3
    (ChangeSpec.witness_shaped (enc := enc) (C := Tryz.checked) (os := os) (X := fun w _ => laidMetH Tryz.prog laidL w) false (World.laidAll Tryz.prog os laidL) #[.agg #[.slice none 0 0]] 8 (World.laidAll_os _ _ _) (door_shaped os _) (by kernel_rfl) (by kernel_rfl) (by kernel_rfl) (door_met os _)) ?_
  intro W base args ds gs before hval hW _ hsz hL hsh _
  exact law_post (P := Tryz.prog) (T := tt) (fn := Tryz.f3) (ss := [⟨true, .base .notebook⟩]) elem_ok laid_ok FnExactIsExportable_sound (by kernel_rfl) (by kernel_rfl) (tb := 4) (by kernel_rfl) (by kernel_rfl) rfl
    (fun ds h => (by
      match ds, h with
      | [d0], _ => rfl)) (fun x fx => law_FnExactIsExportable x (fun d hd => fx d (hd))) hval hW hsz (amb_of_laid hL hsh)

set_option maxHeartbeats 4000000 in
set_option maxRecDepth 100000 in
theorem fnExactIsExportable_facts : joinedFacts Tryz.prog 3 Tryz.f3 Rows.fnExactIsExportableSpec Rows.fnExactIsExportableRow = true := by
  unfold joinedFacts
  repeat' (with_reducible refine and_i ?_ ?_)
  all_goals first
    | with_reducible exact laid_ok
    | with_reducible exact rowed_ok
    | with_reducible exact enter_ok
    | with_reducible exact lifts_ok
    | with_reducible exact make_ok
    | with_reducible exact keys_ok
    | (as_aux_lemma => kernel_rfl)

theorem fnExactIsExportable_row_holds : Rows.FnExactIsExportableSaid :=
  OpenClaim.holds_of_wide 3 Tryz.f3 rfl rfl rfl rfl rfl rfl rfl ⟨rfl, rfl, rfl, rfl, rfl⟩ rfl rfl rfl rfl rfl (by kernel_rfl) Tryz.func3 fnExactIsExportable_facts
    (of_decide_eq_true (by kernel_rfl)) (by unfold Func.isWrapper; first | (rw [if_pos (by decide +kernel)]; kernel_rfl) | (rw [if_neg (by decide +kernel)]; exact ⟨rfl, rfl⟩))
    (fun os started H enc _ => fnExactIsExportable_lifted os started H enc)

theorem fnExactIsExportable_holds : Rows.FnExactIsExportableCardSaid :=
  Claim7.holds_tied_plain_at .later [] [.data, .data, .data, .data, .sentinel, .sentinel, .pinned] true (true, "1f52beb5991a09f1b565f5059a588c48d02c5daeadb236530ced1e8c364cf287") true
    fnExactIsExportable_row_holds (fun _ h => by cases h) (by kernel_rfl) (fun _ h => by cases h) fnExactIsExportable_row_tie rfl ⟨rfl, rfl⟩ (by kernel_rfl) rfl
    (fun f fn hf hfn => by
      obtain rfl : f = 3 := Option.some.inj ((show Tryz.prog.funcNamed "loop.example/g00510/laws.FnExactIsExportable" = some 3 by kernel_rfl).symm.trans hf) |>.symm
      obtain rfl : fn = Tryz.f3 := (Option.some.inj (Tryz.func3.symm.trans hfn)).symm
      exact ⟨by kernel_rfl, fun j t ht => by
        have hm : t ∈ Tryz.f3.params.toList := by simpa using Array.mem_of_getElem? ht
        have hall : (Tryz.f3.params.toList.all fun u => !Tryz.prog.wantsStandIn u) = true := by kernel_rfl
        exact (show Tryz.prog.wantsStandIn t = false by simpa using List.all_eq_true.1 hall t hm)⟩)
    (by kernel_rfl)

#print axioms fnExactIsExportable_holds
end Go.Proofs.YtgfjbogcidlaeaaGreatDoor
