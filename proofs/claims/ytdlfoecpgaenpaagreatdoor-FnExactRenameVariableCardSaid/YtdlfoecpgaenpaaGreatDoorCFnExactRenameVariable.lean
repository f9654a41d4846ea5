/-
  FnExactRenameVariable, called with any arguments that can be read, returns true, and its arguments read afterwards as they did.
  No condition but the row's own; what the row lists of package-level variables is tied to the program's text by the given tie.
-/
import Derived.Test.YtdlfoecpgaenpaaGreatDoorFacts
import Derived.Test.YtdlfoecpgaenpaaGreatDoorRenV3
import Derived.Test.YtdlfoecpgaenpaaGreatDoorDen3
import Derived.Test.YtdlfoecpgaenpaaGreatDoorDoorC
import Derived.Test.YtdlfoecpgaenpaaGreatDoorCards
import Derived.Test.YtdlfoecpgaenpaaGreatDoorTie
import Derived.SevenTiedAt
namespace Go.Proofs.YtdlfoecpgaenpaaGreatDoor
open Go.Abs Go.Proofs Go.RowKit

set_option maxRecDepth 100000 in
theorem fnExactRenameVariable_lifted (os : Os) (started : os.Started) (H : Type) (enc : TypeId × Value → H) :
    ReturnsInHanded {} Tryz.checked os 3 .any (fun w args => (Rows.fnExactRenameVariableSpec.pre enc Tryz.prog Tryz.f3 Rows.fnExactRenameVariableRow.domain false w args ∧ laidMetH Tryz.prog laidL w) ∧ sizedMet enc Tryz.prog Tryz.f3 (OpenSpec.ofChange Rows.fnExactRenameVariableSpec) false w args)
      (Rows.fnExactRenameVariableSpec.post enc Tryz.prog Tryz.f3 false true false false) := by
  refine handed_of_change_and_shaped (C := Tryz.checked) (X := fun w _ => laidMetH Tryz.prog laidL w) (fun _ _ _ hh h => h.of_heap hh) own_ok started (by kernel_rfl) Tryz.func3
    (ChangeSpec.witness_shaped (enc := enc) (C := Tryz.checked) (os := os) (X := fun w _ => laidMetH Tryz.prog laidL w) false (World.laidAll Tryz.prog os laidL) #[.agg #[.slice none 0 0], .string ByteArray.empty, .string ByteArray.empty] 8 (World.laidAll_os _ _ _) (door_shaped os _) (by kernel_rfl) (by kernel_rfl) (by kernel_rfl) (door_met os _)) ?_
  intro W base args ds gs before hval hW _ hsz hL hsh _
  exact law_post (P := Tryz.prog) (T := tt) (fn := Tryz.f3) (ss := [⟨true, .base .notebook⟩, ⟨false, .base .str⟩, ⟨false, .base .str⟩]) elem_ok laid_ok FnExactRenameVariable_sound (by kernel_rfl) (by kernel_rfl) (tb := 4) (by kernel_rfl) (by kernel_rfl) rfl
    (fun ds h => (by
      match ds, h with
      | [d0, d1, d2], _ => rfl)) (fun x fx => law_FnExactRenameVariable x.1 x.2.1 x.2.2 (fun d hd => fx d (List.mem_append_left _ hd)) (show FitD B47 (.str x.2.1) from (show Fit B47 (.base .str) x.2.1 from (fun d hd => fx d (List.mem_append_right _ (List.mem_append_left _ hd)))) _ List.mem_cons_self) (show FitD B47 (.str x.2.2) from (show Fit B47 (.base .str) x.2.2 from (fun d hd => fx d (List.mem_append_right _ (List.mem_append_right _ hd)))) _ List.mem_cons_self)) hval hW hsz (amb_of_laid hL hsh)

set_option maxHeartbeats 4000000 in
set_option maxRecDepth 100000 in
theorem fnExactRenameVariable_facts : joinedFacts Tryz.prog 3 Tryz.f3 Rows.fnExactRenameVariableSpec Rows.fnExactRenameVariableRow = true := by
  unfold joinedFacts
  repeat' (with_reducible refine and_i ?_ ?_)
  all_goals first
    | with_reducible exact laid_ok
    | with_reducible exact rowed_ok
    | with_reducible exact enter_ok
    | with_reducible exact lifts_ok
    | with_reducible exact make_ok
    | with_reducible exact keys_ok
    | (as_aux_lemma => kernel_rfl)

theorem fnExactRenameVariable_row_holds : Rows.FnExactRenameVariableSaid :=
  OpenClaim.holds_of_wide 3 Tryz.f3 rfl rfl rfl rfl rfl rfl rfl ⟨rfl, rfl, rfl, rfl, rfl⟩ rfl rfl rfl rfl rfl (by kernel_rfl) Tryz.func3 fnExactRenameVariable_facts
    (of_decide_eq_true (by kernel_rfl)) (by unfold Func.isWrapper; first | (rw [if_pos (by decide +kernel)]; kernel_rfl) | (rw [if_neg (by decide +kernel)]; exact ⟨rfl, rfl⟩))
    (fun os started H enc _ => fnExactRenameVariable_lifted os started H enc)

theorem fnExactRenameVariable_holds : Rows.FnExactRenameVariableCardSaid :=
  Claim7.holds_tied_plain_at .later [] [.data, .data, .data, .data, .sentinel, .sentinel, .pinned] true (true, "70add63c140e9b917d7d4fef2d216ba10f48c651253fdd8aff2da0ea597a06f4") true
    fnExactRenameVariable_row_holds (fun _ h => by cases h) (by kernel_rfl) (fun _ h => by cases h) fnExactRenameVariable_row_tie rfl ⟨rfl, rfl⟩ (by kernel_rfl) rfl
    (fun f fn hf hfn => by
      obtain rfl : f = 3 := Option.some.inj ((show Tryz.prog.funcNamed "loop.example/g00510/laws.FnExactRenameVariable" = some 3 by kernel_rfl).symm.trans hf) |>.symm
      obtain rfl : fn = Tryz.f3 := (Option.some.inj (Tryz.func3.symm.trans hfn)).symm
      exact ⟨by kernel_rfl, fun j t ht => by
        have hm : t ∈ Tryz.f3.params.toList := by simpa using Array.mem_of_getElem? ht
        have hall : (Tryz.f3.params.toList.all fun u => !Tryz.prog.wantsStandIn u) = true := by kernel_rfl
        exact (show Tryz.prog.wantsStandIn t = false by simpa using List.all_eq_true.1 hall t hm)⟩)
    (by kernel_rfl)

#print axioms fnExactRenameVariable_holds
end Go.Proofs.YtdlfoecpgaenpaaGreatDoor
