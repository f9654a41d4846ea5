/-
  FnExactAdaptEdit, called with any arguments that can be read, returns true, and its arguments read afterwards as they did.
  No condition but the row's own; what the row lists of package-level variables is tied to the program's text by the given tie.
-/
import Derived.Test.YtceinjokenbhjaaGreatDoorFacts
import Derived.Test.YtceinjokenbhjaaGreatDoorAdapt
import Derived.Test.YtceinjokenbhjaaGreatDoorDen5
import Derived.Test.YtceinjokenbhjaaGreatDoorDoorC
import Derived.Test.YtceinjokenbhjaaGreatDoorCards
import Derived.Test.YtceinjokenbhjaaGreatDoorTie
import Derived.SevenTiedAt
namespace Go.Proofs.YtceinjokenbhjaaGreatDoor
open Go.Abs Go.Proofs Go.RowKit

set_option maxRecDepth 100000 in
theorem fnExactAdaptEdit_lifted (os : Os) (started : os.Started) (H : Type) (enc : TypeId × Value → H) :
    ReturnsInHanded {} Tryz.checked os 3 .any (fun w args => (Rows.fnExactAdaptEditSpec.pre enc Tryz.prog Tryz.f3 Rows.fnExactAdaptEditRow.domain false w args ∧ laidMetH Tryz.prog laidL w) ∧ sizedMet enc Tryz.prog Tryz.f3 (OpenSpec.ofChange Rows.fnExactAdaptEditSpec) false w args)
      (Rows.fnExactAdaptEditSpec.post enc Tryz.prog Tryz.f3 false true false false) := by
  refine returnsInHanded_of_change_and (C := Tryz.checked) (X := fun w _ => laidMetH Tryz.prog laidL w) (fun _ _ _ hh h => h.of_heap hh) own_ok started (by kernel_rfl) Tryz.func3
    (ChangeSpec.witness_shaped (enc := enc) (C := Tryz.checked) (os := os) (X := fun w _ => laidMetH Tryz.prog laidL w) false (World.doorLaid Tryz.prog 2000 os) #[.agg #[.int .i64 0, .int .i64 0, .int .i64 0, .int .i64 0, .int .i64 0, .string ByteArray.empty, .string ByteArray.empty, .int .i64 0], .slice none 0 0] 8 rfl (door_shaped os _) (by kernel_rfl) (by kernel_rfl) (by kernel_rfl) (door_met os _)) ?_
  intro W base args ds gs before hval hW _ hsz hL _
  exact law_post (P := Tryz.prog) (T := tt) (fn := Tryz.f3) (ss := [⟨true, .base .edit⟩, ⟨false, .list (.base .op)⟩]) elem_ok laid_ok FnExactAdaptEdit_sound (by kernel_rfl) (by kernel_rfl) (tb := 4) (by kernel_rfl) (by kernel_rfl) rfl
    (fun ds h => (by
      match ds, h with
      | [d0, d1], _ => rfl)) (fun x fx => law_FnExactAdaptEdit x.1 x.2 (fun d hd => fx d (List.mem_append_left _ hd)) (show FitD B47 (.list (.base .op) x.2) from (show Fit B47 (.list (.base .op)) x.2 from (fun d hd => fx d (List.mem_append_right _ hd))) _ List.mem_cons_self)) hval hW hsz (amb_of_laid hL)

set_option maxHeartbeats 4000000 in
set_option maxRecDepth 100000 in
theorem fnExactAdaptEdit_facts : joinedFacts Tryz.prog 3 Tryz.f3 Rows.fnExactAdaptEditSpec Rows.fnExactAdaptEditRow = true := by
  unfold joinedFacts
  repeat' (with_reducible refine and_i ?_ ?_)
  all_goals first
    | with_reducible exact laid_ok
    | with_reducible exact rowed_ok
    | with_reducible exact enter_ok
    | with_reducible exact lifts_ok
    | with_reducible exact make_ok
    | with_reducible exact keys_ok
    | (as_aux_lemma => kernel_rfl)

theorem fnExactAdaptEdit_row_holds : Rows.FnExactAdaptEditSaid :=
  OpenClaim.holds_of_wide 3 Tryz.f3 rfl rfl rfl rfl rfl rfl rfl ⟨rfl, rfl, rfl, rfl, rfl⟩ rfl rfl rfl rfl rfl (by kernel_rfl) Tryz.func3 fnExactAdaptEdit_facts
    (of_decide_eq_true (by kernel_rfl)) (by unfold Func.isWrapper; first | (rw [if_pos (by decide +kernel)]; kernel_rfl) | (rw [if_neg (by decide +kernel)]; exact ⟨rfl, rfl⟩))
    (fun os started H enc _ => fnExactAdaptEdit_lifted os started H enc)

theorem fnExactAdaptEdit_holds : Rows.FnExactAdaptEditCardSaid :=
  Claim7.holds_tied_plain_at .later [] [.data, .data, .data, .sentinel, .sentinel] true (true, "6ee997e65943259b3c6cd1bb87ebb80fb37841cc3ca98d7a409eb73070c9eadc") true
    fnExactAdaptEdit_row_holds (fun _ h => by cases h) (by kernel_rfl) (fun _ h => by cases h) fnExactAdaptEdit_row_tie rfl ⟨rfl, rfl⟩ (by kernel_rfl) rfl
    (fun f fn hf hfn => by
      obtain rfl : f = 3 := Option.some.inj ((show Tryz.prog.funcNamed "loop.example/g00510/laws.FnExactAdaptEdit" = some 3 by kernel_rfl).symm.trans hf) |>.symm
      obtain rfl : fn = Tryz.f3 := (Option.some.inj (Tryz.func3.symm.trans hfn)).symm
      exact ⟨by kernel_rfl, fun j t ht => by
        have hm : t ∈ Tryz.f3.params.toList := by simpa using Array.mem_of_getElem? ht
        have hall : (Tryz.f3.params.toList.all fun u => !Tryz.prog.wantsStandIn u) = true := by kernel_rfl
        exact (show Tryz.prog.wantsStandIn t = false by simpa using List.all_eq_true.1 hall t hm)⟩)
    (by kernel_rfl)

#print axioms fnExactAdaptEdit_holds
end Go.Proofs.YtceinjokenbhjaaGreatDoor
