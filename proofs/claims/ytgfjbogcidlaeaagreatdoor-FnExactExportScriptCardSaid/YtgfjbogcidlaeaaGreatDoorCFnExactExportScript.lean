import Derived.Test.YtgfjbogcidlaeaaGreatDoorFacts
import Derived.Test.YtgfjbogcidlaeaaGreatDoorMark0
import Derived.Test.YtgfjbogcidlaeaaGreatDoorDen5
import Derived.Test.YtgfjbogcidlaeaaGreatDoorDoorC
import Derived.Test.YtgfjbogcidlaeaaGreatDoorCards
import Derived.Test.YtgfjbogcidlaeaaGreatDoorTie
import Derived.SevenTiedAt
/-
  FnExactExportScript, called with any arguments that can be read, returns true, and its arguments read afterwards as they did.
  No condition but the row's own; what the row lists of package-level variables is tied to the program's text by the given tie.
-/
namespace Go.Proofs.YtgfjbogcidlaeaaGreatDoor
open Go.Abs Go.Proofs Go.RowKit

set_option maxRecDepth 100000 in
theorem pJ (os : Os) (started : os.Started) (H : Type) (enc : TypeId × Value → H) :
    ReturnsInHanded {} Tryz.checked os 4 .any (fun w args => (Rows.fnExactExportScriptSpec.pre enc Tryz.prog Tryz.f4 Rows.fnExactExportScriptRow.domain false w args ∧ laidMetH Tryz.prog ES w) ∧ sizedMet enc Tryz.prog Tryz.f4 (OpenSpec.ofChange Rows.fnExactExportScriptSpec) false w args)
      (Rows.fnExactExportScriptSpec.post enc Tryz.prog Tryz.f4 false true false false) := by
  refine oq (C := Tryz.checked) (X := fun w _ => laidMetH Tryz.prog ES w) (fun _ _ _ hh h => h.of_heap hh) adJ started (by kernel_rfl) Tryz.func4
    (ChangeSpec.witness_shaped (enc := enc) (C := Tryz.checked) (os := os) (X := fun w _ => laidMetH Tryz.prog ES w) false (World.laidAll Tryz.prog os ES) #[.agg #[.slice none 0 0]] 8 (World.laidAll_os _ _ _) (Tc os _) (by kernel_rfl) (by kernel_rfl) (by kernel_rfl) (door_met os _)) ?_
  intro W base args ds gs before hval hW _ hsz hL hsh _
  exact ZB (P := Tryz.prog) (T := tt) (fn := Tryz.f4) (ss := [⟨true, .base .notebook⟩]) gY V9 pX (by kernel_rfl) (by kernel_rfl) (tb := 4) (by kernel_rfl) (by kernel_rfl) rfl
    (fun ds h => (by
      match ds, h with
      | [d0], _ => rfl)) (fun x fx => rP x (fun d hd => fx d (hd))) hval hW hsz (TJ hL hsh)

set_option maxHeartbeats 4000000 in
set_option maxRecDepth 100000 in
theorem pV : joinedFacts Tryz.prog 4 Tryz.f4 Rows.fnExactExportScriptSpec Rows.fnExactExportScriptRow = true := by
  unfold joinedFacts
  repeat' (with_reducible refine aeI ?_ ?_)
  all_goals first
    | with_reducible exact V9
    | with_reducible exact Y2
    | with_reducible exact aaj
    | with_reducible exact ZA
    | with_reducible exact abu
    | with_reducible exact aby
    | (as_aux_lemma => kernel_rfl)

theorem fnExactExportScript_row_holds : Rows.FnExactExportScriptSaid :=
  OpenClaim.holds_of_wide 4 Tryz.f4 rfl rfl rfl rfl rfl rfl rfl ⟨rfl, rfl, rfl, rfl, rfl⟩ rfl rfl rfl rfl rfl (by kernel_rfl) Tryz.func4 pV
    (of_decide_eq_true (by kernel_rfl)) (by unfold Func.isWrapper; first | (rw [if_pos (by decide +kernel)]; kernel_rfl) | (rw [if_neg (by decide +kernel)]; exact ⟨rfl, rfl⟩))
    (fun os started H enc _ => pJ os started H enc)

theorem fnExactExportScript_holds : Rows.FnExactExportScriptCardSaid :=
  Claim7.holds_tied_plain_at .later [] [.data, .data, .data, .data, .sentinel, .sentinel, .pinned] true (true, "1f52beb5991a09f1b565f5059a588c48d02c5daeadb236530ced1e8c364cf287") true
    fnExactExportScript_row_holds (fun _ h => by cases h) (by kernel_rfl) (fun _ h => by cases h) fnExactExportScript_row_tie rfl ⟨rfl, rfl⟩ (by kernel_rfl) rfl
    (fun f fn hf hfn => by
      obtain rfl : f = 4 := Option.some.inj ((show Tryz.prog.funcNamed "loop.example/g00510/laws.FnExactExportScript" = some 4 by kernel_rfl).symm.trans hf) |>.symm
      obtain rfl : fn = Tryz.f4 := (Option.some.inj (Tryz.func4.symm.trans hfn)).symm
      exact ⟨by kernel_rfl, fun j t ht => by
        have hm : t ∈ Tryz.f4.params.toList := by simpa using Array.mem_of_getElem? ht
        have hall : (Tryz.f4.params.toList.all fun u => !Tryz.prog.wantsStandIn u) = true := by kernel_rfl
        exact (show Tryz.prog.wantsStandIn t = false by simpa using List.all_eq_true.1 hall t hm)⟩)
    (by kernel_rfl)

#print axioms fnExactExportScript_holds
end Go.Proofs.YtgfjbogcidlaeaaGreatDoor
