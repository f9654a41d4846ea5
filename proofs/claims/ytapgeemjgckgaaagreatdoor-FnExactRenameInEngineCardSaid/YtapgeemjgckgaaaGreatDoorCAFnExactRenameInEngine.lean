import Derived.Test.YtapgeemjgckgaaaGreatDoorFacts
import Derived.Test.YtapgeemjgckgaaaGreatDoorRenV1
import Derived.Test.YtapgeemjgckgaaaGreatDoorDen5
import Derived.Test.YtapgeemjgckgaaaGreatDoorDoorC
import Derived.Test.YtapgeemjgckgaaaGreatDoorCards
import Derived.Test.YtapgeemjgckgaaaGreatDoorTie
import Derived.SevenTiedAt
/-
 FnExactRenameInEngine, called with any arguments that can be read, returns true, and its arguments read afterwards as they did.
 No condition but the row's own; what the row lists of package-level variables is tied to the program's text by the given tie.
-/
namespace Go.Proofs.YtapgeemjgckgaaaGreatDoor
open Go.Abs Go.Proofs Go.RowKit
set_option maxRecDepth 100000 in
theorem qQ(os:Os)(started:os.Started)(H:Type)(enc:TypeId×Value->H) :
  ReturnsInHanded {} Tryz.checked os 3 .any (fun w args=>(Rows.fnExactRenameInEngineSpec.pre enc Tryz.prog Tryz.f3 Rows.fnExactRenameInEngineRow.domain false w args/\laidMetH Tryz.prog MN w)/\sizedMet enc Tryz.prog Tryz.f3 (OpenSpec.ofChange Rows.fnExactRenameInEngineSpec) false w args)
   (Rows.fnExactRenameInEngineSpec.post enc Tryz.prog Tryz.f3 false true false false):=by
 refine rX (C:=Tryz.checked) (X:=fun w _=>laidMetH Tryz.prog MN w) (fun _ _ _ hh h=>h.of_heap hh) aoA started (by kernel_rfl) Tryz.func3
  (ChangeSpec.witness_shaped (enc:=enc) (C:=Tryz.checked) (os:=os) (X:=fun w _=>laidMetH Tryz.prog MN w) false (World.laidAll Tryz.prog os MN) #[.agg #[.slice none 0 0,.int .i64 0,.int .i64 0,.slice none 0 0,.slice none 0 0,.slice none 0 0,.int .i64 0,.int .i64 0,.int .i64 0],.string ByteArray.empty,.string ByteArray.empty] 8 (World.laidAll_os _ _ _) (abB os _) (by kernel_rfl) (by kernel_rfl) (by kernel_rfl) (door_met os _)) ?_
 intro W base args ds gs before hval c _ a e b _;exact ajd (P:=Tryz.prog) (T:=tt) (fn:=Tryz.f3) (ss:=[⟨true,.base .engine⟩,⟨false,.base .str⟩,⟨false,.base .str⟩]) jw ae5 sN (by kernel_rfl) (by kernel_rfl) (tb:=4) (by kernel_rfl) (by kernel_rfl) rfl
  (fun ds h=>(by
   match ds,h with
   | [f,g,i],_=>rfl)) (fun x fx=>vG x.1 x.2.1 x.2.2 (fun d hd=>fx d (List.mem_append_left _ hd)) (show aT B47 (.str x.2.1)from (show Fit B47 (.base .str) x.2.1 from (fun d hd=>fx d (List.mem_append_right _ (List.mem_append_left _ hd)))) _ ar) (show aT B47 (.str x.2.2)from (show Fit B47 (.base .str) x.2.2 from (fun d hd=>fx d (List.mem_append_right _ (List.mem_append_right _ hd)))) _ ar)) hval c a (ab1 e b)
set_option maxHeartbeats 4000000 in
set_option maxRecDepth 100000 in
theorem sD:joinedFacts Tryz.prog 3 Tryz.f3 Rows.fnExactRenameInEngineSpec Rows.fnExactRenameInEngineRow=true:=by
 unfold joinedFacts;repeat' (with_reducible refine apL ?_ ?_)
 all_goals first
  | with_reducible exact ae5
  | with_reducible exact ait
  | with_reducible exact ajT
  | with_reducible exact ajb
  | with_reducible exact ak0
  | with_reducible exact ak3
  | (as_aux_lemma=>kernel_rfl)
theorem fnExactRenameInEngine_row_holds:Rows.FnExactRenameInEngineSaid:=
 OpenClaim.holds_of_wide 3 Tryz.f3 rfl rfl rfl rfl rfl rfl rfl ⟨rfl,rfl,rfl,rfl,rfl⟩ rfl rfl rfl rfl rfl (by kernel_rfl) Tryz.func3 sD
  (of_decide_eq_true (by kernel_rfl)) (by unfold Func.isWrapper;first | (rw[if_pos (by decide +kernel)];kernel_rfl) | (rw[if_neg (by decide +kernel)];exact⟨rfl,rfl⟩))
  (fun os started H enc _=>qQ os started H enc)
end Go.Proofs.YtapgeemjgckgaaaGreatDoor
