import Derived.Test.YtngjomkjlonfpaaGreatDoorFacts
import Derived.Test.YtngjomkjlonfpaaGreatDoorReplay2
import Derived.Test.YtngjomkjlonfpaaGreatDoorDen4
import Derived.Test.YtngjomkjlonfpaaGreatDoorDoorC
import Derived.Test.YtngjomkjlonfpaaGreatDoorCards
import Derived.Test.YtngjomkjlonfpaaGreatDoorTie
import Derived.SevenTiedAt
/-
 FnReplayed, called with any arguments that can be read, returns true, and its arguments read afterwards as they did.
 No condition but the row's own; what the row lists of package-level variables is tied to the program's text by the given tie.
-/
namespace Go.Proofs.YtngjomkjlonfpaaGreatDoor
open Go.Abs Go.Proofs Go.RowKit
set_option maxRecDepth 100000 in
theorem JF(os:Os)(started:os.Started)(H:Type)(enc:TypeId×Value->H) :
  ReturnsInHanded {} Tryz.checked os 3 .any (fun w args=>(Rows.fnReplayedSpec.pre enc Tryz.prog Tryz.f3 Rows.fnReplayedRow.domain false w args/\laidMetH Tryz.prog NH w)/\sizedMet enc Tryz.prog Tryz.f3 (OpenSpec.ofChange Rows.fnReplayedSpec) false w args)
   (Rows.fnReplayedSpec.post enc Tryz.prog Tryz.f3 false true false false):=by
 refine tX (C:=Tryz.checked) (X:=fun w _=>laidMetH Tryz.prog NH w) (fun _ _ _ hh h=>h.of_heap hh) ao7 started (by kernel_rfl) Tryz.func3
  (ChangeSpec.witness_shaped (enc:=enc) (C:=Tryz.checked) (os:=os) (X:=fun w _=>laidMetH Tryz.prog NH w) false (World.laidAll Tryz.prog os NH) #[.slice none 0 0] 8 (World.laidAll_os _ _ _) (abU os _) (by kernel_rfl) (by kernel_rfl) (by kernel_rfl) (door_met os _)) ?_
 intro W base args ds gs before hval c _ a e b _;exact ajk (P:=Tryz.prog) (T:=tt) (fn:=Tryz.f3) (ss:=[⟨false,.list (.base .u8)⟩]) kX afA MJ (by kernel_rfl) (by kernel_rfl) (tb:=4) (by kernel_rfl) (by kernel_rfl) rfl
  (fun ds h=>(by
   match ds,h with
   | [g],_=>rfl)) (fun x fx=>Rw x (show aW B47 (.list (.base .u8) x)from (show Fit B47 (.list (.base .u8)) x from (fun d f=>fx d (f))) _ aw)) hval c a (acn e b)
set_option maxHeartbeats 4000000 in
set_option maxRecDepth 100000 in
theorem L9:joinedFacts Tryz.prog 3 Tryz.f3 Rows.fnReplayedSpec Rows.fnReplayedRow=true:=by
 unfold joinedFacts;repeat' (with_reducible refine aqj ?_ ?_)
 all_goals first
  | with_reducible exact afA
  | with_reducible exact aiz
  | with_reducible exact ajX
  | with_reducible exact ajj
  | with_reducible exact alq
  | with_reducible exact alC
  | (as_aux_lemma=>kernel_rfl)
theorem fnReplayed_row_holds:Rows.FnReplayedSaid:=
 OpenClaim.holds_of_wide 3 Tryz.f3 rfl rfl rfl rfl rfl rfl rfl ⟨rfl,rfl,rfl,rfl,rfl⟩ rfl rfl rfl rfl rfl (by kernel_rfl) Tryz.func3 L9
  (of_decide_eq_true (by kernel_rfl)) (by unfold Func.isWrapper;first | (rw[if_pos (by decide +kernel)];kernel_rfl) | (rw[if_neg (by decide +kernel)];exact⟨rfl,rfl⟩))
  (fun os started H enc _=>JF os started H enc)
end Go.Proofs.YtngjomkjlonfpaaGreatDoor
