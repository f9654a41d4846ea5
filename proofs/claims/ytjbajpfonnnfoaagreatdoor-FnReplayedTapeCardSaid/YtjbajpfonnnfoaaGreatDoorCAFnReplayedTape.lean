import Derived.Test.YtjbajpfonnnfoaaGreatDoorFacts
import Derived.Test.YtjbajpfonnnfoaaGreatDoorDrE
import Derived.Test.YtjbajpfonnnfoaaGreatDoorDen5
import Derived.Test.YtjbajpfonnnfoaaGreatDoorDoorC
import Derived.Test.YtjbajpfonnnfoaaGreatDoorCards
import Derived.Test.YtjbajpfonnnfoaaGreatDoorTie
import Derived.SevenTiedAt
/-
 FnReplayedTape, called with any arguments that can be read, returns true, and its arguments read afterwards as they did.
 No condition but the row's own; what the row lists of package-level variables is tied to the program's text by the given tie.
-/
namespace Go.Proofs.YtjbajpfonnnfoaaGreatDoor
open Go.Abs Go.Proofs Go.RowKit
set_option maxRecDepth 100000 in
theorem yV(os:Os)(started:os.Started)(H:Type)(enc:TypeId×Value->H) :
  ReturnsInHanded {} Tryz.checked os 3 .any (fun w args=>(Rows.fnReplayedTapeSpec.pre enc Tryz.prog Tryz.f3 Rows.fnReplayedTapeRow.domain false w args/\laidMetH Tryz.prog Jo w)/\sizedMet enc Tryz.prog Tryz.f3 (OpenSpec.ofChange Rows.fnReplayedTapeSpec) false w args)
   (Rows.fnReplayedTapeSpec.post enc Tryz.prog Tryz.f3 false true false false):=by
 refine qQ (C:=Tryz.checked) (X:=fun w _=>laidMetH Tryz.prog Jo w) (fun _ _ _ hh h=>h.of_heap hh) ajT started (by kernel_rfl) Tryz.func3
  (ChangeSpec.witness_shaped (enc:=enc) (C:=Tryz.checked) (os:=os) (X:=fun w _=>laidMetH Tryz.prog Jo w) false (World.laidAll Tryz.prog os Jo) #[.slice none 0 0] 8 (World.laidAll_os _ _ _) (XY os _) (by kernel_rfl) (by kernel_rfl) (by kernel_rfl) (door_met os _)) ?_
 intro W base args ds gs before hval c _ a e b _;exact aeK (P:=Tryz.prog) (T:=tt) (fn:=Tryz.f3) (ss:=[⟨false,.list (.base .u8)⟩]) jH aaL Ba (by kernel_rfl) (by kernel_rfl) (tb:=4) (by kernel_rfl) (by kernel_rfl) rfl
  (fun ds h=>(by
   match ds,h with
   | [g],_=>rfl)) (fun x fx=>D5 x (show bQ B47 (.list (.base .u8) x)from (show Fit B47 (.list (.base .u8)) x from (fun d f=>fx d (f))) _ aq)) hval c a (Yg e b)
set_option maxHeartbeats 4000000 in
set_option maxRecDepth 100000 in
theorem AX:joinedFacts Tryz.prog 3 Tryz.f3 Rows.fnReplayedTapeSpec Rows.fnReplayedTapeRow=true:=by
 unfold joinedFacts;repeat' (with_reducible refine alh ?_ ?_)
 all_goals first
  | with_reducible exact aaL
  | with_reducible exact adU
  | with_reducible exact afh
  | with_reducible exact aeI
  | with_reducible exact agW
  | with_reducible exact ag1
  | (as_aux_lemma=>kernel_rfl)
theorem fnReplayedTape_row_holds:Rows.FnReplayedTapeSaid:=
 OpenClaim.holds_of_wide 3 Tryz.f3 rfl rfl rfl rfl rfl rfl rfl ⟨rfl,rfl,rfl,rfl,rfl⟩ rfl rfl rfl rfl rfl (by kernel_rfl) Tryz.func3 AX
  (of_decide_eq_true (by kernel_rfl)) (by unfold Func.isWrapper;first | (rw[if_pos (by decide +kernel)];kernel_rfl) | (rw[if_neg (by decide +kernel)];exact⟨rfl,rfl⟩))
  (fun os started H enc _=>yV os started H enc)
