import Derived.Test.YtbbmkcioplbhbaaGreatDoorFacts
import Derived.Test.YtbbmkcioplbhbaaGreatDoorReplay2
import Derived.Test.YtbbmkcioplbhbaaGreatDoorDen4
import Derived.Test.YtbbmkcioplbhbaaGreatDoorDoorC
import Derived.Test.YtbbmkcioplbhbaaGreatDoorCards
import Derived.Test.YtbbmkcioplbhbaaGreatDoorTie
import Derived.SevenTiedAt
/-
 FnExactReplayLog, called with any arguments that can be read, returns true, and its arguments read afterwards as they did.
 No condition but the row's own; what the row lists of package-level variables is tied to the program's text by the given tie.
-/
namespace Go.Proofs.YtbbmkcioplbhbaaGreatDoor
open Go.Abs Go.Proofs Go.RowKit
set_option maxRecDepth 100000 in
theorem yG(os:Os)(started:os.Started)(H:Type)(enc:TypeId×Value->H) :
  ReturnsInHanded {} Tryz.checked os 4 .any (fun w args=>(Rows.fnExactReplayLogSpec.pre enc Tryz.prog Tryz.f4 Rows.fnExactReplayLogRow.domain false w args/\laidMetH Tryz.prog Na w)/\sizedMet enc Tryz.prog Tryz.f4 (OpenSpec.ofChange Rows.fnExactReplayLogSpec) false w args)
   (Rows.fnExactReplayLogSpec.post enc Tryz.prog Tryz.f4 false true false false):=by
 refine sJ (C:=Tryz.checked) (X:=fun w _=>laidMetH Tryz.prog Na w) (fun _ _ _ hh h=>h.of_heap hh) apT started (by kernel_rfl) Tryz.func4
  (ChangeSpec.witness_shaped (enc:=enc) (C:=Tryz.checked) (os:=os) (X:=fun w _=>laidMetH Tryz.prog Na w) false (World.laidAll Tryz.prog os Na) #[.slice none 0 0] 8 (World.laidAll_os _ _ _) (ab7 os _) (by kernel_rfl) (by kernel_rfl) (by kernel_rfl) (door_met os _)) ?_
 intro W base args ds gs before hval c _ a e b _;exact ajO (P:=Tryz.prog) (T:=tt) (fn:=Tryz.f4) (ss:=[⟨false,.list (.base .op)⟩]) jD afI Aw (by kernel_rfl) (by kernel_rfl) (tb:=4) (by kernel_rfl) (by kernel_rfl) rfl
  (fun ds h=>(by
   match ds,h with
   | [f],_=>rfl)) (fun x fx=>CJ x (show aW B47 (.list (.base .op) x)from (show Fit B47 (.list (.base .op)) x from (fun d hd=>fx d (hd))) _ aw)) hval c a (acD e b)
set_option maxHeartbeats 4000000 in
set_option maxRecDepth 100000 in
theorem Af:joinedFacts Tryz.prog 4 Tryz.f4 Rows.fnExactReplayLogSpec Rows.fnExactReplayLogRow=true:=by
 unfold joinedFacts;repeat' (with_reducible refine aq1 ?_ ?_)
 all_goals first
  | with_reducible exact afI
  | with_reducible exact ai1
  | with_reducible exact akB
  | with_reducible exact ajN
  | with_reducible exact alZ
  | with_reducible exact al2
  | (as_aux_lemma=>kernel_rfl)
theorem fnExactReplayLog_row_holds:Rows.FnExactReplayLogSaid:=
 OpenClaim.holds_of_wide 4 Tryz.f4 rfl rfl rfl rfl rfl rfl rfl ⟨rfl,rfl,rfl,rfl,rfl⟩ rfl rfl rfl rfl rfl (by kernel_rfl) Tryz.func4 Af
  (of_decide_eq_true (by kernel_rfl)) (by unfold Func.isWrapper;first | (rw[if_pos (by decide +kernel)];kernel_rfl) | (rw[if_neg (by decide +kernel)];exact⟨rfl,rfl⟩))
  (fun os started H enc _=>yG os started H enc)
end Go.Proofs.YtbbmkcioplbhbaaGreatDoor
