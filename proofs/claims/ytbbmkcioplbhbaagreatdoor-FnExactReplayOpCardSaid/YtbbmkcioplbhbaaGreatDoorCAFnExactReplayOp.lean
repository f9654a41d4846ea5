import Derived.Test.YtbbmkcioplbhbaaGreatDoorFacts
import Derived.Test.YtbbmkcioplbhbaaGreatDoorReplay2
import Derived.Test.YtbbmkcioplbhbaaGreatDoorDen4
import Derived.Test.YtbbmkcioplbhbaaGreatDoorDoorC
import Derived.Test.YtbbmkcioplbhbaaGreatDoorCards
import Derived.Test.YtbbmkcioplbhbaaGreatDoorTie
import Derived.SevenTiedAt
/-
 FnExactReplayOp, called with any arguments that can be read, returns true, and its arguments read afterwards as they did.
 No condition but the row's own; what the row lists of package-level variables is tied to the program's text by the given tie.
-/
namespace Go.Proofs.YtbbmkcioplbhbaaGreatDoor
open Go.Abs Go.Proofs Go.RowKit
set_option maxRecDepth 100000 in
theorem zY(os:Os)(started:os.Started)(H:Type)(enc:TypeId×Value->H) :
  ReturnsInHanded {} Tryz.checked os 3 .any (fun w args=>(Rows.fnExactReplayOpSpec.pre enc Tryz.prog Tryz.f3 Rows.fnExactReplayOpRow.domain false w args/\laidMetH Tryz.prog MX w)/\sizedMet enc Tryz.prog Tryz.f3 (OpenSpec.ofChange Rows.fnExactReplayOpSpec) false w args)
   (Rows.fnExactReplayOpSpec.post enc Tryz.prog Tryz.f3 false true false false):=by
 refine sJ (C:=Tryz.checked) (X:=fun w _=>laidMetH Tryz.prog MX w) (fun _ _ _ hh h=>h.of_heap hh) aoS started (by kernel_rfl) Tryz.func3
  (ChangeSpec.witness_shaped (enc:=enc) (C:=Tryz.checked) (os:=os) (X:=fun w _=>laidMetH Tryz.prog MX w) false (World.laidAll Tryz.prog os MX) #[.agg #[.slice none 0 0,.slice none 0 0,.slice none 0 0],.agg #[.int .i64 0,.int .i64 0,.int .i64 0,.slice none 0 0,.int .i64 0,.int .i64 0,.int .i64 0,.int .i64 0,.int .i64 0,.string ByteArray.empty,.string ByteArray.empty,.int .i64 0,.string ByteArray.empty,.string ByteArray.empty,.int .i64 0,.int .i64 0,.slice none 0 0],.slice none 0 0] 8 (World.laidAll_os _ _ _) (abQ os _) (by kernel_rfl) (by kernel_rfl) (by kernel_rfl) (door_met os _)) ?_
 intro W base args ds gs before hval c _ a e b _;exact ajc (P:=Tryz.prog) (T:=tt) (fn:=Tryz.f3) (ss:=[⟨true,.base .document⟩,⟨true,.base .op⟩,⟨false,.list (.base .op)⟩]) jA afd Bc (by kernel_rfl) (by kernel_rfl) (tb:=4) (by kernel_rfl) (by kernel_rfl) rfl
  (fun ds h=>(by
   match ds,h with
   | [f,g,i],_=>rfl)) (fun x fx=>ES x.1 x.2.1 x.2.2 (fun d hd=>fx d (List.mem_append_left _ hd)) (fun d hd=>fx d (List.mem_append_right _ (List.mem_append_left _ hd))) (show aV B47 (.list (.base .op) x.2.2)from (show Fit B47 (.list (.base .op)) x.2.2 from (fun d hd=>fx d (List.mem_append_right _ (List.mem_append_right _ hd)))) _ ar)) hval c a (acg e b)
set_option maxHeartbeats 4000000 in
set_option maxRecDepth 100000 in
theorem A8:joinedFacts Tryz.prog 3 Tryz.f3 Rows.fnExactReplayOpSpec Rows.fnExactReplayOpRow=true:=by
 unfold joinedFacts;repeat' (with_reducible refine apZ ?_ ?_)
 all_goals first
  | with_reducible exact afd
  | with_reducible exact air
  | with_reducible exact ajV
  | with_reducible exact aja
  | with_reducible exact alc
  | with_reducible exact alf
  | (as_aux_lemma=>kernel_rfl)
theorem fnExactReplayOp_row_holds:Rows.FnExactReplayOpSaid:=
 OpenClaim.holds_of_wide 3 Tryz.f3 rfl rfl rfl rfl rfl rfl rfl ⟨rfl,rfl,rfl,rfl,rfl⟩ rfl rfl rfl rfl rfl (by kernel_rfl) Tryz.func3 A8
  (of_decide_eq_true (by kernel_rfl)) (by unfold Func.isWrapper;first | (rw[if_pos (by decide +kernel)];kernel_rfl) | (rw[if_neg (by decide +kernel)];exact⟨rfl,rfl⟩))
  (fun os started H enc _=>zY os started H enc)
end Go.Proofs.YtbbmkcioplbhbaaGreatDoor
