import Derived.Test.YtkebfkahdmddpaaGreatDoorFacts
import Derived.Test.YtkebfkahdmddpaaGreatDoorBat3
import Derived.Test.YtkebfkahdmddpaaGreatDoorDen3
import Derived.Test.YtkebfkahdmddpaaGreatDoorDoorC
import Derived.Test.YtkebfkahdmddpaaGreatDoorCards
import Derived.Test.YtkebfkahdmddpaaGreatDoorTie
import Derived.SevenTiedAt
/-
 FnRenamedUses, called with any arguments that can be read, returns true, and its arguments read afterwards as they did.
 No condition but the row's own; what the row lists of package-level variables is tied to the program's text by the given tie.
-/
namespace Go.Proofs.YtkebfkahdmddpaaGreatDoor
open Go.Abs Go.Proofs Go.RowKit
set_option maxRecDepth 100000 in
theorem Aw(os:Os)(started:os.Started)(H:Type)(enc:TypeId×Value->H) :
  ReturnsInHanded {} Tryz.checked os 3 .any (fun w args=>(Rows.fnRenamedUsesSpec.pre enc Tryz.prog Tryz.f3 Rows.fnRenamedUsesRow.domain false w args/\laidMetH Tryz.prog JB w)/\sizedMet enc Tryz.prog Tryz.f3 (OpenSpec.ofChange Rows.fnRenamedUsesSpec) false w args)
   (Rows.fnRenamedUsesSpec.post enc Tryz.prog Tryz.f3 false true false false):=by
 refine rC (C:=Tryz.checked) (X:=fun w _=>laidMetH Tryz.prog JB w) (fun _ _ _ hh h=>h.of_heap hh) ait started (by kernel_rfl) Tryz.func3
  (ChangeSpec.witness_shaped (enc:=enc) (C:=Tryz.checked) (os:=os) (X:=fun w _=>laidMetH Tryz.prog JB w) false (World.laidAll Tryz.prog os JB) #[.slice none 0 0] 8 (World.laidAll_os _ _ _) (XR os _) (by kernel_rfl) (by kernel_rfl) (by kernel_rfl) (door_met os _)) ?_
 intro W base args ds gs before hval c _ a e b _;exact aeg (P:=Tryz.prog) (T:=tt) (fn:=Tryz.f3) (ss:=[⟨false,.list (.base .u8)⟩]) ku aaJ CP (by kernel_rfl) (by kernel_rfl) (tb:=4) (by kernel_rfl) (by kernel_rfl) rfl
  (fun ds h=>(by
   match ds,h with
   | [g],_=>rfl)) (fun x fx=>FW x (show fH B47 (.list (.base .u8) x)from (show Fit B47 (.list (.base .u8)) x from (fun d f=>fx d (f))) _ aw)) hval c a (Yg e b)
set_option maxHeartbeats 4000000 in
set_option maxRecDepth 100000 in
theorem CG:joinedFacts Tryz.prog 3 Tryz.f3 Rows.fnRenamedUsesSpec Rows.fnRenamedUsesRow=true:=by
 unfold joinedFacts;repeat' (with_reducible refine ajA ?_ ?_)
 all_goals first
  | with_reducible exact aaJ
  | with_reducible exact adC
  | with_reducible exact aeT
  | with_reducible exact aef
  | with_reducible exact af5
  | with_reducible exact agc
  | (as_aux_lemma=>kernel_rfl)
theorem fnRenamedUses_row_holds:Rows.FnRenamedUsesSaid:=
 OpenClaim.holds_of_wide 3 Tryz.f3 rfl rfl rfl rfl rfl rfl rfl ⟨rfl,rfl,rfl,rfl,rfl⟩ rfl rfl rfl rfl rfl (by kernel_rfl) Tryz.func3 CG
  (of_decide_eq_true (by kernel_rfl)) (by unfold Func.isWrapper;first | (rw[if_pos (by decide +kernel)];kernel_rfl) | (rw[if_neg (by decide +kernel)];exact⟨rfl,rfl⟩))
  (fun os started H enc _=>Aw os started H enc)
end Go.Proofs.YtkebfkahdmddpaaGreatDoor
