import Derived.Test.YtjbajpfonnnfoaaGreatDoorFacts
import Derived.Test.YtjbajpfonnnfoaaGreatDoorRenX
import Derived.Test.YtjbajpfonnnfoaaGreatDoorDen6
import Derived.Test.YtjbajpfonnnfoaaGreatDoorDoorC
import Derived.Test.YtjbajpfonnnfoaaGreatDoorCards
import Derived.Test.YtjbajpfonnnfoaaGreatDoorTie
import Derived.SevenTiedAt
/-
 FnRenamedValue, called with any arguments that can be read, returns true, and its arguments read afterwards as they did.
 No condition but the row's own; what the row lists of package-level variables is tied to the program's text by the given tie.
-/
namespace Go.Proofs.YtjbajpfonnnfoaaGreatDoor
open Go.Abs Go.Proofs Go.RowKit
set_option maxRecDepth 100000 in
theorem zn(os:Os)(started:os.Started)(H:Type)(enc:TypeId×Value->H) :
  ReturnsInHanded {} Tryz.checked os 5 .any (λw args=>(Rows.fnRenamedValueSpec.pre enc Tryz.prog Tryz.f5 Rows.fnRenamedValueRow.domain false w args/\laidMetH Tryz.prog Jy w)/\sizedMet enc Tryz.prog Tryz.f5 (OpenSpec.ofChange Rows.fnRenamedValueSpec) false w args)
   (Rows.fnRenamedValueSpec.post enc Tryz.prog Tryz.f5 false true false false):=by
 refine qL (C:=Tryz.checked) (X:=λw _=>laidMetH Tryz.prog Jy w) (λ_ _ _ hh h=>h.of_heap hh) akH started (by kernel_rfl) Tryz.func5
  (ChangeSpec.witness_shaped (enc:=enc) (C:=Tryz.checked) (os:=os) (X:=λw _=>laidMetH Tryz.prog Jy w) false (World.laidAll Tryz.prog os Jy) #[.slice none 0 0] 8 (World.laidAll_os _ _ _) (Yk os _) (by kernel_rfl) (by kernel_rfl) (by kernel_rfl) (door_met os _)) ?_
 intro W base args ds gs before hval c _ a e b _;exact afv (P:=Tryz.prog) (T:=tt) (fn:=Tryz.f5) (ss:=[⟨false,.list (.base .u8)⟩]) jG abj Bq (by kernel_rfl) (by kernel_rfl) (tb:=4) (by kernel_rfl) (by kernel_rfl) rfl
  (λds h=>(by
   match ds,h with
   | [g],_=>rfl)) (λx fx=>Ed x (show cu B47 (.list (.base .u8) x)from (show Fit B47 (.list (.base .u8)) x from (λd f=>fx d (f))) _ aw)) hval c a (YB e b)
set_option maxHeartbeats 4000000 in
set_option maxRecDepth 100000 in
theorem Bf:joinedFacts Tryz.prog 5 Tryz.f5 Rows.fnRenamedValueSpec Rows.fnRenamedValueRow=true:=by
 unfold joinedFacts;repeat' (with_reducible refine ama ?_ ?_)
 all_goals first
  | with_reducible exact abj
  | with_reducible exact aev
  | with_reducible exact af4
  | with_reducible exact aft
  | with_reducible exact ahC
  | with_reducible exact ahH
  | (as_aux_lemma=>kernel_rfl)
theorem fnRenamedValue_row_holds:Rows.FnRenamedValueSaid:=
 OpenClaim.holds_of_wide 5 Tryz.f5 rfl rfl rfl rfl rfl rfl rfl ⟨rfl,rfl,rfl,rfl,rfl⟩ rfl rfl rfl rfl rfl (by kernel_rfl) Tryz.func5 Bf
  (of_decide_eq_true (by kernel_rfl)) (by unfold Func.isWrapper;first | (rw[if_pos (by decide +kernel)];kernel_rfl) | (rw[if_neg (by decide +kernel)];exact⟨rfl,rfl⟩))
  (λos started H enc _=>zn os started H enc)
