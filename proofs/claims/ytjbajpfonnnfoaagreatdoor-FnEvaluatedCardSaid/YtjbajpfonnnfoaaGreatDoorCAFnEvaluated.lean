import Derived.Test.YtjbajpfonnnfoaaGreatDoorFacts
import Derived.Test.YtjbajpfonnnfoaaGreatDoorFreT
import Derived.Test.YtjbajpfonnnfoaaGreatDoorDen5
import Derived.Test.YtjbajpfonnnfoaaGreatDoorDoorC
import Derived.Test.YtjbajpfonnnfoaaGreatDoorCards
import Derived.Test.YtjbajpfonnnfoaaGreatDoorTie
import Derived.SevenTiedAt
/-
 FnEvaluated, called with any arguments that can be read, returns true, and its arguments read afterwards as they did.
 No condition but the row's own; what the row lists of package-level variables is tied to the program's text by the given tie.
-/
namespace Go.Proofs.YtjbajpfonnnfoaaGreatDoor
open Go.Abs Go.Proofs Go.RowKit
set_option maxRecDepth 100000 in
theorem Ec(os:Os)(started:os.Started)(H:Type)(enc:TypeId×Value->H) :
  ReturnsInHanded {} Tryz.checked os 4 .any (λw args=>(Rows.fnEvaluatedSpec.pre enc Tryz.prog Tryz.f4 Rows.fnEvaluatedRow.domain false w args/\laidMetH Tryz.prog Jm w)/\sizedMet enc Tryz.prog Tryz.f4 (OpenSpec.ofChange Rows.fnEvaluatedSpec) false w args)
   (Rows.fnEvaluatedSpec.post enc Tryz.prog Tryz.f4 false true false false):=by
 refine qP (C:=Tryz.checked) (X:=λw _=>laidMetH Tryz.prog Jm w) (λ_ _ _ hh h=>h.of_heap hh) ajZ started (by kernel_rfl) Tryz.func4
  (ChangeSpec.witness_shaped (enc:=enc) (C:=Tryz.checked) (os:=os) (X:=λw _=>laidMetH Tryz.prog Jm w) false (World.laidAll Tryz.prog os Jm) #[.slice none 0 0] 8 (World.laidAll_os _ _ _) (X3 os _) (by kernel_rfl) (by kernel_rfl) (by kernel_rfl) (door_met os _)) ?_
 intro W base args ds gs before hval c _ a e b _;exact aeL (P:=Tryz.prog) (T:=tt) (fn:=Tryz.f4) (ss:=[⟨false,.list (.base .u8)⟩]) jE aaP GL (by kernel_rfl) (by kernel_rfl) (tb:=4) (by kernel_rfl) (by kernel_rfl) rfl
  (λds h=>(by
   match ds,h with
   | [g],_=>rfl)) (λx fx=>JP x (show bZ B47 (.list (.base .u8) x)from (show Fit B47 (.list (.base .u8)) x from (λd f=>fx d (f))) _ aq)) hval c a (Yk e b)
set_option maxHeartbeats 4000000 in
set_option maxRecDepth 100000 in
theorem F8:joinedFacts Tryz.prog 4 Tryz.f4 Rows.fnEvaluatedSpec Rows.fnEvaluatedRow=true:=by
 unfold joinedFacts;repeat' (with_reducible refine alo ?_ ?_)
 all_goals first
  | with_reducible exact aaP
  | with_reducible exact adX
  | with_reducible exact afi
  | with_reducible exact aeJ
  | with_reducible exact agW
  | with_reducible exact ag2
  | (as_aux_lemma=>kernel_rfl)
theorem fnEvaluated_row_holds:Rows.FnEvaluatedSaid:=
 OpenClaim.holds_of_wide 4 Tryz.f4 rfl rfl rfl rfl rfl rfl rfl ⟨rfl,rfl,rfl,rfl,rfl⟩ rfl rfl rfl rfl rfl (by kernel_rfl) Tryz.func4 F8
  (of_decide_eq_true (by kernel_rfl)) (by unfold Func.isWrapper;first | (rw[if_pos (by decide +kernel)];kernel_rfl) | (rw[if_neg (by decide +kernel)];exact⟨rfl,rfl⟩))
  (λos started H enc _=>Ec os started H enc)
