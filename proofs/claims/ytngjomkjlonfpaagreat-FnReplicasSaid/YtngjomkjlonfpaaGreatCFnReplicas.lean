import Derived.Test.YtngjomkjlonfpaaGreatFacts
import Derived.Test.YtngjomkjlonfpaaGreatReplay2
import Derived.Test.YtngjomkjlonfpaaGreatDen3
/-
  FnReplicas, called with any arguments that can be read, returns true, and its arguments read afterwards as they did.
  No condition but the row's own.
-/
namespace Go.Proofs.YtngjomkjlonfpaaGreat
open Go.Abs Go.Proofs Go.RowKit

set_option maxRecDepth 100000 in
theorem Jo (os : Os) (started : os.Started) (H : Type) (enc : TypeId × Value → H) :
    ReturnsInHanded {} Tryz.checked os 3 .any (Rows.fnReplicasSpec.pre6 enc Tryz.prog Tryz.f3 Rows.fnReplicasRow.domain false) (Rows.fnReplicasSpec.post enc Tryz.prog Tryz.f3 false true false false) := by
  refine returnsInHanded_of_change_sized (C := Tryz.checked) alR started (by kernel_rfl) Tryz.func3
    (ChangeSpec.witness6 (enc := enc) (C := Tryz.checked) false ⟨#[], #[.slice none 0 0], []⟩ 8 (by kernel_rfl) (by kernel_rfl) (by kernel_rfl) (by kernel_rfl)) ?_
  intro W base args ds gs before hval hW _ hsz _
  exact ahp (P := Tryz.prog) (T := tt) (fn := Tryz.f3) (ss := [⟨false, .list (.base .u8)⟩]) kR adD Ls (by kernel_rfl) (by kernel_rfl) (tb := 4) (by kernel_rfl) (by kernel_rfl) rfl
    (fun ds h => (by
      match ds, h with
      | [d0], _ => rfl)) (fun x fx => QF x (show aX B47 (.list (.base .u8) x) from (show Fit B47 (.list (.base .u8)) x from (fun d hd => fx d (hd))) _ List.mem_cons_self)) hval hW hsz (akf W)

set_option maxHeartbeats 4000000 in
set_option maxRecDepth 100000 in
theorem Lc : joinedFacts Tryz.prog 3 Tryz.f3 Rows.fnReplicasSpec Rows.fnReplicasRow = true := by
  unfold joinedFacts
  repeat' (with_reducible refine amI ?_ ?_)
  all_goals first
    | with_reducible exact adD
    | with_reducible exact agA
    | with_reducible exact ahS
    | with_reducible exact ahn
    | with_reducible exact ajn
    | with_reducible exact ajv
    | (as_aux_lemma => kernel_rfl)

theorem fnReplicas_holds : Rows.FnReplicasSaid :=
  OpenClaim.holds_of_wide 3 Tryz.f3 rfl rfl rfl rfl rfl rfl rfl ⟨rfl, rfl, rfl, rfl, rfl⟩ rfl rfl rfl rfl rfl (by kernel_rfl) Tryz.func3 Lc
    (of_decide_eq_true (by kernel_rfl)) (by unfold Func.isWrapper; first | (rw [if_pos (by decide +kernel)]; kernel_rfl) | (rw [if_neg (by decide +kernel)]; exact ⟨rfl, rfl⟩))
    (fun os started H enc _ => Jo os started H enc)

#print axioms fnReplicas_holds
end Go.Proofs.YtngjomkjlonfpaaGreat
