/- Plain laws that hold of no one function: loops, Booleans, the first steps of a law. -/
import Derived.Test.YtdlfoecpgaenpaaGreatDoorBasic
set_option linter.unusedSimpArgs false
set_option linter.unusedVariables false
namespace Go.Proofs.YtdlfoecpgaenpaaGreatDoor
open Go.Abs Go.Proofs
theorem law1 {α : Type} {f : α -> Int -> Option Int} {P : Prop} {x : α} {c s : Nat} (h : SzK f P x c s) {k : Int -> Option Bool} (l : Int) (h0 : 0 <= l) (h1 : l <= 1048576) (hk : P -> ∀ r, 0 <= r -> r <= 1048576 -> k r = some true) :
  ((f x l).bind fun r1 => bif (decide (r1 < 0)) then some (true) else k r1) = some true := by
 obtain ⟨r, e, p⟩ := h l h0 h1
 rw [e, Option.bind_some]
 rcases p with p | ⟨p, q, _, hP⟩
 ·rw [decide_eq_true p]; rfl
 ·rw [decide_eq_false (by omega), cond_false]
  exact hk hP r p (by omega)
end Go.Proofs.YtdlfoecpgaenpaaGreatDoor
