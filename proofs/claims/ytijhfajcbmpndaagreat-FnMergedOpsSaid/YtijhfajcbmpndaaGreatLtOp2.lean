/- The program's order of operations is the plain one. -/
import Derived.Test.YtijhfajcbmpndaaGreatModels
import Derived.Test.YtijhfajcbmpndaaGreatLtOp
namespace Go.Proofs.YtijhfajcbmpndaaGreat
open Go.Abs Go.Proofs

theorem iOpBefore_lt (a b : GOp) : iOpBefore a b = some (ltOp a b) := by
  unfold iOpBefore ltOp
  by_cases h : a.time < b.time
  · simp [h]
  · rw [decide_eq_false h]
    by_cases h2 : a.time = b.time
    · simp [h2]
    · have e : (a.time == b.time) = false := by simpa using h2
      simp [e]
theorem sortMergeOps_eq : sortMergeOps = fun xs => (gd xs.length).bind fun _ => sortD ltOp xs := by
  funext xs
  unfold sortMergeOps
  have e : (fun a b => iOpBefore a b == some true) = ltOp := by
    funext a b
    rw [iOpBefore_lt]
    cases ltOp a b <;> rfl
  rw [e]
end Go.Proofs.YtijhfajcbmpndaaGreat
