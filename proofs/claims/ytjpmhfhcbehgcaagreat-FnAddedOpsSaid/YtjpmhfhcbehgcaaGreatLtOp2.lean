/- The program's order of operations is the plain one. -/
import Derived.Test.YtjpmhfhcbehgcaaGreatModels
import Derived.Test.YtjpmhfhcbehgcaaGreatLtOp
namespace Go.Proofs.YtjpmhfhcbehgcaaGreat
open Go.Abs Go.Proofs

theorem iOpBefore_lt (a b : GOp) : iOpBefore a b = some (ltOp a b) := by
  unfold iOpBefore ltOp
  by_cases h : a.time < b.time
  · simp [h]
  · rw [decide_eq_false h]
    by_cases h2 : a.time = b.time
    · simp [h2]
    · have e : (a.time == b.time) = false := by simpa using h2
      simp [e]
end Go.Proofs.YtjpmhfhcbehgcaaGreat
