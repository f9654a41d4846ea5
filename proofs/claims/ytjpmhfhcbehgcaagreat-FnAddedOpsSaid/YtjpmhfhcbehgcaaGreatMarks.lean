/- Plain laws of marks, by genmark.py. -/
import Derived.Test.YtjpmhfhcbehgcaaGreatMark0
set_option linter.unusedSimpArgs false
set_option linter.unusedVariables false
namespace Go.Proofs.YtjpmhfhcbehgcaaGreat
open Go.Abs Go.Proofs
def OkIntS (xs : List Int) : Prop := xs.length < 4611686018427387904
def OkStringS (xs : List Str) : Prop := xs.length < 4611686018427387904
theorem nbeq_self_b (a : Bool) : (!(a == a)) = false := by simp
end Go.Proofs.YtjpmhfhcbehgcaaGreat
