/- The order of operations: by time, then by replica. -/
import Derived.Test.YtjpmhfhcbehgcaaGreatTypes
import Derived.Sort.LotA
namespace Go.Proofs.YtjpmhfhcbehgcaaGreat
open Go.Abs Go.Proofs Go.Sort

def ltOp (a b : GOp) : Bool := decide (a.time < b.time) || (a.time == b.time && decide (a.by_ < b.by_))
def keyOp (a b : GOp) : Bool := a.time == b.time && a.by_ == b.by_
theorem swo_ltOp : SWO ltOp where
  irrefl := fun x => by simp [ltOp]
  trans := fun x y z h1 h2 => by
    simp only [ltOp, Bool.or_eq_true, Bool.and_eq_true, decide_eq_true_eq, beq_iff_eq] at *
    omega
  ntrans := fun x y z h1 h2 => by
    simp only [ltOp, Bool.or_eq_false_iff, Bool.and_eq_false_iff, decide_eq_false_iff_not, beq_eq_false_iff_ne] at *
    omega
theorem ltOp_anti : ∀ a b : GOp, ltOp a b = true → ltOp b a = true → False := fun a b h h' => by
  have := swo_ltOp.trans _ _ _ h h'
  rw [swo_ltOp.irrefl] at this; cases this
theorem ltOp_tri {x y : GOp} (h : ltOp x y = false) (hk : keyOp x y = false) : ltOp y x = true := by
  simp only [ltOp, keyOp, Bool.or_eq_false_iff, Bool.or_eq_true, Bool.and_eq_true, Bool.and_eq_false_iff, decide_eq_false_iff_not, beq_eq_false_iff_ne, decide_eq_true_eq, beq_iff_eq] at *
  omega
end Go.Proofs.YtjpmhfhcbehgcaaGreat
