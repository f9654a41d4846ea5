/- What the code asks of the world beside its arguments: nothing. (Where the library reads variables of its own, this text is made by genamb.py.) -/
import Derived.WalkKit
set_option linter.unusedVariables false
namespace Go.Abs
/-- the rows below this number are not written -/
def ambN : Nat := 0
def amb (w : World) : Prop := ambN ≤ w.heap.size
theorem amb.size {w : World} (h : amb w) : ambN ≤ w.heap.size := h
theorem amb.keep {w w' : World} (_ : amb w) (hs : w.heap.size ≤ w'.heap.size) (_ : ∀ k, k < ambN → w'.heap[k]? = w.heap[k]?) : amb w' := Nat.zero_le _
theorem amb_any (w : World) : amb w := Nat.zero_le _
end Go.Abs
