/- The frame of every law's proof: closed facts of this translation. -/
import Derived.Test.YtijhfajcbmpndaaLink2
import Derived.Test.YtijhfajcbmpndaaEnvs
import Derived.Test.YtijhfajcbmpndaaRows
namespace Go.Proofs.Ytijhfajcbmpndaa
open Go.Abs Go.Proofs Go.RowKit
theorem elem_ok : elemKinds Try.prog tt = true := by kernel_rfl
theorem own_ok : ownKnob Try.prog.godebug = none := by kernel_rfl
theorem laid_ok : laidOutB Try.prog = true := by kernel_rfl
end Go.Proofs.Ytijhfajcbmpndaa
