/- The frame of every law's proof: closed facts of this translation. -/
import Derived.Test.YtjpmhfhcbehgcaaGreatLink2
import Derived.Test.YtjpmhfhcbehgcaaGreatEnvs
import Derived.Test.YtjpmhfhcbehgcaaGreatRows
namespace Go.Proofs.YtjpmhfhcbehgcaaGreat
open Go.Abs Go.Proofs Go.RowKit
theorem elem_ok : elemKinds Tryz.prog tt = true := by kernel_rfl
theorem own_ok : ownKnob Tryz.prog.godebug = none := by kernel_rfl
theorem laid_ok : laidOutB Tryz.prog = true := by kernel_rfl
end Go.Proofs.YtjpmhfhcbehgcaaGreat
