/- The frame of every law's proof: closed facts of this translation. -/
import Derived.Test.YtopcobafmnpmkaaLink2
import Derived.Test.YtopcobafmnpmkaaEnvs
import Derived.Test.YtopcobafmnpmkaaRows
namespace Go.Proofs.Ytopcobafmnpmkaa
open Go.Abs Go.Proofs Go.RowKit
theorem elem_ok : elemKinds Try.prog tt = true := by kernel_rfl
theorem own_ok : ownKnob Try.prog.godebug = none := by kernel_rfl
theorem laid_ok : laidOutB Try.prog = true := by kernel_rfl
end Go.Proofs.Ytopcobafmnpmkaa
