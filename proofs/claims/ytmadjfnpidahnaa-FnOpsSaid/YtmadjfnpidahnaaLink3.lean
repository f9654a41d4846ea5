/- The frame of every law's proof: closed facts of this translation. -/
import Derived.Test.YtmadjfnpidahnaaLink2
import Derived.Test.YtmadjfnpidahnaaEnvs
import Derived.Test.YtmadjfnpidahnaaRows
namespace Go.Proofs.Ytmadjfnpidahnaa
open Go.Abs Go.Proofs Go.RowKit
theorem elem_ok : elemKinds Try.prog tt = true := by kernel_rfl
theorem own_ok : ownKnob Try.prog.godebug = none := by kernel_rfl
theorem laid_ok : laidOutB Try.prog = true := by kernel_rfl
end Go.Proofs.Ytmadjfnpidahnaa
