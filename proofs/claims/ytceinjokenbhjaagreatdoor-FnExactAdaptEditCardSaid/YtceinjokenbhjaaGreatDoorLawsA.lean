/- Plain laws: OpBefore, StampVersion, IsValidOp, CountBy, LastTime. -/
import Derived.Test.YtceinjokenbhjaaGreatDoorPlain3
set_option linter.unusedSimpArgs false
set_option linter.unusedVariables false
namespace Go.Proofs.YtceinjokenbhjaaGreatDoor
open Go.Abs Go.Proofs





end Go.Proofs.YtceinjokenbhjaaGreatDoor
