/- Plain laws: OpBefore, StampVersion, IsValidOp, CountBy, LastTime. -/
import Derived.Test.YtopcobafmnpmkaaGreatPlain3
set_option linter.unusedSimpArgs false
set_option linter.unusedVariables false
namespace Go.Proofs.YtopcobafmnpmkaaGreat
open Go.Abs Go.Proofs





def seenB (s : List Int) : Bool := allAt (fun n _ => decide (0 ≤ n) && decide (n ≤ 60)) s 0
end Go.Proofs.YtopcobafmnpmkaaGreat
