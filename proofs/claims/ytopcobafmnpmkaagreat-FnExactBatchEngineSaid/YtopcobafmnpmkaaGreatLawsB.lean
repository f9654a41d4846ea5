/- Plain law: IsValidOp. -/
import Derived.Test.YtopcobafmnpmkaaGreatLawsA
set_option linter.unusedSimpArgs false
set_option linter.unusedVariables false
namespace Go.Proofs.YtopcobafmnpmkaaGreat
open Go.Abs Go.Proofs

end Go.Proofs.YtopcobafmnpmkaaGreat
