/- Plain law: IsValidOp. -/
import Derived.Test.YtopcobafmnpmkaaLawsA
set_option linter.unusedSimpArgs false
set_option linter.unusedVariables false
namespace Go.Proofs.Ytopcobafmnpmkaa
open Go.Abs Go.Proofs

end Go.Proofs.Ytopcobafmnpmkaa
