/- Plain law: IsValidOp. -/
import Derived.Test.YtiedhibpaooldaaLawsA
set_option linter.unusedSimpArgs false
set_option linter.unusedVariables false
namespace Go.Proofs.Ytiedhibpaooldaa
open Go.Abs Go.Proofs

end Go.Proofs.Ytiedhibpaooldaa
