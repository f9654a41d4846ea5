/- Plain law: IsValidOp. -/
import Derived.Test.YtijhfajcbmpndaaLawsA
set_option linter.unusedSimpArgs false
set_option linter.unusedVariables false
namespace Go.Proofs.Ytijhfajcbmpndaa
open Go.Abs Go.Proofs

end Go.Proofs.Ytijhfajcbmpndaa
