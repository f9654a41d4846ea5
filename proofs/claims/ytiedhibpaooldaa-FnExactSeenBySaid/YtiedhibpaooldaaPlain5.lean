/- Plain laws: valid cells, notebooks and histories; both sides alike. -/
import Derived.Test.YtiedhibpaooldaaPlain4
set_option linter.unusedSimpArgs false
set_option linter.unusedVariables false
namespace Go.Proofs.Ytiedhibpaooldaa
open Go.Abs Go.Proofs

end Go.Proofs.Ytiedhibpaooldaa
