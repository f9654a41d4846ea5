/- Plain laws: valid cells, notebooks and histories; both sides alike. -/
import Derived.Test.YtikafaabbikflaaPlain4
set_option linter.unusedSimpArgs false
set_option linter.unusedVariables false
namespace Go.Proofs.Ytikafaabbikflaa
open Go.Abs Go.Proofs

end Go.Proofs.Ytikafaabbikflaa
