/- Plain laws with marks: SeenBy. -/
import Derived.Test.YtikafaabbikflaaLawsF
set_option linter.unusedSimpArgs false
set_option linter.unusedVariables false
namespace Go.Proofs.Ytikafaabbikflaa
open Go.Abs Go.Proofs

end Go.Proofs.Ytikafaabbikflaa
