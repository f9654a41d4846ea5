/- Plain laws: UndoEdits, RedoEdits, DoEdits. -/
import Derived.Test.YtikafaabbikflaaHist1
set_option linter.unusedSimpArgs false
set_option linter.unusedVariables false
namespace Go.Proofs.Ytikafaabbikflaa
open Go.Abs Go.Proofs

end Go.Proofs.Ytikafaabbikflaa
