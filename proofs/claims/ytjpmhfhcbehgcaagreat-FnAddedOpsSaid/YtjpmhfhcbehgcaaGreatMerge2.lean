/- Plain laws: Pull. -/
import Derived.Test.YtjpmhfhcbehgcaaGreatMerge
set_option linter.unusedSimpArgs false
set_option linter.unusedVariables false
namespace Go.Proofs.YtjpmhfhcbehgcaaGreat
open Go.Abs Go.Proofs

end Go.Proofs.YtjpmhfhcbehgcaaGreat
