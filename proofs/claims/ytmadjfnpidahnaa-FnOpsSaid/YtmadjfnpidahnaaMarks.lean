/- Plain laws of marks, by genmark.py. -/
import Derived.Test.YtmadjfnpidahnaaMark0
set_option linter.unusedSimpArgs false
set_option linter.unusedVariables false
namespace Go.Proofs.Ytmadjfnpidahnaa
open Go.Abs Go.Proofs
def OkIntS (xs : List Int) : Prop := xs.length < 4611686018427387904
def OkStringS (xs : List Str) : Prop := xs.length < 4611686018427387904
end Go.Proofs.Ytmadjfnpidahnaa
