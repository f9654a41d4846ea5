import GoSem.ClaimGoes
import Derived.Test.YtapgeemjgckgaaaGreatDoorRows
import Derived.Test.YtapgeemjgckgaaaGreatDoorLink1
namespace Go.Proofs.YtapgeemjgckgaaaGreatDoor
open Go.Abs Go.Proofs Go.RowKit
theorem uU:false=(Rows.fnExactRenameInEngineRow).goesBy Tryz.prog:=by kernel_rfl
end Go.Proofs.YtapgeemjgckgaaaGreatDoor
