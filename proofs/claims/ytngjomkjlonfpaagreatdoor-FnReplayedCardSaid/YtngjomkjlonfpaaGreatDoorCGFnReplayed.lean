import GoSem.ClaimGoes
import Derived.Test.YtngjomkjlonfpaaGreatDoorRows
import Derived.Test.YtngjomkjlonfpaaGreatDoorLink1
namespace Go.Proofs.YtngjomkjlonfpaaGreatDoor
open Go.Abs Go.Proofs Go.RowKit
theorem OI:false=(Rows.fnReplayedRow).goesBy Tryz.prog:=by kernel_rfl
end Go.Proofs.YtngjomkjlonfpaaGreatDoor
