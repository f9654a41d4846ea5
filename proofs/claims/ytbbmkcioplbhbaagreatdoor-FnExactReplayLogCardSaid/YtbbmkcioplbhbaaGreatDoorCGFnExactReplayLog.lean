import GoSem.ClaimGoes
import Derived.Test.YtbbmkcioplbhbaaGreatDoorRows
import Derived.Test.YtbbmkcioplbhbaaGreatDoorLink1
namespace Go.Proofs.YtbbmkcioplbhbaaGreatDoor
open Go.Abs Go.Proofs Go.RowKit
theorem Bd:false=(Rows.fnExactReplayLogRow).goesBy Tryz.prog:=by kernel_rfl
end Go.Proofs.YtbbmkcioplbhbaaGreatDoor
