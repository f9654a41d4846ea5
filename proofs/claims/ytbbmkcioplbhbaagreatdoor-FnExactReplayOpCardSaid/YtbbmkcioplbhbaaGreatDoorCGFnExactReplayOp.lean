import GoSem.ClaimGoes
import Derived.Test.YtbbmkcioplbhbaaGreatDoorRows
import Derived.Test.YtbbmkcioplbhbaaGreatDoorLink1
namespace Go.Proofs.YtbbmkcioplbhbaaGreatDoor
open Go.Abs Go.Proofs Go.RowKit
theorem Dn:false=(Rows.fnExactReplayOpRow).goesBy Tryz.prog:=by kernel_rfl
end Go.Proofs.YtbbmkcioplbhbaaGreatDoor
