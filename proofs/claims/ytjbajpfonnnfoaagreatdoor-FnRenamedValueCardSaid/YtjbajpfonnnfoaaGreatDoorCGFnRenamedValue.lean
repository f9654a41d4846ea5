import GoSem.ClaimGoes
import Derived.Test.YtjbajpfonnnfoaaGreatDoorRows
import Derived.Test.YtjbajpfonnnfoaaGreatDoorLink1
namespace Go.Proofs.YtjbajpfonnnfoaaGreatDoor
open Go.Abs Go.Proofs Go.RowKit
theorem C9:false=(Rows.fnRenamedValueRow).goesBy Tryz.prog:=by kernel_rfl
