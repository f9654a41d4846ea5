import GoSem.ClaimGoes
import Derived.Test.YtkebfkahdmddpaaGreatDoorRows
import Derived.Test.YtkebfkahdmddpaaGreatDoorLink1
namespace Go.Proofs.YtkebfkahdmddpaaGreatDoor
open Go.Abs Go.Proofs Go.RowKit
theorem En:false=(Rows.fnRenamedUsesRow).goesBy Tryz.prog:=by kernel_rfl
end Go.Proofs.YtkebfkahdmddpaaGreatDoor
