import Derived.Test.YtbbmkcioplbhbaaGreatDoorTie
import Derived.SevenTiedAt
import Derived.Test.YtbbmkcioplbhbaaGreatDoorFacts
namespace Go.Proofs.YtbbmkcioplbhbaaGreatDoor
open Go.Abs Go.Proofs Go.RowKit
theorem A7:true=Tryz.prog.looks []:=by kernel_rfl
theorem Dl : Tryz.prog.mainIs = some (true, ("2a7f3ad3666b58da7385d682bae9937ec07a94f12e258607b0e2908147bf295c").toList) := by kernel_rfl
theorem AZ : Tryz.prog.funcNamed "loop.example/g00510/laws.FnExactReplayOp" = some 3 := by kernel_rfl
theorem AY:(Tryz.f3.params.toList.all fun u=>!Tryz.prog.wantsStandIn u)=true:=by kernel_rfl
end Go.Proofs.YtbbmkcioplbhbaaGreatDoor
