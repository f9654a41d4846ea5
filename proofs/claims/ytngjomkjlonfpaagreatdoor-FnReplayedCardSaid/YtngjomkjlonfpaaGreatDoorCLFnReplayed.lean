import Derived.Test.YtngjomkjlonfpaaGreatDoorTie
import Derived.SevenTiedAt
import Derived.Test.YtngjomkjlonfpaaGreatDoorFacts
namespace Go.Proofs.YtngjomkjlonfpaaGreatDoor
open Go.Abs Go.Proofs Go.RowKit
theorem L8:true=Tryz.prog.looks []:=by kernel_rfl
theorem OH : Tryz.prog.mainIs = some (true, ("a88c960b726614b9ae8600ecdbfb4a7a4149a8161604cb1a48c7d4bdb0f69a35").toList) := by kernel_rfl
theorem L6 : Tryz.prog.funcNamed "loop.example/g00510/laws.FnReplayed" = some 3 := by kernel_rfl
theorem LZ:(Tryz.f3.params.toList.all fun u=>!Tryz.prog.wantsStandIn u)=true:=by kernel_rfl
end Go.Proofs.YtngjomkjlonfpaaGreatDoor
