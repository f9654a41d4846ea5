import Derived.Test.YtkebfkahdmddpaaGreatDoorTie
import Derived.SevenTiedAt
import Derived.Test.YtkebfkahdmddpaaGreatDoorFacts
namespace Go.Proofs.YtkebfkahdmddpaaGreatDoor
open Go.Abs Go.Proofs Go.RowKit
theorem CB:true=Tryz.prog.looks []:=by kernel_rfl
theorem Em : Tryz.prog.mainIs = some (true, ("fb8437803ee9382e923b159ddaf8c9ddd1f965db2c3ff4c9a140a2c00efe8cb2").toList) := by kernel_rfl
theorem Cm : Tryz.prog.funcNamed "loop.example/g00510/laws.FnRenamedUses" = some 3 := by kernel_rfl
theorem Cj:(Tryz.f3.params.toList.all fun u=>!Tryz.prog.wantsStandIn u)=true:=by kernel_rfl
end Go.Proofs.YtkebfkahdmddpaaGreatDoor
