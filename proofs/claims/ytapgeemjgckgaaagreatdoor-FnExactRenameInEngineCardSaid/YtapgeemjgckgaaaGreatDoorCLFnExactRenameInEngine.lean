import Derived.Test.YtapgeemjgckgaaaGreatDoorTie
import Derived.SevenTiedAt
import Derived.Test.YtapgeemjgckgaaaGreatDoorFacts
namespace Go.Proofs.YtapgeemjgckgaaaGreatDoor
open Go.Abs Go.Proofs Go.RowKit
theorem su:true=Tryz.prog.looks []:=by kernel_rfl
theorem uT : Tryz.prog.mainIs = some (true, ("ace6da857a3b72f7451dd9a4de892054ae67f28ded4ada504fbc65a97f50322f").toList) := by kernel_rfl
theorem rZ : Tryz.prog.funcNamed "loop.example/g00510/laws.FnExactRenameInEngine" = some 3 := by kernel_rfl
theorem rY:(Tryz.f3.params.toList.all fun u=>!Tryz.prog.wantsStandIn u)=true:=by kernel_rfl
end Go.Proofs.YtapgeemjgckgaaaGreatDoor
