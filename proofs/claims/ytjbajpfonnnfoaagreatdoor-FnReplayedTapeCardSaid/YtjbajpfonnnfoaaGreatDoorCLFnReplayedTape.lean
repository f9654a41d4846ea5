import Derived.Test.YtjbajpfonnnfoaaGreatDoorTie
import Derived.SevenTiedAt
import Derived.Test.YtjbajpfonnnfoaaGreatDoorFacts
namespace Go.Proofs.YtjbajpfonnnfoaaGreatDoor
open Go.Abs Go.Proofs Go.RowKit
theorem AU:false=Tryz.prog.looks []:=by kernel_rfl
theorem Cm : Tryz.prog.mainIs = some (true, ("4a4313838bdd0db3912c5548d8e480417ee0b347f86d449a564135f01f70035f").toList) := by kernel_rfl
theorem AQ : Tryz.prog.funcNamed "loop.example/g00510/laws.FnReplayedTape" = some 3 := by kernel_rfl
theorem AP:(Tryz.f3.params.toList.all fun u=>!Tryz.prog.wantsStandIn u)=true:=by kernel_rfl
