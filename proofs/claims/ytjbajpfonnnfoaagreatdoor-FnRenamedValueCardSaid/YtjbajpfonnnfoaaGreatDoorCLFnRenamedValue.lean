import Derived.Test.YtjbajpfonnnfoaaGreatDoorTie
import Derived.SevenTiedAt
import Derived.Test.YtjbajpfonnnfoaaGreatDoorFacts
namespace Go.Proofs.YtjbajpfonnnfoaaGreatDoor
open Go.Abs Go.Proofs Go.RowKit
theorem Be:false=Tryz.prog.looks []:=by kernel_rfl
theorem CZ : Tryz.prog.mainIs = some (true, ("4a4313838bdd0db3912c5548d8e480417ee0b347f86d449a564135f01f70035f").toList) := by kernel_rfl
theorem Bd : Tryz.prog.funcNamed "loop.example/g00510/laws.FnRenamedValue" = some 5 := by kernel_rfl
theorem Bc:(Tryz.f5.params.toList.all λu=>!Tryz.prog.wantsStandIn u)=true:=by kernel_rfl
