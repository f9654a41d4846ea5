import Derived.Test.YtjbajpfonnnfoaaGreatDoorFacts
import Derived.Test.YtjbajpfonnnfoaaGreatDoorDrE
import Derived.Test.YtjbajpfonnnfoaaGreatDoorDen5
import Derived.Test.YtjbajpfonnnfoaaGreatDoorDoorC
import Derived.Test.YtjbajpfonnnfoaaGreatDoorCards
import Derived.Test.YtjbajpfonnnfoaaGreatDoorTie
import Derived.SevenTiedAt
import Derived.Test.YtjbajpfonnnfoaaGreatDoorCAFnReplayedTape
import Derived.Test.YtjbajpfonnnfoaaGreatDoorCGFnReplayedTape
import Derived.Test.YtjbajpfonnnfoaaGreatDoorCLFnReplayedTape
namespace Go.Proofs.YtjbajpfonnnfoaaGreatDoor
open Go.Abs Go.Proofs Go.RowKit

theorem fnReplayedTape_holds : Rows.FnReplayedTapeCardSaid :=
  Claim7.holds_tied_plain_at .later [] [.data, .pinned] true (true, "4a4313838bdd0db3912c5548d8e480417ee0b347f86d449a564135f01f70035f") false
    fnReplayedTape_row_holds (fun _ h => by cases h) (by kernel_rfl) (fun _ h => by cases h) fnReplayedTape_row_tie rfl ⟨rfl, rfl⟩ Cm rfl
    (fun f fn hf hfn => by
      obtain rfl : f = 3 := Option.some.inj (AQ.symm.trans hf) |>.symm
      obtain rfl : fn = Tryz.f3 := (Option.some.inj (Tryz.func3.symm.trans hfn)).symm
      exact ⟨AU, fun j t ht => by
        have hm : t ∈ Tryz.f3.params.toList := by simpa using Array.mem_of_getElem? ht
        have hall : (Tryz.f3.params.toList.all fun u => !Tryz.prog.wantsStandIn u) = true := AP
        exact (show Tryz.prog.wantsStandIn t = false by simpa using List.all_eq_true.1 hall t hm)⟩)
    CB

#print axioms fnReplayedTape_holds
end Go.Proofs.YtjbajpfonnnfoaaGreatDoor
