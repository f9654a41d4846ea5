import Derived.Test.YtjbajpfonnnfoaaGreatDoorFacts
import Derived.Test.YtjbajpfonnnfoaaGreatDoorFreT
import Derived.Test.YtjbajpfonnnfoaaGreatDoorDen5
import Derived.Test.YtjbajpfonnnfoaaGreatDoorDoorC
import Derived.Test.YtjbajpfonnnfoaaGreatDoorCards
import Derived.Test.YtjbajpfonnnfoaaGreatDoorTie
import Derived.SevenTiedAt
import Derived.Test.YtjbajpfonnnfoaaGreatDoorCAFnEvaluated
import Derived.Test.YtjbajpfonnnfoaaGreatDoorCGFnEvaluated
import Derived.Test.YtjbajpfonnnfoaaGreatDoorCLFnEvaluated
namespace Go.Proofs.YtjbajpfonnnfoaaGreatDoor
open Go.Abs Go.Proofs Go.RowKit

theorem fnEvaluated_holds : Rows.FnEvaluatedCardSaid :=
  Claim7.holds_tied_plain_at .later [] [.data, .pinned] true (true, "4a4313838bdd0db3912c5548d8e480417ee0b347f86d449a564135f01f70035f") false
    fnEvaluated_row_holds (fun _ h => by cases h) (by kernel_rfl) (fun _ h => by cases h) fnEvaluated_row_tie rfl ⟨rfl, rfl⟩ IU rfl
    (fun f fn hf hfn => by
      obtain rfl : f = 4 := Option.some.inj (FZ.symm.trans hf) |>.symm
      obtain rfl : fn = Tryz.f4 := (Option.some.inj (Tryz.func4.symm.trans hfn)).symm
      exact ⟨F7, fun j t ht => by
        have hm : t ∈ Tryz.f4.params.toList := by simpa using Array.mem_of_getElem? ht
        have hall : (Tryz.f4.params.toList.all fun u => !Tryz.prog.wantsStandIn u) = true := FY
        exact (show Tryz.prog.wantsStandIn t = false by simpa using List.all_eq_true.1 hall t hm)⟩)
    IV

#print axioms fnEvaluated_holds
end Go.Proofs.YtjbajpfonnnfoaaGreatDoor
