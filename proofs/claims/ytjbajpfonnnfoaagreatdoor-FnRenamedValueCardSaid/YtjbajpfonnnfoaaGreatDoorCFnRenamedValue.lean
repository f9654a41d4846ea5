import Derived.Test.YtjbajpfonnnfoaaGreatDoorFacts
import Derived.Test.YtjbajpfonnnfoaaGreatDoorRenX
import Derived.Test.YtjbajpfonnnfoaaGreatDoorDen6
import Derived.Test.YtjbajpfonnnfoaaGreatDoorDoorC
import Derived.Test.YtjbajpfonnnfoaaGreatDoorCards
import Derived.Test.YtjbajpfonnnfoaaGreatDoorTie
import Derived.SevenTiedAt
import Derived.Test.YtjbajpfonnnfoaaGreatDoorCAFnRenamedValue
import Derived.Test.YtjbajpfonnnfoaaGreatDoorCGFnRenamedValue
import Derived.Test.YtjbajpfonnnfoaaGreatDoorCLFnRenamedValue
namespace Go.Proofs.YtjbajpfonnnfoaaGreatDoor
open Go.Abs Go.Proofs Go.RowKit

theorem fnRenamedValue_holds : Rows.FnRenamedValueCardSaid :=
  Claim7.holds_tied_plain_at .later [] [.data, .pinned] true (true, "4a4313838bdd0db3912c5548d8e480417ee0b347f86d449a564135f01f70035f") false
    fnRenamedValue_row_holds (fun _ h => by cases h) (by kernel_rfl) (fun _ h => by cases h) fnRenamedValue_row_tie rfl ⟨rfl, rfl⟩ CZ rfl
    (fun f fn hf hfn => by
      obtain rfl : f = 5 := Option.some.inj (Bd.symm.trans hf) |>.symm
      obtain rfl : fn = Tryz.f5 := (Option.some.inj (Tryz.func5.symm.trans hfn)).symm
      exact ⟨Be, fun j t ht => by
        have hm : t ∈ Tryz.f5.params.toList := by simpa using Array.mem_of_getElem? ht
        have hall : (Tryz.f5.params.toList.all fun u => !Tryz.prog.wantsStandIn u) = true := Bc
        exact (show Tryz.prog.wantsStandIn t = false by simpa using List.all_eq_true.1 hall t hm)⟩)
    C9

#print axioms fnRenamedValue_holds
end Go.Proofs.YtjbajpfonnnfoaaGreatDoor
