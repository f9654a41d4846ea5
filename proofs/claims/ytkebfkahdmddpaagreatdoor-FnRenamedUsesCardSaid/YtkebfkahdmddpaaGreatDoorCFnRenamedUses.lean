import Derived.Test.YtkebfkahdmddpaaGreatDoorFacts
import Derived.Test.YtkebfkahdmddpaaGreatDoorBat3
import Derived.Test.YtkebfkahdmddpaaGreatDoorDen3
import Derived.Test.YtkebfkahdmddpaaGreatDoorDoorC
import Derived.Test.YtkebfkahdmddpaaGreatDoorCards
import Derived.Test.YtkebfkahdmddpaaGreatDoorTie
import Derived.SevenTiedAt
import Derived.Test.YtkebfkahdmddpaaGreatDoorCAFnRenamedUses
import Derived.Test.YtkebfkahdmddpaaGreatDoorCGFnRenamedUses
import Derived.Test.YtkebfkahdmddpaaGreatDoorCLFnRenamedUses
namespace Go.Proofs.YtkebfkahdmddpaaGreatDoor
open Go.Abs Go.Proofs Go.RowKit

theorem fnRenamedUses_holds : Rows.FnRenamedUsesCardSaid :=
  Claim7.holds_tied_plain_at .later [] [.data, .data, .data, .data, .sentinel, .sentinel, .pinned] true (true, "fb8437803ee9382e923b159ddaf8c9ddd1f965db2c3ff4c9a140a2c00efe8cb2") true
    fnRenamedUses_row_holds (fun _ h => by cases h) (by kernel_rfl) (fun _ h => by cases h) fnRenamedUses_row_tie rfl ⟨rfl, rfl⟩ Em rfl
    (fun f fn hf hfn => by
      obtain rfl : f = 3 := Option.some.inj (Cm.symm.trans hf) |>.symm
      obtain rfl : fn = Tryz.f3 := (Option.some.inj (Tryz.func3.symm.trans hfn)).symm
      exact ⟨CB, fun j t ht => by
        have hm : t ∈ Tryz.f3.params.toList := by simpa using Array.mem_of_getElem? ht
        have hall : (Tryz.f3.params.toList.all fun u => !Tryz.prog.wantsStandIn u) = true := Cj
        exact (show Tryz.prog.wantsStandIn t = false by simpa using List.all_eq_true.1 hall t hm)⟩)
    En

#print axioms fnRenamedUses_holds
end Go.Proofs.YtkebfkahdmddpaaGreatDoor
