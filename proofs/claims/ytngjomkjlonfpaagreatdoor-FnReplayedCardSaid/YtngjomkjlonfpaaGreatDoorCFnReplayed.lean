import Derived.Test.YtngjomkjlonfpaaGreatDoorFacts
import Derived.Test.YtngjomkjlonfpaaGreatDoorReplay2
import Derived.Test.YtngjomkjlonfpaaGreatDoorDen4
import Derived.Test.YtngjomkjlonfpaaGreatDoorDoorC
import Derived.Test.YtngjomkjlonfpaaGreatDoorCards
import Derived.Test.YtngjomkjlonfpaaGreatDoorTie
import Derived.SevenTiedAt
import Derived.Test.YtngjomkjlonfpaaGreatDoorCAFnReplayed
import Derived.Test.YtngjomkjlonfpaaGreatDoorCGFnReplayed
import Derived.Test.YtngjomkjlonfpaaGreatDoorCLFnReplayed
namespace Go.Proofs.YtngjomkjlonfpaaGreatDoor
open Go.Abs Go.Proofs Go.RowKit

theorem fnReplayed_holds : Rows.FnReplayedCardSaid :=
  Claim7.holds_tied_plain_at .later [] [.data, .data, .data, .data, .sentinel, .sentinel, .pinned] true (true, "a88c960b726614b9ae8600ecdbfb4a7a4149a8161604cb1a48c7d4bdb0f69a35") true
    fnReplayed_row_holds (fun _ h => by cases h) (by kernel_rfl) (fun _ h => by cases h) fnReplayed_row_tie rfl ⟨rfl, rfl⟩ OH rfl
    (fun f fn hf hfn => by
      obtain rfl : f = 3 := Option.some.inj (L6.symm.trans hf) |>.symm
      obtain rfl : fn = Tryz.f3 := (Option.some.inj (Tryz.func3.symm.trans hfn)).symm
      exact ⟨L8, fun j t ht => by
        have hm : t ∈ Tryz.f3.params.toList := by simpa using Array.mem_of_getElem? ht
        have hall : (Tryz.f3.params.toList.all fun u => !Tryz.prog.wantsStandIn u) = true := LZ
        exact (show Tryz.prog.wantsStandIn t = false by simpa using List.all_eq_true.1 hall t hm)⟩)
    OI

#print axioms fnReplayed_holds
end Go.Proofs.YtngjomkjlonfpaaGreatDoor
