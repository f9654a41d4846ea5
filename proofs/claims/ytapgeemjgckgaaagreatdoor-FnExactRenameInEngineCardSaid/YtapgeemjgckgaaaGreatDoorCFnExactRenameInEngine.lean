import Derived.Test.YtapgeemjgckgaaaGreatDoorFacts
import Derived.Test.YtapgeemjgckgaaaGreatDoorRenV1
import Derived.Test.YtapgeemjgckgaaaGreatDoorDen5
import Derived.Test.YtapgeemjgckgaaaGreatDoorDoorC
import Derived.Test.YtapgeemjgckgaaaGreatDoorCards
import Derived.Test.YtapgeemjgckgaaaGreatDoorTie
import Derived.SevenTiedAt
import Derived.Test.YtapgeemjgckgaaaGreatDoorCAFnExactRenameInEngine
import Derived.Test.YtapgeemjgckgaaaGreatDoorCGFnExactRenameInEngine
import Derived.Test.YtapgeemjgckgaaaGreatDoorCLFnExactRenameInEngine
namespace Go.Proofs.YtapgeemjgckgaaaGreatDoor
open Go.Abs Go.Proofs Go.RowKit

theorem fnExactRenameInEngine_holds : Rows.FnExactRenameInEngineCardSaid :=
  Claim7.holds_tied_plain_at .later [] [.data, .data, .data, .data, .sentinel, .sentinel, .pinned] true (true, "ace6da857a3b72f7451dd9a4de892054ae67f28ded4ada504fbc65a97f50322f") true
    fnExactRenameInEngine_row_holds (fun _ h => by cases h) (by kernel_rfl) (fun _ h => by cases h) fnExactRenameInEngine_row_tie rfl ⟨rfl, rfl⟩ uT rfl
    (fun f fn hf hfn => by
      obtain rfl : f = 3 := Option.some.inj (rZ.symm.trans hf) |>.symm
      obtain rfl : fn = Tryz.f3 := (Option.some.inj (Tryz.func3.symm.trans hfn)).symm
      exact ⟨su, fun j t ht => by
        have hm : t ∈ Tryz.f3.params.toList := by simpa using Array.mem_of_getElem? ht
        have hall : (Tryz.f3.params.toList.all fun u => !Tryz.prog.wantsStandIn u) = true := rY
        exact (show Tryz.prog.wantsStandIn t = false by simpa using List.all_eq_true.1 hall t hm)⟩)
    uU

#print axioms fnExactRenameInEngine_holds
end Go.Proofs.YtapgeemjgckgaaaGreatDoor
