import Derived.Test.YtbbmkcioplbhbaaGreatDoorFacts
import Derived.Test.YtbbmkcioplbhbaaGreatDoorReplay2
import Derived.Test.YtbbmkcioplbhbaaGreatDoorDen4
import Derived.Test.YtbbmkcioplbhbaaGreatDoorDoorC
import Derived.Test.YtbbmkcioplbhbaaGreatDoorCards
import Derived.Test.YtbbmkcioplbhbaaGreatDoorTie
import Derived.SevenTiedAt
import Derived.Test.YtbbmkcioplbhbaaGreatDoorCAFnExactReplayOp
import Derived.Test.YtbbmkcioplbhbaaGreatDoorCGFnExactReplayOp
import Derived.Test.YtbbmkcioplbhbaaGreatDoorCLFnExactReplayOp
namespace Go.Proofs.YtbbmkcioplbhbaaGreatDoor
open Go.Abs Go.Proofs Go.RowKit

theorem fnExactReplayOp_holds : Rows.FnExactReplayOpCardSaid :=
  Claim7.holds_tied_plain_at .later [] [.data, .data, .data, .data, .sentinel, .sentinel, .pinned] true (true, "2a7f3ad3666b58da7385d682bae9937ec07a94f12e258607b0e2908147bf295c") true
    fnExactReplayOp_row_holds (fun _ h => by cases h) (by kernel_rfl) (fun _ h => by cases h) fnExactReplayOp_row_tie rfl ⟨rfl, rfl⟩ Dl rfl
    (fun f fn hf hfn => by
      obtain rfl : f = 3 := Option.some.inj (AZ.symm.trans hf) |>.symm
      obtain rfl : fn = Tryz.f3 := (Option.some.inj (Tryz.func3.symm.trans hfn)).symm
      exact ⟨A7, fun j t ht => by
        have hm : t ∈ Tryz.f3.params.toList := by simpa using Array.mem_of_getElem? ht
        have hall : (Tryz.f3.params.toList.all fun u => !Tryz.prog.wantsStandIn u) = true := AY
        exact (show Tryz.prog.wantsStandIn t = false by simpa using List.all_eq_true.1 hall t hm)⟩)
    Dn

#print axioms fnExactReplayOp_holds
end Go.Proofs.YtbbmkcioplbhbaaGreatDoor
