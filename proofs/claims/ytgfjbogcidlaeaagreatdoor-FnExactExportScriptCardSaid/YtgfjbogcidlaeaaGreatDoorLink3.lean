import Derived.Test.YtgfjbogcidlaeaaGreatDoorLink2
import Derived.Test.YtgfjbogcidlaeaaGreatDoorEnvs
import Derived.Test.YtgfjbogcidlaeaaGreatDoorRows
/- The frame of every law's proof: closed facts of this translation. -/
namespace Go.Proofs.YtgfjbogcidlaeaaGreatDoor
open Go.Abs Go.Proofs Go.RowKit
theorem gY : sK Tryz.prog tt = true := by kernel_rfl
theorem adJ : ownKnob Tryz.prog.godebug = none := by kernel_rfl
theorem V9 : laidOutB Tryz.prog = true := by kernel_rfl
end Go.Proofs.YtgfjbogcidlaeaaGreatDoor
