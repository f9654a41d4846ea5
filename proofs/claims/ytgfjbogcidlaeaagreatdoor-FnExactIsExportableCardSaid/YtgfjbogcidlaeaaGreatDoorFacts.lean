import Derived.Test.YtgfjbogcidlaeaaGreatDoorLink3
import Derived.JoinedOf
/- Closed facts of the whole translation, which every claim of this seat asks. -/
namespace Go.Proofs.YtgfjbogcidlaeaaGreatDoor
open Go.Abs Go.Proofs Go.RowKit
theorem and_i {a b : Bool} (x : a = true) (y : b = true) : (a && b) = true := by rw [x, y]; rfl
theorem rowed_ok : mapsRowed Tryz.prog = true := by kernel_rfl
theorem enter_ok : Program.mayEnter Tryz.prog = true := by kernel_rfl
theorem lifts_ok : (Rows.fnExactIsExportableRow.lifted == Program.liftsFinal Tryz.prog) = true := by kernel_rfl
theorem make_ok : (Program.make Tryz.prog == some Rows.fnExactIsExportableRow.make) = true := by kernel_rfl
theorem keys_ok : (Rows.fnExactIsExportableRow.plainKeys == Program.plainKeys Tryz.prog) = true := by kernel_rfl
end Go.Proofs.YtgfjbogcidlaeaaGreatDoor
