import Derived.Test.YtgfjbogcidlaeaaGreatDoorLink3
import Derived.JoinedOf
/- Closed facts of the whole translation, which every claim of this seat asks. -/
namespace Go.Proofs.YtgfjbogcidlaeaaGreatDoor
open Go.Abs Go.Proofs Go.RowKit
theorem aeI {a b : Bool} (x : a = true) (y : b = true) : (a && b) = true := by rw [x, y]; rfl
theorem Y2 : mapsRowed Tryz.prog = true := by kernel_rfl
theorem aaj : Program.mayEnter Tryz.prog = true := by kernel_rfl
theorem ZA : (Rows.fnExactIsExportableRow.lifted == Program.liftsFinal Tryz.prog) = true := by kernel_rfl
theorem abu : (Program.make Tryz.prog == some Rows.fnExactIsExportableRow.make) = true := by kernel_rfl
theorem aby : (Rows.fnExactIsExportableRow.plainKeys == Program.plainKeys Tryz.prog) = true := by kernel_rfl
end Go.Proofs.YtgfjbogcidlaeaaGreatDoor
