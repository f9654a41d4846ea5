/- Closed facts of the whole translation, which every claim of this seat asks. -/
import Derived.Test.YtopcobafmnpmkaaLink3
import Derived.JoinedOf
namespace Go.Proofs.Ytopcobafmnpmkaa
open Go.Abs Go.Proofs Go.RowKit

theorem and_i {a b : Bool} (x : a = true) (y : b = true) : (a && b) = true := by rw [x, y]; rfl
theorem rowed_ok : mapsRowed Try.prog = true := by kernel_rfl
theorem enter_ok : Program.mayEnter Try.prog = true := by kernel_rfl
theorem lifts_ok : (Rows.fnExactRenameTapesRow.lifted == Program.liftsFinal Try.prog) = true := by kernel_rfl
theorem make_ok : (Program.make Try.prog == some Rows.fnExactRenameTapesRow.make) = true := by kernel_rfl
theorem keys_ok : (Rows.fnExactRenameTapesRow.plainKeys == Program.plainKeys Try.prog) = true := by kernel_rfl
end Go.Proofs.Ytopcobafmnpmkaa
