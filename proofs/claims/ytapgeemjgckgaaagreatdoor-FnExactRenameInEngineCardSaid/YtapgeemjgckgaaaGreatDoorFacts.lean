import Derived.Test.YtapgeemjgckgaaaGreatDoorMk
import Derived.JoinedOf
/- Closed facts of the whole translation, which every claim of this seat asks. -/
namespace Go.Proofs.YtapgeemjgckgaaaGreatDoor
open Go.Abs Go.Proofs Go.RowKit
theorem apL{a b:Bool}(x:a=true)(y:b=true):(a&&b)=true:=by rw[x,y];rfl
theorem ait:mapsRowed Tryz.prog=true:=by kernel_rfl
theorem ajT:Program.mayEnter Tryz.prog=true:=by kernel_rfl
theorem ajb:(Rows.fnExactRenameInEngineRow.lifted==Program.liftsFinal Tryz.prog)=true:=by kernel_rfl
theorem ak0:(Program.make Tryz.prog==some Rows.fnExactRenameInEngineRow.make)=true:=by kernel_rfl
theorem ak3:(Rows.fnExactRenameInEngineRow.plainKeys==Program.plainKeys Tryz.prog)=true:=by kernel_rfl
end Go.Proofs.YtapgeemjgckgaaaGreatDoor
