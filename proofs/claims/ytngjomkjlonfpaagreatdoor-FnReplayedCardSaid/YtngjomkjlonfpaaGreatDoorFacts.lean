import Derived.Test.YtngjomkjlonfpaaGreatDoorMk
import Derived.JoinedOf
/- Closed facts of the whole translation, which every claim of this seat asks. -/
namespace Go.Proofs.YtngjomkjlonfpaaGreatDoor
open Go.Abs Go.Proofs Go.RowKit
theorem aqj{a b:Bool}(x:a=true)(y:b=true):(a&&b)=true:=by rw[x,y];rfl
theorem aiz:mapsRowed Tryz.prog=true:=by kernel_rfl
theorem ajX:Program.mayEnter Tryz.prog=true:=by kernel_rfl
theorem ajj:(Rows.fnReplayedRow.lifted==Program.liftsFinal Tryz.prog)=true:=by kernel_rfl
theorem alq:(Program.make Tryz.prog==some Rows.fnReplayedRow.make)=true:=by kernel_rfl
theorem alC:(Rows.fnReplayedRow.plainKeys==Program.plainKeys Tryz.prog)=true:=by kernel_rfl
end Go.Proofs.YtngjomkjlonfpaaGreatDoor
