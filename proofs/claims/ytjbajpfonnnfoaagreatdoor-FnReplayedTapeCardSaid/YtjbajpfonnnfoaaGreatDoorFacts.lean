import Derived.Test.YtjbajpfonnnfoaaGreatDoorMk
import Derived.JoinedOf
/- Closed facts of the whole translation, which every claim of this seat asks. -/
namespace Go.Proofs.YtjbajpfonnnfoaaGreatDoor
open Go.Abs Go.Proofs Go.RowKit
theorem alh{a b:Bool}(x:a=true)(y:b=true):(a&&b)=true:=by rw[x,y];rfl
theorem adU:mapsRowed Tryz.prog=true:=by kernel_rfl
theorem afh:Program.mayEnter Tryz.prog=true:=by kernel_rfl
theorem aeI:(Rows.fnReplayedTapeRow.lifted==Program.liftsFinal Tryz.prog)=true:=by kernel_rfl
theorem agW:(Program.make Tryz.prog==some Rows.fnReplayedTapeRow.make)=true:=by kernel_rfl
theorem ag1:(Rows.fnReplayedTapeRow.plainKeys==Program.plainKeys Tryz.prog)=true:=by kernel_rfl
