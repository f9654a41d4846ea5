import Derived.Test.YtbbmkcioplbhbaaGreatDoorMk
import Derived.JoinedOf
/- Closed facts of the whole translation, which every claim of this seat asks. -/
namespace Go.Proofs.YtbbmkcioplbhbaaGreatDoor
open Go.Abs Go.Proofs Go.RowKit
theorem apZ{a b:Bool}(x:a=true)(y:b=true):(a&&b)=true:=by rw[x,y];rfl
theorem air:mapsRowed Tryz.prog=true:=by kernel_rfl
theorem ajV:Program.mayEnter Tryz.prog=true:=by kernel_rfl
theorem aja:(Rows.fnExactReplayOpRow.lifted==Program.liftsFinal Tryz.prog)=true:=by kernel_rfl
theorem alc:(Program.make Tryz.prog==some Rows.fnExactReplayOpRow.make)=true:=by kernel_rfl
theorem alf:(Rows.fnExactReplayOpRow.plainKeys==Program.plainKeys Tryz.prog)=true:=by kernel_rfl
end Go.Proofs.YtbbmkcioplbhbaaGreatDoor
