import Derived.Test.YtjbajpfonnnfoaaGreatDoorMk
import Derived.JoinedOf
/- Closed facts of the whole translation, which every claim of this seat asks. -/
namespace Go.Proofs.YtjbajpfonnnfoaaGreatDoor
open Go.Abs Go.Proofs Go.RowKit
theorem ama{a b:Bool}(x:a=true)(y:b=true):(a&&b)=true:=by rw[x,y];rfl
theorem aev:mapsRowed Tryz.prog=true:=by kernel_rfl
theorem af4:Program.mayEnter Tryz.prog=true:=by kernel_rfl
theorem aft:(Rows.fnRenamedValueRow.lifted==Program.liftsFinal Tryz.prog)=true:=by kernel_rfl
theorem ahC:(Program.make Tryz.prog==some Rows.fnRenamedValueRow.make)=true:=by kernel_rfl
theorem ahH:(Rows.fnRenamedValueRow.plainKeys==Program.plainKeys Tryz.prog)=true:=by kernel_rfl
