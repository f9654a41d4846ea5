import Derived.Test.YtjbajpfonnnfoaaGreatDoorMk
import Derived.JoinedOf
/- Closed facts of the whole translation, which every claim of this seat asks. -/
namespace Go.Proofs.YtjbajpfonnnfoaaGreatDoor
open Go.Abs Go.Proofs Go.RowKit
theorem alo{a b:Bool}(x:a=true)(y:b=true):(a&&b)=true:=by rw[x,y];rfl
theorem adX:mapsRowed Tryz.prog=true:=by kernel_rfl
theorem afi:Program.mayEnter Tryz.prog=true:=by kernel_rfl
theorem aeJ:(Rows.fnEvaluatedRow.lifted==Program.liftsFinal Tryz.prog)=true:=by kernel_rfl
theorem agW:(Program.make Tryz.prog==some Rows.fnEvaluatedRow.make)=true:=by kernel_rfl
theorem ag2:(Rows.fnEvaluatedRow.plainKeys==Program.plainKeys Tryz.prog)=true:=by kernel_rfl
