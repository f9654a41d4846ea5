import Derived.Test.YtkebfkahdmddpaaGreatDoorMk
import Derived.JoinedOf
/- Closed facts of the whole translation, which every claim of this seat asks. -/
namespace Go.Proofs.YtkebfkahdmddpaaGreatDoor
open Go.Abs Go.Proofs Go.RowKit
theorem ajA{a b:Bool}(x:a=true)(y:b=true):(a&&b)=true:=by rw[x,y];rfl
theorem adC:mapsRowed Tryz.prog=true:=by kernel_rfl
theorem aeT:Program.mayEnter Tryz.prog=true:=by kernel_rfl
theorem aef:(Rows.fnRenamedUsesRow.lifted==Program.liftsFinal Tryz.prog)=true:=by kernel_rfl
theorem af5:(Program.make Tryz.prog==some Rows.fnRenamedUsesRow.make)=true:=by kernel_rfl
theorem agc:(Rows.fnRenamedUsesRow.plainKeys==Program.plainKeys Tryz.prog)=true:=by kernel_rfl
end Go.Proofs.YtkebfkahdmddpaaGreatDoor
