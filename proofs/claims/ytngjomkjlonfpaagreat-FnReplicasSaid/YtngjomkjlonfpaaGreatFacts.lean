import Derived.Test.YtngjomkjlonfpaaGreatMk
import Derived.JoinedOf
/- Closed facts of the whole translation, which every claim of this seat asks. -/
namespace Go.Proofs.YtngjomkjlonfpaaGreat
open Go.Abs Go.Proofs Go.RowKit
theorem amI{a b:Bool}(x:a=true)(y:b=true):(a&&b)=true:=by rw[x,y];rfl
theorem agA:mapsRowed Tryz.prog=true:=by kernel_rfl
theorem ahS:Program.mayEnter Tryz.prog=true:=by kernel_rfl
theorem ahn:(Rows.fnReplicasRow.lifted==Program.liftsFinal Tryz.prog)=true:=by kernel_rfl
theorem ajn:(Program.make Tryz.prog==some Rows.fnReplicasRow.make)=true:=by kernel_rfl
theorem ajv:(Rows.fnReplicasRow.plainKeys==Program.plainKeys Tryz.prog)=true:=by kernel_rfl
end Go.Proofs.YtngjomkjlonfpaaGreat
