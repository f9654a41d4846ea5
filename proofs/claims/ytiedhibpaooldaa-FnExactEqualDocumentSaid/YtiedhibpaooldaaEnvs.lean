/- Environments, one contract after the other. -/
import Derived.Test.YtiedhibpaooldaaModels
import Derived.Test.YtiedhibpaooldaaSound22
import Derived.KernelRfl
namespace Go.Abs
theorem EnvOk.nil {P : Program} {tt : TT} (h : tt.ok P = true) : EnvOk P { tt := tt, fs := [] } := ⟨h, fun s hs => (by cases hs)⟩
theorem EnvOk.cons {P : Program} {tt : TT} {s : Fsp} {r : List Fsp} (h : callable P s.fid = true) (hs : Sound P s) (hr : EnvOk P { tt := tt, fs := r }) : EnvOk P { tt := tt, fs := s :: r } :=
  ⟨hr.1, fun x hx => (by
    rcases List.mem_cons.1 hx with rfl | hx
    · exact ⟨h, hs⟩
    · exact hr.2 x hx)⟩
end Go.Abs
namespace Go.Proofs.Ytiedhibpaooldaa
open Go.Abs Go.Proofs
set_option maxRecDepth 100000 in
theorem tt_ok : tt.ok Try.prog = true := by kernel_rfl
theorem mixed_ok : Try.prog.follows .mixedOrders = true := by kernel_rfl
end Go.Proofs.Ytiedhibpaooldaa
