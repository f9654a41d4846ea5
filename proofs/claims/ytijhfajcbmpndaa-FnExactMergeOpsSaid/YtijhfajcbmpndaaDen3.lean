/- The functions compute their models, by gen.py. -/
import Derived.Test.YtijhfajcbmpndaaDen2
namespace Go.Proofs.Ytijhfajcbmpndaa
open Go.Abs Go.Proofs
set_option maxRecDepth 100000
theorem FnExactMergeOps_callable : callable Try.prog 3 = true := by kernel_rfl
theorem FnExactMergeOps_den (a : List GOp) (b : List GOp) : denF { tt := tt, fs := [szOpSFS, toOpSFS, iMergeOpsFS, eqOpSFS, heldOpSFS], ms := [markOpSMS], trees := true, ss := [sMergeOpsFS] } [] Try.f3 FnExactMergeOpsFS.ps FnExactMergeOpsFS.rs FnExactMergeOpsFS.ex (a, b) = FnExactMergeOps a b := by kernel_rfl
theorem FnExactMergeOps_sound : Sound Try.prog FnExactMergeOpsFS :=
  sound_of_den (E := { tt := tt, fs := [szOpSFS, toOpSFS, iMergeOpsFS, eqOpSFS, heldOpSFS], ms := [markOpSMS], trees := true, ss := [sMergeOpsFS] }) (.cons szOpS_callable szOpS_sound (.cons toOpS_callable toOpS_sound (.cons iMergeOps_callable iMergeOps_sound (.cons eqOpS_callable eqOpS_sound (.cons heldOpS_callable heldOpS_sound (.consM markOpS_callable markOpS_msound (.consS sMergeOps_callable sMergeOps_sound (.nil tt_ok)))))))) mixed_ok [] (fn := Try.f3) (by kernel_rfl) fun x => FnExactMergeOps_den x.1 x.2
end Go.Proofs.Ytijhfajcbmpndaa
