/- The functions compute their models, by gen.py. -/
import Derived.Test.YtceinjokenbhjaaGreatDoorDen4
namespace Go.Proofs.YtceinjokenbhjaaGreatDoor
open Go.Abs Go.Proofs
set_option maxRecDepth 100000
theorem FnExactAdaptEdit_den (a : GEdit) (b : List GOp) : denF { tt := tt, fs := [szEditFS, szOpSFS, sAdaptEditFS, toEditFS, toOpSFS, iAdaptEditFS, eqEditFS, eqOpSFS] } [] Tryz.f3 FnExactAdaptEditFS.ps FnExactAdaptEditFS.rs FnExactAdaptEditFS.ex (a, b) = FnExactAdaptEdit a b := by kernel_rfl
theorem FnExactAdaptEdit_sound : Sound Tryz.prog FnExactAdaptEditFS :=
  sound_of_den (E := { tt := tt, fs := [szEditFS, szOpSFS, sAdaptEditFS, toEditFS, toOpSFS, iAdaptEditFS, eqEditFS, eqOpSFS] }) (.cons szEdit_callable szEdit_sound (.cons szOpS_callable szOpS_sound (.cons sAdaptEdit_callable sAdaptEdit_sound (.cons toEdit_callable toEdit_sound (.cons toOpS_callable toOpS_sound (.cons iAdaptEdit_callable iAdaptEdit_sound (.cons eqEdit_callable eqEdit_sound (.cons eqOpS_callable eqOpS_sound (.nil tt_ok))))))))) mixed_ok [] (fn := Tryz.f3) (by kernel_rfl) fun x => FnExactAdaptEdit_den x.1 x.2
end Go.Proofs.YtceinjokenbhjaaGreatDoor
