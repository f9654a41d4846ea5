import Derived.Test.YtgfjbogcidlaeaaGreatDoorSrtCyc
/- The functions compute their models, by gen.py. -/
namespace Go.Proofs.YtgfjbogcidlaeaaGreatDoor
noncomputable section
open Go.Abs Go.Proofs
set_option maxRecDepth 100000
def kk155 := kk154.f iSmallestCycle_sound
def kk156 := kk155.f (s := iIsExportableFS) (snd kk155 [] Tryz.f8)
def kk157 := kk156.f (s := eqCellFS) (snd kk156 [] Tryz.f47)
def kk158 := kk157.f (s := eqCellSFS) (snd kk157 [(4, .c 27 [.t 0 (roL .cell), .t 1 (roL .cell), .t 5 roI] [] [])] Tryz.f27)
def kk159 := kk158.f (s := eqNotebookFS) (snd kk158 [] Tryz.f9)
theorem FnExactIsExportable_sound : Sound Tryz.prog FnExactIsExportableFS := snd kk159 [] Tryz.f3
end
end Go.Proofs.YtgfjbogcidlaeaaGreatDoor
