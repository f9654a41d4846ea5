import Derived.Test.YtgfjbogcidlaeaaGreatDoorSrtWalk
/- The functions compute their models, by gen.py. -/
namespace Go.Proofs.YtgfjbogcidlaeaaGreatDoor
noncomputable section
open Go.Abs Go.Proofs
set_option maxRecDepth 100000
def kk145 := kk144.f iFreeNames_sound
def kk146 := kk145.f (s := iUsesOfFS) (snd kk145 [] Tryz.f116)
def kk147 := kk146.f (s := iResolveFS) (snd kk146 [] Tryz.f117)
def kk148 := kk147.f iSorted_sound
theorem iDirectUses_sound : Sound Tryz.prog iDirectUsesFS := snd kk148 [(5, .c 40 [.t 0 (roL .part), .t 5 (owE .int 0), .t 22 (owE .str 1), .t 23 roI, .t 24 roI] [] [])] Tryz.f81
def kk149 := kk148.f iDirectUses_sound
end
end Go.Proofs.YtgfjbogcidlaeaaGreatDoor
