import Derived.Test.YtgfjbogcidlaeaaGreatDoorSrtWalk
/- The functions compute their models, by gen.py. -/
namespace Go.Proofs.YtgfjbogcidlaeaaGreatDoor
noncomputable section
open Go.Abs Go.Proofs
set_option maxRecDepth 100000
def acS := aes.f DX
def acR := acS.f (s := XR) (snd acS [] Tryz.f116)
def aer := acR.f (s := U4) (snd acR [] Tryz.f117)
def acQ := aer.f Lc
theorem qw : Sound Tryz.prog LC := snd acQ [(5, .c 40 [.t 0 (roL .part), .t 5 (owE .int 0), .t 22 (owE .str 1), .t 23 roI, .t 24 roI] [] [])] Tryz.f81
def aep := acQ.f qw
end
end Go.Proofs.YtgfjbogcidlaeaaGreatDoor
