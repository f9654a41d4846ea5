import Derived.Test.YtgfjbogcidlaeaaGreatDoorSrtReach
/- The functions compute their models, by gen.py. -/
namespace Go.Proofs.YtgfjbogcidlaeaaGreatDoor
noncomputable section
open Go.Abs Go.Proofs
set_option maxRecDepth 100000
def acP := aep.f JF
def acO := acP.f (s := U6) (snd acP [] Tryz.f79)
def acN := acO.f (s := ZP) (snd acO [(3, .c 24 [.t 0 (roL .part), .t 1 roI, .t 5 (owE .int 0), .t 9 roI, .t 10 roI] [] [])] Tryz.f115)
def acM := acN.f (s := U2) (snd acN [(15, .c 61 [.t 0 (roL .part), .t 5 (owE .int 0), .t 7 roI, .t 8 (owE .int 1), .t 30 (owE .int 2), .t 31 roI, .t 32 roI, .t 38 (owE .int 3), .t 39 roI, .t 40 roI] [] []), (12, .c 61 [.t 0 (roL .part), .t 5 (owE .int 0), .t 7 roI, .t 8 (owE .int 1), .t 30 (owE .int 2), .t 31 roI, .t 32 roI] [] []), (8, .c 61 [.t 0 (roL .part), .t 5 (owE .int 0), .t 6 (owE .int 1), .t 7 roI] [] []), (3, .c 61 [.t 0 (roL .part), .t 1 roI, .t 5 (owE .int 0), .t 15 roI, .t 16 roI] [] [])] Tryz.f80)
theorem nI : Sound Tryz.prog FI := snd acM [(9, .c 58 [.t 0 (roL .part), .t 1 roI, .t 5 (owE .int 0), .t 6 (owE .int 1), .t 7 roI, .t 34 (owE .int 2), .t 35 roI, .t 36 roI] [] []), (6, .c 58 [.t 0 (roL .part), .t 1 roI, .t 5 (owE .int 0), .t 6 (owE .int 1), .t 7 roI] [] [])] Tryz.f46
def aeo := acM.f nI
end
end Go.Proofs.YtgfjbogcidlaeaaGreatDoor
