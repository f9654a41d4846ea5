import Derived.Test.YtgfjbogcidlaeaaGreatDoorSrtCyc
/- The functions compute their models, by gen.py. -/
namespace Go.Proofs.YtgfjbogcidlaeaaGreatDoor
noncomputable section
open Go.Abs Go.Proofs
set_option maxRecDepth 100000
def acL := aeo.f wR
def acK := acL.f (s := FD) (snd acL [] Tryz.f8)
def acJ := acK.f (s := aai) (snd acK [] Tryz.f47)
def acI := acJ.f (s := Yc) (snd acJ [(4, .c 27 [.t 0 (roL .cell), .t 1 (roL .cell), .t 5 roI] [] [])] Tryz.f27)
def acH := acI.f (s := PX) (snd acI [] Tryz.f9)
theorem pW : Sound Tryz.prog vM := snd acH [] Tryz.f3
def acG := acH.f pW
def acF := acG.f (s := QG) (snd acG [(3, .c 19 [.t 0 (roL .part), .t 3 (.own (.list (.base .int)) true true 0), .t 4 roI] [] [])] Tryz.f48)
def acE := acF.f (s := Ia) (snd acF [] Tryz.f83)
def acD := acE.f (s := QE) (snd acE [(2, .c 30 [.t 0 (roL .int), .t 1 (roL .int), .t 2 (roL .bool), .t 7 roI] [] [])] Tryz.f84)
def acC := acD.f (s := QF) (snd acD [(12, .c 92 [.t 0 (roL .part), .t 1 (.ro (.list (.list (.base .int)))), .t 7 (owE .bool 0), .t 8 roI, .t 10 (owE .int 1), .t 11 roI] [] []), (10, .c 92 [.t 0 (roL .part), .t 1 (.ro (.list (.list (.base .int)))), .t 7 (owE .bool 0), .t 8 roI, .t 10 (owE .int 1)] [] []), (4, .c 92 [.t 0 (roL .part), .t 1 (.ro (.list (.list (.base .int)))), .t 2 (roL .bool), .t 7 (owE .bool 0), .t 8 roI, .t 9 roI] [] [])] Tryz.f49)
def acB := acC.f (s := OA) (snd acC [(11, .c 64 [.t 0 (.ro (.list (.list (.base .int)))), .t 3 (owE .bool 0), .t 4 roI, .t 5 (owE .int 1), .t 6 roI, .t 7 (roL .int), .t 8 roI] [] []), (7, .c 64 [.t 0 (.ro (.list (.list (.base .int)))), .t 3 (owE .bool 0), .t 4 roI, .t 5 (owE .int 1), .t 6 roI] [] []), (3, .c 64 [.t 0 (.ro (.list (.list (.base .int)))), .t 3 (owE .bool 0), .t 4 roI] [] [])] Tryz.f50)
def acA := acB.f (s := Qv) (snd acB [] Tryz.f28)
def acz := acA.f (s := Fp) (snd acA [(4, .c 70 [.b 1 0 (roL .cell), .t 3 (owE .str 0), .t 4 (owE .int 2), .t 5 roI] [(1, 1)] [(1, 1, 0)])] Tryz.f10)
def acy := acz.f (s := JA) (snd acz [] Tryz.f85)
def acw := acy.f (s := Lr) (snd acy [] Tryz.f52)
def acv := acw.f (s := Z5) (snd acw [(2, .c 18 [.t 1 (roL .int), .t 7 (roL .int), .t 8 roI, .t 9 roI] [] [])] Tryz.f53)
def acu := acv.f (s := Fz) (snd acv [(3, .c 26 [.t 0 (roL .part), .t 5 (owE .int 0), .t 11 (owE .int 1), .t 12 roI, .t 13 roI] [] [])] Tryz.f54)
def aen := acu.f (s := RV) (snd acu [(3, .c 40 [.t 0 (roL .part), .t 3 (owE .int 0), .t 4 roI] [] []), (2, .c 40 [.t 0 (roL .part), .t 3 (owE .int 0)] [] [])] Tryz.f30)
def acs := aen.f KZ
def acr := acs.f (s := PI) (snd acs [] Tryz.f31)
def acp := acr.f (s := FH) (snd acr [(5, .c 67 [.b 1 0 (roL .cell), .t 3 (owE .str 0), .t 14 (owE .int 2), .t 15 roI, .t 16 roI] [(1, 1)] [(1, 1, 0)])] Tryz.f11)
def aco := acp.f (s := SI) (snd acp [(4, .c 26 [.t 0 (roL .str), .t 1 (roL .str), .t 5 roI] [] [])] Tryz.f12)
def acn := aco.f (s := UM) (snd aco [(4, .c 20 [.t 0 roI, .t 3 roS] [] [])] Tryz.f33)
theorem DC : nH Tryz.prog Rt := mnd acn [(2, { n := 57, ty := .base .cell, si := 5, sk := 1 })] Tryz.f32
def ack := acn.m DC
theorem yI : nH Tryz.prog I4 := mnd ack [] Tryz.f13
def acj := ack.m yI
theorem zY : nH Tryz.prog KY := mnd acj [(2, { n := 20, ty := .base .str, si := 5, sk := 1 })] Tryz.f14
def aci := acj.m zY
def aem := aci.f (s := LJ) (snd aci [(2, .c 22 [.t 0 (roL .str), .t 1 roI, .t 5 roI] [] [])] Tryz.f15)
theorem pX : Sound Tryz.prog vN := snd aem.tr [] Tryz.f4
end
end Go.Proofs.YtgfjbogcidlaeaaGreatDoor
