import Derived.Test.YtbbmkcioplbhbaaGreatDoorLayL
/- The functions compute their models, by gen.py. -/
namespace Go.Proofs.YtbbmkcioplbhbaaGreatDoor
noncomputable section
open Go.Abs Go.Proofs
set_option maxRecDepth 100000
def kk1:=kk0.f (s:=aiv) (snd kk0 [] Tryz.f24)
def kk2:=kk1.f (s:=aix) (snd kk1 [] Tryz.f68)
def kk3:=kk2.f (s:=aiw) (snd kk2 [] Tryz.f25)
def kk4:=kk3.f (s:=ZQ) (snd kk3 [(5,.c 28 [.t 0 (roL .str),.t 1 roI,.t 5 roI] [] [])] Tryz.f158)
def kk5:=kk4.f (s:=ZT) (snd kk4 [] Tryz.f246)
def kk6:=kk5.f (s:=ale) (snd kk5 [] Tryz.f198)
def kk7:=kk6.f (s:=air) (snd kk6 [(5,.c 27 [.t 0 (roL .row),.t 1 roI,.t 5 roI] [] [])] Tryz.f159)
theorem tY:∀n,Sound Tryz.prog (O7 n)/\Sound Tryz.prog (LV n)
 | 0=>⟨(fun w S args x y h=>by cases h),(fun w S args x y h=>by cases h)⟩
 | n+1=>
  have ih:=tY n
  ⟨snd (s:=O7 (n+1)) ((kk7.f ih.1).f ih.2) [] Tryz.f118,
  snd (s:=LV (n+1)) ((kk7.f ih.1).f ih.2) [(5,.c 27 [.t 0 (roL .val),.t 1 roI,.t 5 roI] [] [])] Tryz.f157⟩
theorem TL:Sound Tryz.prog agq:=fun w S args x y h=>(tY (siz (α:=aF) x.1+1)).1 w S args x y h
def kk8:=kk7.f TL
theorem O6:Sound Tryz.prog acR:=fun w S args x y h=>(tY (siz (α:=List aF) x.1+1)).2 w S args x y h
def kk9:=kk8.f O6
def kk10:=kk9.f (s:=ais) (snd kk9 [] Tryz.f69)
def kk11:=kk10.f (s:=agu) (snd kk10 [(5,.c 27 [.t 0 (roL .read),.t 1 roI,.t 5 roI] [] [])] Tryz.f26)
def kk12:=kk11.f (s:=apI) (snd kk11 [] Tryz.f6)
def kk13:=kk12.f (s:=alh) (snd kk12 [(5,.c 27 [.t 0 (roL .op),.t 1 roI,.t 5 roI] [] [])] Tryz.f7)
def kk14:=kk13.f (s:=agw) (snd kk13 [(5,.c 27 [.t 0 (roL .cell),.t 1 roI,.t 5 roI] [] [])] Tryz.f66)
def kk15:=kk14.f (s:=Xq) (snd kk14 [] Tryz.f22)
def kk16:=kk15.f (s:=aio) (snd kk15 [] Tryz.f67)
def kk17:=kk16.f (s:=agr) (snd kk16 [(5,.c 27 [.t 0 (roL .tape),.t 1 roI,.t 5 roI] [] [])] Tryz.f23)
def kk18:=kk17.f (s:=Xu) (snd kk17 [] Tryz.f5)
def kk19:=kk18.f (s:=ado) (snd kk18 [] Tryz.f70)
def kk20:=kk19.f (s:=aiK) (snd kk19 [] Tryz.f220)
theorem BH:∀n,Sound Tryz.prog (PK n)
 | 0=>(fun w S args x y h=>by cases h)
 | n+1=>
  have ih:=BH n
  snd (s:=PK (n+1)) (kk20.f ih) [(7,.c 56 [.b 1 0 roI,.b 1 1 roI,.b 1 2 roI,.b 1 3 roS,.b 1 4 (roL .val),.b 1 5 (roL .str),.b 1 6 (roL .row),.b 2 0 roI,.b 2 1 roI,.b 2 2 roI,.b 2 3 roS,.b 2 4 (owE .val 0),.b 2 5 (owE .str 4),.b 2 6 (owE .row 5),.b 3 0 roI,.b 3 1 roI,.b 3 2 roI,.b 3 3 roS,.b 3 4 (owE .val 6),.b 3 5 (owE .str 7),.b 3 6 (owE .row 8),.t 5 roI] [(1,7),(2,7),(3,7)] [(1,1,0),(2,2,0),(3,3,0)]),(3,.c 56 [.b 1 0 roI,.b 1 1 roI,.b 1 2 roI,.b 1 3 roS,.b 1 4 (roL .val),.b 1 5 (roL .str),.b 1 6 (roL .row),.b 2 0 roI,.b 2 1 roI,.b 2 2 roI,.b 2 3 roS,.b 2 4 (owE .val 0),.b 2 5 (owE .str 4),.b 2 6 (owE .row 5),.b 3 0 roI,.b 3 1 roI,.b 3 2 roI,.b 3 3 roS,.b 3 4 (owE .val 6),.b 3 5 (owE .str 7),.b 3 6 (owE .row 8),.t 4 roI] [(1,7),(2,7),(3,7)] [(1,1,0),(2,2,0),(3,3,0)])] Tryz.f173
theorem TU:Sound Tryz.prog agJ:=fun w S args x y h=>(BH (siz (α:=aF) x+1)) w S args x y h
def kk21:=kk20.f TU
def kk22:=kk21.f (s:=adq) (snd kk21 [] Tryz.f132)
def kk23:=kk22.f (s:=aao) (snd kk22 [(3,.c 21 [.t 0 (roL .read),.t 3 (owE .read 0),.t 4 roI] [] [])] Tryz.f81)
def kk24:=kk23.f (s:=adk) (snd kk23 [(3,.c 33 [.t 0 (roL .tape),.t 3 (owE .tape 0),.t 4 roI] [] [])] Tryz.f71)
def kk25:=kk24.f (s:=adg) (snd kk24 [] Tryz.f33)
def kk26:=kk25.f (s:=agH) (snd kk25 [(3,.c 21 [.t 0 (roL .op),.t 3 (owE .op 0),.t 4 roI] [] [])] Tryz.f72)
def kk27:=kk26.f (s:=ada) (snd kk26 [] Tryz.f27)
def kk28:=kk27.f (s:=aaf) (snd kk27 [] Tryz.f247)
def kk29:=kk28.f (s:=ac9) (snd kk28 [] Tryz.f248)
def kk30:=kk29.f (s:=XU) (snd kk29 [(5,.c 31 [.t 0 roI,.t 3 (roE .bool),.t 4 roS] [] [])] Tryz.f209)
def kk31:=kk30.f (s:=agM) (snd kk30 [(9,.c 63 [.t 0 roS,.t 6 (roE .bool),.t 7 roS,.t 8 roI,.t 9 roI] [] [])] Tryz.f281)
def kk32:=kk31.f (s:=Z8) (snd kk31 [] Tryz.f249)
def kk33:=kk32.f (s:=Qd) (snd kk32 [(2,.c 29 [.t 0 roS,.t 3 roI] [] [])] Tryz.f250)
def kk34:=kk33.f (s:=aae) (snd kk33 [] Tryz.f251)
def kk35:=kk34.f (s:=agG) (snd kk34 [(7,.c 136 [.t 0 roS,.t 1 roI,.b 4 0 roI,.b 4 1 roI,.b 4 2 roI,.b 4 3 roS,.b 6 0 roI,.b 6 1 roI,.b 6 2 roI,.b 6 3 roS,.t 7 roI] [(4,4),(6,4)] [(4,4,0),(6,6,0)]),(14,.c 136 [.t 0 roS,.t 1 roI,.b 4 0 roI,.b 4 1 roI,.b 4 2 roI,.b 4 3 roS,.b 6 0 roI,.b 6 1 roI,.b 6 2 roI,.b 6 3 roS,.t 7 roI] [(4,4),(6,4)] [(4,4,0),(6,6,0)]),(23,.c 136 [.t 0 roS,.t 1 roI,.b 4 0 roI,.b 4 1 roI,.b 4 2 roI,.b 4 3 roS,.b 6 0 roI,.b 6 1 roI,.b 6 2 roI,.b 6 3 roS,.t 7 roI] [(4,4),(6,4)] [(4,4,0),(6,6,0)])] Tryz.f199)
def kk36:=kk35.f (s:=Z4) (snd kk35 [(5,.c 46 [.t 0 roS,.t 4 (owE .token 0),.t 5 roI] [] [])] Tryz.f160)
def kk37:=kk36.f (s:=aat) (snd kk36 [] Tryz.f252)
def kk38:=kk37.f (s:=XR) (snd kk37 [] Tryz.f253)
def kk39:=kk38.b (s:=adv) (bnd kk38 [] Tryz.f200)
def kk40:=kk39.f (s:=adi) (snd kk39 [(2,.c 45 [.t 0 roS,.t 3 roI] [] [])] Tryz.f169)
def kk41:=kk40.f (s:=aiO) (snd kk40 [(2,.c 18 [.t 0 (roL .str),.t 1 roS,.t 5 roI] [] [])] Tryz.f120)
def kk42:=kk41.f (s:=TV) (snd kk41 [] Tryz.f214)
def kk43:=kk42.f (s:=Ue) (snd kk42 [] Tryz.f170)
def kk44:=kk43.f (s:=Qe) (snd kk43 [] Tryz.f125)
def kk45:=kk44.b (s:=adx) (bnd kk44 [] Tryz.f162)
def kk46:=kk45.b (s:=adw) (bnd kk45 [] Tryz.f201)
def kk47:=kk46.b (s:=adu) (bnd kk46 [] Tryz.f202)
def kk48:=kk47.s (s:=aiT) (ssd kk47 [] Tryz.f255)
def kk49:=kk48.f (s:=J5) (snd kk48 [] Tryz.f283)
def kk50:=kk49.f (s:=agQ) (snd kk49 [] Tryz.f330)
def ad5:=kk50.f (s:=adC) (snd kk50 [] Tryz.f331)
theorem iG:∀n,gX Tryz.prog (Me n)/\gX Tryz.prog (BR n)/\gX Tryz.prog (PX n)/\gX Tryz.prog (BP n)/\gX Tryz.prog (MB n)/\gX Tryz.prog (MC n)
 | 0=>⟨(fun w S bb vs Et args x y h=>by cases h),(fun w S bb vs Et args x y h=>by cases h),(fun w S bb vs Et args x y h=>by cases h),(fun w S bb vs Et args x y h=>by cases h),(fun w S bb vs Et args x y h=>by cases h),(fun w S bb vs Et args x y h=>by cases h)⟩
 | n+1=>
  have ih:=iG n
  ⟨bnd (s:=Me (n+1)) ((((((ad5.b ih.1).b ih.2.1).b ih.2.2.1).b ih.2.2.2.1).b ih.2.2.2.2.1).b ih.2.2.2.2.2) [] Tryz.f161,
  bnd (s:=BR (n+1)) ((((((ad5.b ih.1).b ih.2.1).b ih.2.2.1).b ih.2.2.2.1).b ih.2.2.2.2.1).b ih.2.2.2.2.2) [] Tryz.f203,
  bnd (s:=PX (n+1)) ((((((ad5.b ih.1).b ih.2.1).b ih.2.2.1).b ih.2.2.2.1).b ih.2.2.2.2.1).b ih.2.2.2.2.2) [(2,.c 29 [.b 0 0 (roL .token),.b 0 1 roI,.b 0 2 roI,.b 0 3 roI,.b 2 0 roI,.b 2 1 roI,.b 2 2 roS,.b 2 3 (owE .expr 0),.b 3 0 roI,.b 3 1 roI,.b 3 2 roS,.b 3 3 (roL .expr)] [(0,4),(2,4),(3,4)] [(0,0,0),(2,2,0),(3,3,0)])] Tryz.f254,
  bnd (s:=BP (n+1)) ((((((ad5.b ih.1).b ih.2.1).b ih.2.2.1).b ih.2.2.2.1).b ih.2.2.2.2.1).b ih.2.2.2.2.2) [(2,.c 21 [.b 0 0 (roL .token),.b 0 1 roI,.b 0 2 roI,.b 0 3 roI,.b 2 0 roI,.b 2 1 roI,.b 2 2 roS,.b 2 3 (owE .expr 0),.b 3 0 roI,.b 3 1 roI,.b 3 2 roS,.b 3 3 (roL .expr)] [(0,4),(2,4),(3,4)] [(0,0,0),(2,2,0),(3,3,0)])] Tryz.f282,
  bnd (s:=MB (n+1)) ((((((ad5.b ih.1).b ih.2.1).b ih.2.2.1).b ih.2.2.2.1).b ih.2.2.2.2.1).b ih.2.2.2.2.2) [] Tryz.f303,
  bnd (s:=MC (n+1)) ((((((ad5.b ih.1).b ih.2.1).b ih.2.2.1).b ih.2.2.2.1).b ih.2.2.2.2.1).b ih.2.2.2.2.2) [(5,.c 44 [.b 0 0 (roL .token),.b 0 1 roI,.b 0 2 roI,.b 0 3 roI,.t 1 roS,.t 5 (.own (.base .expr) false true 0)] [(0,4)] [(0,0,0)])] Tryz.f332⟩
theorem PZ:gX Tryz.prog ady:=fun w S bb vs Et args x y h=>(iG (siz (α:=GRd) x+1)).1 w S bb vs Et args x y h
def kk52:=ad5.b PZ
theorem Il:gX Tryz.prog Ua:=fun w S bb vs Et args x y h=>(iG (siz (α:=GRd) x+1)).2.1 w S bb vs Et args x y h
def kk53:=kk52.b Il
theorem TW:gX Tryz.prog agP:=fun w S bb vs Et args x y h=>(iG (siz (α:=GRd) x+1)).2.2.1 w S bb vs Et args x y h
def kk54:=kk53.b TW
theorem Ik:gX Tryz.prog TY:=fun w S bb vs Et args x y h=>(iG (siz (α:=GRd) x+1)).2.2.2.1 w S bb vs Et args x y h
def kk55:=kk54.b Ik
theorem P6:gX Tryz.prog adz:=fun w S bb vs Et args x y h=>(iG (siz (α:=GRd) x+1)).2.2.2.2.1 w S bb vs Et args x y h
def kk56:=kk55.b P6
theorem P7:gX Tryz.prog adA:=fun w S bb vs Et args x y h=>(iG (siz (α:=GRd) x.1+1)).2.2.2.2.2 w S bb vs Et args x y h
def kk57:=kk56.b P7
theorem AA:∀n,Sound Tryz.prog (MF n)
 | 0=>(fun w S args x y h=>by cases h)
 | n+1=>
  have ih:=AA n
  snd (s:=MF (n+1)) (kk57.f ih) [(3,.c 27 [.t 1 roI,.b 2 0 roI,.b 2 1 roI,.b 2 2 roS,.b 2 3 (roL .expr),.t 5 roI] [(2,4)] [(2,2,0)])] Tryz.f204
theorem P9:Sound Tryz.prog adD:=fun w S args x y h=>(AA (siz (α:=af) x.1+1)) w S args x y h
def kk58:=kk57.f P9
def kk59:=kk58.f (s:=aiN) (snd kk58 [] Tryz.f126)
theorem vI:∀n,Sound Tryz.prog (Fb n)
 | 0=>(fun w S args x y h=>by cases h)
 | n+1=>
  have ih:=vI n
  snd (s:=Fb (n+1)) (kk59.f ih) [(3,.c 22 [.b 1 0 roI,.b 1 1 roI,.b 1 2 roS,.b 1 3 (roL .expr),.t 3 roI,.t 4 roI] [(1,4)] [(1,1,0)])] Tryz.f205
theorem JR:Sound Tryz.prog XF:=fun w S args x y h=>(vI (siz (α:=af) x+1)) w S args x y h
def kk60:=kk59.f JR
def kk61:=kk60.f (s:=alv) (snd kk60 [] Tryz.f75)
def kk62:=kk61.f (s:=adB) (snd kk61 [] Tryz.f256)
theorem BU:∀n,Sound Tryz.prog (Qc n)
 | 0=>(fun w S args x y h=>by cases h)
 | n+1=>
  have ih:=BU n
  snd (s:=Qc (n+1)) (kk62.f ih) [(2,.c 20 [.b 1 0 roI,.b 1 1 roI,.b 1 2 roS,.b 1 3 (roL .expr),.t 3 roI] [(1,4)] [(1,1,0)])] Tryz.f206
theorem Ub:Sound Tryz.prog agR:=fun w S args x y h=>(BU (siz (α:=af) x+1)) w S args x y h
def kk63:=kk62.f Ub
def kk64:=kk63.f (s:=Qg) (snd kk63 [] Tryz.f163)
def kk65:=kk64.f (s:=XD) (snd kk64 [] Tryz.f119)
def kk66:=kk65.f (s:=Xz) (snd (kk65.ag1 [49,53]) [(6,.c 63 [.t 0 (roL .str),.t 3 (owE .str 0),.t 4 roI,.t 5 roI] [] []),(3,.c 63 [.t 0 (roL .str),.t 3 (owE .str 0),.t 4 roI] [] [])] Tryz.f164)
end
end Go.Proofs.YtbbmkcioplbhbaaGreatDoor
