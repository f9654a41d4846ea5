import Derived.Test.YtbbmkcioplbhbaaGreatDoorHandL
/- The functions compute their models, by gen.py. -/
namespace Go.Proofs.YtbbmkcioplbhbaaGreatDoor
noncomputable section
open Go.Abs Go.Proofs
set_option maxRecDepth 100000
def kk1:=kk0.f (s:=ahT) (snd kk0 [] Tryz.f24)
def kk2:=kk1.f (s:=ahV) (snd kk1 [] Tryz.f68)
def kk3:=kk2.f (s:=ahU) (snd kk2 [] Tryz.f25)
def kk4:=kk3.f (s:=ZE) (snd kk3 [(5,.c 28 [.t 0 (roL .str),.t 1 roI,.t 5 roI] [] [])] Tryz.f158)
def kk5:=kk4.f (s:=ZG) (snd kk4 [] Tryz.f246)
def kk6:=kk5.f (s:=aky) (snd kk5 [] Tryz.f198)
def kk7:=kk6.f (s:=ahR) (snd kk6 [(5,.c 27 [.t 0 (roL .row),.t 1 roI,.t 5 roI] [] [])] Tryz.f159)
theorem tY:∀n,Sound Tryz.prog (O1 n)/\Sound Tryz.prog (LQ n)
 | 0=>⟨(fun w S args x y h=>by cases h),(fun w S args x y h=>by cases h)⟩
 | n+1=>
  have ih:=tY n
  ⟨snd (s:=O1 (n+1)) ((kk7.f ih.1).f ih.2) [] Tryz.f118,
  snd (s:=LQ (n+1)) ((kk7.f ih.1).f ih.2) [(5,.c 27 [.t 0 (roL .val),.t 1 roI,.t 5 roI] [] [])] Tryz.f157⟩
theorem TG:Sound Tryz.prog afQ:=fun w S args x y h=>(tY (siz (α:=aC) x.1+1)).1 w S args x y h
def kk8:=kk7.f TG
theorem O0:Sound Tryz.prog acz:=fun w S args x y h=>(tY (siz (α:=List aC) x.1+1)).2 w S args x y h
def kk9:=kk8.f O0
def kk10:=kk9.f (s:=ahS) (snd kk9 [] Tryz.f69)
def kk11:=kk10.f (s:=afW) (snd kk10 [(5,.c 27 [.t 0 (roL .read),.t 1 roI,.t 5 roI] [] [])] Tryz.f26)
def kk12:=kk11.f (s:=aoH) (snd kk11 [] Tryz.f6)
def kk13:=kk12.f (s:=akA) (snd kk12 [(5,.c 27 [.t 0 (roL .op),.t 1 roI,.t 5 roI] [] [])] Tryz.f7)
def kk14:=kk13.f (s:=afX) (snd kk13 [(5,.c 27 [.t 0 (roL .cell),.t 1 roI,.t 5 roI] [] [])] Tryz.f66)
def kk15:=kk14.f (s:=Xh) (snd kk14 [] Tryz.f22)
def kk16:=kk15.f (s:=ahP) (snd kk15 [] Tryz.f67)
def kk17:=kk16.f (s:=afT) (snd kk16 [(5,.c 27 [.t 0 (roL .tape),.t 1 roI,.t 5 roI] [] [])] Tryz.f23)
def kk18:=kk17.f (s:=Xk) (snd kk17 [] Tryz.f5)
def kk19:=kk18.f (s:=ac1) (snd kk18 [] Tryz.f70)
def kk20:=kk19.f (s:=ah8) (snd kk19 [] Tryz.f220)
theorem BD:∀n,Sound Tryz.prog (Pv n)
 | 0=>(fun w S args x y h=>by cases h)
 | n+1=>
  have ih:=BD n
  snd (s:=Pv (n+1)) (kk20.f ih) [(7,.c 56 [.b 1 0 roI,.b 1 1 roI,.b 1 2 roI,.b 1 3 roS,.b 1 4 (roL .val),.b 1 5 (roL .str),.b 1 6 (roL .row),.b 2 0 roI,.b 2 1 roI,.b 2 2 roI,.b 2 3 roS,.b 2 4 (owE .val 0),.b 2 5 (owE .str 4),.b 2 6 (owE .row 5),.b 3 0 roI,.b 3 1 roI,.b 3 2 roI,.b 3 3 roS,.b 3 4 (owE .val 6),.b 3 5 (owE .str 7),.b 3 6 (owE .row 8),.t 5 roI] [(1,7),(2,7),(3,7)] [(1,1,0),(2,2,0),(3,3,0)]),(3,.c 56 [.b 1 0 roI,.b 1 1 roI,.b 1 2 roI,.b 1 3 roS,.b 1 4 (roL .val),.b 1 5 (roL .str),.b 1 6 (roL .row),.b 2 0 roI,.b 2 1 roI,.b 2 2 roI,.b 2 3 roS,.b 2 4 (owE .val 0),.b 2 5 (owE .str 4),.b 2 6 (owE .row 5),.b 3 0 roI,.b 3 1 roI,.b 3 2 roI,.b 3 3 roS,.b 3 4 (owE .val 6),.b 3 5 (owE .str 7),.b 3 6 (owE .row 8),.t 4 roI] [(1,7),(2,7),(3,7)] [(1,1,0),(2,2,0),(3,3,0)])] Tryz.f173
theorem TR:Sound Tryz.prog agb:=fun w S args x y h=>(BD (siz (α:=aC) x+1)) w S args x y h
def kk21:=kk20.f TR
def kk22:=kk21.f (s:=ac3) (snd kk21 [] Tryz.f132)
def kk23:=kk22.f (s:=Z8) (snd kk22 [(3,.c 21 [.t 0 (roL .read),.t 3 (owE .read 0),.t 4 roI] [] [])] Tryz.f81)
def kk24:=kk23.f (s:=acX) (snd kk23 [(3,.c 33 [.t 0 (roL .tape),.t 3 (owE .tape 0),.t 4 roI] [] [])] Tryz.f71)
def kk25:=kk24.f (s:=acU) (snd kk24 [] Tryz.f33)
def kk26:=kk25.f (s:=af9) (snd kk25 [(3,.c 21 [.t 0 (roL .op),.t 3 (owE .op 0),.t 4 roI] [] [])] Tryz.f72)
def kk27:=kk26.f (s:=acR) (snd kk26 [] Tryz.f27)
def kk28:=kk27.f (s:=ZV) (snd kk27 [] Tryz.f247)
def kk29:=kk28.f (s:=acQ) (snd kk28 [] Tryz.f248)
def kk30:=kk29.f (s:=XI) (snd kk29 [(5,.c 31 [.t 0 roI,.t 3 (roE .bool),.t 4 roS] [] [])] Tryz.f209)
def kk31:=kk30.f (s:=agf) (snd kk30 [(9,.c 63 [.t 0 roS,.t 6 (roE .bool),.t 7 roS,.t 8 roI,.t 9 roI] [] [])] Tryz.f281)
def kk32:=kk31.f (s:=ZQ) (snd kk31 [] Tryz.f249)
def kk33:=kk32.f (s:=P5) (snd kk32 [(2,.c 29 [.t 0 roS,.t 3 roI] [] [])] Tryz.f250)
def kk34:=kk33.f (s:=ZU) (snd kk33 [] Tryz.f251)
def kk35:=kk34.f (s:=af8) (snd kk34 [(7,.c 136 [.t 0 roS,.t 1 roI,.b 4 0 roI,.b 4 1 roI,.b 4 2 roI,.b 4 3 roS,.b 6 0 roI,.b 6 1 roI,.b 6 2 roI,.b 6 3 roS,.t 7 roI] [(4,4),(6,4)] [(4,4,0),(6,6,0)]),(14,.c 136 [.t 0 roS,.t 1 roI,.b 4 0 roI,.b 4 1 roI,.b 4 2 roI,.b 4 3 roS,.b 6 0 roI,.b 6 1 roI,.b 6 2 roI,.b 6 3 roS,.t 7 roI] [(4,4),(6,4)] [(4,4,0),(6,6,0)]),(23,.c 136 [.t 0 roS,.t 1 roI,.b 4 0 roI,.b 4 1 roI,.b 4 2 roI,.b 4 3 roS,.b 6 0 roI,.b 6 1 roI,.b 6 2 roI,.b 6 3 roS,.t 7 roI] [(4,4),(6,4)] [(4,4,0),(6,6,0)])] Tryz.f199)
def kk36:=kk35.f (s:=ZN) (snd kk35 [(5,.c 46 [.t 0 roS,.t 4 (owE .token 0),.t 5 roI] [] [])] Tryz.f160)
def kk37:=kk36.f (s:=aaf) (snd kk36 [] Tryz.f252)
def kk38:=kk37.f (s:=XG) (snd kk37 [] Tryz.f253)
def kk39:=kk38.b (s:=ac8) (bnd kk38 [] Tryz.f200)
def kk40:=kk39.f (s:=acW) (snd kk39 [(2,.c 45 [.t 0 roS,.t 3 roI] [] [])] Tryz.f169)
def kk41:=kk40.f (s:=aic) (snd kk40 [(2,.c 18 [.t 0 (roL .str),.t 1 roS,.t 5 roI] [] [])] Tryz.f120)
def kk42:=kk41.f (s:=TS) (snd kk41 [] Tryz.f214)
def kk43:=kk42.f (s:=Ua) (snd kk42 [] Tryz.f170)
def kk44:=kk43.f (s:=P6) (snd kk43 [] Tryz.f125)
def kk45:=kk44.b (s:=ada) (bnd kk44 [] Tryz.f162)
def kk46:=kk45.b (s:=ac9) (bnd kk45 [] Tryz.f201)
def kk47:=kk46.b (s:=ac7) (bnd kk46 [] Tryz.f202)
def kk48:=kk47.s (s:=aij) (ssd kk47 [] Tryz.f255)
def kk49:=kk48.f (s:=J3) (snd kk48 [] Tryz.f283)
def kk50:=kk49.f (s:=agk) (snd kk49 [] Tryz.f330)
def adI:=kk50.f (s:=adh) (snd kk50 [] Tryz.f331)
theorem iF:∀n,gX Tryz.prog (Mc n)/\gX Tryz.prog (BO n)/\gX Tryz.prog (PI n)/\gX Tryz.prog (BM n)/\gX Tryz.prog (Md n)/\gX Tryz.prog (Me n)
 | 0=>⟨(fun w S bb vs Et args x y h=>by cases h),(fun w S bb vs Et args x y h=>by cases h),(fun w S bb vs Et args x y h=>by cases h),(fun w S bb vs Et args x y h=>by cases h),(fun w S bb vs Et args x y h=>by cases h),(fun w S bb vs Et args x y h=>by cases h)⟩
 | n+1=>
  have ih:=iF n
  ⟨bnd (s:=Mc (n+1)) ((((((adI.b ih.1).b ih.2.1).b ih.2.2.1).b ih.2.2.2.1).b ih.2.2.2.2.1).b ih.2.2.2.2.2) [] Tryz.f161,
  bnd (s:=BO (n+1)) ((((((adI.b ih.1).b ih.2.1).b ih.2.2.1).b ih.2.2.2.1).b ih.2.2.2.2.1).b ih.2.2.2.2.2) [] Tryz.f203,
  bnd (s:=PI (n+1)) ((((((adI.b ih.1).b ih.2.1).b ih.2.2.1).b ih.2.2.2.1).b ih.2.2.2.2.1).b ih.2.2.2.2.2) [(2,.c 29 [.b 0 0 (roL .token),.b 0 1 roI,.b 0 2 roI,.b 0 3 roI,.b 2 0 roI,.b 2 1 roI,.b 2 2 roS,.b 2 3 (owE .expr 0),.b 3 0 roI,.b 3 1 roI,.b 3 2 roS,.b 3 3 (roL .expr)] [(0,4),(2,4),(3,4)] [(0,0,0),(2,2,0),(3,3,0)])] Tryz.f254,
  bnd (s:=BM (n+1)) ((((((adI.b ih.1).b ih.2.1).b ih.2.2.1).b ih.2.2.2.1).b ih.2.2.2.2.1).b ih.2.2.2.2.2) [(2,.c 21 [.b 0 0 (roL .token),.b 0 1 roI,.b 0 2 roI,.b 0 3 roI,.b 2 0 roI,.b 2 1 roI,.b 2 2 roS,.b 2 3 (owE .expr 0),.b 3 0 roI,.b 3 1 roI,.b 3 2 roS,.b 3 3 (roL .expr)] [(0,4),(2,4),(3,4)] [(0,0,0),(2,2,0),(3,3,0)])] Tryz.f282,
  bnd (s:=Md (n+1)) ((((((adI.b ih.1).b ih.2.1).b ih.2.2.1).b ih.2.2.2.1).b ih.2.2.2.2.1).b ih.2.2.2.2.2) [] Tryz.f303,
  bnd (s:=Me (n+1)) ((((((adI.b ih.1).b ih.2.1).b ih.2.2.1).b ih.2.2.2.1).b ih.2.2.2.2.1).b ih.2.2.2.2.2) [(5,.c 44 [.b 0 0 (roL .token),.b 0 1 roI,.b 0 2 roI,.b 0 3 roI,.t 1 roS,.t 5 (.own (.base .expr) false true 0)] [(0,4)] [(0,0,0)])] Tryz.f332⟩
theorem PL:gX Tryz.prog adb:=fun w S bb vs Et args x y h=>(iF (siz (α:=GRd) x+1)).1 w S bb vs Et args x y h
def kk52:=adI.b PL
theorem Ih:gX Tryz.prog TW:=fun w S bb vs Et args x y h=>(iF (siz (α:=GRd) x+1)).2.1 w S bb vs Et args x y h
def kk53:=kk52.b Ih
theorem TU:gX Tryz.prog agj:=fun w S bb vs Et args x y h=>(iF (siz (α:=GRd) x+1)).2.2.1 w S bb vs Et args x y h
def kk54:=kk53.b TU
theorem Ig:gX Tryz.prog TV:=fun w S bb vs Et args x y h=>(iF (siz (α:=GRd) x+1)).2.2.2.1 w S bb vs Et args x y h
def kk55:=kk54.b Ig
theorem PO:gX Tryz.prog ade:=fun w S bb vs Et args x y h=>(iF (siz (α:=GRd) x+1)).2.2.2.2.1 w S bb vs Et args x y h
def kk56:=kk55.b PO
theorem PU:gX Tryz.prog adf:=fun w S bb vs Et args x y h=>(iF (siz (α:=GRd) x.1+1)).2.2.2.2.2 w S bb vs Et args x y h
def kk57:=kk56.b PU
theorem Ak:∀n,Sound Tryz.prog (MB n)
 | 0=>(fun w S args x y h=>by cases h)
 | n+1=>
  have ih:=Ak n
  snd (s:=MB (n+1)) (kk57.f ih) [(3,.c 27 [.t 1 roI,.b 2 0 roI,.b 2 1 roI,.b 2 2 roS,.b 2 3 (roL .expr),.t 5 roI] [(2,4)] [(2,2,0)])] Tryz.f204
theorem PW:Sound Tryz.prog adi:=fun w S args x y h=>(Ak (siz (α:=af) x.1+1)) w S args x y h
def kk58:=kk57.f PW
def kk59:=kk58.f (s:=aib) (snd kk58 [] Tryz.f126)
theorem vG:∀n,Sound Tryz.prog (EZ n)
 | 0=>(fun w S args x y h=>by cases h)
 | n+1=>
  have ih:=vG n
  snd (s:=EZ (n+1)) (kk59.f ih) [(3,.c 22 [.b 1 0 roI,.b 1 1 roI,.b 1 2 roS,.b 1 3 (roL .expr),.t 3 roI,.t 4 roI] [(1,4)] [(1,1,0)])] Tryz.f205
theorem JP:Sound Tryz.prog Xw:=fun w S args x y h=>(vG (siz (α:=af) x+1)) w S args x y h
def kk60:=kk59.f JP
def kk61:=kk60.f (s:=akJ) (snd kk60 [] Tryz.f75)
def kk62:=kk61.f (s:=adg) (snd kk61 [] Tryz.f256)
theorem BP:∀n,Sound Tryz.prog (PZ n)
 | 0=>(fun w S args x y h=>by cases h)
 | n+1=>
  have ih:=BP n
  snd (s:=PZ (n+1)) (kk62.f ih) [(2,.c 20 [.b 1 0 roI,.b 1 1 roI,.b 1 2 roS,.b 1 3 (roL .expr),.t 3 roI] [(1,4)] [(1,1,0)])] Tryz.f206
theorem TY:Sound Tryz.prog agl:=fun w S args x y h=>(BP (siz (α:=af) x+1)) w S args x y h
def kk63:=kk62.f TY
def kk64:=kk63.f (s:=P7) (snd kk63 [] Tryz.f163)
def kk65:=kk64.f (s:=Xu) (snd kk64 [] Tryz.f119)
def kk66:=kk65.f (s:=Xq) (snd (kk65.agw [49,53]) [(6,.c 63 [.t 0 (roL .str),.t 3 (owE .str 0),.t 4 roI,.t 5 roI] [] []),(3,.c 63 [.t 0 (roL .str),.t 3 (owE .str 0),.t 4 roI] [] [])] Tryz.f164)
end
end Go.Proofs.YtbbmkcioplbhbaaGreatDoor
