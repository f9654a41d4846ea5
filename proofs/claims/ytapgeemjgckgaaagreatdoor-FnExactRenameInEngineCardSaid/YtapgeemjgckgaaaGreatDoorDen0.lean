import Derived.Test.YtapgeemjgckgaaaGreatDoorLayL
/- The functions compute their models, by gen.py. -/
namespace Go.Proofs.YtapgeemjgckgaaaGreatDoor
noncomputable section
open Go.Abs Go.Proofs
set_option maxRecDepth 100000
def kk1:=kk0.f (s:=ahX) (snd kk0 [] Tryz.f95)
def kk2:=kk1.f (s:=afY) (snd kk1 [(5,.c 27 [.t 0 (roL .cell),.t 1 roI,.t 5 roI] [] [])] Tryz.f43)
def kk3:=kk2.f (s:=WS) (snd kk2 [] Tryz.f11)
def kk4:=kk3.f (s:=ahW) (snd kk3 [] Tryz.f96)
def kk5:=kk4.f (s:=afV) (snd kk4 [(5,.c 27 [.t 0 (roL .file),.t 1 roI,.t 5 roI] [] [])] Tryz.f44)
def kk6:=kk5.f (s:=afL) (snd kk5 [] Tryz.f12)
def kk7:=kk6.f (s:=Zo) (snd kk6 [(5,.c 28 [.t 0 (roL .str),.t 1 roI,.t 5 roI] [] [])] Tryz.f145)
def kk8:=kk7.f (s:=ahV) (snd kk7 [] Tryz.f98)
def kk9:=kk8.f (s:=Zq) (snd kk8 [] Tryz.f226)
def kk10:=kk9.f (s:=akt) (snd kk9 [] Tryz.f190)
def aoK:=kk10.f (s:=ahT) (snd kk10 [(5,.c 27 [.t 0 (roL .row),.t 1 roI,.t 5 roI] [] [])] Tryz.f146)
theorem tY:∀n,Sound Tryz.prog (OT n)/\Sound Tryz.prog (LH n)
 | 0=>⟨(fun w S args x y h=>by cases h),(fun w S args x y h=>by cases h)⟩
 | n+1=>
  have ih:=tY n
  ⟨snd (s:=OT (n+1)) ((aoK.f ih.1).f ih.2) [] Tryz.f99,
  snd (s:=LH (n+1)) ((aoK.f ih.1).f ih.2) [(5,.c 27 [.t 0 (roL .val),.t 1 roI,.t 5 roI] [] [])] Tryz.f144⟩
theorem Tj:Sound Tryz.prog afN:=fun w S args x y h=>(tY (siz (α:=aC) x.1+1)).1 w S args x y h
def kk12:=aoK.f Tj
theorem OQ:Sound Tryz.prog acp:=fun w S args x y h=>(tY (siz (α:=List aC) x.1+1)).2 w S args x y h
def kk13:=kk12.f OQ
def kk14:=kk13.f (s:=ahU) (snd kk13 [] Tryz.f143)
def kk15:=kk14.f (s:=afT) (snd kk14 [(5,.c 27 [.t 0 (roL .read),.t 1 roI,.t 5 roI] [] [])] Tryz.f97)
def kk16:=kk15.f (s:=ahR) (snd kk15 [] Tryz.f45)
def kk17:=kk16.f (s:=afP) (snd kk16 [(5,.c 27 [.t 0 (roL .tape),.t 1 roI,.t 5 roI] [] [])] Tryz.f13)
def kk18:=kk17.f (s:=afW) (snd kk17 [] Tryz.f46)
def kk19:=kk18.f (s:=acw) (snd kk18 [(5,.c 27 [.t 0 (roL .entry),.t 1 roI,.t 5 roI] [] [])] Tryz.f14)
def kk20:=kk19.f (s:=acy) (snd kk19 [] Tryz.f4)
def kk21:=kk20.f (s:=acR) (snd kk20 [] Tryz.f47)
def kk22:=kk21.f (s:=acU) (snd kk21 [] Tryz.f48)
def kk23:=kk22.f (s:=aic) (snd kk22 [] Tryz.f148)
theorem Bz:∀n,Sound Tryz.prog (Pg n)
 | 0=>(fun w S args x y h=>by cases h)
 | n+1=>
  have ih:=Bz n
  snd (s:=Pg (n+1)) (kk23.f ih) [(7,.c 56 [.b 1 0 roI,.b 1 1 roI,.b 1 2 roI,.b 1 3 roS,.b 1 4 (roL .val),.b 1 5 (roL .str),.b 1 6 (roL .row),.b 2 0 roI,.b 2 1 roI,.b 2 2 roI,.b 2 3 roS,.b 2 4 (owE .val 0),.b 2 5 (owE .str 4),.b 2 6 (owE .row 5),.b 3 0 roI,.b 3 1 roI,.b 3 2 roI,.b 3 3 roS,.b 3 4 (owE .val 6),.b 3 5 (owE .str 7),.b 3 6 (owE .row 8),.t 5 roI] [(1,7),(2,7),(3,7)] [(1,1,0),(2,2,0),(3,3,0)]),(3,.c 56 [.b 1 0 roI,.b 1 1 roI,.b 1 2 roI,.b 1 3 roS,.b 1 4 (roL .val),.b 1 5 (roL .str),.b 1 6 (roL .row),.b 2 0 roI,.b 2 1 roI,.b 2 2 roI,.b 2 3 roS,.b 2 4 (owE .val 0),.b 2 5 (owE .str 4),.b 2 6 (owE .row 5),.b 3 0 roI,.b 3 1 roI,.b 3 2 roI,.b 3 3 roS,.b 3 4 (owE .val 6),.b 3 5 (owE .str 7),.b 3 6 (owE .row 8),.t 4 roI] [(1,7),(2,7),(3,7)] [(1,1,0),(2,2,0),(3,3,0)])] Tryz.f101
theorem TA:Sound Tryz.prog agc:=fun w S args x y h=>(Bz (siz (α:=aC) x+1)) w S args x y h
def kk24:=kk23.f TA
def kk25:=kk24.f (s:=acT) (snd kk24 [] Tryz.f147)
def kk26:=kk25.f (s:=ZM) (snd kk25 [(3,.c 21 [.t 0 (roL .read),.t 3 (owE .read 0),.t 4 roI] [] [])] Tryz.f100)
def kk27:=kk26.f (s:=acQ) (snd kk26 [(3,.c 33 [.t 0 (roL .tape),.t 3 (owE .tape 0),.t 4 roI] [] [])] Tryz.f49)
def kk28:=kk27.f (s:=ZJ) (snd kk27 [] Tryz.f50)
def kk29:=kk28.f (s:=acP) (snd kk28 [(3,.c 40 [.b 1 0 (roL .cell),.b 1 1 roI,.b 1 2 roI,.b 1 3 (roL .file),.b 1 4 (roL .tape),.b 1 5 (roL .entry),.b 1 6 roI,.b 1 7 roI,.b 1 8 roI,.b 2 0 (owE .cell 0),.b 2 1 roI,.b 2 2 roI,.b 2 3 (owE .file 4),.b 2 4 (owE .tape 5),.b 2 5 (owE .entry 6),.b 2 6 roI,.b 2 7 roI,.b 2 8 roI,.b 3 0 (owE .cell 8),.b 3 1 roI,.b 3 2 roI,.b 3 3 (owE .file 9),.b 3 4 (owE .tape 11),.b 3 5 (owE .entry 12),.b 3 6 roI,.b 3 7 roI,.b 3 8 roI,.t 4 roI] [(1,9),(2,9),(3,9)] [(1,1,0),(2,2,0),(3,3,0)])] Tryz.f15)
def kk30:=kk29.f (s:=Xv) (snd kk29 [(2,.c 22 [.t 1 roI,.b 2 0 (roL .cell),.t 5 roI] [(2,1)] [(2,2,0)])] Tryz.f63)
def kk31:=kk30.f (s:=acO) (snd kk30 [(2,.c 45 [.t 0 roS,.t 3 roI] [] [])] Tryz.f103)
def kk32:=kk31.f (s:=aif) (snd kk31 [(2,.c 18 [.t 0 (roL .str),.t 1 roS,.t 5 roI] [] [])] Tryz.f56)
def kk33:=kk32.f (s:=TF) (snd kk32 [] Tryz.f151)
def kk34:=kk33.f (s:=TL) (snd kk33 [] Tryz.f104)
def kk35:=kk34.f (s:=PV) (snd kk34 [] Tryz.f52)
def kk36:=kk35.f (s:=akD) (snd kk35 [] Tryz.f149)
def kk37:=kk36.f (s:=PY) (snd kk36 [(2,.c 23 [.t 0 roS,.t 3 roI] [] [])] Tryz.f150)
def kk38:=kk37.f (s:=PX) (snd kk37 [] Tryz.f102)
def kk39:=kk38.f (s:=F8) (snd kk38 [(2,.c 34 [.b 1 0 (roL .cell),.t 3 roI] [(1,1)] [(1,1,0)])] Tryz.f51)
theorem AA:∀n,Sound Tryz.prog (L6 n)
 | 0=>(fun w S args x y h=>by cases h)
 | n+1=>
  have ih:=AA n
  snd (s:=L6 (n+1)) (kk39.f ih) [(3,.c 27 [.t 1 roI,.b 2 0 roI,.b 2 1 roI,.b 2 2 roS,.b 2 3 (roL .expr),.t 5 roI] [(2,4)] [(2,2,0)])] Tryz.f161
theorem PK:Sound Tryz.prog ac7:=fun w S args x y h=>(AA (siz (α:=af) x.1+1)) w S args x y h
def kk40:=kk39.f PK
def kk41:=kk40.f (s:=aie) (snd kk40 [] Tryz.f199)
theorem vK:∀n,Sound Tryz.prog (EY n)
 | 0=>(fun w S args x y h=>by cases h)
 | n+1=>
  have ih:=vK n
  snd (s:=EY (n+1)) (kk41.f ih) [(3,.c 22 [.b 1 0 roI,.b 1 1 roI,.b 1 2 roS,.b 1 3 (roL .expr),.t 3 roI,.t 4 roI] [(1,4)] [(1,1,0)])] Tryz.f162
theorem JS:Sound Tryz.prog Xe:=fun w S args x y h=>(vK (siz (α:=af) x+1)) w S args x y h
def kk42:=kk41.f JS
def kk43:=kk42.f (s:=PU) (snd kk42 [(2,.c 29 [.t 0 roS,.t 3 roI] [] [])] Tryz.f234)
def kk44:=kk43.f (s:=J6) (snd kk43 [] Tryz.f238)
def kk45:=kk44.f (s:=ac5) (snd kk44 [] Tryz.f200)
theorem BM:∀n,Sound Tryz.prog (PO n)
 | 0=>(fun w S args x y h=>by cases h)
 | n+1=>
  have ih:=BM n
  snd (s:=PO (n+1)) (kk45.f ih) [(2,.c 20 [.b 1 0 roI,.b 1 1 roI,.b 1 2 roS,.b 1 3 (roL .expr),.t 3 roI] [(1,4)] [(1,1,0)])] Tryz.f163
theorem TK:Sound Tryz.prog agj:=fun w S args x y h=>(BM (siz (α:=af) x+1)) w S args x y h
def kk46:=kk45.f TK
def kk47:=kk46.f (s:=PW) (snd kk46 [] Tryz.f109)
def kk48:=kk47.f (s:=Xr) (snd kk47 [(5,.c 31 [.t 0 roI,.t 3 (roE .bool),.t 4 roS] [] [])] Tryz.f165)
def kk49:=kk48.f (s:=agd) (snd kk48 [(9,.c 63 [.t 0 roS,.t 6 (roE .bool),.t 7 roS,.t 8 roI,.t 9 roI] [] [])] Tryz.f259)
def kk50:=kk49.f (s:=Zz) (snd kk49 [] Tryz.f232)
def kk51:=kk50.f (s:=ZE) (snd kk50 [] Tryz.f252)
def kk52:=kk51.f (s:=acM) (snd kk51 [] Tryz.f253)
def kk53:=kk52.f (s:=ZC) (snd kk52 [] Tryz.f254)
def kk54:=kk53.f (s:=aga) (snd kk53 [(7,.c 136 [.t 0 roS,.t 1 roI,.b 4 0 roI,.b 4 1 roI,.b 4 2 roI,.b 4 3 roS,.b 6 0 roI,.b 6 1 roI,.b 6 2 roI,.b 6 3 roS,.t 7 roI] [(4,4),(6,4)] [(4,4,0),(6,6,0)]),(14,.c 136 [.t 0 roS,.t 1 roI,.b 4 0 roI,.b 4 1 roI,.b 4 2 roI,.b 4 3 roS,.b 6 0 roI,.b 6 1 roI,.b 6 2 roI,.b 6 3 roS,.t 7 roI] [(4,4),(6,4)] [(4,4,0),(6,6,0)]),(23,.c 136 [.t 0 roS,.t 1 roI,.b 4 0 roI,.b 4 1 roI,.b 4 2 roI,.b 4 3 roS,.b 6 0 roI,.b 6 1 roI,.b 6 2 roI,.b 6 3 roS,.t 7 roI] [(4,4),(6,4)] [(4,4,0),(6,6,0)])] Tryz.f227)
def kk55:=kk54.f (s:=Zy) (snd kk54 [(5,.c 46 [.t 0 roS,.t 4 (owE .token 0),.t 5 roI] [] [])] Tryz.f191)
def kk56:=kk55.f (s:=ZT) (snd kk55 [] Tryz.f255)
def kk57:=kk56.f (s:=Xp) (snd kk56 [] Tryz.f256)
def kk58:=kk57.b (s:=acZ) (bnd kk57 [] Tryz.f228)
def kk59:=kk58.b (s:=ac1) (bnd kk58 [] Tryz.f193)
def kk60:=kk59.b (s:=ac0) (bnd kk59 [] Tryz.f229)
def kk61:=kk60.b (s:=acY) (bnd kk60 [] Tryz.f230)
end
end Go.Proofs.YtapgeemjgckgaaaGreatDoor
