import Derived.Test.YtngjomkjlonfpaaGreatDoorLib1
/- The functions compute their models, by gen.py. -/
namespace Go.Proofs.YtngjomkjlonfpaaGreatDoor
noncomputable section
open Go.Abs Go.Proofs
set_option maxRecDepth 100000
def kk1:=kk0.f (s:=aqh) (snd kk0 [] Tryz.f4)
def kk2:=kk1.n (s:=aij) (nnd kk1 [(3,.c 32 [.t 0 (roL .u8),.t 3 roI,.t 4 roI] [] [])] Tryz.f15)
def kk3:=kk2.b (s:=agB) (bnd kk2 [] Tryz.f76)
def kk4:=kk3.b (s:=ac7) (bnd kk3 [] Tryz.f42)
def kk5:=kk4.b (s:=agy) (bnd kk4 [] Tryz.f16)
def kk6:=kk5.f (s:=adE) (snd kk5 [(3,.c 23 [.t 0 (roL .op),.t 1 roI,.t 5 roI,.t 6 roI] [] [])] Tryz.f51)
def kk7:=kk6.f (s:=ail) (snd kk6 [] Tryz.f115)
def kk8:=kk7.f (s:=ZR) (snd kk7 [(3,.c 19 [.t 0 (roL .op),.t 3 roI,.t 4 roI] [] [])] Tryz.f78)
def kk9:=kk8.b (s:=XQ) (bnd kk8 [] Tryz.f77)
def kk10:=kk9.b (s:=agx) (bnd kk9 [] Tryz.f80)
theorem A8:∀n,Sound Tryz.prog (Np n)
 | 0=>(fun w S args x y h=>by cases h)
 | n+1=>
  have ih:=A8 n
  snd (s:=Np (n+1)) (kk10.f ih) [(3,.c 27 [.t 1 roI,.b 2 0 roI,.b 2 1 roI,.b 2 2 roS,.b 2 3 (roL .expr),.t 5 roI] [(2,4)] [(2,2,0)])] Tryz.f208
theorem Qo:Sound Tryz.prog adx:=fun w S args x y h=>(A8 (siz (α:=af) x.1+1)) w S args x y h
def kk11:=kk10.f Qo
theorem wK:∀n,Sound Tryz.prog (Fg n)
 | 0=>(fun w S args x y h=>by cases h)
 | n+1=>
  have ih:=wK n
  snd (s:=Fg (n+1)) (kk11.f ih) [(3,.c 22 [.b 1 0 roI,.b 1 1 roI,.b 1 2 roS,.b 1 3 (roL .expr),.t 3 roI,.t 4 roI] [(1,4)] [(1,1,0)])] Tryz.f209
theorem Kr:Sound Tryz.prog XI:=fun w S args x y h=>(wK (siz (α:=af) x+1)) w S args x y h
def kk12:=kk11.f Kr
def kk13:=kk12.f (s:=akS) (snd kk12 [] Tryz.f50)
def kk14:=kk13.f (s:=ac2) (snd kk13 [(2,.c 45 [.t 0 roS,.t 3 roI] [] [])] Tryz.f96)
def kk15:=kk14.f (s:=aim) (snd kk14 [(2,.c 18 [.t 0 (roL .str),.t 1 roS,.t 5 roI] [] [])] Tryz.f122)
def kk16:=kk15.f (s:=Uy) (snd kk15 [] Tryz.f133)
def kk17:=kk16.f (s:=UG) (snd kk16 [] Tryz.f97)
def kk18:=kk17.f (s:=Qs) (snd kk17 [] Tryz.f60)
def kk19:=kk18.f (s:=Qr) (snd kk18 [(2,.c 29 [.t 0 roS,.t 3 roI] [] [])] Tryz.f242)
def kk20:=kk19.f (s:=KJ) (snd kk19 [] Tryz.f267)
def kk21:=kk20.f (s:=adt) (snd kk20 [] Tryz.f247)
theorem CU:∀n,Sound Tryz.prog (Qq n)
 | 0=>(fun w S args x y h=>by cases h)
 | n+1=>
  have ih:=CU n
  snd (s:=Qq (n+1)) (kk21.f ih) [(2,.c 20 [.b 1 0 roI,.b 1 1 roI,.b 1 2 roS,.b 1 3 (roL .expr),.t 3 roI] [(1,4)] [(1,1,0)])] Tryz.f210
theorem UD:Sound Tryz.prog agG:=fun w S args x y h=>(CU (siz (α:=af) x+1)) w S args x y h
def kk22:=kk21.f UD
def kk23:=kk22.f (s:=Qu) (snd kk22 [] Tryz.f160)
def kk24:=kk23.f (s:=X0) (snd kk23 [(5,.c 31 [.t 0 roI,.t 3 (roE .bool),.t 4 roS] [] [])] Tryz.f152)
def kk25:=kk24.f (s:=akV) (snd kk24 [(3,.c 27 [.t 0 (roL .str),.t 1 roS,.t 5 (owE .u8 0),.t 6 roI] [] [])] Tryz.f193)
def kk26:=kk25.f (s:=acO) (snd kk25 [] Tryz.f214)
def alB:=kk26.f (s:=ZN) (snd kk26 [] Tryz.f216)
theorem oh:∀n,Sound Tryz.prog (Na n)/\Sound Tryz.prog (Nc n)/\Sound Tryz.prog (V6 n)
 | 0=>⟨(fun w S args x y h=>by cases h),(fun w S args x y h=>by cases h),(fun w S args x y h=>by cases h)⟩
 | n+1=>
  have ih:=oh n
  ⟨snd (s:=Na (n+1)) (((alB.f ih.1).f ih.2.1).f ih.2.2) [] Tryz.f165,
  snd (s:=Nc (n+1)) (((alB.f ih.1).f ih.2.1).f ih.2.2) [(3,.c 22 [.t 0 (roL .expr),.t 3 (owE .str 0),.t 4 roI] [] [])] Tryz.f213,
  snd (s:=V6 (n+1)) (((alB.f ih.1).f ih.2.1).f ih.2.2) [] Tryz.f215⟩
theorem Qd:Sound Tryz.prog adk:=fun w S args x y h=>(oh (siz (α:=af) x+1)).1 w S args x y h
def kk28:=alB.f Qd
theorem Qe:Sound Tryz.prog adl:=fun w S args x y h=>(oh (siz (α:=List af) x+1)).2.1 w S args x y h
def kk29:=kk28.f Qe
theorem XU:Sound Tryz.prog aio:=fun w S args x y h=>(oh (siz (α:=af) x.1+1)).2.2 w S args x y h
def kk30:=kk29.f XU
def kk31:=kk30.f (s:=UI) (snd kk30 [] Tryz.f125)
def kk32:=kk31.f (s:=agF) (snd kk31 [] Tryz.f200)
def kk33:=kk32.f (s:=adu) (snd kk32 [] Tryz.f238)
def kk34:=kk33.b (s:=ady) (bnd kk33 [] Tryz.f195)
def kk35:=kk34.s (s:=air) (ssd kk34 [] Tryz.f196)
def kk36:=kk35.b (s:=adw) (bnd kk35 [(4,.c 34 [.b 0 0 (roL .u8),.b 0 1 roI,.b 0 2 roI,.t 1 (roL .str),.b 4 0 roI,.b 4 1 roI,.b 4 2 roS,.b 4 3 (owE .expr 0),.b 5 0 roI,.b 5 1 roI,.b 5 2 roS,.b 5 3 (.own (.base .expr) false true 1),.t 6 roI,.t 7 roI] [(0,3),(4,4),(5,4)] [(0,0,0),(4,4,0),(5,5,0)])] Tryz.f197)
def kk37:=kk36.f (s:=adA) (snd kk36 [] Tryz.f198)
def kk38:=kk37.b (s:=Uz) (bnd kk37 [] Tryz.f199)
def kk39:=kk38.b (s:=XV) (bnd kk38 [] Tryz.f201)
def kk40:=kk39.b (s:=aai) (bnd kk39 [(4,.c 31 [.b 0 0 (roL .u8),.b 0 1 roI,.b 0 2 roI,.b 2 0 roI,.b 2 1 roI,.b 2 2 roS,.b 2 3 (owE .expr 0),.b 3 0 roI,.b 3 1 roI,.b 3 2 roS,.b 3 3 (owE .expr 1),.t 4 roI,.t 5 roI] [(0,3),(2,4),(3,4)] [(0,0,0),(2,2,0),(3,3,0)])] Tryz.f202)
theorem A7:∀n,gZ Tryz.prog (Nl n)
 | 0=>(fun w S bb vs Et args x y h=>by cases h)
 | n+1=>
  have ih:=A7 n
  bnd (s:=Nl (n+1)) (kk40.b ih) [] Tryz.f153
theorem Qm:gZ Tryz.prog adv:=fun w S bb vs Et args x y h=>(A7 (siz (α:=bW) x.1+siz (α:=List Str) x.2.1+1)) w S bb vs Et args x y h
def kk41:=kk40.b Qm
def kk42:=kk41.b (s:=ac8) (bnd kk41 [] Tryz.f117)
def kk43:=kk42.f (s:=XA) (snd kk42 [(4,.c 36 [.t 0 roS,.t 1 (roE .u8),.t 5 (owE .str 0),.t 6 roI,.t 7 roI] [] [])] Tryz.f192)
def kk44:=kk43.b (s:=aac) (bnd kk43 [] Tryz.f194)
def kk45:=kk44.b (s:=ac9) (bnd kk44 [(9,.c 46 [.b 0 0 (roL .u8),.b 0 1 roI,.b 0 2 roI,.t 3 roS,.t 4 roI,.t 5 roI,.t 6 roI,.t 7 (owE .str 0),.t 8 roI] [(0,3)] [(0,0,0)]),(5,.c 46 [.b 0 0 (roL .u8),.b 0 1 roI,.b 0 2 roI,.t 3 roS,.t 4 roI,.t 5 roI,.t 6 roI] [(0,3)] [(0,0,0)])] Tryz.f151)
def kk46:=kk45.b (s:=adb) (bnd kk45 [] Tryz.f116)
def kk47:=kk46.b (s:=acW) (bnd kk46 [] Tryz.f79)
def kk48:=kk47.b (s:=adh) (bnd kk47 [] Tryz.f118)
def kk49:=kk48.f (s:=PV) (snd kk48 [] Tryz.f119)
def kk50:=kk49.b (s:=ade) (bnd kk49 [(4,.c 34 [.b 0 0 (roL .u8),.b 0 1 roI,.b 0 2 roI,.t 3 (owE .read 0),.t 4 roI,.t 5 roI] [(0,3)] [(0,0,0)])] Tryz.f81)
def kk51:=kk50.b (s:=acV) (bnd kk50 [(3,.c 64 [.b 0 0 (roL .u8),.b 0 1 roI,.b 0 2 roI,.t 1 (roL .op),.b 6 0 roI,.b 6 1 roI,.b 6 2 roI,.b 6 3 (owE .int 0),.b 6 4 roI,.b 6 5 roI,.b 6 6 roI,.b 6 7 roI,.b 6 8 roI,.b 6 9 roS,.b 6 10 roS,.b 6 11 roI,.b 6 12 roS,.b 6 13 roS,.b 6 14 roI,.b 6 15 roI,.b 6 16 (owE .read 1),.b 7 0 roI,.b 7 1 roI,.b 7 2 roI,.b 7 3 (owE .int 2),.b 7 4 roI,.b 7 5 roI,.b 7 6 roI,.b 7 7 roI,.b 7 8 roI,.b 7 9 roS,.b 7 10 roS,.b 7 11 roI,.b 7 12 roS,.b 7 13 roS,.b 7 14 roI,.b 7 15 roI,.b 7 16 (owE .read 3),.t 8 roI] [(0,3),(6,17),(7,17)] [(0,0,0),(6,6,0),(7,7,0)])] Tryz.f44)
def kk52:=kk51.f (s:=ZW) (snd kk51 [(2,.c 31 [.t 0 (roL .op),.b 3 0 roI,.b 3 1 roI,.b 3 2 roI,.b 3 3 (roL .int),.b 3 4 roI,.b 3 5 roI,.b 3 6 roI,.b 3 7 roI,.b 3 8 roI,.b 3 9 roS,.b 3 10 roS,.b 3 11 roI,.b 3 12 roS,.b 3 13 roS,.b 3 14 roI,.b 3 15 roI,.b 3 16 (roL .read),.t 5 roI] [(3,17)] [(3,3,0)])] Tryz.f23)
def kk53:=kk52.f (s:=ZO) (snd kk52 [] Tryz.f30)
def kk54:=kk53.f (s:=aif) (snd kk53 [] Tryz.f221)
theorem Cb:∀n,Sound Tryz.prog (P6 n)
 | 0=>(fun w S args x y h=>by cases h)
 | n+1=>
  have ih:=Cb n
  snd (s:=P6 (n+1)) (kk54.f ih) [(7,.c 56 [.b 1 0 roI,.b 1 1 roI,.b 1 2 roI,.b 1 3 roS,.b 1 4 (roL .val),.b 1 5 (roL .str),.b 1 6 (roL .row),.b 2 0 roI,.b 2 1 roI,.b 2 2 roI,.b 2 3 roS,.b 2 4 (owE .val 0),.b 2 5 (owE .str 4),.b 2 6 (owE .row 5),.b 3 0 roI,.b 3 1 roI,.b 3 2 roI,.b 3 3 roS,.b 3 4 (owE .val 6),.b 3 5 (owE .str 7),.b 3 6 (owE .row 8),.t 5 roI] [(1,7),(2,7),(3,7)] [(1,1,0),(2,2,0),(3,3,0)]),(3,.c 56 [.b 1 0 roI,.b 1 1 roI,.b 1 2 roI,.b 1 3 roS,.b 1 4 (roL .val),.b 1 5 (roL .str),.b 1 6 (roL .row),.b 2 0 roI,.b 2 1 roI,.b 2 2 roI,.b 2 3 roS,.b 2 4 (owE .val 0),.b 2 5 (owE .str 4),.b 2 6 (owE .row 5),.b 3 0 roI,.b 3 1 roI,.b 3 2 roI,.b 3 3 roS,.b 3 4 (owE .val 6),.b 3 5 (owE .str 7),.b 3 6 (owE .row 8),.t 4 roI] [(1,7),(2,7),(3,7)] [(1,1,0),(2,2,0),(3,3,0)])] Tryz.f168
theorem Ux:Sound Tryz.prog agt:=fun w S args x y h=>(Cb (siz (α:=aQ) x+1)) w S args x y h
def kk55:=kk54.f Ux
def kk56:=kk55.f (s:=adg) (snd kk55 [] Tryz.f131)
def kk57:=kk56.f (s:=aaf) (snd kk56 [(3,.c 21 [.t 0 (roL .read),.t 3 (owE .read 0),.t 4 roI] [] [])] Tryz.f92)
def kk58:=kk57.f (s:=acX) (snd kk57 [] Tryz.f57)
def kk59:=kk58.f (s:=ZQ) (snd (kk58.cuts [(10,5,8,64,62)]) [(8,.c 65 [.t 5 (owE .op 0),.t 6 (.own (.base .op) false true 1),.t 7 roI,.t 8 roI] [] []),(4,.c 65 [.t 5 (owE .op 0),.t 6 (.own (.base .op) false true 1),.t 7 roI] [] [])] Tryz.f45)
def kk60:=kk59.b (s:=agq) (bnd kk59 [(4,.c 40 [.b 0 0 (roL .u8),.b 0 1 roI,.b 0 2 roI,.t 5 (owE .op 0),.t 6 roI,.t 7 roI] [(0,3)] [(0,0,0)])] Tryz.f18)
def kk61:=kk60.b (s:=acY) (bnd kk60 [] Tryz.f43)
def kk62:=kk61.s (s:=II) (ssd kk61 [] Tryz.f17)
end
end Go.Proofs.YtngjomkjlonfpaaGreatDoor
