import Derived.Test.YtkebfkahdmddpaaGreatDoorLayL
/- The functions compute their models, by gen.py. -/
namespace Go.Proofs.YtkebfkahdmddpaaGreatDoor
noncomputable section
open Go.Abs Go.Proofs
set_option maxRecDepth 100000
def kk1:=kk0.f (s:=ajz) (snd kk0 [] Tryz.f4)
def kk2:=kk1.n (s:=ado) (nnd kk1 [(3,.c 32 [.t 0 (roL .u8),.t 3 roI,.t 4 roI] [] [])] Tryz.f17)
def kk3:=kk2.b (s:=abv) (bnd kk2 [] Tryz.f69)
def kk4:=kk3.b (s:=YD) (bnd kk3 [] Tryz.f40)
def kk5:=kk4.b (s:=abr) (bnd kk4 [] Tryz.f19)
def kk6:=kk5.b (s:=abq) (bnd kk5 [] Tryz.f39)
def kk7:=kk6.b (s:=Uc) (bnd kk6 [] Tryz.f41)
theorem yI:∀n,Sound Tryz.prog (Jl n)
 | 0=>(fun w S args x y h=>by cases h)
 | n+1=>
  have ih:=yI n
  snd (s:=Jl (n+1)) (kk7.f ih) [(3,.c 27 [.t 1 roI,.b 2 0 roI,.b 2 1 roI,.b 2 2 roS,.b 2 3 (roL .expr),.t 5 roI] [(2,4)] [(2,2,0)])] Tryz.f85
theorem MH:Sound Tryz.prog YZ:=fun w S args x y h=>(yI (siz (α:=af) x.1+1)) w S args x y h
def kk8:=kk7.f MH
def kk9:=kk8.f (s:=adp) (snd kk8 [] Tryz.f126)
theorem ug:∀n,Sound Tryz.prog (CU n)
 | 0=>(fun w S args x y h=>by cases h)
 | n+1=>
  have ih:=ug n
  snd (s:=CU (n+1)) (kk9.f ih) [(3,.c 22 [.b 1 0 roI,.b 1 1 roI,.b 1 2 roS,.b 1 3 (roL .expr),.t 3 roI,.t 4 roI] [(1,4)] [(1,1,0)])] Tryz.f86
theorem Hq:Sound Tryz.prog TW:=fun w S args x y h=>(ug (siz (α:=af) x+1)) w S args x y h
def kk10:=kk9.f Hq
def kk11:=kk10.f (s:=YB) (snd kk10 [(2,.c 45 [.t 0 roS,.t 3 roI] [] [])] Tryz.f54)
def kk12:=kk11.f (s:=adq) (snd kk11 [(2,.c 18 [.t 0 (roL .str),.t 1 roS,.t 5 roI] [] [])] Tryz.f28)
def kk13:=kk12.f (s:=Py) (snd kk12 [] Tryz.f83)
def kk14:=kk13.f (s:=PK) (snd kk13 [] Tryz.f55)
def kk15:=kk14.f (s:=ML) (snd kk14 [] Tryz.f26)
def kk16:=kk15.f (s:=afB) (snd kk15 [] Tryz.f34)
def kk17:=kk16.f (s:=MK) (snd kk16 [(2,.c 29 [.t 0 roS,.t 3 roI] [] [])] Tryz.f135)
def kk18:=kk17.f (s:=HY) (snd kk17 [] Tryz.f160)
def kk19:=kk18.f (s:=YU) (snd kk18 [] Tryz.f127)
theorem zV:∀n,Sound Tryz.prog (MJ n)
 | 0=>(fun w S args x y h=>by cases h)
 | n+1=>
  have ih:=zV n
  snd (s:=MJ (n+1)) (kk19.f ih) [(2,.c 20 [.b 1 0 roI,.b 1 1 roI,.b 1 2 roS,.b 1 3 (roL .expr),.t 3 roI] [(1,4)] [(1,1,0)])] Tryz.f87
theorem PI:Sound Tryz.prog abA:=fun w S args x y h=>(zV (siz (α:=af) x+1)) w S args x y h
def kk20:=kk19.f PI
def kk21:=kk20.f (s:=MN) (snd kk20 [] Tryz.f57)
def kk22:=kk21.f (s:=Uk) (snd kk21 [(5,.c 31 [.t 0 roI,.t 3 (roE .bool),.t 4 roS] [] [])] Tryz.f89)
def kk23:=kk22.f (s:=afE) (snd kk22 [(3,.c 27 [.t 0 (roL .str),.t 1 roS,.t 5 (owE .u8 0),.t 6 roI] [] [])] Tryz.f104)
def kk24:=kk23.f (s:=Yy) (snd kk23 [] Tryz.f91)
def agb:=kk24.f (s:=VN) (snd kk24 [] Tryz.f93)
theorem mV:∀n,Sound Tryz.prog (Jf n)/\Sound Tryz.prog (Jg n)/\Sound Tryz.prog (Rk n)
 | 0=>⟨(fun w S args x y h=>by cases h),(fun w S args x y h=>by cases h),(fun w S args x y h=>by cases h)⟩
 | n+1=>
  have ih:=mV n
  ⟨snd (s:=Jf (n+1)) (((agb.f ih.1).f ih.2.1).f ih.2.2) [] Tryz.f59,
  snd (s:=Jg (n+1)) (((agb.f ih.1).f ih.2.1).f ih.2.2) [(3,.c 22 [.t 0 (roL .expr),.t 3 (owE .str 0),.t 4 roI] [] [])] Tryz.f90,
  snd (s:=Rk (n+1)) (((agb.f ih.1).f ih.2.1).f ih.2.2) [] Tryz.f92⟩
theorem L9:Sound Tryz.prog YL:=fun w S args x y h=>(mV (siz (α:=af) x+1)).1 w S args x y h
def kk26:=agb.f L9
theorem Mc:Sound Tryz.prog YM:=fun w S args x y h=>(mV (siz (α:=List af) x+1)).2.1 w S args x y h
def kk27:=kk26.f Mc
theorem Ug:Sound Tryz.prog ads:=fun w S args x y h=>(mV (siz (α:=af) x.1+1)).2.2 w S args x y h
def kk28:=kk27.f Ug
def kk29:=kk28.f (s:=PN) (snd kk28 [] Tryz.f30)
def kk30:=kk29.f (s:=abz) (snd kk29 [] Tryz.f145)
def kk31:=kk30.f (s:=YV) (snd kk30 [] Tryz.f171)
def kk32:=kk31.b (s:=Y0) (bnd kk31 [] Tryz.f140)
def kk33:=kk32.s (s:=adv) (ssd kk32 [] Tryz.f141)
def kk34:=kk33.b (s:=YX) (bnd kk33 [(4,.c 34 [.b 0 0 (roL .u8),.b 0 1 roI,.b 0 2 roI,.t 1 (roL .str),.b 4 0 roI,.b 4 1 roI,.b 4 2 roS,.b 4 3 (owE .expr 0),.b 5 0 roI,.b 5 1 roI,.b 5 2 roS,.b 5 3 (.own (.base .expr) false true 1),.t 6 roI,.t 7 roI] [(0,3),(4,4),(5,4)] [(0,0,0),(4,4,0),(5,5,0)])] Tryz.f142)
def kk35:=kk34.f (s:=Y2) (snd kk34 [] Tryz.f143)
def kk36:=kk35.b (s:=Pz) (bnd kk35 [] Tryz.f144)
def kk37:=kk36.b (s:=Uh) (bnd kk36 [] Tryz.f146)
def kk38:=kk37.b (s:=V7) (bnd kk37 [(4,.c 31 [.b 0 0 (roL .u8),.b 0 1 roI,.b 0 2 roI,.b 2 0 roI,.b 2 1 roI,.b 2 2 roS,.b 2 3 (owE .expr 0),.b 3 0 roI,.b 3 1 roI,.b 3 2 roS,.b 3 3 (owE .expr 1),.t 4 roI,.t 5 roI] [(0,3),(2,4),(3,4)] [(0,0,0),(2,2,0),(3,3,0)])] Tryz.f147)
theorem yH:∀n,fF Tryz.prog (Jk n)
 | 0=>(fun w S bb vs Et args x y h=>by cases h)
 | n+1=>
  have ih:=yH n
  bnd (s:=Jk (n+1)) (kk38.b ih) [] Tryz.f103
theorem MF:fF Tryz.prog YW:=fun w S bb vs Et args x y h=>(yH (siz (α:=bM) x.1+siz (α:=List Str) x.2.1+1)) w S bb vs Et args x y h
def kk39:=kk38.b MF
def kk40:=kk39.b (s:=YE) (bnd kk39 [] Tryz.f70)
def kk41:=kk40.f (s:=TP) (snd kk40 [(4,.c 36 [.t 0 roS,.t 1 (roE .u8),.t 5 (owE .str 0),.t 6 roI,.t 7 roI] [] [])] Tryz.f98)
def kk42:=kk41.b (s:=VX) (bnd kk41 [] Tryz.f105)
def kk43:=kk42.b (s:=YG) (bnd kk42 [(9,.c 46 [.b 0 0 (roL .u8),.b 0 1 roI,.b 0 2 roI,.t 3 roS,.t 4 roI,.t 5 roI,.t 6 roI,.t 7 (owE .str 0),.t 8 roI] [(0,3)] [(0,0,0)]),(5,.c 46 [.b 0 0 (roL .u8),.b 0 1 roI,.b 0 2 roI,.t 3 roS,.t 4 roI,.t 5 roI,.t 6 roI] [(0,3)] [(0,0,0)])] Tryz.f71)
def kk44:=kk43.b (s:=YI) (bnd kk43 [] Tryz.f42)
def kk45:=kk44.b (s:=YF) (bnd (kk44.pre [(10,[(1,0)])]) [(4,.c 59 [.b 0 0 (roL .u8),.b 0 1 roI,.b 0 2 roI,.b 4 0 (owE .cell 0),.b 5 0 (owE .cell 1),.t 6 roI,.t 7 roI] [(0,3),(4,1),(5,1)] [(0,0,0),(4,4,0),(5,5,0)])] Tryz.f38)
def kk46:=kk45.b (s:=YC) (bnd kk45 [(3,.c 37 [.b 0 0 (roL .u8),.b 0 1 roI,.b 0 2 roI,.b 4 0 (owE .cell 0),.b 5 0 (.own (.base .cell) false true 1),.t 6 roI] [(0,3),(4,1),(5,1)] [(0,0,0),(4,4,0),(5,5,0)])] Tryz.f18)
def kk47:=kk46.b (s:=YJ) (bnd kk46 [(17,.c 93 [.b 0 0 (roL .u8),.b 0 1 roI,.b 0 2 roI,.b 2 0 (owE .cell 0),.b 3 0 (.own (.base .cell) false true 1)] [(0,3),(2,1),(3,1)] [(0,0,0),(2,2,0),(3,3,0)])] Tryz.f20)
def kk48:=kk47.b (s:=VS) (bnd kk47 [] Tryz.f21)
def kk49:=kk48.s (s:=yV) (ssd kk48 [] Tryz.f5)
def kk50:=kk49.f (s:=J8) (snd kk49 [] Tryz.f23)
def kk51:=kk50.f (s:=Vf) (snd kk50 [(2,.c 21 [.t 1 roI,.t 8 (roL .cell),.t 9 roI,.t 10 roI] [] [])] Tryz.f36)
def kk52:=kk51.f (s:=acd) (snd kk51 [] Tryz.f112)
def kk53:=kk52.f (s:=ack) (snd kk52 [(2,.c 42 [.t 0 roS,.t 3 roI] [] [])] Tryz.f74)
def kk54:=kk53.f (s:=IA) (snd kk53 [] Tryz.f114)
def kk55:=kk54.f (s:=Qq) (snd kk54 [] Tryz.f75)
def kk56:=kk55.f (s:=Oz) (snd kk55 [] Tryz.f45)
def kk57:=kk56.f (s:=OC) (snd kk56 [(2,.c 23 [.t 0 roS,.t 3 roI] [] [])] Tryz.f113)
def kk58:=kk57.f (s:=OB) (snd kk57 [] Tryz.f73)
def kk59:=kk58.f (s:=Ee) (snd kk58 [(2,.c 29 [.b 1 0 (roL .cell),.t 6 (roL .cell),.t 7 roI,.t 8 roI] [(1,1)] [(1,1,0)])] Tryz.f44)
def kk60:=kk59.f (s:=Ox) (snd kk59 [] Tryz.f106)
theorem uI:∀n,Sound Tryz.prog (Dj n)
 | 0=>(fun w S args x y h=>by cases h)
 | n+1=>
  have ih:=uI n
  snd (s:=Dj (n+1)) (kk60.f ih) [(3,.c 19 [.t 3 roI,.t 7 (roL .expr),.t 8 roI,.t 9 roI] [] [])] Tryz.f117
theorem Iu:Sound Tryz.prog U6:=fun w S args x y h=>(uI (siz (α:=af) x+1)) w S args x y h
def kk61:=kk60.f Iu
theorem uJ:∀n,Sound Tryz.prog (Dk n)
 | 0=>(fun w S args x y h=>by cases h)
 | n+1=>
  have ih:=uJ n
  snd (s:=Dk (n+1)) (kk61.f ih) [(3,.c 20 [.t 3 roI,.t 7 (roL .expr),.t 8 roI,.t 9 roI] [] [])] Tryz.f118
theorem Iw:Sound Tryz.prog U7:=fun w S args x y h=>(uJ (siz (α:=af) x+1)) w S args x y h
def kk62:=kk61.f Iw
end
end Go.Proofs.YtkebfkahdmddpaaGreatDoor
