import Derived.Test.YtjbajpfonnnfoaaGreatDoorUniS
/- The functions compute their models, by gen.py. -/
namespace Go.Proofs.YtjbajpfonnnfoaaGreatDoor
noncomputable section
open Go.Abs Go.Proofs
set_option maxRecDepth 100000
def kk1:=kk0.f (s:=alg) (snd kk0 [] Tryz.f6)
def kk2:=kk1.n (s:=adJ) (nnd kk1 [(3,.c 32 [.t 0 (roL .u8),.t 3 roI,.t 4 roI] [] [])] Tryz.f19)
theorem yL:∀n,Sound Tryz.prog (zN n)
 | 0=>(fun w S args x y h=>by cases h)
 | n+1=>
  have ih:=yL n
  snd (s:=zN (n+1)) (kk2.f ih) [(3,.c 27 [.t 1 roI,.b 2 0 roI,.b 2 1 roI,.b 2 2 roS,.b 2 3 (roL .expr),.t 5 roI] [(2,4)] [(2,2,0)])] Tryz.f48
theorem MJ:Sound Tryz.prog YX:=.fuel zN (fun n=>rfl) yL (fun x=>siz (α:=aA) x.1+1) fun x=>by kernel_rfl
def kk3:=kk2.f MJ
def kk4:=kk3.f (s:=adL) (snd kk3 [] Tryz.f103)
theorem ul:∀n,Sound Tryz.prog (uV n)
 | 0=>(fun w S args x y h=>by cases h)
 | n+1=>
  have ih:=ul n
  snd (s:=uV (n+1)) (kk4.f ih) [(3,.c 22 [.b 1 0 roI,.b 1 1 roI,.b 1 2 roS,.b 1 3 (roL .expr),.t 3 roI,.t 4 roI] [(1,4)] [(1,1,0)])] Tryz.f49
theorem Hg:Sound Tryz.prog TM:=.fuel uV (fun n=>rfl) ul (fun x=>siz (α:=aA) x+1) fun x=>by kernel_rfl
def kk5:=kk4.f Hg
def kk6:=kk5.f (s:=MN) (snd kk5 [(2,.c 29 [.t 0 roS,.t 3 roI] [] [])] Tryz.f43)
def kk7:=kk6.f (s:=agn) (snd kk6 [] Tryz.f46)
def kk8:=kk7.f (s:=YI) (snd kk7 [(2,.c 45 [.t 0 roS,.t 3 roI] [] [])] Tryz.f192)
def kk9:=kk8.f (s:=adM) (snd kk8 [(2,.c 18 [.t 0 (roL .str),.t 1 roS,.t 5 roI] [] [])] Tryz.f98)
def kk10:=kk9.f (s:=PY) (snd kk9 [] Tryz.f219)
def kk11:=kk10.f (s:=P9) (snd kk10 [] Tryz.f193)
def kk12:=kk11.f (s:=MO) (snd kk11 [] Tryz.f144)
def kk13:=kk12.f (s:=Ib) (snd kk12 [] Tryz.f147)
def kk14:=kk13.f (s:=YT) (snd kk13 [] Tryz.f104)
theorem zQ:∀n,Sound Tryz.prog (DC n)
 | 0=>(fun w S args x y h=>by cases h)
 | n+1=>
  have ih:=zQ n
  snd (s:=DC (n+1)) (kk14.f ih) [(2,.c 20 [.b 1 0 roI,.b 1 1 roI,.b 1 2 roS,.b 1 3 (roL .expr),.t 3 roI] [(1,4)] [(1,1,0)])] Tryz.f50
theorem P8:Sound Tryz.prog abQ:=.fuel DC (fun n=>rfl) zQ (fun x=>siz (α:=aA) x+1) fun x=>by kernel_rfl
def kk15:=kk14.f P8
def kk16:=kk15.f (s:=MP) (snd kk15 [] Tryz.f16)
def kk17:=kk16.b (s:=abM) (bnd kk16 [] Tryz.f68)
theorem zx:jw Tryz.prog YJ:=bnd kk17 [] Tryz.f27
def kk18:=kk17.b zx
theorem CU:jw Tryz.prog Ho:=bnd kk18 [] Tryz.f21
def kk19:=kk18.b CU
def kk20:=kk19.f (s:=abP) (snd kk19 [] Tryz.f58)
def kk21:=kk20.f (s:=YU) (snd kk20 [] Tryz.f60)
def kk22:=kk21.b (s:=abK) (bnd kk21 [] Tryz.f62)
def kk23:=kk22.b (s:=YZ) (bnd kk22 [] Tryz.f61)
def kk24:=kk23.s (s:=adO) (ssd kk23 [] Tryz.f56)
def kk25:=kk24.f (s:=Y1) (snd kk24 [] Tryz.f57)
def kk26:=kk25.b (s:=YW) (bnd kk25 [(4,.c 34 [.b 0 0 (roL .u8),.b 0 1 roI,.b 0 2 roI,.t 1 (roL .str),.b 4 0 roI,.b 4 1 roI,.b 4 2 roS,.b 4 3 (owE .expr 0),.b 5 0 roI,.b 5 1 roI,.b 5 2 roS,.b 5 3 (.own (.base .expr) false true 1),.t 6 roI,.t 7 roI] [(0,3),(4,4),(5,4)] [(0,0,0),(4,4,0),(5,5,0)])] Tryz.f59)
def kk27:=kk26.b (s:=PZ) (bnd kk26 [] Tryz.f150)
def kk28:=kk27.b (s:=Ug) (bnd kk27 [] Tryz.f151)
end
end Go.Proofs.YtjbajpfonnnfoaaGreatDoor
