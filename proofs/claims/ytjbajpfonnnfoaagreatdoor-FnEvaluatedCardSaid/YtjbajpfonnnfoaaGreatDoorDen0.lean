import Derived.Test.YtjbajpfonnnfoaaGreatDoorPdq8
/- The functions compute their models, by gen.py. -/
namespace Go.Proofs.YtjbajpfonnnfoaaGreatDoor
noncomputable section
open Go.Abs Go.Proofs
set_option maxRecDepth 100000
def kk1:=kk0.alT aln [] Tryz.f6
def kk2:=kk1.alU adM [(3,.c 32 [.t 0 (roL .u8),.t 3 roI,.t 4 roI] [] [])] Tryz.f19
theorem yJ:∀n,Sound Tryz.prog (zy n)
 | 0=>.alX
 | n+1=>
  have ih:=yJ n
  snd (s:=zy (n+1)) (kk2.f ih) [(3,.c 27 ([.t 1 roI]++alG 2++[.t 5 roI]) [(2,4)] [(2,2,0)])] Tryz.f48
theorem MK:Sound Tryz.prog Y4:=.fuel zy (λn=>rfl) yJ (λx=>siz (α:=au) x.1+1) λx=>by kernel_rfl
def kk3:=kk2.f MK
def kk4:=kk3.alT adO [] Tryz.f103
theorem tZ:∀n,Sound Tryz.prog (uP n)
 | 0=>.alX
 | n+1=>
  have ih:=tZ n
  snd (s:=uP (n+1)) (kk4.f ih) [(3,.c 22 (alG 1++[.t 3 roI,.t 4 roI]) [(1,4)] [(1,1,0)])] Tryz.f49
theorem G9:Sound Tryz.prog TP:=.fuel uP (λn=>rfl) tZ (λx=>siz (α:=au) x+1) λx=>by kernel_rfl
def kk5:=kk4.f G9
def kk6:=kk5.alT MO [(2,.c 29 [.t 0 roS,.t 3 roI] [] [])] Tryz.f43
def kk7:=kk6.alT agm [] Tryz.f46
def kk8:=kk7.alT YN [(2,.c 45 [.t 0 roS,.t 3 roI] [] [])] Tryz.f192
def kk9:=kk8.alT adP [(2,.c 18 [.t 0 (roL .str),.t 1 roS,.t 5 roI] [] [])] Tryz.f98
def kk10:=kk9.alT PV [] Tryz.f219
def kk11:=kk10.alT P6 [] Tryz.f193
def kk12:=kk11.alT MP [] Tryz.f144
def kk13:=kk12.alT H9 [] Tryz.f147
def kk14:=kk13.alT Y0 [] Tryz.f104
theorem zL:∀n,Sound Tryz.prog (Dw n)
 | 0=>.alX
 | n+1=>
  have ih:=zL n
  snd (s:=Dw (n+1)) (kk14.f ih) [(2,.c 20 (alG 1++[.t 3 roI]) [(1,4)] [(1,1,0)])] Tryz.f50
theorem P5:Sound Tryz.prog abW:=.fuel Dw (λn=>rfl) zL (λx=>siz (α:=au) x+1) λx=>by kernel_rfl
def kk15:=kk14.f P5
def kk16:=kk15.alT MQ [] Tryz.f16
def kk17:=kk16.alV abS [] Tryz.f68
theorem zl:jv Tryz.prog YO:=bnd kk17 [] Tryz.f27
def kk18:=kk17.b zl
theorem CO:jv Tryz.prog Hf:=bnd kk18 [] Tryz.f21
def kk19:=kk18.b CO
def kk20:=kk19.alT abV [] Tryz.f58
def kk21:=kk20.alT Y1 [] Tryz.f60
def kk22:=kk21.alV abQ [] Tryz.f62
def kk23:=kk22.alV Y5 [] Tryz.f61
def kk24:=kk23.alW adR [] Tryz.f56
def kk25:=kk24.alT Y7 [] Tryz.f57
def kk26:=kk25.alV Y3 [(4,.c 34 (alH 0++[.t 1 (roL .str)]++alI 4 0++alJ 5++[.t 6 roI,.t 7 roI]) [(0,3),(4,4),(5,4)] [(0,0,0),(4,4,0),(5,5,0)])] Tryz.f59
def kk27:=kk26.alV PW [] Tryz.f150
def kk28:=kk27.alV Uj [] Tryz.f151
end
end Go.Proofs.YtjbajpfonnnfoaaGreatDoor
