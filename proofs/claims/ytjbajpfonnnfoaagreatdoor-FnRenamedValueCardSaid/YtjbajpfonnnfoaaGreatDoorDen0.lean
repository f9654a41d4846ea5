import Derived.Test.YtjbajpfonnnfoaaGreatDoorPdq8
/- The functions compute their models, by gen.py. -/
namespace Go.Proofs.YtjbajpfonnnfoaaGreatDoor
noncomputable section
open Go.Abs Go.Proofs
set_option maxRecDepth 100000
def kk1:=kk0.anb al9 [] Tryz.f6
def kk2:=kk1.anc aei [(3,.c 32 [.t 0 (roL .u8),.t 3 roI,.t 4 roI] [] [])] Tryz.f19
theorem yU:∀n,Sound Tryz.prog (Ad n)
 | 0=>.ang
 | n+1=>
  have ih:=yU n
  snd (s:=Ad (n+1)) (kk2.f ih) [(3,.c 27 ([.t 1 roI]++amY 2++[.t 5 roI]) [(2,4)] [(2,2,0)])] Tryz.f48
theorem MX:Sound Tryz.prog Zi:=.fuel Ad (λn=>rfl) yU (λx=>siz (α:=ak) x.1+1) λx=>by kernel_rfl
def kk3:=kk2.f MX
def kk4:=kk3.anb aek [] Tryz.f103
theorem uf:∀n,Sound Tryz.prog (uX n)
 | 0=>.ang
 | n+1=>
  have ih:=uf n
  snd (s:=uX (n+1)) (kk4.f ih) [(3,.c 22 (amY 1++[.t 3 roI,.t 4 roI]) [(1,4)] [(1,1,0)])] Tryz.f49
theorem Hu:Sound Tryz.prog Uh:=.fuel uX (λn=>rfl) uf (λx=>siz (α:=ak) x+1) λx=>by kernel_rfl
def kk5:=kk4.f Hu
def kk6:=kk5.anb Na [(2,.c 29 [.t 0 roS,.t 3 roI] [] [])] Tryz.f43
def kk7:=kk6.anb ag5 [] Tryz.f46
def kk8:=kk7.anb Y3 [(2,.c 45 [.t 0 roS,.t 3 roI] [] [])] Tryz.f192
def kk9:=kk8.anb ael [(2,.c 18 [.t 0 (roL .str),.t 1 roS,.t 5 roI] [] [])] Tryz.f98
def kk10:=kk9.anb Qg [] Tryz.f219
def kk11:=kk10.anb Qm [] Tryz.f193
def kk12:=kk11.anb Nb [] Tryz.f144
def kk13:=kk12.anb Il [] Tryz.f147
def kk14:=kk13.anb Ze [] Tryz.f104
theorem Af:∀n,Sound Tryz.prog (DT n)
 | 0=>.ang
 | n+1=>
  have ih:=Af n
  snd (s:=DT (n+1)) (kk14.f ih) [(2,.c 20 (amY 1++[.t 3 roI]) [(1,4)] [(1,1,0)])] Tryz.f50
theorem Ql:Sound Tryz.prog acw:=.fuel DT (λn=>rfl) Af (λx=>siz (α:=ak) x+1) λx=>by kernel_rfl
def kk15:=kk14.f Ql
def kk16:=kk15.anb Nc [] Tryz.f16
def kk17:=kk16.ane acr [] Tryz.f68
theorem zW:jw Tryz.prog Y4:=bnd kk17 [] Tryz.f27
def kk18:=kk17.b zW
theorem Dl:jw Tryz.prog Hy:=bnd kk18 [] Tryz.f21
def kk19:=kk18.b Dl
def kk20:=kk19.anb acv [] Tryz.f58
def kk21:=kk20.anb Zf [] Tryz.f60
def kk22:=kk21.ane aco [] Tryz.f62
def kk23:=kk22.ane Zj [] Tryz.f61
def kk24:=kk23.anf aen [] Tryz.f56
def kk25:=kk24.anb Zl [] Tryz.f57
def kk26:=kk25.ane Zh [(4,.c 34 (amZ 0++[.t 1 (roL .str)]++am0 4 0++am1 5++[.t 6 roI,.t 7 roI]) [(0,3),(4,4),(5,4)] [(0,0,0),(4,4,0),(5,5,0)])] Tryz.f59
def kk27:=kk26.ane Qh [] Tryz.f150
def kk28:=kk27.ane UB [] Tryz.f151
end
end Go.Proofs.YtjbajpfonnnfoaaGreatDoor
