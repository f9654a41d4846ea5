import Derived.Test.YtjbajpfonnnfoaaGreatDoorDen4
/- The functions compute their models, by gen.py. -/
namespace Go.Proofs.YtjbajpfonnnfoaaGreatDoor
noncomputable section
open Go.Abs Go.Proofs
set_option maxRecDepth 100000
def aiT:=aiU.anb Nh [(2,.c 28 ([.t 1 roS]++amX 2 0 [roI,roI,(roL .file)]++[.t 6 roI]) [(2,3)] [(2,2,0)])] Tryz.f218
def aiS:=aiT.anb JR [] Tryz.f190
def aiR:=aiS.mc (s:=Uz) 6 (mcd aiS.mo [(2,.c 86 (am9 0++am8 3++am2 4 1 2 5++[.t 5 roI]) [(0,9),(3,11),(4,7)] [(0,0,0),(3,3,0),(4,4,0)])] 6 Tryz.f136)
def aiQ:=aiR.anb ag9 [(3,.c 38 ([.t 0 (roL .binding),.t 1 roS]++am4 5++[.t 7 (owE .binding 0),.t 8 roI]) [(5,7)] [(5,5,0)])] Tryz.f91
def aiP:=aiQ.anb acz [] Tryz.f92
def aiO:=aiP.anb aef [] Tryz.f137
def aiN:=aiO.anb P9 [] Tryz.f139
def aiM:=aiN.anb acf [] Tryz.f138
def aiL:=aiM.anb Qq [] Tryz.f140
def Xx:=aiL.anb Io [] Tryz.f94
theorem jK:∀n,fH Tryz.prog (zX n) 6/\fH Tryz.prog (DR n) 6/\fH Tryz.prog (zY n) 6/\fH Tryz.prog (DN n) 6
 | 0=>⟨(λw S R bb vs Et args x y h=>by cases h),(λw S R bb vs Et args x y h=>by cases h),(λw S R bb vs Et args x y h=>by cases h),(λw S R bb vs Et args x y h=>by cases h)⟩
 | n+1=>
  have ih:=jK n
  ⟨mcd (s:=zX (n+1)) ((((Xx.mc 6 ih.1).mc 6 ih.2.1).mc 6 ih.2.2.1).mc 6 ih.2.2.2).mo [] 6 Tryz.f36,
  mcd (s:=DR (n+1)) ((((Xx.mc 6 ih.1).mc 6 ih.2.1).mc 6 ih.2.2.1).mc 6 ih.2.2.2).mo [(3,.c 34 (am9 0++[.t 1 (roL .expr),.t 2 (roL .binding),.t 7 (.own (.base .val) false true 1),.t 8 roI]) [(0,9)] [(0,0,0)])] 6 Tryz.f88,
  mcd (s:=zY (n+1)) ((((Xx.mc 6 ih.1).mc 6 ih.2.1).mc 6 ih.2.2.1).mc 6 ih.2.2.2).mo [] 6 Tryz.f90,
  mcd (s:=DN (n+1)) ((((Xx.mc 6 ih.1).mc 6 ih.2.1).mc 6 ih.2.2.1).mc 6 ih.2.2.2).mo [(8,.c 71 (am9 0++[.t 2 (roL .binding)]++amY 4++am2 6 1 2 3++am4 7++[.t 8 (.own (.base .val) false true 5),.t 9 roI]) [(0,9),(4,4),(6,7),(7,7)] [(0,0,0),(4,4,0),(6,6,0),(7,7,0)])] 6 Tryz.f93⟩
theorem MP:fH Tryz.prog Y9 6:=.fuel zX (λn=>rfl) (λn=>(jK n).1) (λx=>siz (α:=aA) x.1+siz (α:=ak) x.2.1+siz (α:=List au) x.2.2+1) λx=>by kernel_rfl
def alQ:=Xx.mc 6 MP
theorem Qk:fH Tryz.prog acu 6:=.fuel DR (λn=>rfl) (λn=>(jK n).2.1) (λx=>siz (α:=aA) x.1+siz (α:=List ak) x.2.1+siz (α:=List au) x.2.2+1) λx=>by kernel_rfl
def alP:=alQ.mc 6 Qk
theorem MR:fH Tryz.prog Za 6:=.fuel zY (λn=>rfl) (λn=>(jK n).2.2.1) (λx=>siz (α:=aA) x.1+siz (α:=ak) x.2.1+siz (α:=List au) x.2.2+1) λx=>by kernel_rfl
def alO:=alP.mc 6 MR
theorem Qi:fH Tryz.prog acs 6:=.fuel DN (λn=>rfl) (λn=>(jK n).2.2.2) (λx=>siz (α:=aA) x.1+siz (α:=ak) x.2.1+siz (α:=List au) x.2.2+1) λx=>by kernel_rfl
def aiK:=alO.mc 6 Qi
def aiJ:=aiK.anb Y7 [] Tryz.f95
def aiI:=aiJ.anb WH [(3,.c 21 [.t 0 (roL .read),.t 3 (owE .read 0),.t 4 roI] [] [])] Tryz.f37
def alN:=aiI.f (s:=WR) (snd aiI.mo [] Tryz.f11)
end
end Go.Proofs.YtjbajpfonnnfoaaGreatDoor
