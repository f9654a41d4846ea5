import Derived.Test.YtjbajpfonnnfoaaGreatDoorDen4
/- The functions compute their models, by gen.py. -/
namespace Go.Proofs.YtjbajpfonnnfoaaGreatDoor
noncomputable section
open Go.Abs Go.Proofs
set_option maxRecDepth 100000
def aib:=aic.alT MR [(2,.c 28 ([.t 1 roS]++alF 2 0 [roI,roI,(roL .file)]++[.t 6 roI]) [(2,3)] [(2,2,0)])] Tryz.f218
def aia:=aib.alT JH [] Tryz.f190
def ah9:=aia.mc (s:=Ui) 6 (mcd aia.mo [(2,.c 86 (alR 0++alQ 3++alK 4 1 2 5++[.t 5 roI]) [(0,9),(3,11),(4,7)] [(0,0,0),(3,3,0),(4,4,0)])] 6 Tryz.f136)
def ah8:=ah9.alT agr [(3,.c 38 ([.t 0 (roL .binding),.t 1 roS]++alM 5++[.t 7 (owE .binding 0),.t 8 roI]) [(5,7)] [(5,5,0)])] Tryz.f91
def ah7:=ah8.alT abY [] Tryz.f92
def ah6:=ah7.alT adJ [] Tryz.f137
def ah5:=ah6.alT PK [] Tryz.f139
def ah4:=ah5.alT abJ [] Tryz.f138
def ah3:=ah4.alT P9 [] Tryz.f140
def Xj:=ah3.alT Ia [] Tryz.f94
theorem jH:∀n,fO Tryz.prog (zn n) 6/\fO Tryz.prog (Dv n) 6/\fO Tryz.prog (zo n) 6/\fO Tryz.prog (Du n) 6
 | 0=>⟨(λw S R bb vs Et args x y h=>by cases h),(λw S R bb vs Et args x y h=>by cases h),(λw S R bb vs Et args x y h=>by cases h),(λw S R bb vs Et args x y h=>by cases h)⟩
 | n+1=>
  have ih:=jH n
  ⟨mcd (s:=zn (n+1)) ((((Xj.mc 6 ih.1).mc 6 ih.2.1).mc 6 ih.2.2.1).mc 6 ih.2.2.2).mo [] 6 Tryz.f36,
  mcd (s:=Dv (n+1)) ((((Xj.mc 6 ih.1).mc 6 ih.2.1).mc 6 ih.2.2.1).mc 6 ih.2.2.2).mo [(3,.c 34 (alR 0++[.t 1 (roL .expr),.t 2 (roL .binding),.t 7 (.own (.base .val) false true 1),.t 8 roI]) [(0,9)] [(0,0,0)])] 6 Tryz.f88,
  mcd (s:=zo (n+1)) ((((Xj.mc 6 ih.1).mc 6 ih.2.1).mc 6 ih.2.2.1).mc 6 ih.2.2.2).mo [] 6 Tryz.f90,
  mcd (s:=Du (n+1)) ((((Xj.mc 6 ih.1).mc 6 ih.2.1).mc 6 ih.2.2.1).mc 6 ih.2.2.2).mo [(8,.c 71 (alR 0++[.t 2 (roL .binding)]++alG 4++alK 6 1 2 3++alM 7++[.t 8 (.own (.base .val) false true 5),.t 9 roI]) [(0,9),(4,4),(6,7),(7,7)] [(0,0,0),(4,4,0),(6,6,0),(7,7,0)])] 6 Tryz.f93⟩
theorem MB:fO Tryz.prog YT 6:=.fuel zn (λn=>rfl) (λn=>(jH n).1) (λx=>siz (α:=aA) x.1+siz (α:=au) x.2.1+siz (α:=List ak) x.2.2+1) λx=>by kernel_rfl
def ak4:=Xj.mc 6 MB
theorem PZ:fO Tryz.prog abU 6:=.fuel Dv (λn=>rfl) (λn=>(jH n).2.1) (λx=>siz (α:=aA) x.1+siz (α:=List au) x.2.1+siz (α:=List ak) x.2.2+1) λx=>by kernel_rfl
def ak3:=ak4.mc 6 PZ
theorem MF:fO Tryz.prog YU 6:=.fuel zo (λn=>rfl) (λn=>(jH n).2.2.1) (λx=>siz (α:=aA) x.1+siz (α:=au) x.2.1+siz (α:=List ak) x.2.2+1) λx=>by kernel_rfl
def ak2:=ak3.mc 6 MF
theorem PX:fO Tryz.prog abT 6:=.fuel Du (λn=>rfl) (λn=>(jH n).2.2.2) (λx=>siz (α:=aA) x.1+siz (α:=au) x.2.1+siz (α:=List ak) x.2.2+1) λx=>by kernel_rfl
def ah2:=ak2.mc 6 PX
def ah1:=ah2.alT YR [] Tryz.f95
def ah0:=ah1.alT Wi [(3,.c 21 [.t 0 (roL .read),.t 3 (owE .read 0),.t 4 roI] [] [])] Tryz.f37
def ahZ:=ah0.f (s:=Ws) (snd ah0.mo [] Tryz.f11)
def ahY:=ahZ.f (s:=TN) (snd (ahZ.agB [49,53]) [(6,.c 63 [.t 0 (roL .str),.t 3 (owE .str 0),.t 4 roI,.t 5 roI] [] []),(3,.c 63 [.t 0 (roL .str),.t 3 (owE .str 0),.t 4 roI] [] [])] Tryz.f40)
theorem yH:∀n,Sound Tryz.prog (zu n)
 | 0=>.alX
 | n+1=>
  have ih:=yH n
  snd (s:=zu (n+1)) (ahY.f ih) [(5,.c 61 ([.t 1 (roL .str)]++alG 2++[.t 5 (owE .str 0),.t 6 roI]) [(2,4)] [(2,2,0)])] Tryz.f41
theorem MH:Sound Tryz.prog YZ:=.fuel zu (λn=>rfl) yH (λx=>siz (α:=au) x.1+siz (α:=List Str) x.2+1) λx=>by kernel_rfl
def ahX:=ahY.f MH
def ahW:=ahX.alT Ul [] Tryz.f13
def ak1:=ahW.alT acG [] Tryz.f15
theorem GL:Sound Tryz.prog QI:=snd ak1 [(11,.c 100 (alG 3++[.t 4 (roL .binding),.t 5 (roL .read)]++alF 6 0 [roI,roI,(roL .file)]++[.t 7 roI,.t 8 roI]++alF 9 0 [roI,roI,roI,roS,(roL .val),(roL .str),(roL .row),(roL .read),roI]++[.t 10 (owE .str 0),.t 11 (.own (.base .binding) false true 1),.t 12 (roE .bool),.t 13 roI]) [(3,4),(6,3),(9,9)] [(3,3,0),(6,6,0),(9,9,0)])] Tryz.f4
end
end Go.Proofs.YtjbajpfonnnfoaaGreatDoor
