import Derived.Test.YtjbajpfonnnfoaaGreatDoorDen4
/- The functions compute their models, by gen.py. -/
namespace Go.Proofs.YtjbajpfonnnfoaaGreatDoor
noncomputable section
open Go.Abs Go.Proofs
set_option maxRecDepth 100000
def ah6:=ah7.f (s:=YQ) (snd ah7 [] Tryz.f226)
def ah5:=ah6.f (s:=ajP) (snd ah6 [] Tryz.f217)
def ah4:=ah5.f (s:=MQ) (snd ah5 [(2,.c 28 [.t 1 roS,.b 2 0 roI,.b 2 1 roI,.b 2 2 (roL .file),.t 6 roI] [(2,3)] [(2,2,0)])] Tryz.f218)
def ah3:=ah4.f (s:=JJ) (snd ah4 [] Tryz.f190)
def ah2:=ah3.mc (s:=Uf) 6 (mcd ah3.mo [(2,.c 86 [.b 0 0 (roL .read),.b 0 1 roI,.b 0 2 roI,.b 0 3 (roL .file),.b 0 4 roI,.b 0 5 roI,.b 0 6 (.own (.base .read) false false 0),.b 0 7 roI,.b 0 8 (roE .bool),.b 3 0 roI,.b 3 1 roI,.b 3 2 roI,.b 3 3 roS,.b 3 4 roI,.b 3 5 roI,.b 3 6 roI,.b 3 7 roS,.b 3 8 (roL .val),.b 3 9 (roL .str),.b 3 10 (roL .row),.b 4 0 roI,.b 4 1 roI,.b 4 2 roI,.b 4 3 roS,.b 4 4 (owE .val 1),.b 4 5 (owE .str 2),.b 4 6 (owE .row 5),.t 5 roI] [(0,9),(3,11),(4,7)] [(0,0,0),(3,3,0),(4,4,0)])] 6 Tryz.f136)
def ah1:=ah2.f (s:=ags) (snd ah2 [(3,.c 38 [.t 0 (roL .binding),.t 1 roS,.b 5 0 roI,.b 5 1 roI,.b 5 2 roI,.b 5 3 roS,.b 5 4 (roL .val),.b 5 5 (roL .str),.b 5 6 (roL .row),.t 7 (owE .binding 0),.t 8 roI] [(5,7)] [(5,5,0)])] Tryz.f91)
def ah0:=ah1.f (s:=abS) (snd ah1 [] Tryz.f92)
def ahZ:=ah0.f (s:=adG) (snd ah0 [] Tryz.f137)
def ahY:=ahZ.f (s:=PO) (snd ahZ [] Tryz.f139)
def ahX:=ahY.f (s:=abC) (snd ahY [] Tryz.f138)
def ahW:=ahX.f (s:=Qc) (snd ahX [] Tryz.f140)
def Xg:=ahW.f (s:=Ic) (snd ahW [] Tryz.f94)
theorem jK:∀n,fO Tryz.prog (zy n) 6/\fO Tryz.prog (Dz n) 6/\fO Tryz.prog (zK n) 6/\fO Tryz.prog (Dy n) 6
 | 0=>⟨(fun w S R bb vs Et args x y h=>by cases h),(fun w S R bb vs Et args x y h=>by cases h),(fun w S R bb vs Et args x y h=>by cases h),(fun w S R bb vs Et args x y h=>by cases h)⟩
 | n+1=>
  have ih:=jK n
  ⟨mcd (s:=zy (n+1)) ((((Xg.mc 6 ih.1).mc 6 ih.2.1).mc 6 ih.2.2.1).mc 6 ih.2.2.2).mo [] 6 Tryz.f36,
  mcd (s:=Dz (n+1)) ((((Xg.mc 6 ih.1).mc 6 ih.2.1).mc 6 ih.2.2.1).mc 6 ih.2.2.2).mo [(3,.c 34 [.b 0 0 (roL .read),.b 0 1 roI,.b 0 2 roI,.b 0 3 (roL .file),.b 0 4 roI,.b 0 5 roI,.b 0 6 (.own (.base .read) false false 0),.b 0 7 roI,.b 0 8 (roE .bool),.t 1 (roL .expr),.t 2 (roL .binding),.t 7 (.own (.base .val) false true 1),.t 8 roI] [(0,9)] [(0,0,0)])] 6 Tryz.f88,
  mcd (s:=zK (n+1)) ((((Xg.mc 6 ih.1).mc 6 ih.2.1).mc 6 ih.2.2.1).mc 6 ih.2.2.2).mo [] 6 Tryz.f90,
  mcd (s:=Dy (n+1)) ((((Xg.mc 6 ih.1).mc 6 ih.2.1).mc 6 ih.2.2.1).mc 6 ih.2.2.2).mo [(8,.c 71 [.b 0 0 (roL .read),.b 0 1 roI,.b 0 2 roI,.b 0 3 (roL .file),.b 0 4 roI,.b 0 5 roI,.b 0 6 (.own (.base .read) false false 0),.b 0 7 roI,.b 0 8 (roE .bool),.t 2 (roL .binding),.b 4 0 roI,.b 4 1 roI,.b 4 2 roS,.b 4 3 (roL .expr),.b 6 0 roI,.b 6 1 roI,.b 6 2 roI,.b 6 3 roS,.b 6 4 (owE .val 1),.b 6 5 (owE .str 2),.b 6 6 (owE .row 3),.b 7 0 roI,.b 7 1 roI,.b 7 2 roI,.b 7 3 roS,.b 7 4 (roL .val),.b 7 5 (roL .str),.b 7 6 (roL .row),.t 8 (.own (.base .val) false true 5),.t 9 roI] [(0,9),(4,4),(6,7),(7,7)] [(0,0,0),(4,4,0),(6,6,0),(7,7,0)])] 6 Tryz.f93⟩
theorem MC:fO Tryz.prog YO 6:=.fuel zy (fun n=>rfl) (fun n=>(jK n).1) (fun x=>siz (α:=au) x.1+siz (α:=aA) x.2.1+siz (α:=List ak) x.2.2+1) fun x=>by kernel_rfl
def akX:=Xg.mc 6 MC
theorem P7:fO Tryz.prog abO 6:=.fuel Dz (fun n=>rfl) (fun n=>(jK n).2.1) (fun x=>siz (α:=au) x.1+siz (α:=List aA) x.2.1+siz (α:=List ak) x.2.2+1) fun x=>by kernel_rfl
def akW:=akX.mc 6 P7
theorem MG:fO Tryz.prog YP 6:=.fuel zK (fun n=>rfl) (fun n=>(jK n).2.2.1) (fun x=>siz (α:=au) x.1+siz (α:=aA) x.2.1+siz (α:=List ak) x.2.2+1) fun x=>by kernel_rfl
def akV:=akW.mc 6 MG
theorem P5:fO Tryz.prog abN 6:=.fuel Dy (fun n=>rfl) (fun n=>(jK n).2.2.2) (fun x=>siz (α:=au) x.1+siz (α:=aA) x.2.1+siz (α:=List ak) x.2.2+1) fun x=>by kernel_rfl
def ahV:=akV.mc 6 P5
def ahU:=ahV.f (s:=YM) (snd ahV [] Tryz.f95)
def ahT:=ahU.f (s:=V7) (snd ahU [(3,.c 21 [.t 0 (roL .read),.t 3 (owE .read 0),.t 4 roI] [] [])] Tryz.f37)
def akU:=ahT.f (s:=Wn) (snd ahT.mo [] Tryz.f11)
theorem Ba:Sound Tryz.prog I9:=snd akU [] Tryz.f3
end
end Go.Proofs.YtjbajpfonnnfoaaGreatDoor
