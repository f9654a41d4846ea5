import Derived.Test.YtbbmkcioplbhbaaGreatDoorDen1
/- The functions compute their models, by gen.py. -/
namespace Go.Proofs.YtbbmkcioplbhbaaGreatDoor
noncomputable section
open Go.Abs Go.Proofs
set_option maxRecDepth 100000
def an4:=an5.f (s:=akv) (snd an5 [] Tryz.f221)
def aji:=an4.f (s:=ahI) (snd an4 [(3,.c 23 [.t 0 (roL .row),.t 3 (owE .row 0),.t 4 roI] [] [])] Tryz.f177)
theorem tX:∀n,Sound Tryz.prog (OT n)/\Sound Tryz.prog (LK n)
 | 0=>⟨(fun w S args x y h=>by cases h),(fun w S args x y h=>by cases h)⟩
 | n+1=>
  have ih:=tX n
  ⟨snd (s:=OT (n+1)) ((aji.f ih.1).f ih.2) [] Tryz.f134,
  snd (s:=LK (n+1)) ((aji.f ih.1).f ih.2) [(3,.c 23 [.t 0 (roL .val),.t 3 (owE .val 0),.t 4 roI] [] [])] Tryz.f175⟩
theorem TB:Sound Tryz.prog afH:=fun w S args x y h=>(tX (siz (α:=aC) x+1)).1 w S args x y h
def apP:=aji.f TB
theorem OQ:Sound Tryz.prog acr:=fun w S args x y h=>(tX (siz (α:=List aC) x+1)).2 w S args x y h
def an3:=apP.f OQ
def an2:=an3.f (s:=ahJ) (snd an3 [] Tryz.f88)
def an1:=an2.f (s:=afM) (snd an2 [(3,.c 23 [.t 0 (roL .read),.t 3 (owE .read 0),.t 4 roI] [] [])] Tryz.f39)
def an0:=an1.f (s:=aoF) (snd an1 [] Tryz.f10)
def anZ:=an0.f (s:=akw) (snd an0 [(3,.c 23 [.t 0 (roL .op),.t 3 (owE .op 0),.t 4 roI] [] [])] Tryz.f11)
def anY:=anZ.f (s:=afO) (snd anZ [(3,.c 23 [.t 0 (roL .cell),.t 3 (owE .cell 0),.t 4 roI] [] [])] Tryz.f85)
def anX:=anY.f (s:=WX) (snd anY [] Tryz.f35)
def anW:=anX.f (s:=ahG) (snd anX [] Tryz.f86)
def anV:=anW.f (s:=afJ) (snd anW [(3,.c 23 [.t 0 (roL .tape),.t 3 (owE .tape 0),.t 4 roI] [] [])] Tryz.f36)
def anU:=anV.f (s:=Xa) (snd anV [] Tryz.f9)
def anT:=anU.f (s:=NW) (snd anU [] Tryz.f89)
def ajh:=anT.f (s:=ad7) (snd anT [] Tryz.f192)
theorem oV:∀n,Sound Tryz.prog (FB n)/\Sound Tryz.prog (Df n)
 | 0=>⟨(fun w S args x y h=>by cases h),(fun w S args x y h=>by cases h)⟩
 | n+1=>
  have ih:=oV n
  ⟨snd (s:=FB (n+1)) ((ajh.f ih.1).f ih.2) [(6,.c 33 [.b 2 0 roI,.b 2 1 roI,.b 2 2 roI,.b 2 3 roS,.b 2 4 (owE .val 0),.b 2 5 (owE .str 4),.b 2 6 (owE .row 6),.b 3 0 roI,.b 3 1 roI,.b 3 2 roI,.b 3 3 roS,.b 3 4 (owE .val 7),.b 3 5 (owE .str 8),.b 3 6 (owE .row 10),.t 18 (roL .row),.t 19 roI,.t 20 roI] [(2,7),(3,7)] [(2,2,0),(3,3,0)])] Tryz.f149,
  snd (s:=Df (n+1)) ((ajh.f ih.1).f ih.2) [(3,.c 20 [.t 3 (owE .val 0),.t 7 (roL .val),.t 8 roI,.t 9 roI] [] [])] Tryz.f191⟩
theorem KQ:Sound Tryz.prog YM:=fun w S args x y h=>(oV (siz (α:=aC) x+1)).1 w S args x y h
def apO:=ajh.f KQ
theorem I8:Sound Tryz.prog UU:=fun w S args x y h=>(oV (siz (α:=List aC) x+1)).2 w S args x y h
def anS:=apO.f I8
def anR:=anS.f (s:=YO) (snd anS [(3,.c 23 [.t 3 (owE .read 0),.t 7 (roL .read),.t 8 roI,.t 9 roI] [] [])] Tryz.f97)
def anQ:=anR.f (s:=YN) (snd anR [(3,.c 26 [.t 3 (owE .tape 0),.t 7 (roL .tape),.t 8 roI,.t 9 roI] [] [])] Tryz.f90)
def anP:=anQ.f (s:=ag1) (snd anQ [] Tryz.f46)
def anO:=anP.f (s:=ad8) (snd anP [(3,.c 20 [.t 3 (owE .op 0),.t 7 (roL .op),.t 8 roI,.t 9 roI] [] [])] Tryz.f91)
def anN:=anO.f (s:=NZ) (snd anO [] Tryz.f40)
def anM:=anN.f (s:=YS) (snd anN [(2,.c 21 [.t 1 roI,.t 8 (roL .cell),.t 9 roI,.t 10 roI] [] [])] Tryz.f44)
def anL:=anM.f (s:=agR) (snd anM [] Tryz.f93)
def anK:=anL.f (s:=agY) (snd anL [(2,.c 42 [.t 0 roS,.t 3 roI] [] [])] Tryz.f188)
def anJ:=anK.f (s:=KR) (snd anK [] Tryz.f244)
def anI:=anJ.f (s:=UM) (snd anJ [] Tryz.f189)
def anH:=anI.f (s:=Rz) (snd anI [] Tryz.f144)
def anG:=anH.f (s:=RH) (snd anH [(2,.c 23 [.t 0 roS,.t 3 roI] [] [])] Tryz.f178)
def anF:=anG.f (s:=RG) (snd anG [] Tryz.f135)
def anE:=anF.f (s:=GU) (snd anF [(2,.c 29 [.b 1 0 (roL .cell),.t 6 (roL .cell),.t 7 roI,.t 8 roI] [(1,1)] [(1,1,0)])] Tryz.f92)
def anD:=anE.f (s:=abe) (snd anE [] Tryz.f136)
def anC:=anD.f (s:=adX) (snd anD [] Tryz.f137)
def anB:=anC.f (s:=ag2) (snd anC [] Tryz.f94)
def apN:=anB.f (s:=YT) (snd anB [] Tryz.f41)
def apM:=apN.f YC
def anA:=apM.f Gv
def apL:=anA.f (s:=Ry) (snd anA [(2,.c 29 [.t 0 roS,.t 3 roI] [] [])] Tryz.f266)
def anz:=apL.f Gw
def anx:=anz.f (s:=adS) (snd anz [(4,.c 152 [.t 0 roS,.t 1 roI,.b 4 0 roI,.b 4 1 roI,.b 4 2 roI,.b 4 3 roS,.t 7 roI] [(4,4)] [(4,4,0)]),(8,.c 152 [.t 0 roS,.t 1 roI,.b 4 0 roI,.b 4 1 roI,.b 4 2 roI,.b 4 3 roS,.t 7 roI] [(4,4)] [(4,4,0)])] Tryz.f222)
def anw:=anx.f (s:=aa1) (snd anx [(5,.c 44 [.t 0 roS,.t 4 (owE .token 0),.t 5 roI] [] [])] Tryz.f179)
def anv:=anw.f (s:=YH) (snd anw [] Tryz.f223)
def anu:=anv.b (s:=UF) (bnd anv [] Tryz.f224)
def ant:=anu.b (s:=UI) (bnd anu [] Tryz.f268)
def anr:=ant.b (s:=UH) (bnd ant [] Tryz.f225)
def anq:=anr.f (s:=abb) (snd anr [] Tryz.f269)
def anp:=anq.b (s:=UG) (bnd anq [] Tryz.f226)
def ano:=anp.b (s:=NS) (bnd anp [] Tryz.f228)
def VP:=ano.f (s:=aa7) (snd ano [] Tryz.f229)
theorem gQ:∀n,gX Tryz.prog (CQ n)/\gX Tryz.prog (Fj n)/\gX Tryz.prog (vP n)/\gX Tryz.prog (CU n)/\gX Tryz.prog (AA n)
 | 0=>⟨(fun w S bb vs Et args x y h=>by cases h),(fun w S bb vs Et args x y h=>by cases h),(fun w S bb vs Et args x y h=>by cases h),(fun w S bb vs Et args x y h=>by cases h),(fun w S bb vs Et args x y h=>by cases h)⟩
 | n+1=>
  have ih:=gQ n
  ⟨bnd (s:=CQ (n+1)) (((((VP.b ih.1).b ih.2.1).b ih.2.2.1).b ih.2.2.2.1).b ih.2.2.2.2) [(28,.c 133 [.b 0 0 (roL .token),.b 0 1 roI,.b 0 2 roI,.b 2 0 roI,.b 2 1 roI,.b 2 2 roS,.b 2 3 (owE .expr 0),.b 6 0 roI,.b 6 1 roI,.b 6 2 roS,.b 6 3 (roL .expr),.t 115 (owE .int 1),.t 116 roI,.t 117 roI] [(0,3),(2,4),(6,4)] [(0,0,0),(2,2,0),(6,6,0)])] Tryz.f180,
  bnd (s:=Fj (n+1)) (((((VP.b ih.1).b ih.2.1).b ih.2.2.1).b ih.2.2.2.1).b ih.2.2.2.2) [(2,.c 25 [.b 0 0 (roL .token),.b 0 1 roI,.b 0 2 roI,.b 2 0 roI,.b 2 1 roI,.b 2 2 roS,.b 2 3 (owE .expr 0),.b 3 0 roI,.b 3 1 roI,.b 3 2 roS,.b 3 3 (roL .expr)] [(0,3),(2,4),(3,4)] [(0,0,0),(2,2,0),(3,3,0)])] Tryz.f227,
  bnd (s:=vP (n+1)) (((((VP.b ih.1).b ih.2.1).b ih.2.2.1).b ih.2.2.2.1).b ih.2.2.2.2) [(2,.c 14 [.b 0 0 (roL .token),.b 0 1 roI,.b 0 2 roI,.b 2 0 roI,.b 2 1 roI,.b 2 2 roS,.b 2 3 (owE .expr 0),.b 3 0 roI,.b 3 1 roI,.b 3 2 roS,.b 3 3 (roL .expr)] [(0,3),(2,4),(3,4)] [(0,0,0),(2,2,0),(3,3,0)])] Tryz.f270,
  bnd (s:=CU (n+1)) (((((VP.b ih.1).b ih.2.1).b ih.2.2.1).b ih.2.2.2.1).b ih.2.2.2.2) [] Tryz.f292,
  bnd (s:=AA (n+1)) (((((VP.b ih.1).b ih.2.1).b ih.2.2.1).b ih.2.2.2.1).b ih.2.2.2.2) [(4,.c 27 [.b 0 0 (roL .token),.b 0 1 roI,.b 0 2 roI,.t 1 roS,.t 5 (.own (.base .expr) false true 0)] [(0,3)] [(0,0,0)])] Tryz.f310⟩
theorem IV:gX Tryz.prog UJ:=fun w S bb vs Et args x y h=>(gQ (siz (α:=aW) x+1)).1 w S bb vs Et args x y h
def apK:=VP.b IV
theorem KJ:gX Tryz.prog YA:=fun w S bb vs Et args x y h=>(gQ (siz (α:=aW) x+1)).2.1 w S bb vs Et args x y h
def apJ:=apK.b KJ
theorem CP:gX Tryz.prog KL:=fun w S bb vs Et args x y h=>(gQ (siz (α:=aW) x+1)).2.2.1 w S bb vs Et args x y h
def apI:=apJ.b CP
theorem IW:gX Tryz.prog UK:=fun w S bb vs Et args x y h=>(gQ (siz (α:=aW) x+1)).2.2.2.1 w S bb vs Et args x y h
def apH:=apI.b IW
theorem GK:gX Tryz.prog Rw:=fun w S bb vs Et args x y h=>(gQ (siz (α:=aW) x.1+1)).2.2.2.2 w S bb vs Et args x y h
def ann:=apH.b GK
theorem vS:∀n,Sound Tryz.prog (Fq n)
 | 0=>(fun w S args x y h=>by cases h)
 | n+1=>
  have ih:=vS n
  snd (s:=Fq (n+1)) (ann.f ih) [(3,.c 19 [.t 3 roI,.t 7 (roL .expr),.t 8 roI,.t 9 roI] [] [])] Tryz.f230
theorem KN:Sound Tryz.prog YF:=fun w S args x y h=>(vS (siz (α:=af) x+1)) w S args x y h
def anm:=ann.f KN
theorem vU:∀n,Sound Tryz.prog (Fv n)
 | 0=>(fun w S args x y h=>by cases h)
 | n+1=>
  have ih:=vU n
  snd (s:=Fv (n+1)) (anm.f ih) [(3,.c 20 [.t 3 roI,.t 7 (roL .expr),.t 8 roI,.t 9 roI] [] [])] Tryz.f231
theorem KO:Sound Tryz.prog YG:=fun w S args x y h=>(vU (siz (α:=af) x+1)) w S args x y h
def anl:=anm.f KO
def ank:=anl.f (s:=agZ) (snd anl [] Tryz.f271)
theorem yA:∀n,Sound Tryz.prog (Jb n)
 | 0=>(fun w S args x y h=>by cases h)
 | n+1=>
  have ih:=yA n
  snd (s:=Jb (n+1)) (ank.f ih) [(2,.c 18 [.b 1 0 roI,.b 1 1 roI,.b 1 2 roS,.b 1 3 (roL .expr),.t 6 (roL .expr),.t 7 roI,.t 8 roI] [(1,4)] [(1,1,0)])] Tryz.f232
theorem N7:Sound Tryz.prog abp:=fun w S args x y h=>(yA (siz (α:=af) x+1)) w S args x y h
def anj:=ank.f N7
def ani:=anj.f (s:=RD) (snd anj [] Tryz.f181)
def anh:=ani.f (s:=YD) (snd ani [] Tryz.f138)
theorem Dc:Sound Tryz.prog ad5:=snd anh [(2,.c 19 [.t 1 roS,.t 7 (roL .str),.t 8 roI,.t 9 roI] [] [])] Tryz.f139
def ang:=anh.f Dc
theorem xX:Sound Tryz.prog Yt:=snd (ang.ins [pU] (by intro s a;simp only[List.mem_singleton]at a;subst a;exact⟨xQ,AX⟩)) [(3,.c 27 [.t 0 (roL .str),.t 3 (owE .str 0),.t 7 (roL .str),.t 8 roI,.t 9 roI] [] [])] Tryz.f184
def apG:=ang.f xX
end
end Go.Proofs.YtbbmkcioplbhbaaGreatDoor
