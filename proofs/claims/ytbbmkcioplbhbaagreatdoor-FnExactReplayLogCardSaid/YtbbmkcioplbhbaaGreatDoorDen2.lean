import Derived.Test.YtbbmkcioplbhbaaGreatDoorDen1
/- The functions compute their models, by gen.py. -/
namespace Go.Proofs.YtbbmkcioplbhbaaGreatDoor
noncomputable section
open Go.Abs Go.Proofs
set_option maxRecDepth 100000
def ao3:=ao4.f (s:=ala) (snd ao4 [] Tryz.f221)
def ajT:=ao3.f (s:=aie) (snd ao3 [(3,.c 23 [.t 0 (roL .row),.t 3 (owE .row 0),.t 4 roI] [] [])] Tryz.f177)
theorem tV:∀n,Sound Tryz.prog (OZ n)/\Sound Tryz.prog (LQ n)
 | 0=>⟨(fun w S args x y h=>by cases h),(fun w S args x y h=>by cases h)⟩
 | n+1=>
  have ih:=tV n
  ⟨snd (s:=OZ (n+1)) ((ajT.f ih.1).f ih.2) [] Tryz.f134,
  snd (s:=LQ (n+1)) ((ajT.f ih.1).f ih.2) [(3,.c 23 [.t 0 (roL .val),.t 3 (owE .val 0),.t 4 roI] [] [])] Tryz.f175⟩
theorem TK:Sound Tryz.prog agf:=fun w S args x y h=>(tV (siz (α:=aF) x+1)).1 w S args x y h
def aqR:=ajT.f TK
theorem OY:Sound Tryz.prog acM:=fun w S args x y h=>(tV (siz (α:=List aF) x+1)).2 w S args x y h
def ao2:=aqR.f OY
def ao1:=ao2.f (s:=aif) (snd ao2 [] Tryz.f88)
def ao0:=ao1.f (s:=agk) (snd ao1 [(3,.c 23 [.t 0 (roL .read),.t 3 (owE .read 0),.t 4 roI] [] [])] Tryz.f39)
def aoZ:=ao0.f (s:=apG) (snd ao0 [] Tryz.f10)
def aoY:=aoZ.f (s:=alc) (snd aoZ [(3,.c 23 [.t 0 (roL .op),.t 3 (owE .op 0),.t 4 roI] [] [])] Tryz.f11)
def aoX:=aoY.f (s:=agn) (snd aoY [(3,.c 23 [.t 0 (roL .cell),.t 3 (owE .cell 0),.t 4 roI] [] [])] Tryz.f85)
def aoW:=aoX.f (s:=Xf) (snd aoX [] Tryz.f35)
def aoV:=aoW.f (s:=aib) (snd aoW [] Tryz.f86)
def aoU:=aoV.f (s:=agh) (snd aoV [(3,.c 23 [.t 0 (roL .tape),.t 3 (owE .tape 0),.t 4 roI] [] [])] Tryz.f36)
def aoT:=aoU.f (s:=Xj) (snd aoU [] Tryz.f9)
def aoS:=aoT.f (s:=NZ) (snd aoT [] Tryz.f89)
def ajS:=aoS.f (s:=aex) (snd aoS [] Tryz.f192)
theorem oV:∀n,Sound Tryz.prog (FK n)/\Sound Tryz.prog (Dn n)
 | 0=>⟨(fun w S args x y h=>by cases h),(fun w S args x y h=>by cases h)⟩
 | n+1=>
  have ih:=oV n
  ⟨snd (s:=FK (n+1)) ((ajS.f ih.1).f ih.2) [(6,.c 33 [.b 2 0 roI,.b 2 1 roI,.b 2 2 roI,.b 2 3 roS,.b 2 4 (owE .val 0),.b 2 5 (owE .str 4),.b 2 6 (owE .row 6),.b 3 0 roI,.b 3 1 roI,.b 3 2 roI,.b 3 3 roS,.b 3 4 (owE .val 7),.b 3 5 (owE .str 8),.b 3 6 (owE .row 10),.t 18 (roL .row),.t 19 roI,.t 20 roI] [(2,7),(3,7)] [(2,2,0),(3,3,0)])] Tryz.f149,
  snd (s:=Dn (n+1)) ((ajS.f ih.1).f ih.2) [(3,.c 20 [.t 3 (owE .val 0),.t 7 (roL .val),.t 8 roI,.t 9 roI] [] [])] Tryz.f191⟩
theorem KT:Sound Tryz.prog YZ:=fun w S args x y h=>(oV (siz (α:=aF) x+1)).1 w S args x y h
def aqQ:=ajS.f KT
theorem Jd:Sound Tryz.prog U1:=fun w S args x y h=>(oV (siz (α:=List aF) x+1)).2 w S args x y h
def aoR:=aqQ.f Jd
def aoQ:=aoR.f (s:=Y1) (snd aoR [(3,.c 23 [.t 3 (owE .read 0),.t 7 (roL .read),.t 8 roI,.t 9 roI] [] [])] Tryz.f97)
def aoP:=aoQ.f (s:=Y0) (snd aoQ [(3,.c 26 [.t 3 (owE .tape 0),.t 7 (roL .tape),.t 8 roI,.t 9 roI] [] [])] Tryz.f90)
def aoO:=aoP.f (s:=ahx) (snd aoP [] Tryz.f46)
def aoN:=aoO.f (s:=aey) (snd aoO [(3,.c 20 [.t 3 (owE .op 0),.t 7 (roL .op),.t 8 roI,.t 9 roI] [] [])] Tryz.f91)
def aoM:=aoN.f (s:=N8) (snd aoN [] Tryz.f40)
def aoL:=aoM.f (s:=Y5) (snd aoM [(2,.c 21 [.t 1 roI,.t 8 (roL .cell),.t 9 roI,.t 10 roI] [] [])] Tryz.f44)
def aoK:=aoL.f (s:=ahn) (snd aoL [] Tryz.f93)
def aoJ:=aoK.f (s:=ahu) (snd aoK [(2,.c 42 [.t 0 roS,.t 3 roI] [] [])] Tryz.f188)
def aoI:=aoJ.f (s:=KU) (snd aoJ [] Tryz.f244)
def aoH:=aoI.f (s:=UW) (snd aoI [] Tryz.f189)
def aoG:=aoH.f (s:=RQ) (snd aoH [] Tryz.f144)
def aoF:=aoG.f (s:=RX) (snd aoG [(2,.c 23 [.t 0 roS,.t 3 roI] [] [])] Tryz.f178)
def aoE:=aoF.f (s:=RV) (snd aoF [] Tryz.f135)
def aoD:=aoE.f (s:=GY) (snd aoE [(2,.c 29 [.b 1 0 (roL .cell),.t 6 (roL .cell),.t 7 roI,.t 8 roI] [(1,1)] [(1,1,0)])] Tryz.f92)
def aoC:=aoD.f (s:=abx) (snd aoD [] Tryz.f136)
def aoB:=aoC.f (s:=aek) (snd aoC [] Tryz.f137)
def aoA:=aoB.f (s:=ahy) (snd aoB [] Tryz.f94)
def aqP:=aoA.f (s:=Y6) (snd aoA [] Tryz.f41)
def aqO:=aqP.f YM
def aoz:=aqO.f Gz
def aqN:=aoz.f (s:=RP) (snd aoz [(2,.c 29 [.t 0 roS,.t 3 roI] [] [])] Tryz.f266)
def aoy:=aqN.f GH
def aox:=aoy.f (s:=aef) (snd aoy [(4,.c 152 [.t 0 roS,.t 1 roI,.b 4 0 roI,.b 4 1 roI,.b 4 2 roI,.b 4 3 roS,.t 7 roI] [(4,4)] [(4,4,0)]),(8,.c 152 [.t 0 roS,.t 1 roI,.b 4 0 roI,.b 4 1 roI,.b 4 2 roI,.b 4 3 roS,.t 7 roI] [(4,4)] [(4,4,0)])] Tryz.f222)
def aow:=aox.f (s:=abk) (snd aox [(5,.c 44 [.t 0 roS,.t 4 (owE .token 0),.t 5 roI] [] [])] Tryz.f179)
def aov:=aow.f (s:=YT) (snd aow [] Tryz.f223)
def aou:=aov.b (s:=UJ) (bnd aov [] Tryz.f224)
def aot:=aou.b (s:=UM) (bnd aou [] Tryz.f268)
def aos:=aot.b (s:=UL) (bnd aot [] Tryz.f225)
def aor:=aos.f (s:=abv) (snd aos [] Tryz.f269)
def aoq:=aor.b (s:=UK) (bnd aor [] Tryz.f226)
def aop:=aoq.b (s:=NU) (bnd aoq [] Tryz.f228)
def VW:=aop.f (s:=abq) (snd aop [] Tryz.f229)
theorem gQ:∀n,gX Tryz.prog (CW n)/\gX Tryz.prog (FB n)/\gX Tryz.prog (vU n)/\gX Tryz.prog (CZ n)/\gX Tryz.prog (AX n)
 | 0=>⟨(fun w S bb vs Et args x y h=>by cases h),(fun w S bb vs Et args x y h=>by cases h),(fun w S bb vs Et args x y h=>by cases h),(fun w S bb vs Et args x y h=>by cases h),(fun w S bb vs Et args x y h=>by cases h)⟩
 | n+1=>
  have ih:=gQ n
  ⟨bnd (s:=CW (n+1)) (((((VW.b ih.1).b ih.2.1).b ih.2.2.1).b ih.2.2.2.1).b ih.2.2.2.2) [(28,.c 133 [.b 0 0 (roL .token),.b 0 1 roI,.b 0 2 roI,.b 2 0 roI,.b 2 1 roI,.b 2 2 roS,.b 2 3 (owE .expr 0),.b 6 0 roI,.b 6 1 roI,.b 6 2 roS,.b 6 3 (roL .expr),.t 115 (owE .int 1),.t 116 roI,.t 117 roI] [(0,3),(2,4),(6,4)] [(0,0,0),(2,2,0),(6,6,0)])] Tryz.f180,
  bnd (s:=FB (n+1)) (((((VW.b ih.1).b ih.2.1).b ih.2.2.1).b ih.2.2.2.1).b ih.2.2.2.2) [(2,.c 25 [.b 0 0 (roL .token),.b 0 1 roI,.b 0 2 roI,.b 2 0 roI,.b 2 1 roI,.b 2 2 roS,.b 2 3 (owE .expr 0),.b 3 0 roI,.b 3 1 roI,.b 3 2 roS,.b 3 3 (roL .expr)] [(0,3),(2,4),(3,4)] [(0,0,0),(2,2,0),(3,3,0)])] Tryz.f227,
  bnd (s:=vU (n+1)) (((((VW.b ih.1).b ih.2.1).b ih.2.2.1).b ih.2.2.2.1).b ih.2.2.2.2) [(2,.c 14 [.b 0 0 (roL .token),.b 0 1 roI,.b 0 2 roI,.b 2 0 roI,.b 2 1 roI,.b 2 2 roS,.b 2 3 (owE .expr 0),.b 3 0 roI,.b 3 1 roI,.b 3 2 roS,.b 3 3 (roL .expr)] [(0,3),(2,4),(3,4)] [(0,0,0),(2,2,0),(3,3,0)])] Tryz.f270,
  bnd (s:=CZ (n+1)) (((((VW.b ih.1).b ih.2.1).b ih.2.2.1).b ih.2.2.2.1).b ih.2.2.2.2) [] Tryz.f292,
  bnd (s:=AX (n+1)) (((((VW.b ih.1).b ih.2.1).b ih.2.2.1).b ih.2.2.2.1).b ih.2.2.2.2) [(4,.c 27 [.b 0 0 (roL .token),.b 0 1 roI,.b 0 2 roI,.t 1 roS,.t 5 (.own (.base .expr) false true 0)] [(0,3)] [(0,0,0)])] Tryz.f310⟩
theorem I4:gX Tryz.prog UN:=fun w S bb vs Et args x y h=>(gQ (siz (α:=aV) x+1)).1 w S bb vs Et args x y h
def aqM:=VW.b I4
theorem KL:gX Tryz.prog YK:=fun w S bb vs Et args x y h=>(gQ (siz (α:=aV) x+1)).2.1 w S bb vs Et args x y h
def aqL:=aqM.b KL
theorem CV:gX Tryz.prog KN:=fun w S bb vs Et args x y h=>(gQ (siz (α:=aV) x+1)).2.2.1 w S bb vs Et args x y h
def aqK:=aqL.b CV
theorem I5:gX Tryz.prog UO:=fun w S bb vs Et args x y h=>(gQ (siz (α:=aV) x+1)).2.2.2.1 w S bb vs Et args x y h
def aqJ:=aqK.b I5
theorem GR:gX Tryz.prog RJ:=fun w S bb vs Et args x y h=>(gQ (siz (α:=aV) x.1+1)).2.2.2.2 w S bb vs Et args x y h
def aoo:=aqJ.b GR
theorem vV:∀n,Sound Tryz.prog (FD n)
 | 0=>(fun w S args x y h=>by cases h)
 | n+1=>
  have ih:=vV n
  snd (s:=FD (n+1)) (aoo.f ih) [(3,.c 19 [.t 3 roI,.t 7 (roL .expr),.t 8 roI,.t 9 roI] [] [])] Tryz.f230
theorem KP:Sound Tryz.prog YQ:=fun w S args x y h=>(vV (siz (α:=af) x+1)) w S args x y h
def aon:=aoo.f KP
theorem vW:∀n,Sound Tryz.prog (FH n)
 | 0=>(fun w S args x y h=>by cases h)
 | n+1=>
  have ih:=vW n
  snd (s:=FH (n+1)) (aon.f ih) [(3,.c 20 [.t 3 roI,.t 7 (roL .expr),.t 8 roI,.t 9 roI] [] [])] Tryz.f231
theorem KQ:Sound Tryz.prog YR:=fun w S args x y h=>(vW (siz (α:=af) x+1)) w S args x y h
def aom:=aon.f KQ
def aol:=aom.f (s:=ahv) (snd aom [] Tryz.f271)
theorem yC:∀n,Sound Tryz.prog (Jg n)
 | 0=>(fun w S args x y h=>by cases h)
 | n+1=>
  have ih:=yC n
  snd (s:=Jg (n+1)) (aol.f ih) [(2,.c 18 [.b 1 0 roI,.b 1 1 roI,.b 1 2 roS,.b 1 3 (roL .expr),.t 6 (roL .expr),.t 7 roI,.t 8 roI] [(1,4)] [(1,1,0)])] Tryz.f232
theorem N9:Sound Tryz.prog abI:=fun w S args x y h=>(yC (siz (α:=af) x+1)) w S args x y h
def aok:=aol.f N9
def aoj:=aok.f (s:=RU) (snd aok [] Tryz.f181)
def aoi:=aoj.f (s:=YN) (snd aoj [] Tryz.f138)
theorem Dk:Sound Tryz.prog aes:=snd aoi [(2,.c 19 [.t 1 roS,.t 7 (roL .str),.t 8 roI,.t 9 roI] [] [])] Tryz.f139
def aoh:=aoi.f Dk
theorem xZ:Sound Tryz.prog YC:=snd (aoh.ins [pW] (by intro s a;simp only[List.mem_singleton]at a;subst a;exact⟨xU,Ba⟩)) [(3,.c 27 [.t 0 (roL .str),.t 3 (owE .str 0),.t 7 (roL .str),.t 8 roI,.t 9 roI] [] [])] Tryz.f184
def aqI:=aoh.f xZ
end
end Go.Proofs.YtbbmkcioplbhbaaGreatDoor
