import Derived.Test.YtapgeemjgckgaaaGreatDoorSrtWalk
/- The functions compute their models, by gen.py. -/
namespace Go.Proofs.YtapgeemjgckgaaaGreatDoor
noncomputable section
open Go.Abs Go.Proofs
set_option maxRecDepth 100000
def amR:=apm.f KP
def apl:=amR.f (s:=agS) (snd amR [] Tryz.f129)
def amQ:=apl.f Jb
theorem yI:∀n,Sound Tryz.prog (Jf n)
 | 0=>(fun w S args x y h=>by cases h)
 | n+1=>
  have ih:=yI n
  snd (s:=Jf (n+1)) (amQ.f ih) [(3,.c 29 [.b 2 0 roI,.b 2 1 roI,.b 2 2 roS,.b 2 3 (owE .expr 0),.b 3 0 roI,.b 3 1 roI,.b 3 2 roS,.b 3 3 (owE .expr 4),.t 14 (roL .expr),.t 15 roI,.t 16 roI] [(2,4),(3,4)] [(2,2,0),(3,3,0)])] Tryz.f218
theorem NE:Sound Tryz.prog aa4:=fun w S args x y h=>(yI (siz (α:=af) x+1)) w S args x y h
def amP:=amQ.f NE
theorem AQ:∀n,Sound Tryz.prog (MR n)
 | 0=>(fun w S args x y h=>by cases h)
 | n+1=>
  have ih:=AQ n
  snd (s:=MR (n+1)) (amP.f ih) [(6,.c 74 [.t 1 roS,.t 2 roS,.b 6 0 roI,.b 6 1 roI,.b 6 2 roS,.b 6 3 (owE .expr 0),.b 7 0 roI,.b 7 1 roI,.b 7 2 roS,.b 7 3 (owE .expr 1),.t 8 (roE .bool),.t 44 (roL .expr),.t 45 roI,.t 46 roI] [(6,4),(7,4)] [(6,6,0),(7,7,0)])] Tryz.f183
theorem QX:Sound Tryz.prog adL:=fun w S args x y h=>(AQ (siz (α:=af) x.1+1)) w S args x y h
def amO:=amP.f QX
def apk:=amO.f (s:=Ut) (snd amO [] Tryz.f131)
def amN:=apk.f Ul
def apj:=amN.f (s:=Yr) (snd amN [] Tryz.f219)
def amM:=apj.f Uk
def amL:=amM.f (s:=ak9) (snd amM [] Tryz.f250)
def ae6:=amL.f (s:=adP) (snd amL [] Tryz.f221)
theorem oK:∀n,Sound Tryz.prog (QV n)/\Sound Tryz.prog (MQ n)/\Sound Tryz.prog (Jd n)
 | 0=>⟨(fun w S args x y h=>by cases h),(fun w S args x y h=>by cases h),(fun w S args x y h=>by cases h)⟩
 | n+1=>
  have ih:=oK n
  ⟨snd (s:=QV (n+1)) (((ae6.f ih.1).f ih.2.1).f ih.2.2) [] Tryz.f184,
  snd (s:=MQ (n+1)) (((ae6.f ih.1).f ih.2.1).f ih.2.2) [(3,.c 21 [.t 3 (owE .str 0),.t 7 (roL .expr),.t 8 roI,.t 9 roI] [] [])] Tryz.f220,
  snd (s:=Jd (n+1)) (((ae6.f ih.1).f ih.2.1).f ih.2.2) [] Tryz.f222⟩
theorem Uo:Sound Tryz.prog agY:=fun w S args x y h=>(oK (siz (α:=af) x+1)).1 w S args x y h
def aph:=ae6.f Uo
theorem QT:Sound Tryz.prog adI:=fun w S args x y h=>(oK (siz (α:=List af) x+1)).2.1 w S args x y h
def apg:=aph.f QT
theorem NC:Sound Tryz.prog aa0:=fun w S args x y h=>(oK (siz (α:=af) x.1+1)).2.2 w S args x y h
def amK:=apg.f NC
def amJ:=amK.f (s:=UF) (snd amK [] Tryz.f132)
def amI:=amJ.f (s:=aaS) (snd amJ [(23,.c 156 [.t 1 roS,.t 2 roS,.t 3 (roE .bool),.b 4 0 (roL .cell),.b 8 0 (owE .cell 0),.b 16 0 (owE .cell 1),.t 17 (roE .bool),.t 96 (roL .part),.t 97 roI,.t 98 roI] [(4,1),(8,1),(16,1)] [(4,4,0),(8,8,0),(16,16,0)]),(10,.c 156 [.t 1 roS,.t 2 roS,.t 3 (roE .bool),.b 4 0 (roL .cell),.b 8 0 (owE .cell 0),.t 10 (roL .part),.t 11 roI,.t 12 (roE .bool),.t 13 (roE .bool),.t 54 (roL .part),.t 55 roI,.t 56 roI] [(4,1),(8,1)] [(4,4,0),(8,8,0)])] Tryz.f72)
def amH:=amI.f (s:=I4) (snd amI [] Tryz.f26)
def amG:=amH.f (s:=GX) (snd amH [(3,.c 41 [.b 3 0 (roL .cell),.t 5 (owE .int 0),.t 11 (roL .cell),.t 12 roI,.t 13 roI] [(3,1)] [(3,3,0)])] Tryz.f28)
def amF:=amG.f (s:=Ya) (snd amG [] Tryz.f30)
def amE:=amF.f (s:=Yb) (snd amF [(2,.c 28 [.t 1 roI,.t 2 roI,.t 9 (roL .tape),.t 10 roI,.t 11 roI] [] [])] Tryz.f133)
def amD:=amE.f (s:=aaR) (snd amE [] Tryz.f224)
def amC:=amD.f (s:=aaZ) (snd amD [(2,.c 22 [.b 3 0 roI,.b 3 1 roI,.b 3 2 roI,.b 3 3 roS,.b 3 4 roI,.b 3 5 roI,.b 3 6 roI,.b 3 7 roS,.b 3 8 (roL .val),.b 3 9 (roL .str),.b 3 10 (roL .row),.b 4 0 roI,.b 4 1 roI,.b 4 2 roI,.b 4 3 roS,.b 4 4 (owE .val 0),.b 4 5 (owE .str 1),.b 4 6 (owE .row 2),.t 8 (roL .read),.t 9 roI,.t 10 roI] [(3,11),(4,7)] [(3,3,0),(4,4,0)])] Tryz.f185)
def amB:=amC.f (s:=UB) (snd amC [(3,.c 33 [.t 5 (owE .read 0),.t 12 (roL .read),.t 13 roI,.t 14 roI] [] [])] Tryz.f134)
def amA:=amB.f (s:=Un) (snd amB [] Tryz.f135)
def amz:=amA.f (s:=adM) (snd (amA.cuts [(12,9,10,66,65)]) [(10,.c 68 [.t 9 (owE .tape 0),.t 10 roI,.b 11 0 roI,.b 11 1 roI,.b 11 2 (owE .read 1)] [(11,3)] [(11,11,0)])] Tryz.f73)
def amy:=amz.f (s:=agW) (snd amz [] Tryz.f74)
def amx:=amy.f (s:=QZ) (snd amy [(8,.c 61 [.b 4 0 (roL .cell),.b 5 0 (roL .cell),.t 7 (roL .tape),.t 9 roI,.t 10 roI,.t 11 (.own (.base .tape) false true 0),.t 18 (owE .int 1),.t 19 roI,.t 20 roI,.t 28 (roL .tape),.t 29 roI,.t 30 roI] [(4,1),(5,1)] [(4,4,0),(5,5,0)]),(3,.c 61 [.b 4 0 (roL .cell),.b 5 0 (roL .cell),.t 7 (owE .tape 0),.t 18 (owE .int 1),.t 19 roI,.t 20 roI] [(4,1),(5,1)] [(4,4,0),(5,5,0)])] Tryz.f27)
def amw:=amx.f (s:=UH) (snd amx [(2,.c 21 [.t 1 roI,.t 8 (roL .entry),.t 9 roI,.t 10 roI] [] [])] Tryz.f29)
def amv:=amw.f (s:=I5) (snd amw [(7,.c 74 [.b 3 0 (roL .cell),.b 3 1 roI,.b 3 2 roI,.b 3 3 (roL .file),.b 3 4 (roL .tape),.b 3 5 (roL .entry),.b 3 6 roI,.b 3 7 roI,.b 3 8 roI,.b 6 0 (owE .cell 0),.b 6 1 roI,.b 6 2 roI,.b 6 3 (owE .file 1),.b 6 4 (owE .tape 2),.b 6 5 (owE .entry 4),.b 6 6 roI,.b 6 7 roI,.b 6 8 roI,.b 8 0 (owE .cell 5),.b 8 1 roI,.b 8 2 roI,.b 8 3 (owE .file 7),.b 8 4 (owE .tape 10),.b 8 5 (owE .entry 11),.b 8 6 roI,.b 8 7 roI,.b 8 8 roI,.b 9 0 (owE .cell 12),.t 38 (owE .int 13),.t 39 roI,.t 40 roI] [(3,9),(6,9),(8,9),(9,1)] [(3,3,0),(6,6,0),(8,8,0),(9,9,0)])] Tryz.f7)
def amu:=amv.f (s:=ajS) (snd amv [] Tryz.f136)
def ams:=amu.f (s:=ahm) (snd amu [(4,.c 27 [.t 0 (roL .cell),.t 1 (roL .cell),.t 5 roI] [] [])] Tryz.f76)
def amr:=ams.f (s:=YN) (snd ams [] Tryz.f31)
def amq:=amr.f (s:=ajR) (snd amr [] Tryz.f137)
def amo:=amq.f (s:=ahj) (snd amq [(4,.c 27 [.t 0 (roL .file),.t 1 (roL .file),.t 5 roI] [] [])] Tryz.f77)
def amn:=amo.f (s:=aha) (snd amo [] Tryz.f32)
def amm:=amn.f (s:=abo) (snd amn [(4,.c 26 [.t 0 (roL .str),.t 1 (roL .str),.t 5 roI] [] [])] Tryz.f188)
def aml:=amm.f (s:=ajQ) (snd amm [(4,.c 26 [.t 0 (roL .int),.t 1 (roL .int),.t 5 roI] [] [])] Tryz.f139)
def amk:=aml.f (s:=ad6) (snd aml [] Tryz.f281)
def amj:=amk.f (s:=abq) (snd amk [(4,.c 27 [.t 0 (roL .origin),.t 1 (roL .origin),.t 5 roI] [] [])] Tryz.f251)
def ami:=amj.f (s:=alh) (snd amj [] Tryz.f225)
def ajf:=ami.f (s:=ajO) (snd ami [(4,.c 27 [.t 0 (roL .row),.t 1 (roL .row),.t 5 roI] [] [])] Tryz.f189)
theorem uX:∀n,Sound Tryz.prog (RV n)/\Sound Tryz.prog (MZ n)
 | 0=>⟨(fun w S args x y h=>by cases h),(fun w S args x y h=>by cases h)⟩
 | n+1=>
  have ih:=uX n
  ⟨snd (s:=RV (n+1)) ((ajf.f ih.1).f ih.2) [] Tryz.f140,
  snd (s:=MZ (n+1)) ((ajf.f ih.1).f ih.2) [(4,.c 27 [.t 0 (roL .val),.t 1 (roL .val),.t 5 roI] [] [])] Tryz.f187⟩
theorem UW:Sound Tryz.prog ahc:=fun w S args x y h=>(uX (siz (α:=aC) x.1+siz (α:=aC) x.2+1)).1 w S args x y h
def apf:=ajf.f UW
theorem RU:Sound Tryz.prog ad2:=fun w S args x y h=>(uX (siz (α:=List aC) x.1+siz (α:=List aC) x.2+1)).2 w S args x y h
def amh:=apf.f RU
def amg:=amh.f (s:=ajP) (snd amh [] Tryz.f186)
def amf:=amg.f (s:=ahh) (snd amg [(4,.c 27 [.t 0 (roL .read),.t 1 (roL .read),.t 5 roI] [] [])] Tryz.f138)
def ame:=amf.f (s:=ajM) (snd amf [] Tryz.f78)
def amd:=ame.f (s:=ahe) (snd ame [(4,.c 27 [.t 0 (roL .tape),.t 1 (roL .tape),.t 5 roI] [] [])] Tryz.f33)
def amc:=amd.f (s:=ahk) (snd amd [] Tryz.f79)
def ama:=amc.f (s:=ad9) (snd amc [(4,.c 27 [.t 0 (roL .entry),.t 1 (roL .entry),.t 5 roI] [] [])] Tryz.f34)
def al9:=ama.f (s:=aea) (snd ama [] Tryz.f8)
def al8:=al9.f (s:=ado) (snd al9 [(4,.c 20 [.t 0 roI,.t 3 roS] [] [])] Tryz.f84)
theorem KA:iM Tryz.prog aay:=mnd al8 [(2,{ n:=57,ty:=.base .cell,si:=5,sk:=1 })] Tryz.f80
def al7:=al8.m KA
theorem ER:iM Tryz.prog QB:=mnd al7 [] Tryz.f35
def al6:=al7.m ER
theorem Kz:iM Tryz.prog aax:=mnd al6 [(2,{ n:=28,ty:=.base .file,si:=5,sk:=1 })] Tryz.f81
def al5:=al6.m Kz
theorem Ku:iM Tryz.prog aau:=mnd al5 [] Tryz.f36
def al4:=al5.m Ku
theorem Gx:iM Tryz.prog Uh:=mnd al4 [(2,{ n:=20,ty:=.base .str,si:=5,sk:=1 })] Tryz.f86
def al3:=al4.m Gx
theorem Nu:iM Tryz.prog adq:=mnd al3 [(2,{ n:=19,ty:=.base .int,si:=5,sk:=1 })] Tryz.f83
def al2:=al3.m Nu
theorem Gy:iM Tryz.prog Ui:=mnd al2 [(2,{ n:=27,ty:=.base .origin,si:=5,sk:=1 })] Tryz.f141
def al1:=al2.m Gy
theorem Nr:iM Tryz.prog adp:=mnd al1 [(2,{ n:=27,ty:=.base .row,si:=5,sk:=1 })] Tryz.f87
def al0:=al1.m Nr
theorem uy:∀k,iM Tryz.prog (Fh k)
 | 0=>fun w u x n r fps h=>(by cases h)
 | k+1=>mnd (m:=Fh (k+1)) (al0.m (uy k)) [(2,{ n:=63,ty:=.base .val,si:=5,sk:=1 })] Tryz.f85
theorem II:iM Tryz.prog XV:=iM.fuel (fid:=85) (sh:=⟨false,.list (.base .val)⟩) (G:=fun k x n=>kz k x n) (f:=fun x n=>uz x n) uy (fun x=>siz (α:=List aC) x+1) (fun _ _=>rfl)
def alZ:=al0.m II
theorem Ky:iM Tryz.prog aaw:=mnd alZ [(2,{ n:=99,ty:=.base .read,si:=5,sk:=1 })] Tryz.f82
def alY:=alZ.m Ky
theorem Kv:iM Tryz.prog aav:=mnd alY [(2,{ n:=34,ty:=.base .tape,si:=5,sk:=1 })] Tryz.f37
def alX:=alY.m Kv
theorem IJ:iM Tryz.prog X0:=mnd alX [(2,{ n:=107,ty:=.base .entry,si:=5,sk:=1 })] Tryz.f38
def alW:=alX.m IJ
end
end Go.Proofs.YtapgeemjgckgaaaGreatDoor
