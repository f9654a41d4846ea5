import Derived.Test.YtapgeemjgckgaaaGreatDoorDen1
/- The functions compute their models, by gen.py. -/
namespace Go.Proofs.YtapgeemjgckgaaaGreatDoor
noncomputable section
open Go.Abs Go.Proofs
set_option maxRecDepth 100000
def anT:=anU.f (s:=ahM) (snd anU [(3,.c 22 [.t 0 (roL .int),.t 3 (owE .int 0),.t 4 roI] [] [])] Tryz.f118)
def anS:=anT.f (s:=acf) (snd anT [] Tryz.f263)
def anR:=anS.f (s:=Zi) (snd anS [(3,.c 23 [.t 0 (roL .origin),.t 3 (owE .origin 0),.t 4 roI] [] [])] Tryz.f239)
def anQ:=anR.f (s:=akr) (snd anR [] Tryz.f203)
def ajh:=anQ.f (s:=ahK) (snd anQ [(3,.c 23 [.t 0 (roL .row),.t 3 (owE .row 0),.t 4 roI] [] [])] Tryz.f174)
theorem tV:∀n,Sound Tryz.prog (OH n)/\Sound Tryz.prog (LD n)
 | 0=>⟨(fun w S args x y h=>by cases h),(fun w S args x y h=>by cases h)⟩
 | n+1=>
  have ih:=tV n
  ⟨snd (s:=OH (n+1)) ((ajh.f ih.1).f ih.2) [] Tryz.f119,
  snd (s:=LD (n+1)) ((ajh.f ih.1).f ih.2) [(3,.c 23 [.t 0 (roL .val),.t 3 (owE .val 0),.t 4 roI] [] [])] Tryz.f172⟩
theorem Tf:Sound Tryz.prog afA:=fun w S args x y h=>(tV (siz (α:=aC) x+1)).1 w S args x y h
def apx:=ajh.f Tf
theorem OG:Sound Tryz.prog ab8:=fun w S args x y h=>(tV (siz (α:=List aC) x+1)).2 w S args x y h
def anP:=apx.f OG
def anO:=anP.f (s:=ahL) (snd anP [] Tryz.f171)
def anN:=anO.f (s:=afF) (snd anO [(3,.c 23 [.t 0 (roL .read),.t 3 (owE .read 0),.t 4 roI] [] [])] Tryz.f117)
def anM:=anN.f (s:=ahI) (snd anN [] Tryz.f66)
def anL:=anM.f (s:=afC) (snd anM [(3,.c 23 [.t 0 (roL .tape),.t 3 (owE .tape 0),.t 4 roI] [] [])] Tryz.f23)
def anK:=anL.f (s:=afI) (snd anL [] Tryz.f67)
def anJ:=anK.f (s:=acj) (snd anK [(3,.c 23 [.t 0 (roL .entry),.t 3 (owE .entry 0),.t 4 roI] [] [])] Tryz.f24)
def anI:=anJ.f (s:=ack) (snd anJ [] Tryz.f6)
def anH:=anI.f (s:=ND) (snd anI [] Tryz.f68)
def anG:=anH.f (s:=Yv) (snd anH [] Tryz.f69)
def ajg:=anG.f (s:=adT) (snd anG [] Tryz.f122)
theorem oM:∀n,Sound Tryz.prog (FH n)/\Sound Tryz.prog (C9 n)
 | 0=>⟨(fun w S args x y h=>by cases h),(fun w S args x y h=>by cases h)⟩
 | n+1=>
  have ih:=oM n
  ⟨snd (s:=FH (n+1)) ((ajg.f ih.1).f ih.2) [(6,.c 33 [.b 2 0 roI,.b 2 1 roI,.b 2 2 roI,.b 2 3 roS,.b 2 4 (owE .val 0),.b 2 5 (owE .str 4),.b 2 6 (owE .row 6),.b 3 0 roI,.b 3 1 roI,.b 3 2 roI,.b 3 3 roS,.b 3 4 (owE .val 7),.b 3 5 (owE .str 8),.b 3 6 (owE .row 10),.t 18 (roL .row),.t 19 roI,.t 20 roI] [(2,7),(3,7)] [(2,2,0),(3,3,0)])] Tryz.f71,
  snd (s:=C9 (n+1)) ((ajg.f ih.1).f ih.2) [(3,.c 20 [.t 3 (owE .val 0),.t 7 (roL .val),.t 8 roI,.t 9 roI] [] [])] Tryz.f121⟩
theorem KQ:Sound Tryz.prog Yw:=fun w S args x y h=>(oM (siz (α:=aC) x+1)).1 w S args x y h
def apw:=ajg.f KQ
theorem Je:Sound Tryz.prog UJ:=fun w S args x y h=>(oM (siz (α:=List aC) x+1)).2 w S args x y h
def anF:=apw.f Je
def anE:=anF.f (s:=Yy) (snd anF [(3,.c 23 [.t 3 (owE .read 0),.t 7 (roL .read),.t 8 roI,.t 9 roI] [] [])] Tryz.f120)
def anD:=anE.f (s:=Yx) (snd anE [(3,.c 26 [.t 3 (owE .tape 0),.t 7 (roL .tape),.t 8 roI,.t 9 roI] [] [])] Tryz.f70)
def anC:=anD.f (s:=UK) (snd anD [(7,.c 44 [.b 2 0 (owE .cell 0),.b 2 1 roI,.b 2 2 roI,.b 2 3 (owE .file 4),.b 2 4 (owE .tape 6),.b 2 5 (owE .entry 7),.b 2 6 roI,.b 2 7 roI,.b 2 8 roI,.b 3 0 (owE .cell 8),.b 3 1 roI,.b 3 2 roI,.b 3 3 (owE .file 10),.b 3 4 (owE .tape 11),.b 3 5 (owE .entry 12),.b 3 6 roI,.b 3 7 roI,.b 3 8 roI,.t 21 (roL .entry),.t 22 roI,.t 23 roI] [(2,9),(3,9)] [(2,2,0),(3,3,0)])] Tryz.f25)
def anB:=anC.f (s:=YA) (snd anC [(2,.c 21 [.t 1 roI,.t 8 (roL .cell),.t 9 roI,.t 10 roI] [] [])] Tryz.f75)
def anA:=anB.f (s:=agR) (snd anB [] Tryz.f210)
def anz:=anA.f (s:=agZ) (snd anA [(2,.c 42 [.t 0 roS,.t 3 roI] [] [])] Tryz.f177)
def anx:=anz.f (s:=KR) (snd anz [] Tryz.f212)
def anw:=anx.f (s:=UC) (snd anx [] Tryz.f178)
def anv:=anw.f (s:=Rh) (snd anw [] Tryz.f125)
def anu:=anv.f (s:=Rk) (snd anv [(2,.c 23 [.t 0 roS,.t 3 roI] [] [])] Tryz.f211)
def ant:=anu.f (s:=Rj) (snd anu [] Tryz.f176)
def anr:=ant.f (s:=GR) (snd ant [(2,.c 29 [.b 1 0 (roL .cell),.t 6 (roL .cell),.t 7 roI,.t 8 roI] [(1,1)] [(1,1,0)])] Tryz.f124)
def anq:=anr.f (s:=Q8) (snd anr [] Tryz.f204)
theorem wo:∀n,Sound Tryz.prog (FC n)
 | 0=>(fun w S args x y h=>by cases h)
 | n+1=>
  have ih:=wo n
  snd (s:=FC (n+1)) (anq.f ih) [(3,.c 19 [.t 3 roI,.t 7 (roL .expr),.t 8 roI,.t 9 roI] [] [])] Tryz.f215
theorem KN:Sound Tryz.prog Yn:=fun w S args x y h=>(wo (siz (α:=af) x+1)) w S args x y h
def anp:=anq.f KN
theorem wu:∀n,Sound Tryz.prog (FD n)
 | 0=>(fun w S args x y h=>by cases h)
 | n+1=>
  have ih:=wu n
  snd (s:=FD (n+1)) (anp.f ih) [(3,.c 20 [.t 3 roI,.t 7 (roL .expr),.t 8 roI,.t 9 roI] [] [])] Tryz.f216
theorem KO:Sound Tryz.prog Yo:=fun w S args x y h=>(wu (siz (α:=af) x+1)) w S args x y h
def ano:=anp.f KO
def ann:=ano.f (s:=Q9) (snd ano [(2,.c 29 [.t 0 roS,.t 3 roI] [] [])] Tryz.f274)
def anm:=ann.f (s:=ag0) (snd ann [] Tryz.f248)
theorem yJ:∀n,Sound Tryz.prog (Jg n)
 | 0=>(fun w S args x y h=>by cases h)
 | n+1=>
  have ih:=yJ n
  snd (s:=Jg (n+1)) (anm.f ih) [(2,.c 18 [.b 1 0 roI,.b 1 1 roI,.b 1 2 roS,.b 1 3 (roL .expr),.t 6 (roL .expr),.t 7 roI,.t 8 roI] [(1,4)] [(1,1,0)])] Tryz.f217
theorem NF:Sound Tryz.prog aa7:=fun w S args x y h=>(yJ (siz (α:=af) x+1)) w S args x y h
def anl:=anm.f NF
def apv:=anl.f (s:=Ri) (snd anl [] Tryz.f182)
def apu:=apv.f Yk
def apt:=apu.f Gz
def ank:=apt.f GH
def anj:=ank.f (s:=adG) (snd ank [(4,.c 152 [.t 0 roS,.t 1 roI,.b 4 0 roI,.b 4 1 roI,.b 4 2 roI,.b 4 3 roS,.t 7 roI] [(4,4)] [(4,4,0)]),(8,.c 152 [.t 0 roS,.t 1 roI,.b 4 0 roI,.b 4 1 roI,.b 4 2 roI,.b 4 3 roS,.t 7 roI] [(4,4)] [(4,4,0)])] Tryz.f264)
def ani:=anj.f (s:=aaQ) (snd anj [(5,.c 44 [.t 0 roS,.t 4 (owE .token 0),.t 5 roI] [] [])] Tryz.f240)
def anh:=ani.f (s:=aaU) (snd ani [] Tryz.f223)
def ang:=anh.f (s:=Yp) (snd anh [] Tryz.f265)
def anf:=ang.b (s:=Uu) (bnd ang [] Tryz.f266)
def ane:=anf.b (s:=Uy) (bnd anf [] Tryz.f286)
def anc:=ane.b (s:=Ux) (bnd ane [] Tryz.f267)
def anb:=anc.f (s:=aaX) (snd anc [] Tryz.f287)
def ana:=anb.b (s:=Uw) (bnd anb [] Tryz.f268)
def VG:=ana.b (s:=Nw) (bnd ana [] Tryz.f270)
theorem gG:∀n,gQ Tryz.prog (CO n)/\gQ Tryz.prog (Fz n)/\gQ Tryz.prog (vZ n)/\gQ Tryz.prog (CQ n)/\gQ Tryz.prog (AU n)
 | 0=>⟨(fun w S bb vs Et args x y h=>by cases h),(fun w S bb vs Et args x y h=>by cases h),(fun w S bb vs Et args x y h=>by cases h),(fun w S bb vs Et args x y h=>by cases h),(fun w S bb vs Et args x y h=>by cases h)⟩
 | n+1=>
  have ih:=gG n
  ⟨bnd (s:=CO (n+1)) (((((VG.b ih.1).b ih.2.1).b ih.2.2.1).b ih.2.2.2.1).b ih.2.2.2.2) [(28,.c 133 [.b 0 0 (roL .token),.b 0 1 roI,.b 0 2 roI,.b 2 0 roI,.b 2 1 roI,.b 2 2 roS,.b 2 3 (owE .expr 0),.b 6 0 roI,.b 6 1 roI,.b 6 2 roS,.b 6 3 (roL .expr),.t 115 (owE .int 1),.t 116 roI,.t 117 roI] [(0,3),(2,4),(6,4)] [(0,0,0),(2,2,0),(6,6,0)])] Tryz.f241,
  bnd (s:=Fz (n+1)) (((((VG.b ih.1).b ih.2.1).b ih.2.2.1).b ih.2.2.2.1).b ih.2.2.2.2) [(2,.c 25 [.b 0 0 (roL .token),.b 0 1 roI,.b 0 2 roI,.b 2 0 roI,.b 2 1 roI,.b 2 2 roS,.b 2 3 (owE .expr 0),.b 3 0 roI,.b 3 1 roI,.b 3 2 roS,.b 3 3 (roL .expr)] [(0,3),(2,4),(3,4)] [(0,0,0),(2,2,0),(3,3,0)])] Tryz.f269,
  bnd (s:=vZ (n+1)) (((((VG.b ih.1).b ih.2.1).b ih.2.2.1).b ih.2.2.2.1).b ih.2.2.2.2) [(2,.c 14 [.b 0 0 (roL .token),.b 0 1 roI,.b 0 2 roI,.b 2 0 roI,.b 2 1 roI,.b 2 2 roS,.b 2 3 (owE .expr 0),.b 3 0 roI,.b 3 1 roI,.b 3 2 roS,.b 3 3 (roL .expr)] [(0,3),(2,4),(3,4)] [(0,0,0),(2,2,0),(3,3,0)])] Tryz.f288,
  bnd (s:=CQ (n+1)) (((((VG.b ih.1).b ih.2.1).b ih.2.2.1).b ih.2.2.2.1).b ih.2.2.2.2) [] Tryz.f303,
  bnd (s:=AU (n+1)) (((((VG.b ih.1).b ih.2.1).b ih.2.2.1).b ih.2.2.2.1).b ih.2.2.2.2) [(4,.c 27 [.b 0 0 (roL .token),.b 0 1 roI,.b 0 2 roI,.t 1 roS,.t 5 (.own (.base .expr) false true 0)] [(0,3)] [(0,0,0)])] Tryz.f331⟩
theorem I7:gQ Tryz.prog Uz:=fun w S bb vs Et args x y h=>(gG (siz (α:=aV) x+1)).1 w S bb vs Et args x y h
def aps:=VG.b I7
theorem KJ:gQ Tryz.prog Yi:=fun w S bb vs Et args x y h=>(gG (siz (α:=aV) x+1)).2.1 w S bb vs Et args x y h
def apr:=aps.b KJ
theorem CJ:gQ Tryz.prog KL:=fun w S bb vs Et args x y h=>(gG (siz (α:=aV) x+1)).2.2.1 w S bb vs Et args x y h
def apq:=apr.b CJ
theorem I8:gQ Tryz.prog UA:=fun w S bb vs Et args x y h=>(gG (siz (α:=aV) x+1)).2.2.2.1 w S bb vs Et args x y h
def apo:=apq.b I8
theorem GK:gQ Tryz.prog Q7:=fun w S bb vs Et args x y h=>(gG (siz (α:=aV) x.1+1)).2.2.2.2 w S bb vs Et args x y h
def am9:=apo.b GK
def am8:=am9.f (s:=Yl) (snd am9 [] Tryz.f205)
theorem Jc:Sound Tryz.prog UG:=snd am8 [] Tryz.f206
def apn:=am8.f Jc
def am7:=apn.f QF
def am6:=am7.f (s:=Yc) (snd am7 [] Tryz.f243)
def am5:=am6.f (s:=adS) (snd am6 [(4,.c 38 [.t 1 roI,.t 7 (owE .int 0),.t 15 (owE .str 1),.t 16 roI,.t 17 roI] [] [])] Tryz.f244)
theorem CZ:Sound Tryz.prog adR:=snd am5 [(2,.c 19 [.t 1 roS,.t 7 (roL .str),.t 8 roI,.t 9 roI] [] [])] Tryz.f128
def am4:=am5.f CZ
def am3:=am4.f (s:=Ru) (snd am4 [(2,.c 18 [.t 0 (roL .str),.t 5 (roL .str),.t 6 roI,.t 7 roI] [] [])] Tryz.f277)
def am2:=am3.f (s:=UM) (snd am3 [(2,.c 22 [.t 0 (roL .str),.t 5 (roL .str),.t 6 roI,.t 7 roI] [] [])] Tryz.f246)
theorem Nz:Sound Tryz.prog aaY:=snd am2 [] Tryz.f273
def am1:=am2.f Nz
def am0:=am1.f (s:=Ny) (snd am1 [] Tryz.f293)
end
end Go.Proofs.YtapgeemjgckgaaaGreatDoor
