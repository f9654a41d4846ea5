import Derived.Test.YtngjomkjlonfpaaGreatDoorSrtWalk
/- The functions compute their models, by gen.py. -/
namespace Go.Proofs.YtngjomkjlonfpaaGreatDoor
noncomputable section
open Go.Abs Go.Proofs
set_option maxRecDepth 100000
def ap4:=ap5.f LG
def aoB:=ap4.f Jt
theorem yY:∀n,Sound Tryz.prog (JD n)
 | 0=>(fun w S args x y h=>by cases h)
 | n+1=>
  have ih:=yY n
  snd (s:=JD (n+1)) (aoB.f ih) [(3,.c 29 [.b 2 0 roI,.b 2 1 roI,.b 2 2 roS,.b 2 3 (owE .expr 0),.b 3 0 roI,.b 3 1 roI,.b 3 2 roS,.b 3 3 (owE .expr 4),.t 14 (roL .expr),.t 15 roI,.t 16 roI] [(2,4),(3,4)] [(2,2,0),(3,3,0)])] Tryz.f181
theorem OB:Sound Tryz.prog abz:=fun w S args x y h=>(yY (siz (α:=af) x+1)) w S args x y h
def aoA:=aoB.f OB
theorem Bh:∀n,Sound Tryz.prog (NM n)
 | 0=>(fun w S args x y h=>by cases h)
 | n+1=>
  have ih:=Bh n
  snd (s:=NM (n+1)) (aoA.f ih) [(6,.c 74 [.t 1 roS,.t 2 roS,.b 6 0 roI,.b 6 1 roI,.b 6 2 roS,.b 6 3 (owE .expr 0),.b 7 0 roI,.b 7 1 roI,.b 7 2 roS,.b 7 3 (owE .expr 1),.t 8 (roE .bool),.t 44 (roL .expr),.t 45 roI,.t 46 roI] [(6,4),(7,4)] [(6,6,0),(7,7,0)])] Tryz.f143
theorem Sz:Sound Tryz.prog aei:=fun w S args x y h=>(Bh (siz (α:=af) x.1+1)) w S args x y h
def aoz:=aoA.f Sz
def ap3:=aoz.f (s:=U8) (snd aoz [] Tryz.f105)
def aoy:=ap3.f U0
def ap2:=aoy.f (s:=Y0) (snd aoy [] Tryz.f182)
def aox:=ap2.f UZ
def aow:=aox.f (s:=alP) (snd aox [] Tryz.f232)
def afD:=aow.f (s:=aen) (snd aow [] Tryz.f184)
theorem pK:∀n,Sound Tryz.prog (Si n)/\Sound Tryz.prog (NK n)/\Sound Tryz.prog (Jz n)
 | 0=>⟨(fun w S args x y h=>by cases h),(fun w S args x y h=>by cases h),(fun w S args x y h=>by cases h)⟩
 | n+1=>
  have ih:=pK n
  ⟨snd (s:=Si (n+1)) (((afD.f ih.1).f ih.2.1).f ih.2.2) [] Tryz.f144,
  snd (s:=NK (n+1)) (((afD.f ih.1).f ih.2.1).f ih.2.2) [(3,.c 21 [.t 3 (owE .str 0),.t 7 (roL .expr),.t 8 roI,.t 9 roI] [] [])] Tryz.f183,
  snd (s:=Jz (n+1)) (((afD.f ih.1).f ih.2.1).f ih.2.2) [] Tryz.f185⟩
theorem U4:Sound Tryz.prog ahk:=fun w S args x y h=>(pK (siz (α:=af) x+1)).1 w S args x y h
def ap1:=afD.f U4
theorem RY:Sound Tryz.prog aee:=fun w S args x y h=>(pK (siz (α:=List af) x+1)).2.1 w S args x y h
def ap0:=ap1.f RY
theorem Oz:Sound Tryz.prog abu:=fun w S args x y h=>(pK (siz (α:=af) x.1+1)).2.2 w S args x y h
def aov:=ap0.f Oz
def aou:=aov.f (s:=Vp) (snd aov [] Tryz.f106)
def aot:=aou.f (s:=Tn) (snd aou [] Tryz.f70)
def aos:=aot.f (s:=Zd) (snd aot [(2,.c 49 [.b 2 0 roI,.b 2 1 roI,.b 2 2 roI,.b 2 3 roI,.b 2 4 roI,.b 2 5 roS,.b 2 6 roS,.b 2 7 roI,.b 4 0 roI,.b 4 1 roI,.b 4 2 roI,.b 4 3 roI,.b 4 4 roI,.b 4 5 roS,.b 4 6 roS,.b 4 7 roI,.t 7 (roL .op),.t 8 roI,.t 9 roI] [(2,8),(4,8)] [(2,2,0),(4,4,0)])] Tryz.f36)
def aor:=aos.f (s:=Oo) (snd aos [] Tryz.f37)
def aoq:=aor.f (s:=SH) (snd aor [] Tryz.f186)
theorem Ju:Sound Tryz.prog Vq:=snd aoq [] Tryz.f187
def apZ:=aoq.f Ju
def aop:=apZ.f Rq
def aoo:=aop.f (s:=YD) (snd aop [] Tryz.f234)
def aon:=aoo.f (s:=aev) (snd aoo [(4,.c 38 [.t 1 roI,.t 7 (owE .int 0),.t 15 (owE .str 1),.t 16 roI,.t 17 roI] [] [])] Tryz.f235)
def aom:=aon.f (s:=Tm) (snd aon [(2,.c 18 [.t 0 (roL .str),.t 5 (roL .str),.t 6 roI,.t 7 roI] [] [])] Tryz.f264)
def aol:=aom.f (s:=Vx) (snd aom [(2,.c 22 [.t 0 (roL .str),.t 5 (roL .str),.t 6 roI,.t 7 roI] [] [])] Tryz.f237)
theorem Oy:Sound Tryz.prog abq:=snd aol [] Tryz.f261
def aok:=aol.f Oy
def aoj:=aok.f (s:=Ov) (snd aok [] Tryz.f294)
def afC:=aoj.f (s:=aep) (snd aoj [(15,.c 77 [.b 1 0 roI,.b 1 1 roI,.b 1 2 roI,.b 1 3 roS,.b 1 4 (roL .val),.b 1 5 (roL .str),.b 1 6 (roL .row),.b 4 0 (roL .int),.b 4 1 (roL .origin),.t 20 (roL .row),.t 21 roI,.t 22 roI,.t 45 (roL .origin),.t 46 roI,.t 47 roI] [(1,7),(4,2)] [(1,1,0),(4,4,0)]),(9,.c 77 [.b 1 0 roI,.b 1 1 roI,.b 1 2 roI,.b 1 3 roS,.b 1 4 (roL .val),.b 1 5 (roL .str),.b 1 6 (roL .row),.b 4 0 (roL .int),.b 4 1 (roL .origin),.t 20 (roL .row),.t 21 roI,.t 22 roI,.t 34 (roL .int),.t 35 roI,.t 36 roI] [(1,7),(4,2)] [(1,1,0),(4,4,0)]),(4,.c 77 [.b 1 0 roI,.b 1 1 roI,.b 1 2 roI,.b 1 3 roS,.b 1 4 (roL .val),.b 1 5 (roL .str),.b 1 6 (roL .row),.t 20 (roL .row),.t 21 roI,.t 22 roI] [(1,7)] [(1,1,0)])] Tryz.f262)
theorem Js(n:Int)(step:Int)(text:Str)(columns:List Str)(rows:List cO):aeE afC.1 [] Tryz.f236 iZ.ps iZ.rs iZ.ex (⟨5,n,step,text,[],columns,rows⟩:aQ)=kJ ⟨5,n,step,text,[],columns,rows⟩:=by kernel_rfl
theorem Fa:Sound Tryz.prog iZ:=
 Sound.weaken (f:=fun x=>aeE afC.1 [] Tryz.f236 iZ.ps iZ.rs iZ.ex x) (zx afC.2 rU [] (fn:=Tryz.f236) (by kernel_rfl) fun x=>rfl) fun x y h=>by
  obtain⟨kind,n,step,text,list,columns,rows⟩:=x;cases a:((kind==5)&&list.isEmpty)with
  | false=>
   have h:(bif ((kind==5)&&list.isEmpty)then kJ ⟨kind,n,step,text,list,columns,rows⟩else none)=some y:=h;rw[a]at h;cases h
  | true=>
   have h:(bif ((kind==5)&&list.isEmpty)then kJ ⟨kind,n,step,text,list,columns,rows⟩else none)=some y:=h;rw[a]at h;simp only[zI,beq_iff_eq,List.isEmpty_iff]at a;obtain⟨h_kind,h_list⟩:=a;subst kind list;exact (Js n step text columns rows).trans h
def aoi:=afC.f Fa
def aoh:=aoi.f (s:=YS) (snd aoi [(4,.c 48 [.b 2 0 roI,.b 2 1 roI,.b 2 2 roI,.b 2 3 roS,.b 2 4 (owE .val 0),.b 2 5 (owE .str 1),.b 2 6 (owE .row 3),.b 5 0 roI,.b 5 1 roI,.b 5 2 roI,.b 5 3 roS,.b 5 4 (owE .val 4),.b 5 5 (owE .str 6),.b 5 6 (owE .row 7),.t 18 (roL .str),.t 19 roI,.t 20 roI] [(2,7),(5,7)] [(2,2,0),(5,5,0)])] Tryz.f188)
def aog:=aoh.f (s:=Y4) (snd aoh [(9,.c 50 [.t 6 (owE .str 0),.t 27 (roL .str),.t 28 roI,.t 29 roI] [] [])] Tryz.f189)
def aof:=aog.f (s:=RZ) (snd aog [(5,.c 39 [.t 0 roI,.b 4 0 roI,.b 4 1 roI,.b 4 2 roI,.b 4 3 roS,.b 4 4 (owE .val 0),.b 4 5 (owE .str 1),.b 4 6 (owE .row 2),.b 5 0 roI,.b 5 1 roI,.b 5 2 roI,.b 5 3 roS,.b 5 4 (owE .val 6),.b 5 5 (owE .str 7),.b 5 6 (owE .row 8),.t 24 roI,.t 25 roI] [(4,7),(5,7)] [(4,4,0),(5,5,0)])] Tryz.f190)
def aoe:=aof.f (s:=Tj) (snd aof [] Tryz.f145)
def aod:=aoe.s (s:=Vw) (ssd aoe [(5,.c 24 [.t 3 (.own (.base .part) false true 0),.t 11 (roL .cell),.t 12 roI,.t 13 roI] [] [])] Tryz.f107)
def aoc:=aod.f (s:=abv) (snd aod [(3,.c 31 [.t 1 roS,.t 5 (owE .int 0),.t 9 (roL .part),.t 10 roI,.t 11 roI] [] [])] Tryz.f110)
def aob:=aoc.f (s:=aeh) (snd aoc [] Tryz.f109)
def Ws:=aob.f (s:=ahf) (snd aob [] Tryz.f111)
theorem Lp:Sound Tryz.prog YM:=snd Ws [(23,.c 156 [.t 1 roS,.t 2 roS,.t 3 (roE .bool),.b 4 0 (roL .cell),.b 8 0 (owE .cell 0),.b 16 0 (owE .cell 1),.t 17 (roE .bool),.t 96 (roL .part),.t 97 roI,.t 98 roI] [(4,1),(8,1),(16,1)] [(4,4,0),(8,8,0),(16,16,0)]),(10,.c 156 [.t 1 roS,.t 2 roS,.t 3 (roE .bool),.b 4 0 (roL .cell),.b 8 0 (owE .cell 0),.t 10 (roL .part),.t 11 roI,.t 12 (roE .bool),.t 13 (roE .bool),.t 54 (roL .part),.t 55 roI,.t 56 roI] [(4,1),(8,1)] [(4,4,0),(8,8,0)])] Tryz.f71
theorem Ot:Sound Tryz.prog abh:=snd Ws [(23,.c 156 [.t 1 roS,.t 2 roS,.t 3 (roE .bool),.b 4 0 (roL .cell),.b 8 0 (owE .cell 0),.b 16 0 (owE .cell 1),.t 17 (roE .bool),.t 96 (roL .part),.t 97 roI,.t 98 roI] [(4,1),(8,1),(16,1)] [(4,4,0),(8,8,0),(16,16,0)]),(10,.c 156 [.t 1 roS,.t 2 roS,.t 3 (roE .bool),.b 4 0 (roL .cell),.b 8 0 (owE .cell 0),.t 10 (roL .part),.t 11 roI,.t 12 (roE .bool),.t 13 (roE .bool),.t 54 (roL .part),.t 55 roI,.t 56 roI] [(4,1),(8,1)] [(4,4,0),(8,8,0)])] Tryz.f71
theorem GN:Sound Tryz.prog SC:=snd (Ws.f Lp) [(11,.c 56 [.b 3 0 (roL .cell),.b 6 0 (owE .cell 0),.b 10 0 (owE .cell 1),.t 39 roI,.t 40 roI] [(3,1),(6,1),(10,1)] [(3,3,0),(6,6,0),(10,10,0)]),(3,.c 56 [.t 1 roS,.t 2 roS,.b 3 0 (roL .cell),.b 6 0 (owE .cell 0),.b 8 0 (owE .cell 1),.t 17 roI,.t 18 roI] [(3,1),(6,1),(8,1)] [(3,3,0),(6,6,0),(8,8,0)])] Tryz.f39
theorem GL:Sound Tryz.prog SB:=snd (Ws.f Ot) [(11,.c 56 [.b 3 0 (roL .cell),.b 6 0 (owE .cell 0),.b 10 0 (roL .cell),.t 39 roI,.t 40 roI] [(3,1),(6,1),(10,1)] [(3,3,0),(6,6,0),(10,10,0)]),(3,.c 56 [.t 1 roS,.t 2 roS,.b 3 0 (roL .cell),.b 6 0 (owE .cell 0),.b 8 0 (owE .cell 1),.t 17 roI,.t 18 roI] [(3,1),(6,1),(8,1)] [(3,3,0),(6,6,0),(8,8,0)])] Tryz.f39
def aoa:=Ws.f (s:=YC) (snd Ws [(2,.c 28 [.t 1 roI,.t 2 roI,.t 9 (roL .tape),.t 10 roI,.t 11 roI] [] [])] Tryz.f73)
def an9:=aoa.f (s:=abd) (snd aoa [] Tryz.f82)
def an8:=an9.f (s:=abt) (snd an9 [(2,.c 22 [.b 3 0 roI,.b 3 1 roI,.b 3 2 roI,.b 3 3 roS,.b 3 4 roI,.b 3 5 roI,.b 3 6 roI,.b 3 7 roS,.b 3 8 (roL .val),.b 3 9 (roL .str),.b 3 10 (roL .row),.b 4 0 roI,.b 4 1 roI,.b 4 2 roI,.b 4 3 roS,.b 4 4 (owE .val 0),.b 4 5 (owE .str 1),.b 4 6 (owE .row 2),.t 8 (roL .read),.t 9 roI,.t 10 roI] [(3,11),(4,7)] [(3,3,0),(4,4,0)])] Tryz.f114)
def an7:=an8.f (s:=Vg) (snd an8 [(3,.c 33 [.t 5 (owE .read 0),.t 12 (roL .read),.t 13 roI,.t 14 roI] [] [])] Tryz.f74)
def an6:=an7.f (s:=U3) (snd an7 [] Tryz.f75)
def ajm:=an6.f (s:=aek) (snd (an6.cuts [(12,9,10,66,65)]) [(10,.c 68 [.t 9 (owE .tape 0),.t 10 roI,.b 11 0 roI,.b 11 1 roI,.b 11 2 (owE .read 1)] [(11,3)] [(11,11,0)])] Tryz.f41)
theorem Lm:Sound Tryz.prog YI:=snd (ajm.f GN) [] Tryz.f14
theorem Ll:Sound Tryz.prog YH:=snd (ajm.f GL) [] Tryz.f14
theorem Oq:Sound Tryz.prog abg:=Sound.two (h1:=Lm) (h2:=Ll)
def an5:=ajm.f Oq
def an4:=an5.f (s:=YW) (snd an5 [(4,.c 81 [.b 1 0 roI,.b 1 1 roI,.b 1 2 roI,.b 1 3 (roL .int),.b 1 4 roI,.b 1 5 roI,.b 1 6 roI,.b 1 7 roI,.b 1 8 roI,.b 1 9 roS,.b 1 10 roS,.b 1 11 roI,.b 1 12 roS,.b 1 13 roS,.b 1 14 roI,.b 1 15 roI,.b 1 16 (roL .read),.t 25 (roL .int),.t 26 roI,.t 27 roI] [(1,17)] [(1,1,0)])] Tryz.f46)
def an3:=an4.f (s:=abm) (snd an4 [] Tryz.f47)
def an2:=an3.f (s:=Vj) (snd an3 [(2,.c 33 [.t 0 (roL .op),.t 5 (roL .op),.t 6 roI,.t 7 roI] [] [])] Tryz.f19)
def an1:=an2.f (s:=YJ) (snd an2 [(10,{ n:=62,its:=[.t 0 (roL .op),.b 2 0 (owE .cell 0),.b 2 1 (owE .tape 1),.b 2 2 (owE .op 4),.b 3 0 (owE .cell 5),.b 3 1 (owE .tape 7),.b 3 2 (owE .op 8),.t 4 (owE .int 9),.t 5 roI,.b 6 0 roI,.b 6 1 roI,.b 6 2 roI,.b 6 3 (roL .int),.b 6 4 roI,.b 6 5 roI,.b 6 6 roI,.b 6 7 roI,.b 6 8 roI,.b 6 9 roS,.b 6 10 roS,.b 6 11 roI,.b 6 12 roS,.b 6 13 roS,.b 6 14 roI,.b 6 15 roI,.b 6 16 (roL .read),.t 7 (.own (.base .op) false true 11),.t 17 (roL .op),.t 18 roI,.t 19 roI,.t 26 roI,.t 27 roI],boxes:=[(2,3),(3,3),(6,17)],ptrs:=[(2,2,0),(3,3,0),(6,6,0)],tls:=[(25,4)] }),(6,.c 62 [.t 0 (roL .op),.b 2 0 (owE .cell 0),.b 2 1 (owE .tape 1),.b 2 2 (owE .op 4),.b 3 0 (owE .cell 5),.b 3 1 (owE .tape 7),.b 3 2 (owE .op 8),.t 4 (owE .int 9),.t 17 (roL .op),.t 18 roI,.t 19 roI] [(2,3),(3,3)] [(2,2,0),(3,3,0)])] Tryz.f6)
def an0:=an1.f (s:=abf) (snd an1 [(4,.c 26 [.t 0 (roL .cell),.t 1 (roL .cell),.t 12 roI,.t 13 roI] [] [])] Tryz.f48)
def anZ:=an0.f (s:=LH) (snd an0 [] Tryz.f20)
def anY:=anZ.f (s:=U6) (snd anZ [(4,.c 26 [.t 0 (roL .str),.t 1 (roL .str),.t 12 roI,.t 13 roI] [] [])] Tryz.f154)
def anX:=anY.f (s:=aeg) (snd anY [(4,.c 26 [.t 0 (roL .int),.t 1 (roL .int),.t 12 roI,.t 13 roI] [] [])] Tryz.f155)
def anW:=anX.f (s:=U7) (snd anX [(4,.c 26 [.t 0 (roL .origin),.t 1 (roL .origin),.t 12 roI,.t 13 roI] [] [])] Tryz.f156)
theorem FN:∀n,Sound Tryz.prog (Wx n)
 | 0=>(fun w S args x y h=>by cases h)
 | n+1=>
  have ih:=FN n
  snd (s:=Wx (n+1)) (anW.f ih) [(10,.c 121 [.t 2 (roE .bool),.b 3 0 roI,.b 3 1 roI,.b 3 2 roI,.b 3 3 roS,.b 3 4 (roL .val),.b 3 5 (roL .str),.b 3 6 (roL .row),.b 4 0 roI,.b 4 1 roI,.b 4 2 roI,.b 4 3 roS,.b 4 4 (roL .val),.b 4 5 (roL .str),.b 4 6 (roL .row),.t 83 roI,.t 84 roI] [(3,7),(4,7)] [(3,3,0),(4,4,0)]),(4,.c 121 [.t 2 (roE .bool),.b 3 0 roI,.b 3 1 roI,.b 3 2 roI,.b 3 3 roS,.b 3 4 (roL .val),.b 3 5 (roL .str),.b 3 6 (roL .row),.b 4 0 roI,.b 4 1 roI,.b 4 2 roI,.b 4 3 roS,.b 4 4 (roL .val),.b 4 5 (roL .str),.b 4 6 (roL .row),.t 63 roI,.t 64 roI] [(3,7),(4,7)] [(3,3,0),(4,4,0)])] Tryz.f120
theorem Y2:Sound Tryz.prog ajF:=fun w S args x y h=>(FN (siz (α:=aQ) x.1+siz (α:=aQ) x.2.1+1)) w S args x y h
def anV:=anW.f Y2
def anU:=anV.f (s:=Vr) (snd anV [] Tryz.f83)
def anT:=anU.f (s:=Vt) (snd anU [(4,.c 41 [.t 0 (roL .read),.t 1 (roL .read),.t 12 roI,.t 13 roI] [] [])] Tryz.f49)
def anS:=anT.f (s:=Vs) (snd anT [(4,.c 55 [.t 0 (roL .tape),.t 1 (roL .tape),.t 12 roI,.t 13 roI] [] [])] Tryz.f21)
end
end Go.Proofs.YtngjomkjlonfpaaGreatDoor
