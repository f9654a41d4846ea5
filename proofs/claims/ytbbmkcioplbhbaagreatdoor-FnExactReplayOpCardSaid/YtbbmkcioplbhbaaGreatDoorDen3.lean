import Derived.Test.YtbbmkcioplbhbaaGreatDoorSrtWalk
/- The functions compute their models, by gen.py. -/
namespace Go.Proofs.YtbbmkcioplbhbaaGreatDoor
noncomputable section
open Go.Abs Go.Proofs
set_option maxRecDepth 100000
def apF:=apG.f KP
def anf:=apF.f I5
theorem yx:∀n,Sound Tryz.prog (Ja n)
 | 0=>(fun w S args x y h=>by cases h)
 | n+1=>
  have ih:=yx n
  snd (s:=Ja (n+1)) (anf.f ih) [(3,.c 29 [.b 2 0 roI,.b 2 1 roI,.b 2 2 roS,.b 2 3 (owE .expr 0),.b 3 0 roI,.b 3 1 roI,.b 3 2 roS,.b 3 3 (owE .expr 4),.t 14 (roL .expr),.t 15 roI,.t 16 roI] [(2,4),(3,4)] [(2,2,0),(3,3,0)])] Tryz.f234
theorem NY:Sound Tryz.prog abm:=fun w S args x y h=>(yx (siz (α:=af) x+1)) w S args x y h
def ane:=anf.f NY
theorem Az:∀n,Sound Tryz.prog (Nc n)
 | 0=>(fun w S args x y h=>by cases h)
 | n+1=>
  have ih:=Az n
  snd (s:=Nc (n+1)) (ane.f ih) [(6,.c 74 [.t 1 roS,.t 2 roS,.b 6 0 roI,.b 6 1 roI,.b 6 2 roS,.b 6 3 (owE .expr 0),.b 7 0 roI,.b 7 1 roI,.b 7 2 roS,.b 7 3 (owE .expr 1),.t 8 (roE .bool),.t 44 (roL .expr),.t 45 roI,.t 46 roI] [(6,4),(7,4)] [(6,6,0),(7,7,0)])] Tryz.f185
theorem Rn:Sound Tryz.prog adW:=fun w S args x y h=>(Az (siz (α:=af) x.1+1)) w S args x y h
def anc:=ane.f Rn
def apE:=anc.f (s:=UE) (snd anc [] Tryz.f141)
def anb:=apE.f Ux
def apD:=anb.f (s:=YJ) (snd anb [] Tryz.f235)
def ana:=apD.f Uw
def am9:=ana.f (s:=alo) (snd ana [] Tryz.f274)
def aff:=am9.f (s:=ad2) (snd am9 [] Tryz.f237)
theorem oO:∀n,Sound Tryz.prog (Rk n)/\Sound Tryz.prog (Nb n)/\Sound Tryz.prog (I7 n)
 | 0=>⟨(fun w S args x y h=>by cases h),(fun w S args x y h=>by cases h),(fun w S args x y h=>by cases h)⟩
 | n+1=>
  have ih:=oO n
  ⟨snd (s:=Rk (n+1)) (((aff.f ih.1).f ih.2.1).f ih.2.2) [] Tryz.f186,
  snd (s:=Nb (n+1)) (((aff.f ih.1).f ih.2.1).f ih.2.2) [(3,.c 21 [.t 3 (owE .str 0),.t 7 (roL .expr),.t 8 roI,.t 9 roI] [] [])] Tryz.f236,
  snd (s:=I7 (n+1)) (((aff.f ih.1).f ih.2.1).f ih.2.2) [] Tryz.f238⟩
theorem UB:Sound Tryz.prog agX:=fun w S args x y h=>(oO (siz (α:=af) x+1)).1 w S args x y h
def apC:=aff.f UB
theorem Ri:Sound Tryz.prog adT:=fun w S args x y h=>(oO (siz (α:=List af) x+1)).2.1 w S args x y h
def apB:=apC.f Ri
theorem NV:Sound Tryz.prog abg:=fun w S args x y h=>(oO (siz (α:=af) x.1+1)).2.2 w S args x y h
def am8:=apB.f NV
def am7:=am8.f (s:=UQ) (snd am8 [] Tryz.f142)
def am6:=am7.f (s:=RV) (snd am7 [] Tryz.f95)
def am5:=am6.f (s:=YU) (snd am6 [(2,.c 49 [.b 2 0 roI,.b 2 1 roI,.b 2 2 roI,.b 2 3 roI,.b 2 4 roI,.b 2 5 roS,.b 2 6 roS,.b 2 7 roI,.b 4 0 roI,.b 4 1 roI,.b 4 2 roI,.b 4 3 roI,.b 4 4 roI,.b 4 5 roS,.b 4 6 roS,.b 4 7 roI,.t 7 (roL .op),.t 8 roI,.t 9 roI] [(2,8),(4,8)] [(2,2,0),(4,4,0)])] Tryz.f42)
def am4:=am5.f (s:=NP) (snd am5 [] Tryz.f43)
def am3:=am4.f (s:=Rx) (snd am4 [] Tryz.f239)
def apA:=am3.f (s:=UR) (snd am3 [] Tryz.f240)
def am2:=apA.f QS
def am1:=am2.f (s:=Yq) (snd am2 [] Tryz.f276)
def am0:=am1.f (s:=ad6) (snd am1 [(4,.c 38 [.t 1 roI,.t 7 (owE .int 0),.t 15 (owE .str 1),.t 16 roI,.t 17 roI] [] [])] Tryz.f277)
def amZ:=am0.f (s:=RU) (snd am0 [(2,.c 18 [.t 0 (roL .str),.t 5 (roL .str),.t 6 roI,.t 7 roI] [] [])] Tryz.f301)
def amY:=amZ.f (s:=UX) (snd amZ [(2,.c 22 [.t 0 (roL .str),.t 5 (roL .str),.t 6 roI,.t 7 roI] [] [])] Tryz.f279)
def amX:=amY.f (s:=abd) (snd amY [] Tryz.f298)
def amW:=amX.f (s:=NT) (snd amX [] Tryz.f329)
def afe:=amW.f (s:=ad4) (snd amW [(15,.c 77 [.b 1 0 roI,.b 1 1 roI,.b 1 2 roI,.b 1 3 roS,.b 1 4 (roL .val),.b 1 5 (roL .str),.b 1 6 (roL .row),.b 4 0 (roL .int),.b 4 1 (roL .origin),.t 20 (roL .row),.t 21 roI,.t 22 roI,.t 45 (roL .origin),.t 46 roI,.t 47 roI] [(1,7),(4,2)] [(1,1,0),(4,4,0)]),(9,.c 77 [.b 1 0 roI,.b 1 1 roI,.b 1 2 roI,.b 1 3 roS,.b 1 4 (roL .val),.b 1 5 (roL .str),.b 1 6 (roL .row),.b 4 0 (roL .int),.b 4 1 (roL .origin),.t 20 (roL .row),.t 21 roI,.t 22 roI,.t 34 (roL .int),.t 35 roI,.t 36 roI] [(1,7),(4,2)] [(1,1,0),(4,4,0)]),(4,.c 77 [.b 1 0 roI,.b 1 1 roI,.b 1 2 roI,.b 1 3 roS,.b 1 4 (roL .val),.b 1 5 (roL .str),.b 1 6 (roL .row),.t 20 (roL .row),.t 21 roI,.t 22 roI] [(1,7)] [(1,1,0)])] Tryz.f299)
theorem I4(n:Int)(step:Int)(text:Str)(columns:List Str)(rows:List bD):aen afe.1 [] Tryz.f278 iH.ps iH.rs iH.ex (⟨5,n,step,text,[],columns,rows⟩:aC)=jR ⟨5,n,step,text,[],columns,rows⟩:=by kernel_rfl
theorem EU:Sound Tryz.prog iH:=
 Sound.weaken (f:=fun x=>aen afe.1 [] Tryz.f278 iH.ps iH.rs iH.ex x) (yR afe.2 uD [] (fn:=Tryz.f278) (by kernel_rfl) fun x=>rfl) fun x y h=>by
  obtain⟨kind,n,step,text,list,columns,rows⟩:=x;cases a:((kind==5)&&list.isEmpty)with
  | false=>
   have h:(bif ((kind==5)&&list.isEmpty)then jR ⟨kind,n,step,text,list,columns,rows⟩else none)=some y:=h;rw[a]at h;cases h
  | true=>
   have h:(bif ((kind==5)&&list.isEmpty)then jR ⟨kind,n,step,text,list,columns,rows⟩else none)=some y:=h;rw[a]at h;simp only[zI,beq_iff_eq,List.isEmpty_iff]at a;obtain⟨h_kind,h_list⟩:=a;subst kind list;exact (I4 n step text columns rows).trans h
def amV:=afe.f EU
def amU:=amV.f (s:=YE) (snd amV [(4,.c 48 [.b 2 0 roI,.b 2 1 roI,.b 2 2 roI,.b 2 3 roS,.b 2 4 (owE .val 0),.b 2 5 (owE .str 1),.b 2 6 (owE .row 3),.b 5 0 roI,.b 5 1 roI,.b 5 2 roI,.b 5 3 roS,.b 5 4 (owE .val 4),.b 5 5 (owE .str 6),.b 5 6 (owE .row 7),.t 18 (roL .str),.t 19 roI,.t 20 roI] [(2,7),(5,7)] [(2,2,0),(5,5,0)])] Tryz.f241)
def amT:=amU.f (s:=YL) (snd amU [(9,.c 50 [.t 6 (owE .str 0),.t 27 (roL .str),.t 28 roI,.t 29 roI] [] [])] Tryz.f242)
def amS:=amT.f (s:=Rj) (snd amT [(5,.c 39 [.t 0 roI,.b 4 0 roI,.b 4 1 roI,.b 4 2 roI,.b 4 3 roS,.b 4 4 (owE .val 0),.b 4 5 (owE .str 1),.b 4 6 (owE .row 2),.b 5 0 roI,.b 5 1 roI,.b 5 2 roI,.b 5 3 roS,.b 5 4 (owE .val 6),.b 5 5 (owE .str 7),.b 5 6 (owE .row 8),.t 24 roI,.t 25 roI] [(4,7),(5,7)] [(4,4,0),(5,5,0)])] Tryz.f243)
def amR:=amS.f (s:=RQ) (snd amS [] Tryz.f187)
def amQ:=amR.s (s:=UW) (ssd amR [(5,.c 24 [.t 3 (.own (.base .part) false true 0),.t 11 (roL .cell),.t 12 roI,.t 13 roI] [] [])] Tryz.f143)
def amP:=amQ.f (s:=abh) (snd amQ [(3,.c 31 [.t 1 roS,.t 5 (owE .int 0),.t 9 (roL .part),.t 10 roI,.t 11 roI] [] [])] Tryz.f146)
def amO:=amP.f (s:=adV) (snd amP [] Tryz.f145)
def VO:=amO.f (s:=agS) (snd amO [] Tryz.f147)
theorem KI:Sound Tryz.prog Yy:=snd VO [(23,.c 156 [.t 1 roS,.t 2 roS,.t 3 (roE .bool),.b 4 0 (roL .cell),.b 8 0 (owE .cell 0),.b 16 0 (owE .cell 1),.t 17 (roE .bool),.t 96 (roL .part),.t 97 roI,.t 98 roI] [(4,1),(8,1),(16,1)] [(4,4,0),(8,8,0),(16,16,0)]),(10,.c 156 [.t 1 roS,.t 2 roS,.t 3 (roE .bool),.b 4 0 (roL .cell),.b 8 0 (owE .cell 0),.t 10 (roL .part),.t 11 roI,.t 12 (roE .bool),.t 13 (roE .bool),.t 54 (roL .part),.t 55 roI,.t 56 roI] [(4,1),(8,1)] [(4,4,0),(8,8,0)])] Tryz.f96
theorem NR:Sound Tryz.prog aa4:=snd VO [(23,.c 156 [.t 1 roS,.t 2 roS,.t 3 (roE .bool),.b 4 0 (roL .cell),.b 8 0 (owE .cell 0),.b 16 0 (owE .cell 1),.t 17 (roE .bool),.t 96 (roL .part),.t 97 roI,.t 98 roI] [(4,1),(8,1),(16,1)] [(4,4,0),(8,8,0),(16,16,0)]),(10,.c 156 [.t 1 roS,.t 2 roS,.t 3 (roE .bool),.b 4 0 (roL .cell),.b 8 0 (owE .cell 0),.t 10 (roL .part),.t 11 roI,.t 12 (roE .bool),.t 13 (roE .bool),.t 54 (roL .part),.t 55 roI,.t 56 roI] [(4,1),(8,1)] [(4,4,0),(8,8,0)])] Tryz.f96
theorem GI:Sound Tryz.prog Rt:=snd (VO.f KI) [(11,.c 56 [.b 3 0 (roL .cell),.b 6 0 (owE .cell 0),.b 10 0 (owE .cell 1),.t 39 roI,.t 40 roI] [(3,1),(6,1),(10,1)] [(3,3,0),(6,6,0),(10,10,0)]),(3,.c 56 [.t 1 roS,.t 2 roS,.b 3 0 (roL .cell),.b 6 0 (owE .cell 0),.b 8 0 (owE .cell 1),.t 17 roI,.t 18 roI] [(3,1),(6,1),(8,1)] [(3,3,0),(6,6,0),(8,8,0)])] Tryz.f45
theorem GH:Sound Tryz.prog Rq:=snd (VO.f NR) [(11,.c 56 [.b 3 0 (roL .cell),.b 6 0 (owE .cell 0),.b 10 0 (roL .cell),.t 39 roI,.t 40 roI] [(3,1),(6,1),(10,1)] [(3,3,0),(6,6,0),(10,10,0)]),(3,.c 56 [.t 1 roS,.t 2 roS,.b 3 0 (roL .cell),.b 6 0 (owE .cell 0),.b 8 0 (owE .cell 1),.t 17 roI,.t 18 roI] [(3,1),(6,1),(8,1)] [(3,3,0),(6,6,0),(8,8,0)])] Tryz.f45
def amN:=VO.f (s:=Yp) (snd VO [(2,.c 28 [.t 1 roI,.t 2 roI,.t 9 (roL .tape),.t 10 roI,.t 11 roI] [] [])] Tryz.f98)
def amM:=amN.f (s:=aa2) (snd amN [] Tryz.f193)
def amL:=amM.f (s:=abf) (snd amM [(2,.c 22 [.b 3 0 roI,.b 3 1 roI,.b 3 2 roI,.b 3 3 roS,.b 3 4 roI,.b 3 5 roI,.b 3 6 roI,.b 3 7 roS,.b 3 8 (roL .val),.b 3 9 (roL .str),.b 3 10 (roL .row),.b 4 0 roI,.b 4 1 roI,.b 4 2 roI,.b 4 3 roS,.b 4 4 (owE .val 0),.b 4 5 (owE .str 1),.b 4 6 (owE .row 2),.t 8 (roL .read),.t 9 roI,.t 10 roI] [(3,11),(4,7)] [(3,3,0),(4,4,0)])] Tryz.f150)
def amK:=amL.f (s:=UL) (snd amL [(3,.c 33 [.t 5 (owE .read 0),.t 12 (roL .read),.t 13 roI,.t 14 roI] [] [])] Tryz.f99)
def amJ:=amK.f (s:=UA) (snd amK [] Tryz.f100)
def ajg:=amJ.f (s:=adY) (snd (amJ.cuts [(12,9,10,66,65)]) [(10,.c 68 [.t 9 (owE .tape 0),.t 10 roI,.b 11 0 roI,.b 11 1 roI,.b 11 2 (owE .read 1)] [(11,3)] [(11,11,0)])] Tryz.f47)
theorem KH:Sound Tryz.prog Yv:=snd (ajg.f GI) [] Tryz.f12
theorem KG:Sound Tryz.prog Yu:=snd (ajg.f GH) [] Tryz.f12
theorem NQ:Sound Tryz.prog aa3:=Sound.two (h1:=KH) (h2:=KG)
def amI:=ajg.f NQ
def amH:=amI.f (s:=ajS) (snd amI [(4,.c 26 [.t 0 (roL .int),.t 1 (roL .int),.t 5 roI] [] [])] Tryz.f50)
def amG:=amH.f (s:=ajU) (snd amH [] Tryz.f103)
def amF:=amG.f (s:=ajT) (snd amG [] Tryz.f51)
def amE:=amF.f (s:=abE) (snd amF [(4,.c 26 [.t 0 (roL .str),.t 1 (roL .str),.t 5 roI] [] [])] Tryz.f195)
def amD:=amE.f (s:=aei) (snd amE [] Tryz.f302)
def amC:=amD.f (s:=abH) (snd amD [(4,.c 27 [.t 0 (roL .origin),.t 1 (roL .origin),.t 5 roI] [] [])] Tryz.f280)
def amB:=amC.f (s:=alA) (snd amC [] Tryz.f245)
def ajf:=amB.f (s:=ajP) (snd amB [(4,.c 27 [.t 0 (roL .row),.t 1 (roL .row),.t 5 roI] [] [])] Tryz.f196)
theorem uP:∀n,Sound Tryz.prog (Sz n)/\Sound Tryz.prog (Nq n)
 | 0=>⟨(fun w S args x y h=>by cases h),(fun w S args x y h=>by cases h)⟩
 | n+1=>
  have ih:=uP n
  ⟨snd (s:=Sz (n+1)) ((ajf.f ih.1).f ih.2) [] Tryz.f151,
  snd (s:=Nq (n+1)) ((ajf.f ih.1).f ih.2) [(4,.c 27 [.t 0 (roL .val),.t 1 (roL .val),.t 5 roI] [] [])] Tryz.f194⟩
theorem U3:Sound Tryz.prog ahd:=fun w S args x y h=>(uP (siz (α:=aC) x.1+siz (α:=aC) x.2+1)).1 w S args x y h
def apz:=ajf.f U3
theorem Sv:Sound Tryz.prog aef:=fun w S args x y h=>(uP (siz (α:=List aC) x.1+siz (α:=List aC) x.2+1)).2 w S args x y h
def amA:=apz.f Sv
def amz:=amA.f (s:=ajQ) (snd amA [] Tryz.f104)
def amy:=amz.f (s:=ahi) (snd amz [(4,.c 27 [.t 0 (roL .read),.t 1 (roL .read),.t 5 roI] [] [])] Tryz.f52)
def amx:=amy.f (s:=ao5) (snd amy [] Tryz.f14)
def amw:=amx.f (s:=alC) (snd amx [(4,.c 27 [.t 0 (roL .op),.t 1 (roL .op),.t 5 roI] [] [])] Tryz.f15)
end
end Go.Proofs.YtbbmkcioplbhbaaGreatDoor
