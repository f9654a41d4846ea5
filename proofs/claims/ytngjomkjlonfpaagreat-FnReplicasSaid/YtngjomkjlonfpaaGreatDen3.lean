import Derived.Test.YtngjomkjlonfpaaGreatDen2
/- The functions compute their models, by gen.py. -/
namespace Go.Proofs.YtngjomkjlonfpaaGreat
noncomputable section
open Go.Abs Go.Proofs
set_option maxRecDepth 100000
def akO:=akP.f (s:=WE) (snd akP [] Tryz.f60)
def akN:=akO.f (s:=NG) (snd akO [] Tryz.f61)
def akM:=akN.f (s:=Tm) (snd akN [] Tryz.f170)
def akL:=akM.f (s:=Yt) (snd akM [(4,.c 40 [.t 0 roS,.t 3 (owE .str 0),.t 4 roI,.t 5 roI] [] [])] Tryz.f184)
def akK:=akL.f (s:=Yl) (snd akL [] Tryz.f191)
def akJ:=akK.f (s:=aeG) (snd akK [(4,.c 45 [.t 1 roI,.t 6 (owE .int 0),.t 7 (owE .str 1),.t 8 roI] [] [])] Tryz.f185)
def akI:=akJ.f (s:=PZ) (snd akJ [(2,.c 18 [.t 0 (roL .str),.t 3 roI] [] [])] Tryz.f194)
def akH:=akI.f (s:=Wh) (snd akI [(2,.c 23 [.t 0 (roL .str),.t 3 roI] [] [])] Tryz.f187)
def akG:=akH.f (s:=Ym) (snd akH [] Tryz.f200)
def akF:=akG.f (s:=O8) (snd akG [(2,.c 41 [.t 0 (roL .origin),.t 3 roI] [] [])] Tryz.f198)
def adE:=akF.f (s:=aa0) (snd akF [(10,.c 55 [.b 1 0 roI,.b 1 1 roI,.b 1 2 roI,.b 1 3 roS,.b 1 4 (roL .val),.b 1 5 (roL .str),.b 1 6 (roL .row),.t 3 roI,.b 4 0 (roL .int),.b 4 1 (roL .origin),.t 5 roI] [(1,7),(4,2)] [(1,1,0),(4,4,0)]),(4,.c 55 [.b 1 0 roI,.b 1 1 roI,.b 1 2 roI,.b 1 3 roS,.b 1 4 (roL .val),.b 1 5 (roL .str),.b 1 6 (roL .row),.t 3 roI] [(1,7)] [(1,1,0)])] Tryz.f193)
theorem Ih(n:Int)(step:Int)(text:Str)(columns:List Str)(rows:List dh):ahV adE.1 [] Tryz.f186 iR.ps iR.rs iR.ex (⟨5,n,step,text,[],columns,rows⟩:aS)=ku ⟨5,n,step,text,[],columns,rows⟩:=by kernel_rfl
theorem EO:Sound Tryz.prog iR:=
 Sound.weaken (f:=fun x=>ahV adE.1 [] Tryz.f186 iR.ps iR.rs iR.ex x) (G6 adE.2 CZ [] (fn:=Tryz.f186) (by kernel_rfl) fun x=>rfl) fun x y h=>by
  obtain⟨kind,n,step,text,list,columns,rows⟩:=x;cases a:((kind==5)&&list.isEmpty)with
  | false=>
   have h:(bif ((kind==5)&&list.isEmpty)then ku ⟨kind,n,step,text,list,columns,rows⟩else none)=some y:=h;rw[a]at h;cases h
  | true=>
   have h:(bif ((kind==5)&&list.isEmpty)then ku ⟨kind,n,step,text,list,columns,rows⟩else none)=some y:=h;rw[a]at h;simp only[zI,beq_iff_eq,List.isEmpty_iff]at a;obtain⟨h_kind,h_list⟩:=a;subst kind list;exact (Ih n step text columns rows).trans h
def akE:=adE.f EO
def akD:=akE.f (s:=VZ) (snd akE [(4,.c 48 [.b 2 0 roI,.b 2 1 roI,.b 2 2 roI,.b 2 3 roS,.b 2 4 (owE .val 0),.b 2 5 (owE .str 1),.b 2 6 (owE .row 3),.t 4 (owE .str 4),.b 5 0 roI,.b 5 1 roI,.b 5 2 roI,.b 5 3 roS,.b 5 4 (owE .val 6),.b 5 5 (owE .str 7),.b 5 6 (owE .row 8),.t 6 roI] [(2,7),(5,7)] [(2,2,0),(5,5,0)])] Tryz.f171)
def akC:=akD.f (s:=WB) (snd akD [(6,.c 40 [.t 3 (owE .str 0),.t 4 (owE .str 1),.t 5 roI] [] [])] Tryz.f172)
def akB:=akC.f (s:=OW) (snd akC [(5,.c 39 [.t 0 roI,.b 4 0 roI,.b 4 1 roI,.b 4 2 roI,.b 4 3 roS,.b 4 4 (owE .val 0),.b 4 5 (owE .str 1),.b 4 6 (owE .row 2),.b 5 0 roI,.b 5 1 roI,.b 5 2 roI,.b 5 3 roS,.b 5 4 (owE .val 6),.b 5 5 (owE .str 7),.b 5 6 (owE .row 8),.t 6 roI] [(4,7),(5,7)] [(4,4,0),(5,5,0)])] Tryz.f173)
def akA:=akB.f (s:=PY) (snd akB [] Tryz.f141)
def akz:=akA.s (s:=Tq) (ssd akA [(5,.c 27 [.b 1 0 (roL .cell),.t 3 (.own (.base .part) false true 0),.t 4 roI] [(1,1)] [(1,1,0)])] Tryz.f118)
def aky:=akz.f (s:=YH) (snd akz [(3,.c 34 [.t 0 (roL .part),.t 1 roS,.t 5 (owE .int 0),.t 6 roI] [] [])] Tryz.f142)
def akx:=aky.f (s:=aaH) (snd aky [] Tryz.f120)
def akw:=akx.f (s:=aek) (snd akx [] Tryz.f121)
def akv:=akw.f (s:=Yn) (snd akw [(5,.c 48 [.t 0 (roL .part),.t 1 roS,.t 2 roS,.t 7 roI,.t 8 roI] [] [])] Tryz.f119)
def aku:=akv.f (s:=Hf) (snd akv [(10,.c 120 [.t 1 roS,.t 2 roS,.b 3 0 (roL .cell),.b 6 0 (owE .cell 0),.b 8 0 (owE .cell 1),.t 9 (.own (.base .part) false true 2),.t 10 roI,.t 11 roI] [(3,1),(6,1),(8,1)] [(3,3,0),(6,6,0),(8,8,0)])] Tryz.f96)
def akt:=aku.f (s:=V7) (snd aku [(8,.c 55 [.b 3 0 (roL .cell),.b 6 0 (owE .cell 0),.b 10 0 (owE .cell 1),.t 11 roI,.t 12 roI] [(3,1),(6,1),(10,1)] [(3,3,0),(6,6,0),(10,10,0)]),(3,.c 55 [.t 1 roS,.t 2 roS,.b 3 0 (roL .cell),.b 6 0 (owE .cell 0),.b 8 0 (owE .cell 1),.t 9 roI] [(3,1),(6,1),(8,1)] [(3,3,0),(6,6,0),(8,8,0)])] Tryz.f63)
def aks:=akt.f (s:=agh) (snd akt [(2,.c 31 [.t 0 (roL .tape),.t 1 roI,.t 2 roI,.t 7 roI] [] [])] Tryz.f97)
def akr:=aks.f (s:=YE) (snd aks [(2,.c 26 [.t 0 (roL .read),.b 3 0 roI,.b 3 1 roI,.b 3 2 roI,.b 3 3 roS,.b 3 4 roI,.b 3 5 roI,.b 3 6 roI,.b 3 7 roS,.b 3 8 (roL .val),.b 3 9 (roL .str),.b 3 10 (roL .row),.b 4 0 roI,.b 4 1 roI,.b 4 2 roI,.b 4 3 roS,.b 4 4 (owE .val 0),.b 4 5 (owE .str 1),.b 4 6 (owE .row 2),.t 6 roI] [(3,11),(4,7)] [(3,3,0),(4,4,0)])] Tryz.f122)
def akq:=akr.f (s:=SG) (snd akr [(3,.c 37 [.t 1 (roL .read),.t 5 (owE .read 0),.t 6 roI] [] [])] Tryz.f98)
def akp:=akq.f (s:=Wi) (snd akq [] Tryz.f99)
def ako:=akp.f (s:=aaJ) (snd (akp.cuts [(12,9,12,71,70)]) [(10,.c 73 [.t 9 (owE .tape 0),.b 11 0 roI,.b 11 1 roI,.b 11 2 (owE .read 1),.t 12 roI] [(11,3)] [(11,11,0)])] Tryz.f64)
def akn:=ako.f (s:=X7) (snd ako [] Tryz.f36)
def amz:=akn.f (s:=VU) (snd akn [(9,.c 56 [.t 0 (roL .op),.b 2 0 (owE .cell 0),.b 2 1 (owE .tape 1),.b 2 2 (owE .op 4),.b 3 0 (owE .cell 5),.b 3 1 (owE .tape 6),.b 3 2 (owE .op 7),.t 4 roI,.t 5 (.own (.base .op) false true 8),.t 6 roI] [(2,3),(3,3)] [(2,2,0),(3,3,0)]),(5,.c 56 [.t 0 (roL .op),.b 2 0 (owE .cell 0),.b 2 1 (owE .tape 1),.b 2 2 (owE .op 4),.b 3 0 (owE .cell 5),.b 3 1 (owE .tape 6),.b 3 2 (owE .op 7),.t 4 roI] [(2,3),(3,3)] [(2,2,0),(3,3,0)])] Tryz.f14)
theorem Ls:Sound Tryz.prog XM:=snd amz [] Tryz.f3
end
end Go.Proofs.YtngjomkjlonfpaaGreat
