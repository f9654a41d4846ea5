import Derived.Test.YtngjomkjlonfpaaGreatDoorDen2
/- The functions compute their models, by gen.py. -/
namespace Go.Proofs.YtngjomkjlonfpaaGreatDoor
noncomputable section
open Go.Abs Go.Proofs
set_option maxRecDepth 100000
def anR:=anS.f (s:=LJ) (snd anS [] Tryz.f7)
def anQ:=anR.f (s:=acS) (snd anR [(2,.c 19 [.t 0 (roL .int),.t 3 roI] [] [])] Tryz.f61)
def anP:=anQ.f (s:=XW) (snd anQ [] Tryz.f29)
def anO:=anP.f (s:=UF) (snd anP [(2,.c 36 [.t 0 (roL .op),.t 3 roI] [] [])] Tryz.f11)
def anN:=anO.f (s:=adC) (snd anO [] Tryz.f22)
def anM:=anN.f (s:=X6) (snd anN [(2,.c 22 [.t 1 roI,.b 2 0 (roL .cell),.t 5 roI] [(2,1)] [(2,2,0)])] Tryz.f28)
def anL:=anM.f (s:=ada) (snd anM [] Tryz.f84)
def anK:=anL.f (s:=ac3) (snd anL [(3,.c 33 [.t 0 (roL .tape),.t 3 (owE .tape 0),.t 4 roI] [] [])] Tryz.f85)
def anJ:=anK.f (s:=agp) (snd anK [(3,.c 21 [.t 0 (roL .op),.t 3 (owE .op 0),.t 4 roI] [] [])] Tryz.f86)
def anI:=anJ.f (s:=acQ) (snd anJ [] Tryz.f52)
def anH:=anI.f (s:=ZU) (snd anI [] Tryz.f239)
def anG:=anH.f (s:=acP) (snd anH [] Tryz.f240)
def anF:=anG.f (s:=agw) (snd anG [(9,.c 63 [.t 0 roS,.t 6 (roE .bool),.t 7 roS,.t 8 roI,.t 9 roI] [] [])] Tryz.f265)
def anE:=anF.f (s:=ZM) (snd anF [] Tryz.f241)
def anD:=anE.f (s:=ZT) (snd anE [] Tryz.f243)
def anC:=anD.f (s:=agn) (snd anD [(7,.c 136 [.t 0 roS,.t 1 roI,.b 4 0 roI,.b 4 1 roI,.b 4 2 roI,.b 4 3 roS,.b 6 0 roI,.b 6 1 roI,.b 6 2 roI,.b 6 3 roS,.t 7 roI] [(4,4),(6,4)] [(4,4,0),(6,6,0)]),(14,.c 136 [.t 0 roS,.t 1 roI,.b 4 0 roI,.b 4 1 roI,.b 4 2 roI,.b 4 3 roS,.b 6 0 roI,.b 6 1 roI,.b 6 2 roI,.b 6 3 roS,.t 7 roI] [(4,4),(6,4)] [(4,4,0),(6,6,0)]),(23,.c 136 [.t 0 roS,.t 1 roI,.b 4 0 roI,.b 4 1 roI,.b 4 2 roI,.b 4 3 roS,.b 6 0 roI,.b 6 1 roI,.b 6 2 roI,.b 6 3 roS,.t 7 roI] [(4,4),(6,4)] [(4,4,0),(6,6,0)])] Tryz.f203)
def anB:=anC.f (s:=ZJ) (snd anC [(5,.c 46 [.t 0 roS,.t 4 (owE .token 0),.t 5 roI] [] [])] Tryz.f157)
def anA:=anB.f (s:=aao) (snd anB [] Tryz.f244)
def anz:=anA.f (s:=XY) (snd anA [] Tryz.f245)
def anx:=anz.b (s:=adn) (bnd anz [] Tryz.f204)
def anw:=anx.b (s:=adp) (bnd anx [] Tryz.f159)
def anv:=anw.b (s:=ado) (bnd anw [] Tryz.f205)
def Ry:=anv.b (s:=adm) (bnd anv [] Tryz.f206)
theorem iW:∀n,gZ Tryz.prog (Nh n)/\gZ Tryz.prog (CP n)/\gZ Tryz.prog (Qg n)/\gZ Tryz.prog (CJ n)/\gZ Tryz.prog (Nj n)/\gZ Tryz.prog (Nk n)
 | 0=>⟨(fun w S bb vs Et args x y h=>by cases h),(fun w S bb vs Et args x y h=>by cases h),(fun w S bb vs Et args x y h=>by cases h),(fun w S bb vs Et args x y h=>by cases h),(fun w S bb vs Et args x y h=>by cases h),(fun w S bb vs Et args x y h=>by cases h)⟩
 | n+1=>
  have ih:=iW n
  ⟨bnd (s:=Nh (n+1)) ((((((Ry.b ih.1).b ih.2.1).b ih.2.2.1).b ih.2.2.2.1).b ih.2.2.2.2.1).b ih.2.2.2.2.2) [] Tryz.f158,
  bnd (s:=CP (n+1)) ((((((Ry.b ih.1).b ih.2.1).b ih.2.2.1).b ih.2.2.2.1).b ih.2.2.2.2.1).b ih.2.2.2.2.2) [] Tryz.f207,
  bnd (s:=Qg (n+1)) ((((((Ry.b ih.1).b ih.2.1).b ih.2.2.1).b ih.2.2.2.1).b ih.2.2.2.2.1).b ih.2.2.2.2.2) [(2,.c 29 [.b 0 0 (roL .token),.b 0 1 roI,.b 0 2 roI,.b 0 3 roI,.b 2 0 roI,.b 2 1 roI,.b 2 2 roS,.b 2 3 (owE .expr 0),.b 3 0 roI,.b 3 1 roI,.b 3 2 roS,.b 3 3 (roL .expr)] [(0,4),(2,4),(3,4)] [(0,0,0),(2,2,0),(3,3,0)])] Tryz.f246,
  bnd (s:=CJ (n+1)) ((((((Ry.b ih.1).b ih.2.1).b ih.2.2.1).b ih.2.2.2.1).b ih.2.2.2.2.1).b ih.2.2.2.2.2) [(2,.c 21 [.b 0 0 (roL .token),.b 0 1 roI,.b 0 2 roI,.b 0 3 roI,.b 2 0 roI,.b 2 1 roI,.b 2 2 roS,.b 2 3 (owE .expr 0),.b 3 0 roI,.b 3 1 roI,.b 3 2 roS,.b 3 3 (roL .expr)] [(0,4),(2,4),(3,4)] [(0,0,0),(2,2,0),(3,3,0)])] Tryz.f266,
  bnd (s:=Nj (n+1)) ((((((Ry.b ih.1).b ih.2.1).b ih.2.2.1).b ih.2.2.2.1).b ih.2.2.2.2.1).b ih.2.2.2.2.2) [] Tryz.f295,
  bnd (s:=Nk (n+1)) ((((((Ry.b ih.1).b ih.2.1).b ih.2.2.1).b ih.2.2.2.1).b ih.2.2.2.2.1).b ih.2.2.2.2.2) [(5,.c 44 [.b 0 0 (roL .token),.b 0 1 roI,.b 0 2 roI,.b 0 3 roI,.t 1 roS,.t 5 (.own (.base .expr) false true 0)] [(0,4)] [(0,0,0)])] Tryz.f320⟩
theorem Qi:gZ Tryz.prog adq:=fun w S bb vs Et args x y h=>(iW (siz (α:=GRd) x+1)).1 w S bb vs Et args x y h
def apY:=Ry.b Qi
theorem Iu:gZ Tryz.prog UC:=fun w S bb vs Et args x y h=>(iW (siz (α:=GRd) x+1)).2.1 w S bb vs Et args x y h
def apX:=apY.b Iu
theorem UA:gZ Tryz.prog agD:=fun w S bb vs Et args x y h=>(iW (siz (α:=GRd) x+1)).2.2.1 w S bb vs Et args x y h
def apW:=apX.b UA
theorem Ir:gZ Tryz.prog UB:=fun w S bb vs Et args x y h=>(iW (siz (α:=GRd) x+1)).2.2.2.1 w S bb vs Et args x y h
def apV:=apW.b Ir
theorem Qk:gZ Tryz.prog adr:=fun w S bb vs Et args x y h=>(iW (siz (α:=GRd) x+1)).2.2.2.2.1 w S bb vs Et args x y h
def apU:=apV.b Qk
theorem Ql:gZ Tryz.prog ads:=fun w S bb vs Et args x y h=>(iW (siz (α:=GRd) x.1+1)).2.2.2.2.2 w S bb vs Et args x y h
def anu:=apU.b Ql
def ant:=anu.f (s:=XF) (snd anu [] Tryz.f121)
def anr:=ant.f (s:=XB) (snd (ant.agT [49,53]) [(6,.c 63 [.t 0 (roL .str),.t 3 (owE .str 0),.t 4 roI,.t 5 roI] [] []),(3,.c 63 [.t 0 (roL .str),.t 3 (owE .str 0),.t 4 roI] [] [])] Tryz.f161)
theorem AZ:∀n,Sound Tryz.prog (MX n)
 | 0=>(fun w S args x y h=>by cases h)
 | n+1=>
  have ih:=AZ n
  snd (s:=MX (n+1)) (anr.f ih) [(5,.c 61 [.t 1 (roL .str),.b 2 0 roI,.b 2 1 roI,.b 2 2 roS,.b 2 3 (roL .expr),.t 5 (owE .str 0),.t 6 roI] [(2,4)] [(2,2,0)])] Tryz.f162
theorem Qb:Sound Tryz.prog adi:=fun w S args x y h=>(AZ (siz (α:=af) x.1+siz (α:=List Str) x.2+1)) w S args x y h
def anq:=anr.f Qb
def anp:=anq.f (s:=XZ) (snd anq [] Tryz.f123)
theorem wP:∀n,Sound Tryz.prog (Fj n)
 | 0=>(fun w S args x y h=>by cases h)
 | n+1=>
  have ih:=wP n
  snd (s:=Fj (n+1)) (anp.f ih) [(4,.c 66 [.t 1 roS,.t 2 roS,.t 3 (roL .str),.b 4 0 roI,.b 4 1 roI,.b 4 2 roS,.b 4 3 (roL .expr),.t 9 roI] [(4,4)] [(4,4,0)])] Tryz.f211
theorem KC:Sound Tryz.prog XT:=fun w S args x y h=>(wP (siz (α:=af) x.1+siz (α:=List Str) x.2.2.2+1)) w S args x y h
def ano:=anp.f KC
def ann:=ano.f (s:=UH) (snd ano [] Tryz.f163)
theorem Ba:∀n,Sound Tryz.prog (Nq n)
 | 0=>(fun w S args x y h=>by cases h)
 | n+1=>
  have ih:=Ba n
  snd (s:=Nq (n+1)) (ann.f ih) [(3,.c 31 [.b 1 0 roI,.b 1 1 roI,.b 1 2 roS,.b 1 3 (roL .expr),.b 2 0 roI,.b 2 1 roI,.b 2 2 roS,.b 2 3 (owE .expr 0),.b 3 0 roI,.b 3 1 roI,.b 3 2 roS,.b 3 3 (owE .expr 4),.t 4 roI] [(1,4),(2,4),(3,4)] [(1,1,0),(2,2,0),(3,3,0)])] Tryz.f212
theorem Qp:Sound Tryz.prog adz:=fun w S args x y h=>(Ba (siz (α:=af) x+1)) w S args x y h
def anm:=ann.f Qp
theorem wM:∀n,Sound Tryz.prog (Fh n)
 | 0=>(fun w S args x y h=>by cases h)
 | n+1=>
  have ih:=wM n
  snd (s:=Fh (n+1)) (anm.f ih) [(5,.c 77 [.t 1 roS,.t 2 roS,.b 3 0 roI,.b 3 1 roI,.b 3 2 roS,.b 3 3 (roL .expr),.b 6 0 roI,.b 6 1 roI,.b 6 2 roS,.b 6 3 (owE .expr 0),.b 7 0 roI,.b 7 1 roI,.b 7 2 roS,.b 7 3 (owE .expr 1),.t 8 roI] [(3,4),(6,4),(7,4)] [(3,3,0),(6,6,0),(7,7,0)])] Tryz.f164
theorem Kz:Sound Tryz.prog XR:=fun w S args x y h=>(wM (siz (α:=af) x.1+1)) w S args x y h
def anl:=anm.f Kz
def ank:=anl.f (s:=Uo) (snd anl [] Tryz.f124)
def anj:=ank.f (s:=acR) (snd ank [] Tryz.f87)
def ani:=anj.f (s:=X8) (snd anj [(2,.c 52 [.t 1 (roL .op),.b 2 0 roI,.b 2 1 roI,.b 2 2 roI,.b 2 3 roI,.b 2 4 roI,.b 2 5 roS,.b 2 6 roS,.b 2 7 roI,.b 4 0 roI,.b 4 1 roI,.b 4 2 roI,.b 4 3 roI,.b 4 4 roI,.b 4 5 roS,.b 4 6 roS,.b 4 7 roI,.t 5 roI] [(2,8),(4,8)] [(2,2,0),(4,4,0)])] Tryz.f53)
def anh:=ani.f (s:=Qx) (snd ani [(2,.c 23 [.t 0 roS,.t 3 roI] [] [])] Tryz.f59)
def ang:=anh.f (s:=Qv) (snd anh [] Tryz.f27)
def anf:=ang.f (s:=F9) (snd ang [(2,.c 34 [.b 1 0 (roL .cell),.t 3 roI] [(1,1)] [(1,1,0)])] Tryz.f10)
def ane:=anf.f (s:=aik) (snd anf [] Tryz.f126)
def anc:=ane.f (s:=agv) (snd ane [] Tryz.f88)
def anb:=anc.f (s:=ac5) (snd anc [] Tryz.f89)
def ana:=anb.f (s:=ac6) (snd anb [] Tryz.f90)
def am9:=ana.f (s:=X7) (snd ana [] Tryz.f54)
def am8:=am9.f (s:=Oe) (snd am9 [] Tryz.f55)
def am7:=am8.f (s:=UJ) (snd am8 [] Tryz.f217)
def am6:=am7.f (s:=aae) (snd am7 [(4,.c 40 [.t 0 roS,.t 3 (owE .str 0),.t 4 roI,.t 5 roI] [] [])] Tryz.f248)
def am5:=am6.f (s:=Z4) (snd am6 [] Tryz.f268)
def am4:=am5.f (s:=agC) (snd am5 [(4,.c 45 [.t 1 roI,.t 6 (owE .int 0),.t 7 (owE .str 1),.t 8 roI] [] [])] Tryz.f249)
def am3:=am4.f (s:=QB) (snd am4 [(2,.c 18 [.t 0 (roL .str),.t 3 roI] [] [])] Tryz.f271)
def am2:=am3.f (s:=XO) (snd am3 [(2,.c 23 [.t 0 (roL .str),.t 3 roI] [] [])] Tryz.f251)
def am1:=am2.f (s:=Z5) (snd am2 [] Tryz.f321)
def am0:=am1.f (s:=P7) (snd am1 [(2,.c 41 [.t 0 (roL .origin),.t 3 roI] [] [])] Tryz.f298)
def afB:=am0.f (s:=ac0) (snd am0 [(10,.c 55 [.b 1 0 roI,.b 1 1 roI,.b 1 2 roI,.b 1 3 roS,.b 1 4 (roL .val),.b 1 5 (roL .str),.b 1 6 (roL .row),.t 3 roI,.b 4 0 (roL .int),.b 4 1 (roL .origin),.t 5 roI] [(1,7),(4,2)] [(1,1,0),(4,4,0)]),(4,.c 55 [.b 1 0 roI,.b 1 1 roI,.b 1 2 roI,.b 1 3 roS,.b 1 4 (roL .val),.b 1 5 (roL .str),.b 1 6 (roL .row),.t 3 roI] [(1,7)] [(1,1,0)])] Tryz.f270)
theorem IB(n:Int)(step:Int)(text:Str)(columns:List Str)(rows:List cO):aeE afB.1 [] Tryz.f250 iY.ps iY.rs iY.ex (⟨5,n,step,text,[],columns,rows⟩:aQ)=kG ⟨5,n,step,text,[],columns,rows⟩:=by kernel_rfl
theorem E5:Sound Tryz.prog iY:=
 Sound.weaken (f:=fun x=>aeE afB.1 [] Tryz.f250 iY.ps iY.rs iY.ex x) (zx afB.2 rU [] (fn:=Tryz.f250) (by kernel_rfl) fun x=>rfl) fun x y h=>by
  obtain⟨kind,n,step,text,list,columns,rows⟩:=x;cases a:((kind==5)&&list.isEmpty)with
  | false=>
   have h:(bif ((kind==5)&&list.isEmpty)then kG ⟨kind,n,step,text,list,columns,rows⟩else none)=some y:=h;rw[a]at h;cases h
  | true=>
   have h:(bif ((kind==5)&&list.isEmpty)then kG ⟨kind,n,step,text,list,columns,rows⟩else none)=some y:=h;rw[a]at h;simp only[zI,beq_iff_eq,List.isEmpty_iff]at a;obtain⟨h_kind,h_list⟩:=a;subst kind list;exact (IB n step text columns rows).trans h
def amZ:=afB.f E5
def amY:=amZ.f (s:=XG) (snd amZ [(4,.c 48 [.b 2 0 roI,.b 2 1 roI,.b 2 2 roI,.b 2 3 roS,.b 2 4 (owE .val 0),.b 2 5 (owE .str 1),.b 2 6 (owE .row 3),.t 4 (owE .str 4),.b 5 0 roI,.b 5 1 roI,.b 5 2 roI,.b 5 3 roS,.b 5 4 (owE .val 6),.b 5 5 (owE .str 7),.b 5 6 (owE .row 8),.t 6 roI] [(2,7),(5,7)] [(2,2,0),(5,5,0)])] Tryz.f218)
def amX:=amY.f (s:=X4) (snd amY [(6,.c 40 [.t 3 (owE .str 0),.t 4 (owE .str 1),.t 5 roI] [] [])] Tryz.f219)
def amW:=amX.f (s:=PO) (snd amX [(5,.c 39 [.t 0 roI,.b 4 0 roI,.b 4 1 roI,.b 4 2 roI,.b 4 3 roS,.b 4 4 (owE .val 0),.b 4 5 (owE .str 1),.b 4 6 (owE .row 2),.b 5 0 roI,.b 5 1 roI,.b 5 2 roI,.b 5 3 roS,.b 5 4 (owE .val 6),.b 5 5 (owE .str 7),.b 5 6 (owE .row 8),.t 6 roI] [(4,7),(5,7)] [(4,4,0),(5,5,0)])] Tryz.f220)
def amV:=amW.f (s:=QA) (snd amW [] Tryz.f166)
def amU:=amV.s (s:=UL) (ssd amV [(5,.c 27 [.b 1 0 (roL .cell),.t 3 (.own (.base .part) false true 0),.t 4 roI] [(1,1)] [(1,1,0)])] Tryz.f127)
def amT:=amU.f (s:=aar) (snd amU [(3,.c 34 [.t 0 (roL .part),.t 1 roS,.t 5 (owE .int 0),.t 6 roI] [] [])] Tryz.f167)
end
end Go.Proofs.YtngjomkjlonfpaaGreatDoor
