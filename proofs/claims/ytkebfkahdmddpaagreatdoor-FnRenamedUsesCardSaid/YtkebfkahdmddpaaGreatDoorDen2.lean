import Derived.Test.YtkebfkahdmddpaaGreatDoorSrtWalk
/- The functions compute their models, by gen.py. -/
namespace Go.Proofs.YtkebfkahdmddpaaGreatDoor
noncomputable section
open Go.Abs Go.Proofs
set_option maxRecDepth 100000
def ahZ:=ajn.f Iy
def ajm:=ahZ.f (s:=ace) (snd ahZ [] Tryz.f49)
def ahY:=ajm.f Gg
theorem wK:∀n,Sound Tryz.prog (Gp n)
 | 0=>(fun w S args x y h=>by cases h)
 | n+1=>
  have ih:=wK n
  snd (s:=Gp (n+1)) (ahY.f ih) [(3,.c 29 [.b 2 0 roI,.b 2 1 roI,.b 2 2 roS,.b 2 3 (owE .expr 0),.b 3 0 roI,.b 3 1 roI,.b 3 2 roS,.b 3 3 (owE .expr 4),.t 14 (roL .expr),.t 15 roI,.t 16 roI] [(2,4),(3,4)] [(2,2,0),(3,3,0)])] Tryz.f120
theorem J9:Sound Tryz.prog Xz:=fun w S args x y h=>(wK (siz (α:=af) x+1)) w S args x y h
def ahX:=ahY.f J9
theorem yP:∀n,Sound Tryz.prog (JF n)
 | 0=>(fun w S args x y h=>by cases h)
 | n+1=>
  have ih:=yP n
  snd (s:=JF (n+1)) (ahX.f ih) [(6,.c 74 [.t 1 roS,.t 2 roS,.b 6 0 roI,.b 6 1 roI,.b 6 2 roS,.b 6 3 (owE .expr 0),.b 7 0 roI,.b 7 1 roI,.b 7 2 roS,.b 7 3 (owE .expr 1),.t 8 (roE .bool),.t 44 (roL .expr),.t 45 roI,.t 46 roI] [(6,4),(7,4)] [(6,6,0),(7,7,0)])] Tryz.f80
theorem Oq:Sound Tryz.prog ZA:=fun w S args x y h=>(yP (siz (α:=af) x.1+1)) w S args x y h
def ahW:=ahX.f Oq
def ajl:=ahW.f (s:=Qj) (snd ahW [] Tryz.f51)
def ahV:=ajl.f Qe
def ajk:=ahV.f (s:=Va) (snd ahV [] Tryz.f121)
def ahU:=ajk.f Qd
def ahT:=ahU.f (s:=agl) (snd ahU [] Tryz.f159)
def aaL:=ahT.f (s:=ZE) (snd ahT [] Tryz.f123)
theorem oq:∀n,Sound Tryz.prog (Om n)/\Sound Tryz.prog (JE n)/\Sound Tryz.prog (Gj n)
 | 0=>⟨(fun w S args x y h=>by cases h),(fun w S args x y h=>by cases h),(fun w S args x y h=>by cases h)⟩
 | n+1=>
  have ih:=oq n
  ⟨snd (s:=Om (n+1)) (((aaL.f ih.1).f ih.2.1).f ih.2.2) [] Tryz.f81,
  snd (s:=JE (n+1)) (((aaL.f ih.1).f ih.2.1).f ih.2.2) [(3,.c 21 [.t 3 (owE .str 0),.t 7 (roL .expr),.t 8 roI,.t 9 roI] [] [])] Tryz.f122,
  snd (s:=Gj (n+1)) (((aaL.f ih.1).f ih.2.1).f ih.2.2) [] Tryz.f124⟩
theorem Qh:Sound Tryz.prog acj:=fun w S args x y h=>(oq (siz (α:=af) x+1)).1 w S args x y h
def ajj:=aaL.f Qh
theorem Oj:Sound Tryz.prog Zx:=fun w S args x y h=>(oq (siz (α:=List af) x+1)).2.1 w S args x y h
def aji:=ajj.f Oj
theorem J7:Sound Tryz.prog Xw:=fun w S args x y h=>(oq (siz (α:=af) x.1+1)).2.2 w S args x y h
def ahS:=aji.f J7
def ahR:=ahS.f (s:=Qu) (snd ahS [] Tryz.f52)
def ahQ:=ahR.f (s:=Xo) (snd ahR [(23,.c 156 [.t 1 roS,.t 2 roS,.t 3 (roE .bool),.b 4 0 (roL .cell),.b 8 0 (owE .cell 0),.b 16 0 (owE .cell 1),.t 17 (roE .bool),.t 96 (roL .part),.t 97 roI,.t 98 roI] [(4,1),(8,1),(16,1)] [(4,4,0),(8,8,0),(16,16,0)]),(10,.c 156 [.t 1 roS,.t 2 roS,.t 3 (roE .bool),.b 4 0 (roL .cell),.b 8 0 (owE .cell 0),.t 10 (roL .part),.t 11 roI,.t 12 (roE .bool),.t 13 (roE .bool),.t 54 (roL .part),.t 55 roI,.t 56 roI] [(4,1),(8,1)] [(4,4,0),(8,8,0)])] Tryz.f22)
def ahP:=ahQ.f (s:=F6) (snd ahQ [] Tryz.f6)
def ahO:=ahP.f (s:=Un) (snd ahP [(2,.c 22 [.t 1 roI,.b 2 0 (roL .cell),.t 5 roI] [(2,1)] [(2,2,0)])] Tryz.f37)
def ahN:=ahO.f (s:=MQ) (snd ahO [(2,.c 23 [.t 0 roS,.t 3 roI] [] [])] Tryz.f82)
def ahM:=ahN.f (s:=MO) (snd ahN [] Tryz.f53)
def ahL:=ahM.f (s:=DC) (snd ahM [(2,.c 34 [.b 1 0 (roL .cell),.t 3 roI] [(1,1)] [(1,1,0)])] Tryz.f25)
def ahK:=ahL.f (s:=abp) (snd ahL [(9,.c 63 [.t 0 roS,.t 6 (roE .bool),.t 7 roS,.t 8 roI,.t 9 roI] [] [])] Tryz.f167)
def ahJ:=ahK.f (s:=VL) (snd ahK [] Tryz.f133)
def ahI:=ahJ.f (s:=VP) (snd ahJ [] Tryz.f161)
def ahH:=ahI.f (s:=Yz) (snd ahI [] Tryz.f162)
def ahG:=ahH.f (s:=VO) (snd ahH [] Tryz.f163)
def ahF:=ahG.f (s:=abm) (snd ahG [(7,.c 136 [.t 0 roS,.t 1 roI,.b 4 0 roI,.b 4 1 roI,.b 4 2 roI,.b 4 3 roS,.b 6 0 roI,.b 6 1 roI,.b 6 2 roI,.b 6 3 roS,.t 7 roI] [(4,4),(6,4)] [(4,4,0),(6,6,0)]),(14,.c 136 [.t 0 roS,.t 1 roI,.b 4 0 roI,.b 4 1 roI,.b 4 2 roI,.b 4 3 roS,.b 6 0 roI,.b 6 1 roI,.b 6 2 roI,.b 6 3 roS,.t 7 roI] [(4,4),(6,4)] [(4,4,0),(6,6,0)]),(23,.c 136 [.t 0 roS,.t 1 roI,.b 4 0 roI,.b 4 1 roI,.b 4 2 roI,.b 4 3 roS,.b 6 0 roI,.b 6 1 roI,.b 6 2 roI,.b 6 3 roS,.t 7 roI] [(4,4),(6,4)] [(4,4,0),(6,6,0)])] Tryz.f128)
def ahE:=ahF.f (s:=VK) (snd ahF [(5,.c 46 [.t 0 roS,.t 4 (owE .token 0),.t 5 roI] [] [])] Tryz.f94)
def ahD:=ahE.f (s:=Wl) (snd ahE [] Tryz.f164)
def ahC:=ahD.f (s:=Ui) (snd ahD [] Tryz.f165)
def ahB:=ahC.b (s:=YO) (bnd ahC [] Tryz.f129)
def ahA:=ahB.b (s:=YQ) (bnd ahB [] Tryz.f96)
def ahz:=ahA.b (s:=YP) (bnd ahA [] Tryz.f130)
def N8:=ahz.b (s:=YN) (bnd ahz [] Tryz.f131)
theorem gW:∀n,fF Tryz.prog (Jh n)/\fF Tryz.prog (zQ n)/\fF Tryz.prog (Md n)/\fF Tryz.prog (zN n)/\fF Tryz.prog (Ji n)/\fF Tryz.prog (Jj n)
 | 0=>⟨(fun w S bb vs Et args x y h=>by cases h),(fun w S bb vs Et args x y h=>by cases h),(fun w S bb vs Et args x y h=>by cases h),(fun w S bb vs Et args x y h=>by cases h),(fun w S bb vs Et args x y h=>by cases h),(fun w S bb vs Et args x y h=>by cases h)⟩
 | n+1=>
  have ih:=gW n
  ⟨bnd (s:=Jh (n+1)) ((((((N8.b ih.1).b ih.2.1).b ih.2.2.1).b ih.2.2.2.1).b ih.2.2.2.2.1).b ih.2.2.2.2.2) [] Tryz.f95,
  bnd (s:=zQ (n+1)) ((((((N8.b ih.1).b ih.2.1).b ih.2.2.1).b ih.2.2.2.1).b ih.2.2.2.2.1).b ih.2.2.2.2.2) [] Tryz.f132,
  bnd (s:=Md (n+1)) ((((((N8.b ih.1).b ih.2.1).b ih.2.2.1).b ih.2.2.2.1).b ih.2.2.2.2.1).b ih.2.2.2.2.2) [(2,.c 29 [.b 0 0 (roL .token),.b 0 1 roI,.b 0 2 roI,.b 0 3 roI,.b 2 0 roI,.b 2 1 roI,.b 2 2 roS,.b 2 3 (owE .expr 0),.b 3 0 roI,.b 3 1 roI,.b 3 2 roS,.b 3 3 (roL .expr)] [(0,4),(2,4),(3,4)] [(0,0,0),(2,2,0),(3,3,0)])] Tryz.f166,
  bnd (s:=zN (n+1)) ((((((N8.b ih.1).b ih.2.1).b ih.2.2.1).b ih.2.2.2.1).b ih.2.2.2.2.1).b ih.2.2.2.2.2) [(2,.c 21 [.b 0 0 (roL .token),.b 0 1 roI,.b 0 2 roI,.b 0 3 roI,.b 2 0 roI,.b 2 1 roI,.b 2 2 roS,.b 2 3 (owE .expr 0),.b 3 0 roI,.b 3 1 roI,.b 3 2 roS,.b 3 3 (roL .expr)] [(0,4),(2,4),(3,4)] [(0,0,0),(2,2,0),(3,3,0)])] Tryz.f191,
  bnd (s:=Ji (n+1)) ((((((N8.b ih.1).b ih.2.1).b ih.2.2.1).b ih.2.2.2.1).b ih.2.2.2.2.1).b ih.2.2.2.2.2) [] Tryz.f209,
  bnd (s:=Jj (n+1)) ((((((N8.b ih.1).b ih.2.1).b ih.2.2.1).b ih.2.2.2.1).b ih.2.2.2.2.1).b ih.2.2.2.2.2) [(5,.c 44 [.b 0 0 (roL .token),.b 0 1 roI,.b 0 2 roI,.b 0 3 roI,.t 1 roS,.t 5 (.own (.base .expr) false true 0)] [(0,4)] [(0,0,0)])] Tryz.f236⟩
theorem Me:fF Tryz.prog YR:=fun w S bb vs Et args x y h=>(gW (siz (α:=GRd) x+1)).1 w S bb vs Et args x y h
def ajh:=N8.b Me
theorem Ff:fF Tryz.prog PG:=fun w S bb vs Et args x y h=>(gW (siz (α:=GRd) x+1)).2.1 w S bb vs Et args x y h
def ajg:=ajh.b Ff
theorem PD:fF Tryz.prog abx:=fun w S bb vs Et args x y h=>(gW (siz (α:=GRd) x+1)).2.2.1 w S bb vs Et args x y h
def ajf:=ajg.b PD
theorem Fb:fF Tryz.prog PE:=fun w S bb vs Et args x y h=>(gW (siz (α:=GRd) x+1)).2.2.2.1 w S bb vs Et args x y h
def aje:=ajf.b Fb
theorem MB:fF Tryz.prog YS:=fun w S bb vs Et args x y h=>(gW (siz (α:=GRd) x+1)).2.2.2.2.1 w S bb vs Et args x y h
def ajd:=aje.b MB
theorem MC:fF Tryz.prog YT:=fun w S bb vs Et args x y h=>(gW (siz (α:=GRd) x.1+1)).2.2.2.2.2 w S bb vs Et args x y h
def ahy:=ajd.b MC
def ahx:=ahy.f (s:=TS) (snd ahy [] Tryz.f60)
def ahw:=ahx.f (s:=PO) (snd ahx [] Tryz.f61)
def ahv:=ahw.f (s:=LU) (snd ahw [] Tryz.f62)
def ahu:=ahv.f (s:=V4) (snd ahv [(4,.c 40 [.t 0 roS,.t 3 (owE .str 0),.t 4 roI,.t 5 roI] [] [])] Tryz.f97)
def aht:=ahu.f (s:=VQ) (snd ahu [] Tryz.f134)
def ahs:=aht.f (s:=abw) (snd aht [(4,.c 45 [.t 1 roI,.t 6 (owE .int 0),.t 7 (owE .str 1),.t 8 roI] [] [])] Tryz.f99)
def ahr:=ahs.f (s:=MX) (snd ahs [(2,.c 18 [.t 0 (roL .str),.t 3 roI] [] [])] Tryz.f138)
def ahq:=ahr.f (s:=Ub) (snd ahr [(2,.c 23 [.t 0 (roL .str),.t 3 roI] [] [])] Tryz.f101)
def ahp:=ahq.f (s:=VR) (snd ahq [] Tryz.f192)
def aho:=ahp.f (s:=LZ) (snd ahp [(2,.c 41 [.t 0 (roL .origin),.t 3 roI] [] [])] Tryz.f170)
def aaK:=aho.f (s:=YA) (snd aho [(10,.c 55 [.b 1 0 roI,.b 1 1 roI,.b 1 2 roI,.b 1 3 roS,.b 1 4 (roL .val),.b 1 5 (roL .str),.b 1 6 (roL .row),.t 3 roI,.b 4 0 (roL .int),.b 4 1 (roL .origin),.t 5 roI] [(1,7),(4,2)] [(1,1,0),(4,4,0)]),(4,.c 55 [.b 1 0 roI,.b 1 1 roI,.b 1 2 roI,.b 1 3 roS,.b 1 4 (roL .val),.b 1 5 (roL .str),.b 1 6 (roL .row),.t 3 roI] [(1,7)] [(1,1,0)])] Tryz.f137)
theorem Fj(n:Int)(step:Int)(text:Str)(columns:List Str)(rows:List dm):ZO aaK.1 [] Tryz.f100 gX.ps gX.rs gX.ex (⟨5,n,step,text,[],columns,rows⟩:bJ)=jJ ⟨5,n,step,text,[],columns,rows⟩:=by kernel_rfl
theorem Cf:Sound Tryz.prog gX:=
 Sound.weaken (f:=fun x=>ZO aaK.1 [] Tryz.f100 gX.ps gX.rs gX.ex x) (xw aaK.2 qB [] (fn:=Tryz.f100) (by kernel_rfl) fun x=>rfl) fun x y h=>by
  obtain⟨kind,n,step,text,list,columns,rows⟩:=x;cases a:((kind==5)&&list.isEmpty)with
  | false=>
   have h:(bif ((kind==5)&&list.isEmpty)then jJ ⟨kind,n,step,text,list,columns,rows⟩else none)=some y:=h;rw[a]at h;cases h
  | true=>
   have h:(bif ((kind==5)&&list.isEmpty)then jJ ⟨kind,n,step,text,list,columns,rows⟩else none)=some y:=h;rw[a]at h;simp only[zI,beq_iff_eq,List.isEmpty_iff]at a;obtain⟨h_kind,h_list⟩:=a;subst kind list;exact (Fj n step text columns rows).trans h
def ahn:=aaK.f Cf
def ahm:=ahn.f (s:=TU) (snd ahn [(4,.c 48 [.b 2 0 roI,.b 2 1 roI,.b 2 2 roI,.b 2 3 roS,.b 2 4 (owE .val 0),.b 2 5 (owE .str 1),.b 2 6 (owE .row 3),.t 4 (owE .str 4),.b 5 0 roI,.b 5 1 roI,.b 5 2 roI,.b 5 3 roS,.b 5 4 (owE .val 6),.b 5 5 (owE .str 7),.b 5 6 (owE .row 8),.t 6 roI] [(2,7),(5,7)] [(2,2,0),(5,5,0)])] Tryz.f63)
def ahl:=ahm.f (s:=Um) (snd ahm [(6,.c 40 [.t 3 (owE .str 0),.t 4 (owE .str 1),.t 5 roI] [] [])] Tryz.f64)
def ahk:=ahl.f (s:=adn) (snd ahl [] Tryz.f139)
theorem zy:∀n,Sound Tryz.prog (LX n)
 | 0=>(fun w S args x y h=>by cases h)
 | n+1=>
  have ih:=zy n
  snd (s:=LX (n+1)) (ahk.f ih) [(7,.c 56 [.b 1 0 roI,.b 1 1 roI,.b 1 2 roI,.b 1 3 roS,.b 1 4 (roL .val),.b 1 5 (roL .str),.b 1 6 (roL .row),.b 2 0 roI,.b 2 1 roI,.b 2 2 roI,.b 2 3 roS,.b 2 4 (owE .val 0),.b 2 5 (owE .str 4),.b 2 6 (owE .row 5),.b 3 0 roI,.b 3 1 roI,.b 3 2 roI,.b 3 3 roS,.b 3 4 (owE .val 6),.b 3 5 (owE .str 7),.b 3 6 (owE .row 8),.t 5 roI] [(1,7),(2,7),(3,7)] [(1,1,0),(2,2,0),(3,3,0)]),(3,.c 56 [.b 1 0 roI,.b 1 1 roI,.b 1 2 roI,.b 1 3 roS,.b 1 4 (roL .val),.b 1 5 (roL .str),.b 1 6 (roL .row),.b 2 0 roI,.b 2 1 roI,.b 2 2 roI,.b 2 3 roS,.b 2 4 (owE .val 0),.b 2 5 (owE .str 4),.b 2 6 (owE .row 5),.b 3 0 roI,.b 3 1 roI,.b 3 2 roI,.b 3 3 roS,.b 3 4 (owE .val 6),.b 3 5 (owE .str 7),.b 3 6 (owE .row 8),.t 4 roI] [(1,7),(2,7),(3,7)] [(1,1,0),(2,2,0),(3,3,0)])] Tryz.f102
theorem Px:Sound Tryz.prog abn:=fun w S args x y h=>(zy (siz (α:=bJ) x+1)) w S args x y h
def ahj:=ahk.f Px
def ahi:=ahj.f (s:=LP) (snd ahj [(5,.c 39 [.t 0 roI,.b 4 0 roI,.b 4 1 roI,.b 4 2 roI,.b 4 3 roS,.b 4 4 (owE .val 0),.b 4 5 (owE .str 1),.b 4 6 (owE .row 2),.b 5 0 roI,.b 5 1 roI,.b 5 2 roI,.b 5 3 roS,.b 5 4 (owE .val 6),.b 5 5 (owE .str 7),.b 5 6 (owE .row 8),.t 6 roI] [(4,7),(5,7)] [(4,4,0),(5,5,0)])] Tryz.f65)
def ahh:=ahi.f (s:=MV) (snd ahi [] Tryz.f31)
def ahg:=ahh.s (s:=PV) (ssd ahh [(5,.c 27 [.b 1 0 (roL .cell),.t 3 (.own (.base .part) false true 0),.t 4 roI] [(1,1)] [(1,1,0)])] Tryz.f8)
def ahf:=ahg.f (s:=TQ) (snd (ahg.abQ [49,53]) [(6,.c 63 [.t 0 (roL .str),.t 3 (owE .str 0),.t 4 roI,.t 5 roI] [] []),(3,.c 63 [.t 0 (roL .str),.t 3 (owE .str 0),.t 4 roI] [] [])] Tryz.f66)
theorem yG:∀n,Sound Tryz.prog (Jd n)
 | 0=>(fun w S args x y h=>by cases h)
 | n+1=>
  have ih:=yG n
  snd (s:=Jd (n+1)) (ahf.f ih) [(5,.c 61 [.t 1 (roL .str),.b 2 0 roI,.b 2 1 roI,.b 2 2 roS,.b 2 3 (roL .expr),.t 5 (owE .str 0),.t 6 roI] [(2,4)] [(2,2,0)])] Tryz.f67
theorem L6:Sound Tryz.prog YK:=fun w S args x y h=>(yG (siz (α:=af) x.1+siz (α:=List Str) x.2+1)) w S args x y h
def ahe:=ahf.f L6
def ahd:=ahe.f (s:=Uj) (snd ahe [] Tryz.f32)
def ahc:=ahd.f (s:=abk) (snd ahd [] Tryz.f9)
def ahb:=ahc.f (s:=Wq) (snd ahc [(3,.c 34 [.t 0 (roL .part),.t 1 roS,.t 5 (owE .int 0),.t 6 roI] [] [])] Tryz.f15)
def aha:=ahb.f (s:=Yv) (snd ahb [] Tryz.f16)
def ag9:=aha.f (s:=YH) (snd aha [] Tryz.f24)
theorem uw:∀n,Sound Tryz.prog (CW n)
 | 0=>(fun w S args x y h=>by cases h)
 | n+1=>
  have ih:=uw n
  snd (s:=CW (n+1)) (ag9.f ih) [(4,.c 66 [.t 1 roS,.t 2 roS,.t 3 (roL .str),.b 4 0 roI,.b 4 1 roI,.b 4 2 roS,.b 4 3 (roL .expr),.t 9 roI] [(4,4)] [(4,4,0)])] Tryz.f84
theorem Hw:Sound Tryz.prog Uf:=fun w S args x y h=>(uw (siz (α:=af) x.1+siz (α:=List Str) x.2.2.2+1)) w S args x y h
def ag8:=ag9.f Hw
end
end Go.Proofs.YtkebfkahdmddpaaGreatDoor
