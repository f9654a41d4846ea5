import Derived.Test.YtngjomkjlonfpaaGreatSrtMergeOps
/- The functions compute their models, by gen.py. -/
namespace Go.Proofs.YtngjomkjlonfpaaGreat
noncomputable section
open Go.Abs Go.Proofs
set_option maxRecDepth 100000
def kk81:=kk80.f (s:=Zy) (snd (kk80.so [wE] NE) [(7,{ n:=57,its:=[.b 5 0 (owE .op 0),.b 7 0 roI,.b 7 1 roI,.b 7 2 roI,.b 7 3 (roL .int),.b 7 4 roI,.b 7 5 roI,.b 7 6 roI,.b 7 7 roI,.b 7 8 roI,.b 7 9 roS,.b 7 10 roS,.b 7 11 roI,.b 7 12 roS,.b 7 13 roS,.b 7 14 roI,.b 7 15 roI,.b 7 16 (roL .read),.t 8 (roE .bool),.t 16 (.own (.base .op) false true 1),.t 17 roI,.t 18 roI,.t 23 roI,.t 24 roI],boxes:=[(5,1),(7,17)],ptrs:=[(5,5,0),(7,7,0)],als:=[(22,5,0)] }),(3,.c 57 [.b 5 0 (owE .op 0),.t 16 (.own (.base .op) false true 1),.t 17 roI,.t 18 roI] [(5,1)] [(5,5,0)])] Tryz.f11)
def kk82:=kk81.f (s:=afg) (snd kk81 [] Tryz.f29)
def kk83:=kk82.f (s:=Xp) (snd kk82 [(4,.c 81 [.b 1 0 roI,.b 1 1 roI,.b 1 2 roI,.b 1 3 (roL .int),.b 1 4 roI,.b 1 5 roI,.b 1 6 roI,.b 1 7 roI,.b 1 8 roI,.b 1 9 roS,.b 1 10 roS,.b 1 11 roI,.b 1 12 roS,.b 1 13 roS,.b 1 14 roI,.b 1 15 roI,.b 1 16 (roL .read),.t 25 (roL .int),.t 26 roI,.t 27 roI] [(1,17)] [(1,1,0)])] Tryz.f55)
def kk84:=kk83.f (s:=TS) (snd kk83 [(2,.c 33 [.t 0 (roL .op),.t 5 (roL .op),.t 6 roI,.t 7 roI] [] [])] Tryz.f30)
def kk85:=kk84.f (s:=Ji) (snd kk84 [] Tryz.f12)
def kk86:=kk85.f (s:=acp) (snd kk85 [(3,.c 20 [.t 3 (owE .op 0),.t 7 (roL .op),.t 8 roI,.t 9 roI] [] [])] Tryz.f43)
def kk87:=kk86.f (s:=Q8) (snd kk86 [] Tryz.f19)
def kk88:=kk87.f (s:=ajH) (snd kk87 [] Tryz.f6)
def kk89:=kk88.f (s:=aeE) (snd kk88 [(4,.c 26 [.t 0 (roL .int),.t 1 (roL .int),.t 5 roI] [] [])] Tryz.f48)
def kk90:=kk89.f (s:=abf) (snd kk89 [] Tryz.f73)
def kk91:=kk90.f (s:=aaZ) (snd kk90 [(4,.c 26 [.t 0 (roL .str),.t 1 (roL .str),.t 5 roI] [] [])] Tryz.f127)
def kk92:=kk91.f (s:=V9) (snd kk91 [(4,.c 26 [.t 0 (roL .origin),.t 1 (roL .origin),.t 5 roI] [] [])] Tryz.f128)
theorem BV:∀n,Sound Tryz.prog (O4 n)
 | 0=>(fun w S args x y h=>by cases h)
 | n+1=>
  have ih:=BV n
  snd (s:=O4 (n+1)) (kk92.f ih) [(9,.c 121 [.t 2 (roE .bool),.b 3 0 roI,.b 3 1 roI,.b 3 2 roI,.b 3 3 roS,.b 3 4 (roL .val),.b 3 5 (roL .str),.b 3 6 (roL .row),.b 4 0 roI,.b 4 1 roI,.b 4 2 roI,.b 4 3 roS,.b 4 4 (roL .val),.b 4 5 (roL .str),.b 4 6 (roL .row),.t 8 roI] [(3,7),(4,7)] [(3,3,0),(4,4,0)]),(4,.c 121 [.t 2 (roE .bool),.b 3 0 roI,.b 3 1 roI,.b 3 2 roI,.b 3 3 roS,.b 3 4 (roL .val),.b 3 5 (roL .str),.b 3 6 (roL .row),.b 4 0 roI,.b 4 1 roI,.b 4 2 roI,.b 4 3 roS,.b 4 4 (roL .val),.b 4 5 (roL .str),.b 4 6 (roL .row),.t 7 roI] [(3,7),(4,7)] [(3,3,0),(4,4,0)])] Tryz.f106
theorem SH:Sound Tryz.prog aev:=fun w S args x y h=>(BV (siz (α:=aS) x.1+siz (α:=aS) x.2.1+1)) w S args x y h
def kk93:=kk92.f SH
def kk94:=kk93.f (s:=Tn) (snd kk93 [] Tryz.f74)
def kk95:=kk94.f (s:=aaU) (snd kk94 [(4,.c 41 [.t 0 (roL .read),.t 1 (roL .read),.t 5 roI] [] [])] Tryz.f49)
def kk96:=kk95.f (s:=abE) (snd kk95 [] Tryz.f23)
def kk97:=kk96.f (s:=aej) (snd kk96 [(4,.c 27 [.t 0 (roL .op),.t 1 (roL .op),.t 5 roI] [] [])] Tryz.f8)
def kk98:=kk97.f (s:=acn) (snd kk97 [(3,.c 22 [.t 1 roI,.t 5 roI,.t 8 (roL .op),.t 9 roI,.t 10 roI] [] [])] Tryz.f24)
def kk99:=kk98.f (s:=TQ) (snd kk98 [(3,.c 52 [.t 1 (roL .int),.b 2 0 roI,.b 2 1 (roL .op),.t 5 (owE .op 0),.t 11 (roL .op),.t 12 roI,.t 13 roI] [(2,2)] [(2,2,0)])] Tryz.f9)
def alv:=kk99.f (s:=afl) (snd kk99 [(3,.c 18 [.b 1 0 roI,.b 1 1 (roL .op),.t 3 (owE .int 0),.t 4 roI] [(1,2)] [(1,1,0)])] Tryz.f10)
def alu:=alv.f (s:=J7) (snd alv [(4,.c 31 [.b 2 0 (roL .cell),.b 3 0 (roL .cell),.t 5 roI] [(2,1),(3,1)] [(2,2,0),(3,3,0)])] Tryz.f31)
def alr:=alu.f (s:=Yh) (snd alu [(4,.c 55 [.t 0 (roL .tape),.t 1 (roL .tape),.t 5 roI] [] [])] Tryz.f32)
def alq:=alr.f (s:=J8) (snd alr [] Tryz.f13)
def alp:=alq.f (s:=abD) (snd alq [] Tryz.f34)
def alo:=alp.f (s:=abb) (snd alp [] Tryz.f88)
def aln:=alo.f (s:=aa3) (snd alo [(3,.c 33 [.t 0 (roL .tape),.t 3 (owE .tape 0),.t 4 roI] [] [])] Tryz.f89)
def alm:=aln.f (s:=aaR) (snd aln [] Tryz.f58)
def alk:=alm.f (s:=Yg) (snd alm [] Tryz.f175)
def alj:=alk.f (s:=aaO) (snd alk [] Tryz.f176)
def ali:=alj.f (s:=aeA) (snd alj [(9,.c 63 [.t 0 roS,.t 6 (roE .bool),.t 7 roS,.t 8 roI,.t 9 roI] [] [])] Tryz.f188)
def alh:=ali.f (s:=X9) (snd ali [] Tryz.f177)
def alg:=alh.f (s:=Yf) (snd alh [] Tryz.f179)
def alf:=alg.f (s:=aep) (snd alg [(7,.c 136 [.t 0 roS,.t 1 roI,.b 4 0 roI,.b 4 1 roI,.b 4 2 roI,.b 4 3 roS,.b 6 0 roI,.b 6 1 roI,.b 6 2 roI,.b 6 3 roS,.t 7 roI] [(4,4),(6,4)] [(4,4,0),(6,6,0)]),(14,.c 136 [.t 0 roS,.t 1 roI,.b 4 0 roI,.b 4 1 roI,.b 4 2 roI,.b 4 3 roS,.b 6 0 roI,.b 6 1 roI,.b 6 2 roI,.b 6 3 roS,.t 7 roI] [(4,4),(6,4)] [(4,4,0),(6,6,0)]),(23,.c 136 [.t 0 roS,.t 1 roI,.b 4 0 roI,.b 4 1 roI,.b 4 2 roI,.b 4 3 roS,.b 6 0 roI,.b 6 1 roI,.b 6 2 roI,.b 6 3 roS,.t 7 roI] [(4,4),(6,4)] [(4,4,0),(6,6,0)])] Tryz.f155)
def ale:=alf.f (s:=X5) (snd alf [(5,.c 46 [.t 0 roS,.t 4 (owE .token 0),.t 5 roI] [] [])] Tryz.f130)
def ald:=ale.f (s:=YD) (snd ale [] Tryz.f180)
def alc:=ald.f (s:=Wv) (snd ald [] Tryz.f181)
def alb:=alc.b (s:=abn) (bnd alc [] Tryz.f156)
def ala:=alb.b (s:=abp) (bnd alb [] Tryz.f132)
def ak9:=ala.b (s:=abo) (bnd ala [] Tryz.f157)
def QH:=ak9.b (s:=abm) (bnd ak9 [] Tryz.f158)
theorem iQ:∀n,kT Tryz.prog (L8 n)/\kT Tryz.prog (CO n)/\kT Tryz.prog (Pn n)/\kT Tryz.prog (CG n)/\kT Tryz.prog (L9 n)/\kT Tryz.prog (Mc n)
 | 0=>⟨(fun w S bb vs Et args x y h=>by cases h),(fun w S bb vs Et args x y h=>by cases h),(fun w S bb vs Et args x y h=>by cases h),(fun w S bb vs Et args x y h=>by cases h),(fun w S bb vs Et args x y h=>by cases h),(fun w S bb vs Et args x y h=>by cases h)⟩
 | n+1=>
  have ih:=iQ n
  ⟨bnd (s:=L8 (n+1)) ((((((QH.b ih.1).b ih.2.1).b ih.2.2.1).b ih.2.2.2.1).b ih.2.2.2.2.1).b ih.2.2.2.2.2) [] Tryz.f131,
  bnd (s:=CO (n+1)) ((((((QH.b ih.1).b ih.2.1).b ih.2.2.1).b ih.2.2.2.1).b ih.2.2.2.2.1).b ih.2.2.2.2.2) [] Tryz.f159,
  bnd (s:=Pn (n+1)) ((((((QH.b ih.1).b ih.2.1).b ih.2.2.1).b ih.2.2.2.1).b ih.2.2.2.2.1).b ih.2.2.2.2.2) [(2,.c 29 [.b 0 0 (roL .token),.b 0 1 roI,.b 0 2 roI,.b 0 3 roI,.b 2 0 roI,.b 2 1 roI,.b 2 2 roS,.b 2 3 (owE .expr 0),.b 3 0 roI,.b 3 1 roI,.b 3 2 roS,.b 3 3 (roL .expr)] [(0,4),(2,4),(3,4)] [(0,0,0),(2,2,0),(3,3,0)])] Tryz.f182,
  bnd (s:=CG (n+1)) ((((((QH.b ih.1).b ih.2.1).b ih.2.2.1).b ih.2.2.2.1).b ih.2.2.2.2.1).b ih.2.2.2.2.2) [(2,.c 21 [.b 0 0 (roL .token),.b 0 1 roI,.b 0 2 roI,.b 0 3 roI,.b 2 0 roI,.b 2 1 roI,.b 2 2 roS,.b 2 3 (owE .expr 0),.b 3 0 roI,.b 3 1 roI,.b 3 2 roS,.b 3 3 (roL .expr)] [(0,4),(2,4),(3,4)] [(0,0,0),(2,2,0),(3,3,0)])] Tryz.f189,
  bnd (s:=L9 (n+1)) ((((((QH.b ih.1).b ih.2.1).b ih.2.2.1).b ih.2.2.2.1).b ih.2.2.2.2.1).b ih.2.2.2.2.2) [] Tryz.f195,
  bnd (s:=Mc (n+1)) ((((((QH.b ih.1).b ih.2.1).b ih.2.2.1).b ih.2.2.2.1).b ih.2.2.2.2.1).b ih.2.2.2.2.2) [(5,.c 44 [.b 0 0 (roL .token),.b 0 1 roI,.b 0 2 roI,.b 0 3 roI,.t 1 roS,.t 5 (.own (.base .expr) false true 0)] [(0,4)] [(0,0,0)])] Tryz.f199⟩
theorem Pq:kT Tryz.prog abq:=fun w S bb vs Et args x y h=>(iQ (siz (α:=GRd) x+1)).1 w S bb vs Et args x y h
def amE:=QH.b Pq
theorem Ia:kT Tryz.prog SY:=fun w S bb vs Et args x y h=>(iQ (siz (α:=GRd) x+1)).2.1 w S bb vs Et args x y h
def amD:=amE.b Ia
theorem SS:kT Tryz.prog aeH:=fun w S bb vs Et args x y h=>(iQ (siz (α:=GRd) x+1)).2.2.1 w S bb vs Et args x y h
def amC:=amD.b SS
theorem H9:kT Tryz.prog SV:=fun w S bb vs Et args x y h=>(iQ (siz (α:=GRd) x+1)).2.2.2.1 w S bb vs Et args x y h
def amB:=amC.b H9
theorem Px:kT Tryz.prog abr:=fun w S bb vs Et args x y h=>(iQ (siz (α:=GRd) x+1)).2.2.2.2.1 w S bb vs Et args x y h
def amA:=amB.b Px
theorem Py:kT Tryz.prog abt:=fun w S bb vs Et args x y h=>(iQ (siz (α:=GRd) x.1+1)).2.2.2.2.2 w S bb vs Et args x y h
def ak8:=amA.b Py
def ak7:=ak8.f (s:=VY) (snd ak8 [] Tryz.f110)
def ak6:=ak7.f (s:=VT) (snd (ak7.aeX [49,53]) [(6,.c 63 [.t 0 (roL .str),.t 3 (owE .str 0),.t 4 roI,.t 5 roI] [] []),(3,.c 63 [.t 0 (roL .str),.t 3 (owE .str 0),.t 4 roI] [] [])] Tryz.f134)
theorem A8:∀n,Sound Tryz.prog (LX n)
 | 0=>(fun w S args x y h=>by cases h)
 | n+1=>
  have ih:=A8 n
  snd (s:=LX (n+1)) (ak6.f ih) [(5,.c 61 [.t 1 (roL .str),.b 2 0 roI,.b 2 1 roI,.b 2 2 roS,.b 2 3 (roL .expr),.t 5 (owE .str 0),.t 6 roI] [(2,4)] [(2,2,0)])] Tryz.f135
theorem Pg:Sound Tryz.prog abj:=fun w S args x y h=>(A8 (siz (α:=af) x.1+siz (α:=List Str) x.2+1)) w S args x y h
def ak5:=ak6.f Pg
def ak4:=ak5.f (s:=Wx) (snd ak5 [] Tryz.f112)
theorem wJ:∀n,Sound Tryz.prog (EY n)
 | 0=>(fun w S args x y h=>by cases h)
 | n+1=>
  have ih:=wJ n
  snd (s:=EY (n+1)) (ak4.f ih) [(4,.c 66 [.t 1 roS,.t 2 roS,.t 3 (roL .str),.b 4 0 roI,.b 4 1 roI,.b 4 2 roS,.b 4 3 (roL .expr),.t 9 roI] [(4,4)] [(4,4,0)])] Tryz.f163
theorem J3:Sound Tryz.prog Wp:=fun w S args x y h=>(wJ (siz (α:=af) x.1+siz (α:=List Str) x.2.2.2+1)) w S args x y h
def ak3:=ak4.f J3
def ak2:=ak3.f (s:=Ti) (snd ak3 [] Tryz.f136)
theorem Bd:∀n,Sound Tryz.prog (MB n)
 | 0=>(fun w S args x y h=>by cases h)
 | n+1=>
  have ih:=Bd n
  snd (s:=MB (n+1)) (ak2.f ih) [(3,.c 31 [.b 1 0 roI,.b 1 1 roI,.b 1 2 roS,.b 1 3 (roL .expr),.b 2 0 roI,.b 2 1 roI,.b 2 2 roS,.b 2 3 (owE .expr 0),.b 3 0 roI,.b 3 1 roI,.b 3 2 roS,.b 3 3 (owE .expr 4),.t 4 roI] [(1,4),(2,4),(3,4)] [(1,1,0),(2,2,0),(3,3,0)])] Tryz.f164
theorem PG:Sound Tryz.prog abA:=fun w S args x y h=>(Bd (siz (α:=af) x+1)) w S args x y h
def ak1:=ak2.f PG
theorem wH:∀n,Sound Tryz.prog (EX n)
 | 0=>(fun w S args x y h=>by cases h)
 | n+1=>
  have ih:=wH n
  snd (s:=EX (n+1)) (ak1.f ih) [(5,.c 77 [.t 1 roS,.t 2 roS,.b 3 0 roI,.b 3 1 roI,.b 3 2 roS,.b 3 3 (roL .expr),.b 6 0 roI,.b 6 1 roI,.b 6 2 roS,.b 6 3 (owE .expr 0),.b 7 0 roI,.b 7 1 roI,.b 7 2 roS,.b 7 3 (owE .expr 1),.t 8 roI] [(3,4),(6,4),(7,4)] [(3,3,0),(6,6,0),(7,7,0)])] Tryz.f137
theorem JY:Sound Tryz.prog Wn:=fun w S args x y h=>(wH (siz (α:=af) x.1+1)) w S args x y h
def ak0:=ak1.f JY
def akZ:=ak0.f (s:=SB) (snd ak0 [] Tryz.f113)
def akY:=akZ.f (s:=aaS) (snd akZ [] Tryz.f90)
def akX:=akY.f (s:=WG) (snd akY [(2,.c 52 [.t 1 (roL .op),.b 2 0 roI,.b 2 1 roI,.b 2 2 roI,.b 2 3 roI,.b 2 4 roI,.b 2 5 roS,.b 2 6 roS,.b 2 7 roI,.b 4 0 roI,.b 4 1 roI,.b 4 2 roI,.b 4 3 roI,.b 4 4 roI,.b 4 5 roS,.b 4 6 roS,.b 4 7 roI,.t 5 roI] [(2,8),(4,8)] [(2,2,0),(4,4,0)])] Tryz.f59)
def akW:=akX.f (s:=WC) (snd akX [(2,.c 22 [.t 1 roI,.b 2 0 (roL .cell),.t 5 roI] [(2,1)] [(2,2,0)])] Tryz.f62)
def akV:=akW.f (s:=PV) (snd akW [(2,.c 23 [.t 0 roS,.t 3 roI] [] [])] Tryz.f115)
def akU:=akV.f (s:=PO) (snd akV [] Tryz.f92)
def akT:=akU.f (s:=FO) (snd akU [(2,.c 34 [.b 1 0 (roL .cell),.t 3 roI] [(1,1)] [(1,1,0)])] Tryz.f91)
def akS:=akT.f (s:=agj) (snd akT [] Tryz.f117)
def akR:=akS.f (s:=aez) (snd akS [] Tryz.f93)
def akQ:=akR.f (s:=aa5) (snd akR [] Tryz.f94)
def akP:=akQ.f (s:=aa6) (snd akQ [] Tryz.f95)
end
end Go.Proofs.YtngjomkjlonfpaaGreat
