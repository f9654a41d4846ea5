import Derived.Test.YtapgeemjgckgaaaGreatDoorDen0
/- The functions compute their models, by gen.py. -/
namespace Go.Proofs.YtapgeemjgckgaaaGreatDoor
noncomputable section
open Go.Abs Go.Proofs
set_option maxRecDepth 100000
def kk62:=kk61.s (s:=aim) (ssd kk61 [] Tryz.f258)
def kk63:=kk62.f (s:=agi) (snd kk62 [] Tryz.f327)
def adw:=kk63.f (s:=ac6) (snd kk63 [] Tryz.f328)
theorem iD:∀n,gQ Tryz.prog (LX n)/\gQ Tryz.prog (BL n)/\gQ Tryz.prog (Px n)/\gQ Tryz.prog (BJ n)/\gQ Tryz.prog (LY n)/\gQ Tryz.prog (LZ n)
 | 0=>⟨(fun w S bb vs Et args x y h=>by cases h),(fun w S bb vs Et args x y h=>by cases h),(fun w S bb vs Et args x y h=>by cases h),(fun w S bb vs Et args x y h=>by cases h),(fun w S bb vs Et args x y h=>by cases h),(fun w S bb vs Et args x y h=>by cases h)⟩
 | n+1=>
  have ih:=iD n
  ⟨bnd (s:=LX (n+1)) ((((((adw.b ih.1).b ih.2.1).b ih.2.2.1).b ih.2.2.2.1).b ih.2.2.2.2.1).b ih.2.2.2.2.2) [] Tryz.f192,
  bnd (s:=BL (n+1)) ((((((adw.b ih.1).b ih.2.1).b ih.2.2.1).b ih.2.2.2.1).b ih.2.2.2.2.1).b ih.2.2.2.2.2) [] Tryz.f231,
  bnd (s:=Px (n+1)) ((((((adw.b ih.1).b ih.2.1).b ih.2.2.1).b ih.2.2.2.1).b ih.2.2.2.2.1).b ih.2.2.2.2.2) [(2,.c 29 [.b 0 0 (roL .token),.b 0 1 roI,.b 0 2 roI,.b 0 3 roI,.b 2 0 roI,.b 2 1 roI,.b 2 2 roS,.b 2 3 (owE .expr 0),.b 3 0 roI,.b 3 1 roI,.b 3 2 roS,.b 3 3 (roL .expr)] [(0,4),(2,4),(3,4)] [(0,0,0),(2,2,0),(3,3,0)])] Tryz.f257,
  bnd (s:=BJ (n+1)) ((((((adw.b ih.1).b ih.2.1).b ih.2.2.1).b ih.2.2.2.1).b ih.2.2.2.2.1).b ih.2.2.2.2.2) [(2,.c 21 [.b 0 0 (roL .token),.b 0 1 roI,.b 0 2 roI,.b 0 3 roI,.b 2 0 roI,.b 2 1 roI,.b 2 2 roS,.b 2 3 (owE .expr 0),.b 3 0 roI,.b 3 1 roI,.b 3 2 roS,.b 3 3 (roL .expr)] [(0,4),(2,4),(3,4)] [(0,0,0),(2,2,0),(3,3,0)])] Tryz.f282,
  bnd (s:=LY (n+1)) ((((((adw.b ih.1).b ih.2.1).b ih.2.2.1).b ih.2.2.2.1).b ih.2.2.2.2.1).b ih.2.2.2.2.2) [] Tryz.f300,
  bnd (s:=LZ (n+1)) ((((((adw.b ih.1).b ih.2.1).b ih.2.2.1).b ih.2.2.2.1).b ih.2.2.2.2.1).b ih.2.2.2.2.2) [(5,.c 44 [.b 0 0 (roL .token),.b 0 1 roI,.b 0 2 roI,.b 0 3 roI,.t 1 roS,.t 5 (.own (.base .expr) false true 0)] [(0,4)] [(0,0,0)])] Tryz.f329⟩
theorem Pz:gQ Tryz.prog ac2:=fun w S bb vs Et args x y h=>(iD (siz (α:=GRd) x+1)).1 w S bb vs Et args x y h
def kk65:=adw.b Pz
theorem Ii:gQ Tryz.prog TJ:=fun w S bb vs Et args x y h=>(iD (siz (α:=GRd) x+1)).2.1 w S bb vs Et args x y h
def kk66:=kk65.b Ii
theorem TG:gQ Tryz.prog agh:=fun w S bb vs Et args x y h=>(iD (siz (α:=GRd) x+1)).2.2.1 w S bb vs Et args x y h
def kk67:=kk66.b TG
theorem Ih:gQ Tryz.prog TI:=fun w S bb vs Et args x y h=>(iD (siz (α:=GRd) x+1)).2.2.2.1 w S bb vs Et args x y h
def kk68:=kk67.b Ih
theorem PE:gQ Tryz.prog ac3:=fun w S bb vs Et args x y h=>(iD (siz (α:=GRd) x+1)).2.2.2.2.1 w S bb vs Et args x y h
def kk69:=kk68.b PE
theorem PG:gQ Tryz.prog ac4:=fun w S bb vs Et args x y h=>(iD (siz (α:=GRd) x.1+1)).2.2.2.2.2 w S bb vs Et args x y h
def kk70:=kk69.b PG
def kk71:=kk70.f (s:=Xc) (snd kk70 [] Tryz.f152)
def kk72:=kk71.f (s:=TP) (snd kk71 [] Tryz.f153)
def kk73:=kk72.f (s:=Pe) (snd kk72 [] Tryz.f154)
def kk74:=kk73.f (s:=ZL) (snd kk73 [(4,.c 40 [.t 0 roS,.t 3 (owE .str 0),.t 4 roI,.t 5 roI] [] [])] Tryz.f194)
def kk75:=kk74.f (s:=WZ) (snd kk74 [(4,.c 36 [.t 0 roS,.t 1 (roE .u8),.t 5 (owE .str 0),.t 6 roI,.t 7 roI] [] [])] Tryz.f195)
def kk76:=kk75.f (s:=ZF) (snd kk75 [] Tryz.f233)
def kk77:=kk76.f (s:=agf) (snd kk76 [(4,.c 45 [.t 1 roI,.t 6 (owE .int 0),.t 7 (owE .str 1),.t 8 roI] [] [])] Tryz.f196)
def kk78:=kk77.f (s:=P6) (snd kk77 [(2,.c 18 [.t 0 (roL .str),.t 3 roI] [] [])] Tryz.f237)
def kk79:=kk78.f (s:=Xf) (snd kk78 [(2,.c 23 [.t 0 (roL .str),.t 3 roI] [] [])] Tryz.f198)
def kk80:=kk79.f (s:=ZG) (snd kk79 [] Tryz.f283)
def kk81:=kk80.f (s:=Ph) (snd kk80 [(2,.c 41 [.t 0 (roL .origin),.t 3 roI] [] [])] Tryz.f262)
def ak2:=kk81.f (s:=acN) (snd kk81 [(10,.c 55 [.b 1 0 roI,.b 1 1 roI,.b 1 2 roI,.b 1 3 roS,.b 1 4 (roL .val),.b 1 5 (roL .str),.b 1 6 (roL .row),.t 3 roI,.b 4 0 (roL .int),.b 4 1 (roL .origin),.t 5 roI] [(1,7),(4,2)] [(1,1,0),(4,4,0)]),(4,.c 55 [.b 1 0 roI,.b 1 1 roI,.b 1 2 roI,.b 1 3 roS,.b 1 4 (roL .val),.b 1 5 (roL .str),.b 1 6 (roL .row),.t 3 roI] [(1,7)] [(1,1,0)])] Tryz.f236)
theorem Ij(n:Int)(step:Int)(text:Str)(columns:List Str)(rows:List bF):aef ak2.1 [] Tryz.f197 iE.ps iE.rs iE.ex (⟨5,n,step,text,[],columns,rows⟩:aC)=jL ⟨5,n,step,text,[],columns,rows⟩:=by kernel_rfl
theorem EQ:Sound Tryz.prog iE:=
 Sound.weaken (f:=fun x=>aef ak2.1 [] Tryz.f197 iE.ps iE.rs iE.ex x) (zi ak2.2 uw [] (fn:=Tryz.f197) (by kernel_rfl) fun x=>rfl) fun x y h=>by
  obtain⟨kind,n,step,text,list,columns,rows⟩:=x;cases a:((kind==5)&&list.isEmpty)with
  | false=>
   have h:(bif ((kind==5)&&list.isEmpty)then jL ⟨kind,n,step,text,list,columns,rows⟩else none)=some y:=h;rw[a]at h;cases h
  | true=>
   have h:(bif ((kind==5)&&list.isEmpty)then jL ⟨kind,n,step,text,list,columns,rows⟩else none)=some y:=h;rw[a]at h;simp only[zI,beq_iff_eq,List.isEmpty_iff]at a;obtain⟨h_kind,h_list⟩:=a;subst kind list;exact (Ij n step text columns rows).trans h
def kk83:=ak2.f EQ
def kk84:=kk83.f (s:=Xd) (snd kk83 [(4,.c 48 [.b 2 0 roI,.b 2 1 roI,.b 2 2 roI,.b 2 3 roS,.b 2 4 (owE .val 0),.b 2 5 (owE .str 1),.b 2 6 (owE .row 3),.t 4 (owE .str 4),.b 5 0 roI,.b 5 1 roI,.b 5 2 roI,.b 5 3 roS,.b 5 4 (owE .val 6),.b 5 5 (owE .str 7),.b 5 6 (owE .row 8),.t 6 roI] [(2,7),(5,7)] [(2,2,0),(5,5,0)])] Tryz.f155)
def kk85:=kk84.f (s:=Xu) (snd kk84 [(6,.c 40 [.t 3 (owE .str 0),.t 4 (owE .str 1),.t 5 roI] [] [])] Tryz.f156)
def kk86:=kk85.f (s:=O7) (snd kk85 [(5,.c 39 [.t 0 roI,.b 4 0 roI,.b 4 1 roI,.b 4 2 roI,.b 4 3 roS,.b 4 4 (owE .val 0),.b 4 5 (owE .str 1),.b 4 6 (owE .row 2),.b 5 0 roI,.b 5 1 roI,.b 5 2 roI,.b 5 3 roS,.b 5 4 (owE .val 6),.b 5 5 (owE .str 7),.b 5 6 (owE .row 8),.t 6 roI] [(4,7),(5,7)] [(4,4,0),(5,5,0)])] Tryz.f157)
def kk87:=kk86.f (s:=P5) (snd kk86 [] Tryz.f105)
def kk88:=kk87.s (s:=TR) (ssd kk87 [(5,.c 27 [.b 1 0 (roL .cell),.t 3 (.own (.base .part) false true 0),.t 4 roI] [(1,1)] [(1,1,0)])] Tryz.f53)
def kk89:=kk88.f (s:=ZV) (snd kk88 [(3,.c 34 [.t 0 (roL .part),.t 1 roS,.t 5 (owE .int 0),.t 6 roI] [] [])] Tryz.f107)
def kk90:=kk89.f (s:=acF) (snd kk89 [] Tryz.f55)
def kk91:=kk90.f (s:=W9) (snd (kk90.agv [49,53]) [(6,.c 63 [.t 0 (roL .str),.t 3 (owE .str 0),.t 4 roI,.t 5 roI] [] []),(3,.c 63 [.t 0 (roL .str),.t 3 (owE .str 0),.t 4 roI] [] [])] Tryz.f159)
theorem Az:∀n,Sound Tryz.prog (LQ n)
 | 0=>(fun w S args x y h=>by cases h)
 | n+1=>
  have ih:=Az n
  snd (s:=LQ (n+1)) (kk91.f ih) [(5,.c 61 [.t 1 (roL .str),.b 2 0 roI,.b 2 1 roI,.b 2 2 roS,.b 2 3 (roL .expr),.t 5 (owE .str 0),.t 6 roI] [(2,4)] [(2,2,0)])] Tryz.f160
theorem Pm:Sound Tryz.prog acV:=fun w S args x y h=>(Az (siz (α:=af) x.1+siz (α:=List Str) x.2+1)) w S args x y h
def kk92:=kk91.f Pm
def kk93:=kk92.f (s:=Xq) (snd kk92 [] Tryz.f108)
def kk94:=kk93.f (s:=af5) (snd kk93 [] Tryz.f57)
theorem vP:∀n,Sound Tryz.prog (E5 n)
 | 0=>(fun w S args x y h=>by cases h)
 | n+1=>
  have ih:=vP n
  snd (s:=E5 (n+1)) (kk94.f ih) [(4,.c 66 [.t 1 roS,.t 2 roS,.t 3 (roL .str),.b 4 0 roI,.b 4 1 roI,.b 4 2 roS,.b 4 3 (roL .expr),.t 9 roI] [(4,4)] [(4,4,0)])] Tryz.f158
theorem JX:Sound Tryz.prog Xl:=fun w S args x y h=>(vP (siz (α:=af) x.1+siz (α:=List Str) x.2.2.2+1)) w S args x y h
def kk95:=kk94.f JX
def kk96:=kk95.f (s:=TM) (snd kk95 [] Tryz.f106)
def kk97:=kk96.f (s:=ZH) (snd kk96 [(5,.c 48 [.t 0 (roL .part),.t 1 roS,.t 2 roS,.t 7 roI,.t 8 roI] [] [])] Tryz.f54)
theorem AB:∀n,Sound Tryz.prog (L8 n)
 | 0=>(fun w S args x y h=>by cases h)
 | n+1=>
  have ih:=AB n
  snd (s:=L8 (n+1)) (kk97.f ih) [(3,.c 31 [.b 1 0 roI,.b 1 1 roI,.b 1 2 roS,.b 1 3 (roL .expr),.b 2 0 roI,.b 2 1 roI,.b 2 2 roS,.b 2 3 (owE .expr 0),.b 3 0 roI,.b 3 1 roI,.b 3 2 roS,.b 3 3 (owE .expr 4),.t 4 roI] [(1,4),(2,4),(3,4)] [(1,1,0),(2,2,0),(3,3,0)])] Tryz.f164
theorem PN:Sound Tryz.prog ac8:=fun w S args x y h=>(AB (siz (α:=af) x+1)) w S args x y h
def kk98:=kk97.f PN
theorem vN:∀n,Sound Tryz.prog (EZ n)
 | 0=>(fun w S args x y h=>by cases h)
 | n+1=>
  have ih:=vN n
  snd (s:=EZ (n+1)) (kk98.f ih) [(5,.c 77 [.t 1 roS,.t 2 roS,.b 3 0 roI,.b 3 1 roI,.b 3 2 roS,.b 3 3 (roL .expr),.b 6 0 roI,.b 6 1 roI,.b 6 2 roS,.b 6 3 (owE .expr 0),.b 7 0 roI,.b 7 1 roI,.b 7 2 roS,.b 7 3 (owE .expr 1),.t 8 roI] [(3,4),(6,4),(7,4)] [(3,3,0),(6,6,0),(7,7,0)])] Tryz.f110
theorem JV:Sound Tryz.prog Xk:=fun w S args x y h=>(vN (siz (α:=af) x.1+1)) w S args x y h
def kk99:=kk98.f JV
def aoj:=kk99.f (s:=Tv) (snd kk99 [] Tryz.f58)
def aoi:=aoj.f (s:=akG) (snd aoj [(3,.c 27 [.t 0 (roL .str),.t 1 roS,.t 5 (owE .u8 0),.t 6 roI] [] [])] Tryz.f201)
def aoh:=aoi.f (s:=acL) (snd aoi [] Tryz.f167)
def ae8:=aoh.f (s:=ZA) (snd aoh [] Tryz.f169)
theorem ng:∀n,Sound Tryz.prog (LV n)/\Sound Tryz.prog (LW n)/\Sound Tryz.prog (Vu n)
 | 0=>⟨(fun w S args x y h=>by cases h),(fun w S args x y h=>by cases h),(fun w S args x y h=>by cases h)⟩
 | n+1=>
  have ih:=ng n
  ⟨snd (s:=LV (n+1)) (((ae8.f ih.1).f ih.2.1).f ih.2.2) [] Tryz.f111,
  snd (s:=LW (n+1)) (((ae8.f ih.1).f ih.2.1).f ih.2.2) [(3,.c 22 [.t 0 (roL .expr),.t 3 (owE .str 0),.t 4 roI] [] [])] Tryz.f166,
  snd (s:=Vu (n+1)) (((ae8.f ih.1).f ih.2.1).f ih.2.2) [] Tryz.f168⟩
theorem Po:Sound Tryz.prog acW:=fun w S args x y h=>(ng (siz (α:=af) x+1)).1 w S args x y h
def apz:=ae8.f Po
theorem Pv:Sound Tryz.prog acX:=fun w S args x y h=>(ng (siz (α:=List af) x+1)).2.1 w S args x y h
def apy:=apz.f Pv
theorem Xm:Sound Tryz.prog aij:=fun w S args x y h=>(ng (siz (α:=af) x.1+1)).2.2 w S args x y h
def aog:=apy.f Xm
def aof:=aog.f (s:=TN) (snd aog [] Tryz.f59)
def aoe:=aof.f (s:=H9) (snd aof [(10,.c 120 [.t 1 roS,.t 2 roS,.b 3 0 (roL .cell),.b 6 0 (owE .cell 0),.b 8 0 (owE .cell 1),.t 9 (.own (.base .part) false true 2),.t 10 roI,.t 11 roI] [(3,1),(6,1),(8,1)] [(3,3,0),(6,6,0),(8,8,0)])] Tryz.f16)
def aod:=aoe.f (s:=F9) (snd aoe [(3,.c 51 [.b 2 0 (roL .cell),.b 3 0 (roL .cell),.t 5 (owE .int 0),.t 6 roI] [(2,1),(3,1)] [(2,2,0),(3,3,0)])] Tryz.f18)
def aoc:=aod.f (s:=TD) (snd aod [] Tryz.f20)
def aob:=aoc.f (s:=aid) (snd aoc [(2,.c 31 [.t 0 (roL .tape),.t 1 roI,.t 2 roI,.t 7 roI] [] [])] Tryz.f112)
def aoa:=aob.f (s:=af6) (snd aob [] Tryz.f60)
def an9:=aoa.f (s:=acS) (snd aoa [] Tryz.f202)
def an8:=an9.f (s:=ZU) (snd an9 [(2,.c 26 [.t 0 (roL .read),.b 3 0 roI,.b 3 1 roI,.b 3 2 roI,.b 3 3 roS,.b 3 4 roI,.b 3 5 roI,.b 3 6 roI,.b 3 7 roS,.b 3 8 (roL .val),.b 3 9 (roL .str),.b 3 10 (roL .row),.b 4 0 roI,.b 4 1 roI,.b 4 2 roI,.b 4 3 roS,.b 4 4 (owE .val 0),.b 4 5 (owE .str 1),.b 4 6 (owE .row 2),.t 6 roI] [(3,11),(4,7)] [(3,3,0),(4,4,0)])] Tryz.f170)
def an7:=an8.f (s:=Tz) (snd an8 [(3,.c 37 [.t 1 (roL .read),.t 5 (owE .read 0),.t 6 roI] [] [])] Tryz.f113)
def an6:=an7.f (s:=Xh) (snd an7 [] Tryz.f114)
def an5:=an6.f (s:=acH) (snd (an6.cuts [(12,9,12,71,70)]) [(10,.c 73 [.t 9 (owE .tape 0),.b 11 0 roI,.b 11 1 roI,.b 11 2 (owE .read 1),.t 12 roI] [(11,3)] [(11,11,0)])] Tryz.f61)
def an4:=an5.s (s:=TB) (ssd an5 [(3,.c 40 [.t 0 (roL .tape),.t 1 roI,.t 2 roI,.t 7 (.own (.base .tape) false true 0),.t 8 roI] [] [])] Tryz.f62)
def an3:=an4.f (s:=O8) (snd an4 [(4,.c 58 [.b 4 0 (roL .cell),.b 5 0 (roL .cell),.t 7 (owE .tape 0),.t 8 (owE .int 1),.t 9 roI] [(4,1),(5,1)] [(4,4,0),(5,5,0)])] Tryz.f17)
def an2:=an3.f (s:=TQ) (snd an3 [(2,.c 22 [.t 1 roI,.b 2 0 (roL .cell),.b 2 1 roI,.b 2 2 roI,.b 2 3 (roL .file),.b 2 4 (roL .tape),.b 2 5 (roL .entry),.b 2 6 roI,.b 2 7 roI,.b 2 8 roI,.t 5 roI] [(2,9)] [(2,2,0)])] Tryz.f19)
def an1:=an2.f (s:=Ia) (snd an2 [(9,.c 83 [.b 3 0 (roL .cell),.b 3 1 roI,.b 3 2 roI,.b 3 3 (roL .file),.b 3 4 (roL .tape),.b 3 5 (roL .entry),.b 3 6 roI,.b 3 7 roI,.b 3 8 roI,.b 6 0 (owE .cell 0),.b 6 1 roI,.b 6 2 roI,.b 6 3 (owE .file 1),.b 6 4 (owE .tape 2),.b 6 5 (owE .entry 4),.b 6 6 roI,.b 6 7 roI,.b 6 8 roI,.b 8 0 (roL .cell),.b 8 1 roI,.b 8 2 roI,.b 8 3 (owE .file 5),.b 8 4 (owE .tape 7),.b 8 5 (owE .entry 10),.b 8 6 roI,.b 8 7 roI,.b 8 8 roI,.b 9 0 (roL .cell),.t 11 (owE .int 11),.t 12 roI] [(3,9),(6,9),(8,9),(9,1)] [(3,3,0),(6,6,0),(8,8,0),(9,9,0)])] Tryz.f5)
def an0:=an1.f (s:=ahO) (snd an1 [] Tryz.f115)
def anZ:=an0.f (s:=afK) (snd an0 [(3,.c 23 [.t 0 (roL .cell),.t 3 (owE .cell 0),.t 4 roI] [] [])] Tryz.f64)
def anY:=anZ.f (s:=WG) (snd anZ [] Tryz.f21)
def anX:=anY.f (s:=ahN) (snd anY [] Tryz.f116)
def anW:=anX.f (s:=afH) (snd anX [(3,.c 23 [.t 0 (roL .file),.t 3 (owE .file 0),.t 4 roI] [] [])] Tryz.f65)
def anV:=anW.f (s:=afz) (snd anW [] Tryz.f22)
def anU:=anV.f (s:=Zf) (snd anV [(3,.c 22 [.t 0 (roL .str),.t 3 (owE .str 0),.t 4 roI] [] [])] Tryz.f173)
end
end Go.Proofs.YtapgeemjgckgaaaGreatDoor
