import Derived.Test.YtbbmkcioplbhbaaGreatDoorDen0
/- The functions compute their models, by gen.py. -/
namespace Go.Proofs.YtbbmkcioplbhbaaGreatDoor
noncomputable section
open Go.Abs Go.Proofs
set_option maxRecDepth 100000
theorem Aj:∀n,Sound Tryz.prog (LZ n)
 | 0=>(fun w S args x y h=>by cases h)
 | n+1=>
  have ih:=Aj n
  snd (s:=LZ (n+1)) (kk66.f ih) [(5,.c 61 [.t 1 (roL .str),.b 2 0 roI,.b 2 1 roI,.b 2 2 roS,.b 2 3 (roL .expr),.t 5 (owE .str 0),.t 6 roI] [(2,4)] [(2,2,0)])] Tryz.f165
theorem Py:Sound Tryz.prog ac4:=fun w S args x y h=>(Aj (siz (α:=af) x.1+siz (α:=List Str) x.2+1)) w S args x y h
def kk67:=kk66.f Py
def kk68:=kk67.f (s:=XH) (snd kk67 [] Tryz.f121)
theorem vJ:∀n,Sound Tryz.prog (E8 n)
 | 0=>(fun w S args x y h=>by cases h)
 | n+1=>
  have ih:=vJ n
  snd (s:=E8 (n+1)) (kk68.f ih) [(4,.c 66 [.t 1 roS,.t 2 roS,.t 3 (roL .str),.b 4 0 roI,.b 4 1 roI,.b 4 2 roS,.b 4 3 (roL .expr),.t 9 roI] [(4,4)] [(4,4,0)])] Tryz.f207
theorem JU:Sound Tryz.prog XC:=fun w S args x y h=>(vJ (siz (α:=af) x.1+siz (α:=List Str) x.2.2.2+1)) w S args x y h
def kk69:=kk68.f JU
def kk70:=kk69.f (s:=Ub) (snd kk69 [] Tryz.f166)
theorem Am:∀n,Sound Tryz.prog (MC n)
 | 0=>(fun w S args x y h=>by cases h)
 | n+1=>
  have ih:=Am n
  snd (s:=MC (n+1)) (kk70.f ih) [(3,.c 31 [.b 1 0 roI,.b 1 1 roI,.b 1 2 roS,.b 1 3 (roL .expr),.b 2 0 roI,.b 2 1 roI,.b 2 2 roS,.b 2 3 (owE .expr 0),.b 3 0 roI,.b 3 1 roI,.b 3 2 roS,.b 3 3 (owE .expr 4),.t 4 roI] [(1,4),(2,4),(3,4)] [(1,1,0),(2,2,0),(3,3,0)])] Tryz.f208
theorem PY:Sound Tryz.prog adk:=fun w S args x y h=>(Am (siz (α:=af) x+1)) w S args x y h
def kk71:=kk70.f PY
theorem vH:∀n,Sound Tryz.prog (E5 n)
 | 0=>(fun w S args x y h=>by cases h)
 | n+1=>
  have ih:=vH n
  snd (s:=E5 (n+1)) (kk71.f ih) [(5,.c 77 [.t 1 roS,.t 2 roS,.b 3 0 roI,.b 3 1 roI,.b 3 2 roS,.b 3 3 (roL .expr),.b 6 0 roI,.b 6 1 roI,.b 6 2 roS,.b 6 3 (owE .expr 0),.b 7 0 roI,.b 7 1 roI,.b 7 2 roS,.b 7 3 (owE .expr 1),.t 8 roI] [(3,4),(6,4),(7,4)] [(3,3,0),(6,6,0),(7,7,0)])] Tryz.f167
theorem JR:Sound Tryz.prog XB:=fun w S args x y h=>(vH (siz (α:=af) x.1+1)) w S args x y h
def kk72:=kk71.f JR
def kk73:=kk72.f (s:=TP) (snd kk72 [] Tryz.f122)
def kk74:=kk73.f (s:=akM) (snd kk73 [(3,.c 27 [.t 0 (roL .str),.t 1 roS,.t 5 (owE .u8 0),.t 6 roI] [] [])] Tryz.f257)
def kk75:=kk74.f (s:=acP) (snd kk74 [] Tryz.f211)
def ale:=kk75.f (s:=ZR) (snd kk75 [] Tryz.f213)
theorem ni:∀n,Sound Tryz.prog (L8 n)/\Sound Tryz.prog (L9 n)/\Sound Tryz.prog (VE n)
 | 0=>⟨(fun w S args x y h=>by cases h),(fun w S args x y h=>by cases h),(fun w S args x y h=>by cases h)⟩
 | n+1=>
  have ih:=ni n
  ⟨snd (s:=L8 (n+1)) (((ale.f ih.1).f ih.2.1).f ih.2.2) [] Tryz.f168,
  snd (s:=L9 (n+1)) (((ale.f ih.1).f ih.2.1).f ih.2.2) [(3,.c 22 [.t 0 (roL .expr),.t 3 (owE .str 0),.t 4 roI] [] [])] Tryz.f210,
  snd (s:=VE (n+1)) (((ale.f ih.1).f ih.2.1).f ih.2.2) [] Tryz.f212⟩
theorem PD:Sound Tryz.prog ac5:=fun w S args x y h=>(ni (siz (α:=af) x+1)).1 w S args x y h
def kk77:=ale.f PD
theorem PG:Sound Tryz.prog ac6:=fun w S args x y h=>(ni (siz (α:=List af) x+1)).2.1 w S args x y h
def kk78:=kk77.f PG
theorem XD:Sound Tryz.prog aie:=fun w S args x y h=>(ni (siz (α:=af) x.1+1)).2.2 w S args x y h
def kk79:=kk78.f XD
def kk80:=kk79.f (s:=Uc) (snd kk79 [] Tryz.f123)
def kk81:=kk80.f (s:=acS) (snd kk80 [] Tryz.f73)
def kk82:=kk81.f (s:=XO) (snd kk81 [(2,.c 52 [.t 1 (roL .op),.b 2 0 roI,.b 2 1 roI,.b 2 2 roI,.b 2 3 roI,.b 2 4 roI,.b 2 5 roS,.b 2 6 roS,.b 2 7 roI,.b 4 0 roI,.b 4 1 roI,.b 4 2 roI,.b 4 3 roI,.b 4 4 roI,.b 4 5 roS,.b 4 6 roS,.b 4 7 roI,.t 5 roI] [(2,8),(4,8)] [(2,2,0),(4,4,0)])] Tryz.f28)
def kk83:=kk82.f (s:=XL) (snd kk82 [(2,.c 22 [.t 1 roI,.b 2 0 (roL .cell),.t 5 roI] [(2,1)] [(2,2,0)])] Tryz.f31)
def kk84:=kk83.f (s:=P9) (snd kk83 [(2,.c 23 [.t 0 roS,.t 3 roI] [] [])] Tryz.f124)
def kk85:=kk84.f (s:=P8) (snd kk84 [] Tryz.f76)
def kk86:=kk85.f (s:=F6) (snd kk85 [(2,.c 34 [.b 1 0 (roL .cell),.t 3 roI] [(1,1)] [(1,1,0)])] Tryz.f74)
def kk87:=kk86.f (s:=aia) (snd kk86 [] Tryz.f127)
def kk88:=kk87.f (s:=agd) (snd kk87 [] Tryz.f77)
def kk89:=kk88.f (s:=acZ) (snd kk88 [] Tryz.f78)
def kk90:=kk89.f (s:=ac0) (snd kk89 [] Tryz.f79)
def kk91:=kk90.f (s:=XM) (snd kk90 [] Tryz.f29)
def kk92:=kk91.f (s:=NE) (snd kk91 [] Tryz.f30)
def kk93:=kk92.f (s:=Ud) (snd kk92 [] Tryz.f215)
def kk94:=kk93.f (s:=Po) (snd kk93 [] Tryz.f216)
def kk95:=kk94.f (s:=Z7) (snd kk94 [(4,.c 40 [.t 0 roS,.t 3 (owE .str 0),.t 4 roI,.t 5 roI] [] [])] Tryz.f258)
def kk96:=kk95.f (s:=Xp) (snd kk95 [(4,.c 36 [.t 0 roS,.t 1 (roE .u8),.t 5 (owE .str 0),.t 6 roI,.t 7 roI] [] [])] Tryz.f259)
def kk97:=kk96.f (s:=ZW) (snd kk96 [] Tryz.f284)
def kk98:=kk97.f (s:=agi) (snd kk97 [(4,.c 45 [.t 1 roI,.t 6 (owE .int 0),.t 7 (owE .str 1),.t 8 roI] [] [])] Tryz.f260)
def kk99:=kk98.f (s:=Qb) (snd kk98 [(2,.c 18 [.t 0 (roL .str),.t 3 roI] [] [])] Tryz.f287)
def aow:=kk99.f (s:=Xy) (snd kk99 [(2,.c 23 [.t 0 (roL .str),.t 3 roI] [] [])] Tryz.f262)
def aov:=aow.f (s:=ZX) (snd aow [] Tryz.f333)
def aou:=aov.f (s:=Px) (snd aov [(2,.c 41 [.t 0 (roL .origin),.t 3 roI] [] [])] Tryz.f306)
def afg:=aou.f (s:=acV) (snd aou [(10,.c 55 [.b 1 0 roI,.b 1 1 roI,.b 1 2 roI,.b 1 3 roS,.b 1 4 (roL .val),.b 1 5 (roL .str),.b 1 6 (roL .row),.t 3 roI,.b 4 0 (roL .int),.b 4 1 (roL .origin),.t 5 roI] [(1,7),(4,2)] [(1,1,0),(4,4,0)]),(4,.c 55 [.b 1 0 roI,.b 1 1 roI,.b 1 2 roI,.b 1 3 roS,.b 1 4 (roL .val),.b 1 5 (roL .str),.b 1 6 (roL .row),.t 3 roI] [(1,7)] [(1,1,0)])] Tryz.f286)
theorem Ii(n:Int)(step:Int)(text:Str)(columns:List Str)(rows:List bD):aen afg.1 [] Tryz.f261 iG.ps iG.rs iG.ex (⟨5,n,step,text,[],columns,rows⟩:aC)=jL ⟨5,n,step,text,[],columns,rows⟩:=by kernel_rfl
theorem EP:Sound Tryz.prog iG:=
 Sound.weaken (f:=fun x=>aen afg.1 [] Tryz.f261 iG.ps iG.rs iG.ex x) (yR afg.2 uD [] (fn:=Tryz.f261) (by kernel_rfl) fun x=>rfl) fun x y h=>by
  obtain⟨kind,n,step,text,list,columns,rows⟩:=x;cases a:((kind==5)&&list.isEmpty)with
  | false=>
   have h:(bif ((kind==5)&&list.isEmpty)then jL ⟨kind,n,step,text,list,columns,rows⟩else none)=some y:=h;rw[a]at h;cases h
  | true=>
   have h:(bif ((kind==5)&&list.isEmpty)then jL ⟨kind,n,step,text,list,columns,rows⟩else none)=some y:=h;rw[a]at h;simp only[zI,beq_iff_eq,List.isEmpty_iff]at a;obtain⟨h_kind,h_list⟩:=a;subst kind list;exact (Ii n step text columns rows).trans h
def aot:=afg.f EP
def aos:=aot.f (s:=Xv) (snd aot [(4,.c 48 [.b 2 0 roI,.b 2 1 roI,.b 2 2 roI,.b 2 3 roS,.b 2 4 (owE .val 0),.b 2 5 (owE .str 1),.b 2 6 (owE .row 3),.t 4 (owE .str 4),.b 5 0 roI,.b 5 1 roI,.b 5 2 roI,.b 5 3 roS,.b 5 4 (owE .val 6),.b 5 5 (owE .str 7),.b 5 6 (owE .row 8),.t 6 roI] [(2,7),(5,7)] [(2,2,0),(5,5,0)])] Tryz.f217)
def aor:=aos.f (s:=XK) (snd aos [(6,.c 40 [.t 3 (owE .str 0),.t 4 (owE .str 1),.t 5 roI] [] [])] Tryz.f218)
def aoq:=aor.f (s:=Pm) (snd aor [(5,.c 39 [.t 0 roI,.b 4 0 roI,.b 4 1 roI,.b 4 2 roI,.b 4 3 roS,.b 4 4 (owE .val 0),.b 4 5 (owE .str 1),.b 4 6 (owE .row 2),.b 5 0 roI,.b 5 1 roI,.b 5 2 roI,.b 5 3 roS,.b 5 4 (owE .val 6),.b 5 5 (owE .str 7),.b 5 6 (owE .row 8),.t 6 roI] [(4,7),(5,7)] [(4,4,0),(5,5,0)])] Tryz.f219)
def aop:=aoq.f (s:=Qa) (snd aoq [] Tryz.f171)
def aoo:=aop.s (s:=Ue) (ssd aop [(5,.c 27 [.b 1 0 (roL .cell),.t 3 (.own (.base .part) false true 0),.t 4 roI] [(1,1)] [(1,1,0)])] Tryz.f128)
def aon:=aoo.f (s:=aah) (snd aoo [(3,.c 34 [.t 0 (roL .part),.t 1 roS,.t 5 (owE .int 0),.t 6 roI] [] [])] Tryz.f172)
def aom:=aon.f (s:=acJ) (snd aon [] Tryz.f130)
def aol:=aom.f (s:=af4) (snd aom [] Tryz.f131)
def aok:=aol.f (s:=ZY) (snd aol [(5,.c 48 [.t 0 (roL .part),.t 1 roS,.t 2 roS,.t 7 roI,.t 8 roI] [] [])] Tryz.f129)
def aoj:=aok.f (s:=H9) (snd aok [(10,.c 120 [.t 1 roS,.t 2 roS,.b 3 0 (roL .cell),.b 6 0 (owE .cell 0),.b 8 0 (owE .cell 1),.t 9 (.own (.base .part) false true 2),.t 10 roI,.t 11 roI] [(3,1),(6,1),(8,1)] [(3,3,0),(6,6,0),(8,8,0)])] Tryz.f80)
def aoi:=aoj.f (s:=Xx) (snd aoj [(8,.c 55 [.b 3 0 (roL .cell),.b 6 0 (owE .cell 0),.b 10 0 (owE .cell 1),.t 11 roI,.t 12 roI] [(3,1),(6,1),(10,1)] [(3,3,0),(6,6,0),(10,10,0)]),(3,.c 55 [.t 1 roS,.t 2 roS,.b 3 0 (roL .cell),.b 6 0 (owE .cell 0),.b 8 0 (owE .cell 1),.t 9 roI] [(3,1),(6,1),(8,1)] [(3,3,0),(6,6,0),(8,8,0)])] Tryz.f32)
def aoh:=aoi.f (s:=ah9) (snd aoi [(2,.c 31 [.t 0 (roL .tape),.t 1 roI,.t 2 roI,.t 7 roI] [] [])] Tryz.f82)
def aog:=aoh.f (s:=ac2) (snd aoh [] Tryz.f174)
def aof:=aog.f (s:=aag) (snd aog [(2,.c 26 [.t 0 (roL .read),.b 3 0 roI,.b 3 1 roI,.b 3 2 roI,.b 3 3 roS,.b 3 4 roI,.b 3 5 roI,.b 3 6 roI,.b 3 7 roS,.b 3 8 (roL .val),.b 3 9 (roL .str),.b 3 10 (roL .row),.b 4 0 roI,.b 4 1 roI,.b 4 2 roI,.b 4 3 roS,.b 4 4 (owE .val 0),.b 4 5 (owE .str 1),.b 4 6 (owE .row 2),.t 6 roI] [(3,11),(4,7)] [(3,3,0),(4,4,0)])] Tryz.f133)
def aoe:=aof.f (s:=TQ) (snd aof [(3,.c 37 [.t 1 (roL .read),.t 5 (owE .read 0),.t 6 roI] [] [])] Tryz.f83)
def aod:=aoe.f (s:=Xz) (snd aoe [] Tryz.f84)
def aoc:=aod.f (s:=acL) (snd (aod.cuts [(12,9,12,71,70)]) [(10,.c 73 [.t 9 (owE .tape 0),.b 11 0 roI,.b 11 1 roI,.b 11 2 (owE .read 1),.t 12 roI] [(11,3)] [(11,11,0)])] Tryz.f34)
def aob:=aoc.f (s:=ZO) (snd aoc [] Tryz.f8)
def aoa:=aob.f (s:=ahK) (snd aob [(3,.c 22 [.t 0 (roL .int),.t 3 (owE .int 0),.t 4 roI] [] [])] Tryz.f37)
def an9:=aoa.f (s:=ahM) (snd aoa [] Tryz.f87)
def an8:=an9.f (s:=ahL) (snd an9 [] Tryz.f38)
def an7:=an8.f (s:=Zv) (snd an8 [(3,.c 22 [.t 0 (roL .str),.t 3 (owE .str 0),.t 4 roI] [] [])] Tryz.f176)
def an6:=an7.f (s:=acv) (snd an7 [] Tryz.f288)
def an5:=an6.f (s:=Zy) (snd an6 [(3,.c 23 [.t 0 (roL .origin),.t 3 (owE .origin 0),.t 4 roI] [] [])] Tryz.f263)
end
end Go.Proofs.YtbbmkcioplbhbaaGreatDoor
