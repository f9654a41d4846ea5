import Derived.Test.YtbbmkcioplbhbaaGreatDoorDen0
/- The functions compute their models, by gen.py. -/
namespace Go.Proofs.YtbbmkcioplbhbaaGreatDoor
noncomputable section
open Go.Abs Go.Proofs
set_option maxRecDepth 100000
theorem Az:∀n,Sound Tryz.prog (L8 n)
 | 0=>(fun w S args x y h=>by cases h)
 | n+1=>
  have ih:=Az n
  snd (s:=L8 (n+1)) (kk66.f ih) [(5,.c 61 [.t 1 (roL .str),.b 2 0 roI,.b 2 1 roI,.b 2 2 roS,.b 2 3 (roL .expr),.t 5 (owE .str 0),.t 6 roI] [(2,4)] [(2,2,0)])] Tryz.f165
theorem PN:Sound Tryz.prog adr:=fun w S args x y h=>(Az (siz (α:=af) x.1+siz (α:=List Str) x.2+1)) w S args x y h
def kk67:=kk66.f PN
def kk68:=kk67.f (s:=XT) (snd kk67 [] Tryz.f121)
theorem vM:∀n,Sound Tryz.prog (Ff n)
 | 0=>(fun w S args x y h=>by cases h)
 | n+1=>
  have ih:=vM n
  snd (s:=Ff (n+1)) (kk68.f ih) [(4,.c 66 [.t 1 roS,.t 2 roS,.t 3 (roL .str),.b 4 0 roI,.b 4 1 roI,.b 4 2 roS,.b 4 3 (roL .expr),.t 9 roI] [(4,4)] [(4,4,0)])] Tryz.f207
theorem JW:Sound Tryz.prog XL:=fun w S args x y h=>(vM (siz (α:=af) x.1+siz (α:=List Str) x.2.2.2+1)) w S args x y h
def kk69:=kk68.f JW
def kk70:=kk69.f (s:=Uf) (snd kk69 [] Tryz.f166)
theorem AB:∀n,Sound Tryz.prog (MG n)
 | 0=>(fun w S args x y h=>by cases h)
 | n+1=>
  have ih:=AB n
  snd (s:=MG (n+1)) (kk70.f ih) [(3,.c 31 [.b 1 0 roI,.b 1 1 roI,.b 1 2 roS,.b 1 3 (roL .expr),.b 2 0 roI,.b 2 1 roI,.b 2 2 roS,.b 2 3 (owE .expr 0),.b 3 0 roI,.b 3 1 roI,.b 3 2 roS,.b 3 3 (owE .expr 4),.t 4 roI] [(1,4),(2,4),(3,4)] [(1,1,0),(2,2,0),(3,3,0)])] Tryz.f208
theorem Qb:Sound Tryz.prog adE:=fun w S args x y h=>(AB (siz (α:=af) x+1)) w S args x y h
def kk71:=kk70.f Qb
theorem vJ:∀n,Sound Tryz.prog (Fe n)
 | 0=>(fun w S args x y h=>by cases h)
 | n+1=>
  have ih:=vJ n
  snd (s:=Fe (n+1)) (kk71.f ih) [(5,.c 77 [.t 1 roS,.t 2 roS,.b 3 0 roI,.b 3 1 roI,.b 3 2 roS,.b 3 3 (roL .expr),.b 6 0 roI,.b 6 1 roI,.b 6 2 roS,.b 6 3 (owE .expr 0),.b 7 0 roI,.b 7 1 roI,.b 7 2 roS,.b 7 3 (owE .expr 1),.t 8 roI] [(3,4),(6,4),(7,4)] [(3,3,0),(6,6,0),(7,7,0)])] Tryz.f167
theorem JU:Sound Tryz.prog XK:=fun w S args x y h=>(vJ (siz (α:=af) x.1+1)) w S args x y h
def kk72:=kk71.f JU
def kk73:=kk72.f (s:=TR) (snd kk72 [] Tryz.f122)
def kk74:=kk73.f (s:=alz) (snd kk73 [(3,.c 27 [.t 0 (roL .str),.t 1 roS,.t 5 (owE .u8 0),.t 6 roI] [] [])] Tryz.f257)
def kk75:=kk74.f (s:=ac8) (snd kk74 [] Tryz.f211)
def al1:=kk75.f (s:=Z9) (snd kk75 [] Tryz.f213)
theorem ny:∀n,Sound Tryz.prog (Mc n)/\Sound Tryz.prog (Md n)/\Sound Tryz.prog (VJ n)
 | 0=>⟨(fun w S args x y h=>by cases h),(fun w S args x y h=>by cases h),(fun w S args x y h=>by cases h)⟩
 | n+1=>
  have ih:=ny n
  ⟨snd (s:=Mc (n+1)) (((al1.f ih.1).f ih.2.1).f ih.2.2) [] Tryz.f168,
  snd (s:=Md (n+1)) (((al1.f ih.1).f ih.2.1).f ih.2.2) [(3,.c 22 [.t 0 (roL .expr),.t 3 (owE .str 0),.t 4 roI] [] [])] Tryz.f210,
  snd (s:=VJ (n+1)) (((al1.f ih.1).f ih.2.1).f ih.2.2) [] Tryz.f212⟩
theorem PU:Sound Tryz.prog ads:=fun w S args x y h=>(ny (siz (α:=af) x+1)).1 w S args x y h
def kk77:=al1.f PU
theorem PW:Sound Tryz.prog adt:=fun w S args x y h=>(ny (siz (α:=List af) x+1)).2.1 w S args x y h
def kk78:=kk77.f PW
theorem XM:Sound Tryz.prog aiQ:=fun w S args x y h=>(ny (siz (α:=af) x.1+1)).2.2 w S args x y h
def kk79:=kk78.f XM
def kk80:=kk79.f (s:=Ug) (snd kk79 [] Tryz.f123)
def kk81:=kk80.f (s:=adb) (snd kk80 [] Tryz.f73)
def kk82:=kk81.f (s:=X0) (snd kk81 [(2,.c 52 [.t 1 (roL .op),.b 2 0 roI,.b 2 1 roI,.b 2 2 roI,.b 2 3 roI,.b 2 4 roI,.b 2 5 roS,.b 2 6 roS,.b 2 7 roI,.b 4 0 roI,.b 4 1 roI,.b 4 2 roI,.b 4 3 roI,.b 4 4 roI,.b 4 5 roS,.b 4 6 roS,.b 4 7 roI,.t 5 roI] [(2,8),(4,8)] [(2,2,0),(4,4,0)])] Tryz.f28)
def kk83:=kk82.f (s:=XY) (snd kk82 [(2,.c 22 [.t 1 roI,.b 2 0 (roL .cell),.t 5 roI] [(2,1)] [(2,2,0)])] Tryz.f31)
def kk84:=kk83.f (s:=Qi) (snd kk83 [(2,.c 23 [.t 0 roS,.t 3 roI] [] [])] Tryz.f124)
def kk85:=kk84.f (s:=Qh) (snd kk84 [] Tryz.f76)
def kk86:=kk85.f (s:=Gf) (snd kk85 [(2,.c 34 [.b 1 0 (roL .cell),.t 3 roI] [(1,1)] [(1,1,0)])] Tryz.f74)
def kk87:=kk86.f (s:=aiM) (snd kk86 [] Tryz.f127)
def kk88:=kk87.f (s:=agL) (snd kk87 [] Tryz.f77)
def kk89:=kk88.f (s:=adm) (snd kk88 [] Tryz.f78)
def kk90:=kk89.f (s:=adn) (snd kk89 [] Tryz.f79)
def kk91:=kk90.f (s:=XZ) (snd kk90 [] Tryz.f29)
def kk92:=kk91.f (s:=NF) (snd kk91 [] Tryz.f30)
def kk93:=kk92.f (s:=Uh) (snd kk92 [] Tryz.f215)
def kk94:=kk93.f (s:=PE) (snd kk93 [] Tryz.f216)
def kk95:=kk94.f (s:=aan) (snd kk94 [(4,.c 40 [.t 0 roS,.t 3 (owE .str 0),.t 4 roI,.t 5 roI] [] [])] Tryz.f258)
def kk96:=kk95.f (s:=Xy) (snd kk95 [(4,.c 36 [.t 0 roS,.t 1 (roE .u8),.t 5 (owE .str 0),.t 6 roI,.t 7 roI] [] [])] Tryz.f259)
def kk97:=kk96.f (s:=aai) (snd kk96 [] Tryz.f284)
def kk98:=kk97.f (s:=agO) (snd kk97 [(4,.c 45 [.t 1 roI,.t 6 (owE .int 0),.t 7 (owE .str 1),.t 8 roI] [] [])] Tryz.f260)
def kk99:=kk98.f (s:=Qk) (snd kk98 [(2,.c 18 [.t 0 (roL .str),.t 3 roI] [] [])] Tryz.f287)
def apx:=kk99.f (s:=XH) (snd kk99 [(2,.c 23 [.t 0 (roL .str),.t 3 roI] [] [])] Tryz.f262)
def apw:=apx.f (s:=aaj) (snd apx [] Tryz.f333)
def apv:=apw.f (s:=PL) (snd apw [(2,.c 41 [.t 0 (roL .origin),.t 3 roI] [] [])] Tryz.f306)
def afL:=apv.f (s:=adh) (snd apv [(10,.c 55 [.b 1 0 roI,.b 1 1 roI,.b 1 2 roI,.b 1 3 roS,.b 1 4 (roL .val),.b 1 5 (roL .str),.b 1 6 (roL .row),.t 3 roI,.b 4 0 (roL .int),.b 4 1 (roL .origin),.t 5 roI] [(1,7),(4,2)] [(1,1,0),(4,4,0)]),(4,.c 55 [.b 1 0 roI,.b 1 1 roI,.b 1 2 roI,.b 1 3 roS,.b 1 4 (roL .val),.b 1 5 (roL .str),.b 1 6 (roL .row),.t 3 roI] [(1,7)] [(1,1,0)])] Tryz.f286)
theorem Io(n:Int)(step:Int)(text:Str)(columns:List Str)(rows:List bD):aeO afL.1 [] Tryz.f261 iH.ps iH.rs iH.ex (⟨5,n,step,text,[],columns,rows⟩:aF)=jQ ⟨5,n,step,text,[],columns,rows⟩:=by kernel_rfl
theorem EW:Sound Tryz.prog iH:=
 Sound.weaken (f:=fun x=>aeO afL.1 [] Tryz.f261 iH.ps iH.rs iH.ex x) (yU afL.2 uF [] (fn:=Tryz.f261) (by kernel_rfl) fun x=>rfl) fun x y h=>by
  obtain⟨kind,n,step,text,list,columns,rows⟩:=x;cases a:((kind==5)&&list.isEmpty)with
  | false=>
   have h:(bif ((kind==5)&&list.isEmpty)then jQ ⟨kind,n,step,text,list,columns,rows⟩else none)=some y:=h;rw[a]at h;cases h
  | true=>
   have h:(bif ((kind==5)&&list.isEmpty)then jQ ⟨kind,n,step,text,list,columns,rows⟩else none)=some y:=h;rw[a]at h;simp only[zI,beq_iff_eq,List.isEmpty_iff]at a;obtain⟨h_kind,h_list⟩:=a;subst kind list;exact (Io n step text columns rows).trans h
def apu:=afL.f EW
def apt:=apu.f (s:=XE) (snd apu [(4,.c 48 [.b 2 0 roI,.b 2 1 roI,.b 2 2 roI,.b 2 3 roS,.b 2 4 (owE .val 0),.b 2 5 (owE .str 1),.b 2 6 (owE .row 3),.t 4 (owE .str 4),.b 5 0 roI,.b 5 1 roI,.b 5 2 roI,.b 5 3 roS,.b 5 4 (owE .val 6),.b 5 5 (owE .str 7),.b 5 6 (owE .row 8),.t 6 roI] [(2,7),(5,7)] [(2,2,0),(5,5,0)])] Tryz.f217)
def aps:=apt.f (s:=XW) (snd apt [(6,.c 40 [.t 3 (owE .str 0),.t 4 (owE .str 1),.t 5 roI] [] [])] Tryz.f218)
def apr:=aps.f (s:=Pz) (snd aps [(5,.c 39 [.t 0 roI,.b 4 0 roI,.b 4 1 roI,.b 4 2 roI,.b 4 3 roS,.b 4 4 (owE .val 0),.b 4 5 (owE .str 1),.b 4 6 (owE .row 2),.b 5 0 roI,.b 5 1 roI,.b 5 2 roI,.b 5 3 roS,.b 5 4 (owE .val 6),.b 5 5 (owE .str 7),.b 5 6 (owE .row 8),.t 6 roI] [(4,7),(5,7)] [(4,4,0),(5,5,0)])] Tryz.f219)
def apq:=apr.f (s:=Qj) (snd apr [] Tryz.f171)
def apo:=apq.s (s:=Ui) (ssd apq [(5,.c 27 [.b 1 0 (roL .cell),.t 3 (.own (.base .part) false true 0),.t 4 roI] [(1,1)] [(1,1,0)])] Tryz.f128)
def apn:=apo.f (s:=aav) (snd apo [(3,.c 34 [.t 0 (roL .part),.t 1 roS,.t 5 (owE .int 0),.t 6 roI] [] [])] Tryz.f172)
def apm:=apn.f (s:=ac2) (snd apn [] Tryz.f130)
def apl:=apm.f (s:=agC) (snd apm [] Tryz.f131)
def apk:=apl.f (s:=aak) (snd apl [(5,.c 48 [.t 0 (roL .part),.t 1 roS,.t 2 roS,.t 7 roI,.t 8 roI] [] [])] Tryz.f129)
def apj:=apk.f (s:=Ic) (snd apk [(10,.c 120 [.t 1 roS,.t 2 roS,.b 3 0 (roL .cell),.b 6 0 (owE .cell 0),.b 8 0 (owE .cell 1),.t 9 (.own (.base .part) false true 2),.t 10 roI,.t 11 roI] [(3,1),(6,1),(8,1)] [(3,3,0),(6,6,0),(8,8,0)])] Tryz.f80)
def aph:=apj.f (s:=XG) (snd apj [(8,.c 55 [.b 3 0 (roL .cell),.b 6 0 (owE .cell 0),.b 10 0 (owE .cell 1),.t 11 roI,.t 12 roI] [(3,1),(6,1),(10,1)] [(3,3,0),(6,6,0),(10,10,0)]),(3,.c 55 [.t 1 roS,.t 2 roS,.b 3 0 (roL .cell),.b 6 0 (owE .cell 0),.b 8 0 (owE .cell 1),.t 9 roI] [(3,1),(6,1),(8,1)] [(3,3,0),(6,6,0),(8,8,0)])] Tryz.f32)
def apg:=aph.f (s:=aiL) (snd aph [(2,.c 31 [.t 0 (roL .tape),.t 1 roI,.t 2 roI,.t 7 roI] [] [])] Tryz.f82)
def apf:=apg.f (s:=adp) (snd apg [] Tryz.f174)
def ape:=apf.f (s:=aau) (snd apf [(2,.c 26 [.t 0 (roL .read),.b 3 0 roI,.b 3 1 roI,.b 3 2 roI,.b 3 3 roS,.b 3 4 roI,.b 3 5 roI,.b 3 6 roI,.b 3 7 roS,.b 3 8 (roL .val),.b 3 9 (roL .str),.b 3 10 (roL .row),.b 4 0 roI,.b 4 1 roI,.b 4 2 roI,.b 4 3 roS,.b 4 4 (owE .val 0),.b 4 5 (owE .str 1),.b 4 6 (owE .row 2),.t 6 roI] [(3,11),(4,7)] [(3,3,0),(4,4,0)])] Tryz.f133)
def apd:=ape.f (s:=TS) (snd ape [(3,.c 37 [.t 1 (roL .read),.t 5 (owE .read 0),.t 6 roI] [] [])] Tryz.f83)
def apc:=apd.f (s:=XI) (snd apd [] Tryz.f84)
def apb:=apc.f (s:=ac4) (snd (apc.cuts [(12,9,12,71,70)]) [(10,.c 73 [.t 9 (owE .tape 0),.b 11 0 roI,.b 11 1 roI,.b 11 2 (owE .read 1),.t 12 roI] [(11,3)] [(11,11,0)])] Tryz.f34)
def apa:=apb.f (s:=Z5) (snd apb [] Tryz.f8)
def ao9:=apa.f (s:=aij) (snd apa [(3,.c 22 [.t 0 (roL .int),.t 3 (owE .int 0),.t 4 roI] [] [])] Tryz.f37)
def ao8:=ao9.f (s:=ail) (snd ao9 [] Tryz.f87)
def ao7:=ao8.f (s:=aik) (snd ao8 [] Tryz.f38)
def ao6:=ao7.f (s:=ZJ) (snd ao7 [(3,.c 22 [.t 0 (roL .str),.t 3 (owE .str 0),.t 4 roI] [] [])] Tryz.f176)
def ao5:=ao6.f (s:=acP) (snd ao6 [] Tryz.f288)
def ao4:=ao5.f (s:=ZM) (snd ao5 [(3,.c 23 [.t 0 (roL .origin),.t 3 (owE .origin 0),.t 4 roI] [] [])] Tryz.f263)
end
end Go.Proofs.YtbbmkcioplbhbaaGreatDoor
