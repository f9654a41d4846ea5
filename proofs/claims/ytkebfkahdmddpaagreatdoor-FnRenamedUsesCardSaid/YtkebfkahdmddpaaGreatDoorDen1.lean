import Derived.Test.YtkebfkahdmddpaaGreatDoorDen0
/- The functions compute their models, by gen.py. -/
namespace Go.Proofs.YtkebfkahdmddpaaGreatDoor
noncomputable section
open Go.Abs Go.Proofs
set_option maxRecDepth 100000
def kk63:=kk62.f (s:=Oy) (snd kk62 [(2,.c 29 [.t 0 roS,.t 3 roI] [] [])] Tryz.f182)
def kk64:=kk63.f (s:=acn) (snd kk63 [] Tryz.f157)
theorem wL:∀n,Sound Tryz.prog (Gq n)
 | 0=>(fun w S args x y h=>by cases h)
 | n+1=>
  have ih:=wL n
  snd (s:=Gq (n+1)) (kk64.f ih) [(2,.c 18 [.b 1 0 roI,.b 1 1 roI,.b 1 2 roS,.b 1 3 (roL .expr),.t 6 (roL .expr),.t 7 roI,.t 8 roI] [(1,4)] [(1,1,0)])] Tryz.f119
theorem Ko:Sound Tryz.prog XD:=fun w S args x y h=>(wL (siz (α:=af) x+1)) w S args x y h
def kk65:=kk64.f Ko
def kk66:=kk65.f (s:=OA) (snd kk65 [] Tryz.f79)
def kk67:=kk66.f U3
def kk68:=kk67.f D7
def kk69:=kk68.f D8
def kk70:=kk69.f (s:=Zw) (snd kk69 [(4,.c 152 [.t 0 roS,.t 1 roI,.b 4 0 roI,.b 4 1 roI,.b 4 2 roI,.b 4 3 roS,.t 7 roI] [(4,4)] [(4,4,0)]),(8,.c 152 [.t 0 roS,.t 1 roI,.b 4 0 roI,.b 4 1 roI,.b 4 2 roI,.b 4 3 roS,.t 7 roI] [(4,4)] [(4,4,0)])] Tryz.f172)
def kk71:=kk70.f (s:=Xn) (snd kk70 [(5,.c 44 [.t 0 roS,.t 4 (owE .token 0),.t 5 roI] [] [])] Tryz.f148)
def kk72:=kk71.f (s:=Xq) (snd kk71 [] Tryz.f125)
def kk73:=kk72.f (s:=U8) (snd kk72 [] Tryz.f173)
def kk74:=kk73.b (s:=Qk) (bnd kk73 [] Tryz.f174)
def kk75:=kk74.b (s:=Qn) (bnd kk74 [] Tryz.f195)
def kk76:=kk75.b (s:=Qm) (bnd kk75 [] Tryz.f175)
def kk77:=kk76.f (s:=Xu) (snd kk76 [] Tryz.f196)
def kk78:=kk77.b (s:=Ql) (bnd kk77 [] Tryz.f176)
def ab3:=kk78.b (s:=J4) (bnd kk78 [] Tryz.f178)
theorem fP:∀n,fF Tryz.prog (Af n)/\fF Tryz.prog (Dh n)/\fF Tryz.prog (uH n)/\fF Tryz.prog (Ah n)/\fF Tryz.prog (yQ n)
 | 0=>⟨(fun w S bb vs Et args x y h=>by cases h),(fun w S bb vs Et args x y h=>by cases h),(fun w S bb vs Et args x y h=>by cases h),(fun w S bb vs Et args x y h=>by cases h),(fun w S bb vs Et args x y h=>by cases h)⟩
 | n+1=>
  have ih:=fP n
  ⟨bnd (s:=Af (n+1)) (((((ab3.b ih.1).b ih.2.1).b ih.2.2.1).b ih.2.2.2.1).b ih.2.2.2.2) [(28,.c 133 [.b 0 0 (roL .token),.b 0 1 roI,.b 0 2 roI,.b 2 0 roI,.b 2 1 roI,.b 2 2 roS,.b 2 3 (owE .expr 0),.b 6 0 roI,.b 6 1 roI,.b 6 2 roS,.b 6 3 (roL .expr),.t 115 (owE .int 1),.t 116 roI,.t 117 roI] [(0,3),(2,4),(6,4)] [(0,0,0),(2,2,0),(6,6,0)])] Tryz.f149,
  bnd (s:=Dh (n+1)) (((((ab3.b ih.1).b ih.2.1).b ih.2.2.1).b ih.2.2.2.1).b ih.2.2.2.2) [(2,.c 25 [.b 0 0 (roL .token),.b 0 1 roI,.b 0 2 roI,.b 2 0 roI,.b 2 1 roI,.b 2 2 roS,.b 2 3 (owE .expr 0),.b 3 0 roI,.b 3 1 roI,.b 3 2 roS,.b 3 3 (roL .expr)] [(0,3),(2,4),(3,4)] [(0,0,0),(2,2,0),(3,3,0)])] Tryz.f177,
  bnd (s:=uH (n+1)) (((((ab3.b ih.1).b ih.2.1).b ih.2.2.1).b ih.2.2.2.1).b ih.2.2.2.2) [(2,.c 14 [.b 0 0 (roL .token),.b 0 1 roI,.b 0 2 roI,.b 2 0 roI,.b 2 1 roI,.b 2 2 roS,.b 2 3 (owE .expr 0),.b 3 0 roI,.b 3 1 roI,.b 3 2 roS,.b 3 3 (roL .expr)] [(0,3),(2,4),(3,4)] [(0,0,0),(2,2,0),(3,3,0)])] Tryz.f197,
  bnd (s:=Ah (n+1)) (((((ab3.b ih.1).b ih.2.1).b ih.2.2.1).b ih.2.2.2.1).b ih.2.2.2.2) [] Tryz.f212,
  bnd (s:=yQ (n+1)) (((((ab3.b ih.1).b ih.2.1).b ih.2.2.1).b ih.2.2.2.1).b ih.2.2.2.2) [(4,.c 27 [.b 0 0 (roL .token),.b 0 1 roI,.b 0 2 roI,.t 1 roS,.t 5 (.own (.base .expr) false true 0)] [(0,3)] [(0,0,0)])] Tryz.f238⟩
theorem F7:fF Tryz.prog Qo:=fun w S bb vs Et args x y h=>(fP (siz (α:=aS) x+1)).1 w S bb vs Et args x y h
def kk80:=ab3.b F7
theorem Iq:fF Tryz.prog U1:=fun w S bb vs Et args x y h=>(fP (siz (α:=aS) x+1)).2.1 w S bb vs Et args x y h
def kk81:=kk80.b Iq
theorem Ae:fF Tryz.prog Ir:=fun w S bb vs Et args x y h=>(fP (siz (α:=aS) x+1)).2.2.1 w S bb vs Et args x y h
def kk82:=kk81.b Ae
theorem F8:fF Tryz.prog Qp:=fun w S bb vs Et args x y h=>(fP (siz (α:=aS) x+1)).2.2.2.1 w S bb vs Et args x y h
def kk83:=kk82.b F8
theorem Ea:fF Tryz.prog Ov:=fun w S bb vs Et args x y h=>(fP (siz (α:=aS) x.1+1)).2.2.2.2 w S bb vs Et args x y h
def kk84:=kk83.b Ea
def kk85:=kk84.f (s:=U4) (snd kk84 [] Tryz.f107)
theorem Gi:Sound Tryz.prog Qv:=snd kk85 [] Tryz.f108
def kk86:=kk85.f Gi
def kk87:=kk86.f NW
def kk88:=kk87.f (s:=UW) (snd kk87 [] Tryz.f151)
def kk89:=kk88.f (s:=ZH) (snd kk88 [(4,.c 38 [.t 1 roI,.t 7 (owE .int 0),.t 15 (owE .str 1),.t 16 roI,.t 17 roI] [] [])] Tryz.f152)
theorem Ap:Sound Tryz.prog ZG:=snd kk89 [(2,.c 19 [.t 1 roS,.t 7 (roL .str),.t 8 roI,.t 9 roI] [] [])] Tryz.f48
def kk90:=kk89.f Ap
def kk91:=kk90.f (s:=OH) (snd kk90 [(2,.c 18 [.t 0 (roL .str),.t 5 (roL .str),.t 6 roI,.t 7 roI] [] [])] Tryz.f185)
def kk92:=kk91.f (s:=Qz) (snd kk91 [(2,.c 22 [.t 0 (roL .str),.t 5 (roL .str),.t 6 roI,.t 7 roI] [] [])] Tryz.f154)
theorem J6:Sound Tryz.prog Xv:=snd kk92 [] Tryz.f181
def kk93:=kk92.f J6
def kk94:=kk93.f (s:=J5) (snd kk93 [] Tryz.f202)
def aga:=kk94.f (s:=ZF) (snd kk94 [(15,.c 77 [.b 1 0 roI,.b 1 1 roI,.b 1 2 roI,.b 1 3 roS,.b 1 4 (roL .val),.b 1 5 (roL .str),.b 1 6 (roL .row),.b 4 0 (roL .int),.b 4 1 (roL .origin),.t 20 (roL .row),.t 21 roI,.t 22 roI,.t 45 (roL .origin),.t 46 roI,.t 47 roI] [(1,7),(4,2)] [(1,1,0),(4,4,0)]),(9,.c 77 [.b 1 0 roI,.b 1 1 roI,.b 1 2 roI,.b 1 3 roS,.b 1 4 (roL .val),.b 1 5 (roL .str),.b 1 6 (roL .row),.b 4 0 (roL .int),.b 4 1 (roL .origin),.t 20 (roL .row),.t 21 roI,.t 22 roI,.t 34 (roL .int),.t 35 roI,.t 36 roI] [(1,7),(4,2)] [(1,1,0),(4,4,0)]),(4,.c 77 [.b 1 0 roI,.b 1 1 roI,.b 1 2 roI,.b 1 3 roS,.b 1 4 (roL .val),.b 1 5 (roL .str),.b 1 6 (roL .row),.t 20 (roL .row),.t 21 roI,.t 22 roI] [(1,7)] [(1,1,0)])] Tryz.f183)
theorem Gf(n:Int)(step:Int)(text:Str)(columns:List Str)(rows:List dm):ZO aga.1 [] Tryz.f153 gY.ps gY.rs gY.ex (⟨5,n,step,text,[],columns,rows⟩:bJ)=jM ⟨5,n,step,text,[],columns,rows⟩:=by kernel_rfl
theorem Ci:Sound Tryz.prog gY:=
 Sound.weaken (f:=fun x=>ZO aga.1 [] Tryz.f153 gY.ps gY.rs gY.ex x) (xw aga.2 qB [] (fn:=Tryz.f153) (by kernel_rfl) fun x=>rfl) fun x y h=>by
  obtain⟨kind,n,step,text,list,columns,rows⟩:=x;cases a:((kind==5)&&list.isEmpty)with
  | false=>
   have h:(bif ((kind==5)&&list.isEmpty)then jM ⟨kind,n,step,text,list,columns,rows⟩else none)=some y:=h;rw[a]at h;cases h
  | true=>
   have h:(bif ((kind==5)&&list.isEmpty)then jM ⟨kind,n,step,text,list,columns,rows⟩else none)=some y:=h;rw[a]at h;simp only[zI,beq_iff_eq,List.isEmpty_iff]at a;obtain⟨h_kind,h_list⟩:=a;subst kind list;exact (Gf n step text columns rows).trans h
def kk96:=aga.f Ci
def kk97:=kk96.f (s:=U5) (snd kk96 [(4,.c 48 [.b 2 0 roI,.b 2 1 roI,.b 2 2 roI,.b 2 3 roS,.b 2 4 (owE .val 0),.b 2 5 (owE .str 1),.b 2 6 (owE .row 3),.b 5 0 roI,.b 5 1 roI,.b 5 2 roI,.b 5 3 roS,.b 5 4 (owE .val 4),.b 5 5 (owE .str 6),.b 5 6 (owE .row 7),.t 18 (roL .str),.t 19 roI,.t 20 roI] [(2,7),(5,7)] [(2,2,0),(5,5,0)])] Tryz.f109)
def kk98:=kk97.f (s:=Vb) (snd kk97 [(9,.c 50 [.t 6 (owE .str 0),.t 27 (roL .str),.t 28 roI,.t 29 roI] [] [])] Tryz.f110)
def aiF:=kk98.f (s:=ZI) (snd kk98 [] Tryz.f187)
theorem ou:∀n,Sound Tryz.prog (Dl n)/\Sound Tryz.prog (Aq n)
 | 0=>⟨(fun w S args x y h=>by cases h),(fun w S args x y h=>by cases h)⟩
 | n+1=>
  have ih:=ou n
  ⟨snd (s:=Dl (n+1)) ((aiF.f ih.1).f ih.2) [(6,.c 33 [.b 2 0 roI,.b 2 1 roI,.b 2 2 roI,.b 2 3 roS,.b 2 4 (owE .val 0),.b 2 5 (owE .str 4),.b 2 6 (owE .row 6),.b 3 0 roI,.b 3 1 roI,.b 3 2 roI,.b 3 3 roS,.b 3 4 (owE .val 7),.b 3 5 (owE .str 8),.b 3 6 (owE .row 10),.t 18 (roL .row),.t 19 roI,.t 20 roI] [(2,7),(3,7)] [(2,2,0),(3,3,0)])] Tryz.f155,
  snd (s:=Aq (n+1)) ((aiF.f ih.1).f ih.2) [(3,.c 20 [.t 3 (owE .val 0),.t 7 (roL .val),.t 8 roI,.t 9 roI] [] [])] Tryz.f186⟩
theorem Iz:Sound Tryz.prog Vd:=fun w S args x y h=>(ou (siz (α:=bJ) x+1)).1 w S args x y h
def ajo:=aiF.f Iz
theorem Gl:Sound Tryz.prog Qw:=fun w S args x y h=>(ou (siz (α:=List bJ) x+1)).2 w S args x y h
def ah5:=ajo.f Gl
def ah4:=ah5.f (s:=Ol) (snd ah5 [(5,.c 39 [.t 0 roI,.b 4 0 roI,.b 4 1 roI,.b 4 2 roI,.b 4 3 roS,.b 4 4 (owE .val 0),.b 4 5 (owE .str 1),.b 4 6 (owE .row 2),.b 5 0 roI,.b 5 1 roI,.b 5 2 roI,.b 5 3 roS,.b 5 4 (owE .val 6),.b 5 5 (owE .str 7),.b 5 6 (owE .row 8),.t 24 roI,.t 25 roI] [(4,7),(5,7)] [(4,4,0),(5,5,0)])] Tryz.f111)
def ah3:=ah4.f (s:=OG) (snd ah4 [] Tryz.f72)
def ah2:=ah3.s (s:=Qx) (ssd ah3 [(5,.c 24 [.t 3 (.own (.base .part) false true 0),.t 11 (roL .cell),.t 12 roI,.t 13 roI] [] [])] Tryz.f43)
def ah1:=ah2.f (s:=Xx) (snd ah2 [(3,.c 31 [.t 1 roS,.t 5 (owE .int 0),.t 9 (roL .part),.t 10 roI,.t 11 roI] [] [])] Tryz.f47)
def ah0:=ah1.f (s:=Zz) (snd ah1 [] Tryz.f46)
theorem wC:Sound Tryz.prog UY:=snd (ah0.ins [pz] (by intro s a;simp only[List.mem_singleton]at a;subst a;exact⟨vZ,yX⟩)) [(3,.c 27 [.t 0 (roL .str),.t 3 (owE .str 0),.t 7 (roL .str),.t 8 roI,.t 9 roI] [] [])] Tryz.f116
def ajn:=ah0.f wC
end
end Go.Proofs.YtkebfkahdmddpaaGreatDoor
