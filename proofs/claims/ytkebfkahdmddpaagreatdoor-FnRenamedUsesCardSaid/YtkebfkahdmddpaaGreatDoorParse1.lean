import Derived.Test.YtkebfkahdmddpaaGreatDoorPlain1
set_option linter.unusedSimpArgs false
set_option linter.unusedVariables false
/- The two parsers: their states, and the steps that read a token. The two parsers alike: products, sums, lists. The two parsers alike: atoms, expressions. The two parsers alike: with enough fuel they come to the same end. ParseExpr alike, out of the same tokens. -/
namespace Go.Proofs.YtkebfkahdmddpaaGreatDoor
noncomputable section
open Go.Abs Go.Proofs
structure PS where
 i:Nat
 bad:Option Nat
def sK(toks:List aA)(stop:Int)(b:Nat):Int:=match toks[b]? with
 | some t=>t.pos
 | none=>stop
def encI(toks:List aA)(s:PS):aS:=⟨toks,s.i,match s.bad with | none=>-1 | some b=>b⟩
def encS(toks:List aA)(stop:Int)(s:PS):GRd:=⟨toks,s.i,stop,match s.bad with | none=>-1 | some b=>sK toks stop b⟩
def letter(s:Str):Bool:=match s with
 | c::_=>decide (97<=c.toNat/\c.toNat<=122)
 | []=>false
structure Td(t:aA):Prop where
 pos:0<=t.pos
 name:t.kind=1->letter t.text=true
 sym:t.kind=4->letter t.text=false
 len:t.text.length<=120
structure bI(toks:List aA)(stop:Int):Prop where
 all:∀t,t∈toks->Td t
 stop:0<=stop
 len:toks.length<=60
def sees(toks:List aA)(s:PS)(x:Str):Bool:=match s.bad with
 | some _=>false
 | none=>match toks[s.i]? with
  | some t=>(t.kind==4||t.kind==1)&&t.text==x
  | none=>false
def gy(s:PS):PS:=match s.bad with
 | some _=>s
 | none=>⟨s.i,some s.i⟩
def aU(s:PS):PS:=⟨s.i+1,s.bad⟩
def dU(toks:List aA)(s:PS)(x:Str):PS:=if sees toks s x=true then aU s else gy s
variable {toks:List aA} {stop:Int}
theorem jf(h:bI toks stop)(b:Nat):0<=sK toks stop b:=by
 unfold sK;cases a:toks[b]? with
 | none=>exact h.stop
 | some t=>exact (h.all t (zG a)).pos
theorem bD{s:PS}{x:Str}(h:sees toks s x=true):s.bad=none/\s.i<toks.length:=by
 unfold sees at h;cases a:s.bad with
 | some b=>rw[a]at h;cases h
 | none=>
  rw[a]at h;refine⟨rfl,?_⟩;cases c:toks[s.i]? with
  | none=>rw[c]at h;cases h
  | some t=>exact (zC.1 c).1
def aP(toks:List aA)(s:PS):aA:=match s.bad with
 | some _=>⟨0,0,0,[]⟩
 | none=>(toks[s.i]?).getD ⟨0,0,0,[]⟩
theorem wF(h:bI toks stop)(s:PS):eu (encI toks s)=some (encI toks s,aP toks s):=by
 obtain⟨i,bad⟩:=s;unfold eu aP encI;cases bad with
 | some b=>
  have e:decide ((b:Int)<0)=false:=by simp
  simp[e]
 | none=>
  simp only;by_cases hi:i<toks.length
  ·simp[au,hi,zF hi]
  ·have:toks[i]?=none:=zJ (by omega);simp[hi,this]
theorem aaO(t:aA)(x:Str):wH t x=some (t.kind==4&&t.text==x):=by
 unfold wH;by_cases h:t.kind==4<;>simp[h]
theorem aaP(t:aA)(x:Str):jy t x=some (t.kind==1&&t.text==x):=by
 unfold jy;by_cases h:t.kind==1<;>simp[h]
theorem aan(t:aA)(x:Str):gV t x=some (t.kind==4&&t.text==x):=by
 unfold gV;by_cases h:t.kind==4<;>simp[h]
theorem afD(t:aA)(x:Str):xE t x=some (t.kind==1&&t.text==x):=by
 unfold xE;by_cases h:t.kind==1<;>simp[h]
theorem DZ(s:PS)(x:Str):((aP toks s).kind==4&&(aP toks s).text==x||(aP toks s).kind==1&&(aP toks s).text==x)=sees toks s x:=by
 unfold aP sees;cases s.bad with
 | some b=>simp
 | none=>
  cases toks[s.i]? with
  | none=>simp
  | some t=>simp only[Option.getD_some];cases (t.kind==4)<;>cases (t.kind==1)<;>simp
theorem kW(h:bI toks stop)(s:PS):Td (aP toks s):=by
 have a:Td ⟨0,0,0,[]⟩:=⟨by simp,by simp,by simp,by simp⟩;unfold aP;cases s.bad with
 | some b=>exact a
 | none=>
  cases c:toks[s.i]? with
  | none=>exact a
  | some t=>exact h.all t (zG c)
theorem Oa(h:bI toks stop)(s:PS)(x:Str)(c:letter x=true):((aP toks s).kind==1&&(aP toks s).text==x)=sees toks s x:=by
 rw[<- DZ];have a:=kW h s;cases b:((aP toks s).kind==4&&(aP toks s).text==x)with
 | false=>simp
 | true=>
  simp only[zI,beq_iff_eq]at b;have:=a.sym b.1;rw[b.2,c]at this;cases this
theorem EG(h:bI toks stop)(s:PS)(x:Str)(c:letter x=false):((aP toks s).kind==4&&(aP toks s).text==x)=sees toks s x:=by
 rw[<- DZ];have a:=kW h s;cases b:((aP toks s).kind==1&&(aP toks s).text==x)with
 | false=>simp
 | true=>
  simp only[zI,beq_iff_eq]at b;have:=a.name b.1;rw[b.2,c]at this;cases this
theorem OD(s:PS):gJ (encI toks s)=some (encI toks (gy s),⟨0,0,[],[]⟩):=by
 obtain⟨i,bad⟩:=s;unfold gJ gy encI;cases bad with
 | some b=>
  have e:decide ((b:Int)<0)=false:=by simp
  simp[e]
 | none=>simp
theorem GX{n:Nat}(h:n<=60):w64 ((n:Int)+1)=((n+1:Nat):Int):=by rw[bK (by omega) (by omega)];rfl
theorem Aj{s:PS}(h:bI toks stop)(a:s.i<toks.length):(aS.mk (encI toks s).toks (w64 ((encI toks s).i+1)) (encI toks s).bad)=encI toks (aU s):=by
 have:=h.len;have e:w64 ((encI toks s).i+1)=((s.i+1:Nat):Int):=GX (by omega);rw[e];rfl
theorem jG{s:PS}(h:bI toks stop)(a:s.i<toks.length):(GRd.mk (encS toks stop s).toks (w64 ((encS toks stop s).i+1)) (encS toks stop s).stop (encS toks stop s).bad)=encS toks stop (aU s):=by
 have:=h.len;have e:w64 ((encS toks stop s).i+1)=((s.i+1:Nat):Int):=GX (by omega);rw[e];rfl
theorem jw(h:bI toks stop)(s:PS)(x:Str)(a:letter x=false):aV (encI toks s) x=some (encI toks (if sees toks s x=true then aU s else s),sees toks s x):=by
 unfold aV;rw[wF h];simp only[zA,aaO,EG h s x a];cases b:sees toks s x with
 | true=>simp only[ac,if_true];rw[Aj h (bD b).2]
 | false=>simp
theorem wG(h:bI toks stop)(s:PS)(x:Str):bQ (encI toks s) x=some (encI toks (dU toks s x)):=by
 unfold bQ dU;rw[wF h];simp only[zA,aaP,wF h,aaO,OD];have a:=DZ (toks:=toks) s x;cases b:((aP toks s).kind==1&&(aP toks s).text==x)with
 | true=>
  rw[b,Bool.or_true]at a;simp only[ac,<- a,if_true];rw[Aj h (bD a.symm).2]
 | false=>
  rw[b,Bool.or_false]at a;simp only[aa,a];cases c:sees toks s x with
  | true=>simp only[ac,if_true];rw[Aj h (bD c).2]
  | false=>simp
theorem gu(h:bI toks stop)(s:PS)(x:Str):dO (encS toks stop s) x=some (encS toks stop s,sees toks s x):=by
 obtain⟨i,bad⟩:=s;unfold dO sees encS;cases bad with
 | some b=>
  have:=jf h b;have e:decide (sK toks stop b<0)=false:=by simp;omega
  simp[e]
 | none=>
  simp only;by_cases hi:i<toks.length
  ·simp only[au,zF hi,zA,aan,afD];have a:decide ((-1:Int)<0)=true:=rfl;have c:decide ((i:Int)<(toks.length:Int))=true:=by simp;omega
   simp only[a,c,ac];cases (toks[i].kind==4)<;>cases (toks[i].kind==1)<;>cases (toks[i].text==x)<;>simp
  ·have:toks[i]?=none:=zJ (by omega);simp[hi,this]
theorem qp(h:bI toks stop)(s:PS):gZ (encS toks stop s)=some (encS toks stop (gy s),⟨0,0,[],[]⟩):=by
 obtain⟨i,bad⟩:=s;unfold gZ gy encS;cases bad with
 | some b=>
  have:=jf h b;have e:decide (sK toks stop b<0)=false:=by simp;omega
  simp[e]
 | none=>
  simp only;by_cases hi:i<toks.length
  ·simp[au,hi,zF hi,sK]
  ·have:toks[i]?=none:=zJ (by omega);simp[hi,this,sK]
theorem kD(h:bI toks stop)(s:PS)(x:Str):dV (encS toks stop s) x=some (encS toks stop (dU toks s x)):=by
 unfold dV dU;rw[gu h];simp only[zA,qp h];cases a:sees toks s x with
 | true=>simp only[aM,aa,if_true];rw[jG h (bD a).2]
 | false=>simp
def bZ(a:Str):Bool:=(aT a).getD false
theorem wz(a:Str)(b:a.length<=120):aT a=some (bZ a):=by
 obtain⟨v,h⟩:=lC a (by omega);unfold bZ;rw[h];rfl
theorem nJ(a:Str)(b:a.length<=120):aX a=some (bZ a):=by
 rw[<- nI a (by omega),wz a b]
def jZ(t:aA):Bool:=t.kind==1&&bZ t.text
def iI(toks:List aA)(s:PS):PS×Str:=if jZ (aP toks s)=true then (aU s,(aP toks s).text)else (gy s,[])
theorem qA{s:PS}(h:¬(aP toks s).kind=0):s.bad=none/\s.i<toks.length/\toks[s.i]?=some (aP toks s):=by
 unfold aP at h ⊢;cases a:s.bad with
 | some b=>rw[a]at h;exact absurd rfl h
 | none=>
  rw[a]at h;simp only at h ⊢;cases c:toks[s.i]? with
  | none=>rw[c]at h;exact absurd rfl h
  | some t=>exact⟨trivial,(zC.1 c).1,rfl⟩
theorem Ik{s:PS}(h:jZ (aP toks s)=true):s.bad=none/\s.i<toks.length/\toks[s.i]?=some (aP toks s):=by
 refine qA fun a=>?_
 unfold jZ at h;rw[a]at h;cases h
theorem Xr(h:bI toks stop)(s:PS):kZ (encI toks s)=some (encI toks (iI toks s).1,(iI toks s).2):=by
 unfold kZ iI;rw[wF h];have c:=kW h s;simp only[zA,OD,wz _ c.len];cases b:((aP toks s).kind==1)with
 | false=>
  have e:((aP toks s).kind != 1)=true:=by simp[bne,b]
  have a:jZ (aP toks s)=false:=by unfold jZ;rw[b];rfl
  rw[e,a];simp
 | true=>
  have e:((aP toks s).kind != 1)=false:=by simp[bne,b]
  rw[e];cases hv:bZ (aP toks s).text with
  | false=>
   have a:jZ (aP toks s)=false:=by unfold jZ;rw[b,hv];rfl
   rw[a];simp
  | true=>
   have a:jZ (aP toks s)=true:=by unfold jZ;rw[b,hv];rfl
   rw[a];simp only[aa,aM,if_true];rw[Aj h (Ik a).2.1]
theorem ER(h:bI toks stop)(s:PS):zO (encS toks stop s)=some (encS toks stop (iI toks s).1,(iI toks s).2):=by
 unfold zO iI;simp only[qp h];obtain⟨i,bad⟩:=s;cases bad with
 | some b=>
  have:=jf h b;have e:decide ((encS toks stop ⟨i,some b⟩).bad>=0)=true:=by simp[encS];omega
  have a:jZ (aP toks ⟨i,some b⟩)=false:=rfl;rw[e,a];simp
 | none=>
  have e:decide ((encS toks stop ⟨i,none⟩).bad>=0)=false:=by simp[encS]
  rw[e];by_cases hi:i<toks.length
  ·have g:decide ((encS toks stop ⟨i,none⟩).i>=((encS toks stop ⟨i,none⟩).toks.length:Int))=false:=by simp[encS];omega
   have f:toks[i]?=some (aP toks ⟨i,none⟩):=by simp[aP,zF hi]
   have j:idx (encS toks stop ⟨i,none⟩).toks (encS toks stop ⟨i,none⟩).i=some (aP toks ⟨i,none⟩):=by
    show idx toks (i:Int)=_
    rw[au,f]
   have hlen:=h.len;have c:idx (encS toks stop ⟨i,none⟩).toks (w64 (w64 ((encS toks stop ⟨i,none⟩).i+1)-1))=some (aP toks ⟨i,none⟩):=by
    have l:w64 (w64 ((encS toks stop ⟨i,none⟩).i+1)-1)=(i:Int):=by
     show w64 (w64 ((i:Int)+1)-1)=_
     rw[GX (by omega),bK (by omega) (by omega)];omega
    rw[l];show idx toks (i:Int)=_
    rw[au,f]
   have k:=kW h ⟨i,none⟩;rw[g];simp only[aa,j,c,zA,nJ _ k.len];cases d:((aP toks ⟨i,none⟩).kind==1)with
   | false=>
    have e:((aP toks ⟨i,none⟩).kind != 1)=true:=by simp[bne,d]
    have a:jZ (aP toks ⟨i,none⟩)=false:=by unfold jZ;rw[d];rfl
    rw[e,a];simp
   | true=>
    have e:((aP toks ⟨i,none⟩).kind != 1)=false:=by simp[bne,d]
    rw[e];cases hv:bZ (aP toks ⟨i,none⟩).text with
    | false=>
     have a:jZ (aP toks ⟨i,none⟩)=false:=by unfold jZ;rw[d,hv];rfl
     rw[a];simp
    | true=>
     have a:jZ (aP toks ⟨i,none⟩)=true:=by unfold jZ;rw[d,hv];rfl
     rw[a];simp only[aa,aM,if_true];rw[jG (s:=⟨i,none⟩) h hi]
  ·have g:decide ((encS toks stop ⟨i,none⟩).i>=((encS toks stop ⟨i,none⟩).toks.length:Int))=true:=by simp[encS];omega
   have f:toks[i]?=none:=zJ (by omega);have a:jZ (aP toks ⟨i,none⟩)=false:=by simp[aP,f,jZ]
   rw[g,a];simp
structure Adv(toks:List aA)(s s':PS):Prop where
 le:s.i<=s'.i
 len:s'.i<=toks.length
 bad:∀b,s.bad=some b->s'=s
theorem Adv.refl{s:PS}(h:s.i<=toks.length):Adv toks s s:=⟨az _,h,fun _ _=>rfl⟩
theorem Adv.trans{a b c:PS}(h:Adv toks a b)(k:Adv toks b c):Adv toks a c:=⟨Nat.le_trans h.le k.le,k.len,fun x d=>by
 have e:=h.bad x d;subst e;exact k.bad x d⟩
def rem(toks:List aA)(s:PS):Nat:=match s.bad with
 | some _=>0
 | none=>toks.length-s.i
theorem Adv.rem{s s':PS}(h:Adv toks s s'):rem toks s'<=rem toks s:=by
 cases a:s.bad with
 | some b=>rw[h.bad b a];exact az _
 | none=>
  have e:Go.Proofs.YtkebfkahdmddpaaGreatDoor.rem toks s=toks.length-s.i:=by unfold Go.Proofs.YtkebfkahdmddpaaGreatDoor.rem;rw[a]
  rw[e];have:=h.le;unfold Go.Proofs.YtkebfkahdmddpaaGreatDoor.rem;cases s'.bad with
  | some b=>exact Nat.zero_le _
  | none=>simp only;omega
theorem fC{s:PS}(a:s.bad=none)(hi:s.i<toks.length):Adv toks s (aU s)/\rem toks (aU s)+1=rem toks s:=by
 refine⟨⟨by simp[aU],hi,fun b h=>by rw[a]at h;cases h⟩,?_⟩;simp only[rem,aU,a];omega
theorem Gx{s:PS}(hi:s.i<=toks.length):Adv toks s (gy s):=by
 unfold gy;cases a:s.bad with
 | some b=>exact Adv.refl hi
 | none=>exact⟨az _,hi,fun b h=>by rw[a]at h;cases h⟩
theorem OL(s:PS):∃b,(gy s).bad=some b:=by
 unfold gy;cases a:s.bad with
 | some b=>exact⟨b,a⟩
 | none=>exact⟨s.i,rfl⟩
theorem qh{s:PS}{x:Str}(hi:s.i<=toks.length):Adv toks s (dU toks s x):=by
 unfold dU;split
 ·rename_i h;exact (fC (bD h).1 (bD h).2).1
 ·exact Gx hi
theorem WX{s:PS}(hi:s.i<=toks.length):Adv toks s (iI toks s).1:=by
 unfold iI;split
 ·rename_i h;exact (fC (Ik h).1 (Ik h).2.1).1
 ·exact Gx hi
variable {toks:List aA} {stop:Int}
mutual
def wtE:af->Nat
 | ⟨_,_,t,a⟩=>(if t.length<=120 then 1 else 18446744073709551616)+wtL a
def wtL:List af->Nat
 | []=>0
 | x::r=>wtE x+wtL r
end
theorem Dt(a b:List af):wtL (a++b)=wtL a+wtL b:=by
 induction a with
 | nil=>simp[wtL]
 | cons x r ih=>simp only[List.cons_append,wtL,ih];omega
theorem Bd{k n:Int}{t:Str}{a:List af}(h:t.length<=120):wtE ⟨k,n,t,a⟩=1+wtL a:=by simp[wtE,h]
theorem Bf{k n:Int}{a:List af}:wtE ⟨k,n,[],a⟩=1+wtL a:=by simp[wtE]
theorem ZX(x:af):wtL [x]=wtE x:=by simp[wtL]
theorem wX(x y:af):wtL [x,y]=wtE x+wtE y:=by simp[wtL]
theorem QM(x y z:af):wtL [x,y,z]=wtE x+(wtE y+wtE z):=by simp[wtL]
structure Wt where
 a:af->Nat
 p:af->Nat
 s:af->Nat
 c:af->Nat
 e:af->Nat
 l:List af->Nat
 o:List af->Nat
 leaf:∀(k n:Int) (x:Str),x.length<=120->k=1\/k=2\/k=3->a ⟨k,n,x,[]⟩<=1
 paren:∀x,a x<=e x+2
 lst:∀xs,a ⟨4,0,[],xs⟩<=l xs+1
 call:∀(x:Str) xs,x.length<=120->a ⟨5,0,x,xs⟩<=l xs+2
 ap:∀x,p x<=a x
 prod:∀x y,p ⟨6,3,[],[x,y]⟩<=p x+1+a y
 ps:∀x,s x<=p x
 sum:∀(k:Int) x y,k=1\/k=2->s ⟨6,k,[],[x,y]⟩<=s x+1+p y
 sc:∀x,c x<=s x
 cmp:∀(k:Int) x y,k=4\/k=5->c ⟨6,k,[],[x,y]⟩<=s x+1+s y
 ce:∀x,e x<=c x
 two:∀(k:Int) (t:Str) x y,k=7\/k=9->t.length<=120->e ⟨k,0,t,[x,y]⟩<=e x+e y+4
 three:∀x y z,e ⟨8,0,[],[x,y,z]⟩<=e x+e y+e z+3
 nil:l []<=1
 o0:o []=0
 up:∀xs x,o (xs++[x])<=o xs+e x+1
 ol:∀xs x,l (xs++[x])<=o (xs++[x])
def wtW:Wt where
 a:=wtE
 p:=wtE
 s:=wtE
 c:=wtE
 e:=wtE
 l:=wtL
 o:=wtL
 leaf:=fun k n x h _=>by rw[Bd h];simp[wtL]
 paren:=fun x=>by omega
 lst:=fun xs=>by rw[Bf];omega
 call:=fun x xs h=>by rw[Bd h];omega
 ap:=fun x=>az _
 prod:=fun x y=>by rw[Bf,wX];omega
 ps:=fun x=>az _
 sum:=fun k x y _=>by rw[Bf,wX];omega
 sc:=fun x=>az _
 cmp:=fun k x y _=>by rw[Bf,wX];omega
 ce:=fun x=>az _
 two:=fun k t x y _ h=>by rw[Bd h,wX];omega
 three:=fun x y z=>by rw[Bf,QM];omega
 nil:=by simp[wtL]
 o0:=rfl
 up:=fun xs x=>by rw[Dt,ZX];omega
 ol:=fun xs x=>az _
def Sim{α:Type}(w:α->Nat)(toks:List aA)(stop:Int)(f:aS->Option (aS×α))(g:GRd->Option (GRd×α))(s:PS):Prop:=
 ∃(s':PS) (x y:α),f (encI toks s)=some (encI toks s',x)/\g (encS toks stop s)=some (encS toks stop s',y)/\(s'.bad=none->x=y/\w x+s.i<=s'.i)/\Adv toks s s'
theorem jL(s:PS):(aU s).i=s.i+1:=rfl
theorem Sm{s:PS}(h:(gy s).bad=none):False:=by
 obtain⟨b,a⟩:=OL s;rw[a]at h;cases h
theorem zi{s:PS}{x:Str}(h:(dU toks s x).bad=none):(dU toks s x).i=s.i+1:=by
 unfold dU at h ⊢;split
 ·rfl
 ·rename_i a;rw[if_neg a]at h;exact (Sm h).elim
theorem aea{s:PS}(h:(iI toks s).1.bad=none):(iI toks s).1.i=s.i+1:=by
 unfold iI at h ⊢;split
 ·rfl
 ·rename_i a;rw[if_neg a]at h;exact (Sm h).elim
theorem aal{s:PS}{x y:Str}(h:sees toks s x=true)(a:x≠y):sees toks s y=false:=by
 unfold sees at h ⊢;cases c:s.bad with
 | some b=>rfl
 | none=>
  rw[c]at h;simp only at h ⊢;cases d:toks[s.i]? with
  | none=>rfl
  | some t=>
   rw[d]at h;simp only[zI,beq_iff_eq]at h ⊢;have:¬t.text=y:=by rw[h.2];exact a
   simp[this]
abbrev IX:=(List aA)×Int×Int×Int×Int×Str×(List af)×Int×Int×Str×(List af)
abbrev SX:=(List aA)×Int×Int×Int×Int×Int×Str×(List af)×Int×Int×Str×(List af)
def pkI(toks:List aA)(s:PS)(e:af):IX:=((encI toks s).toks,(encI toks s).i,(encI toks s).bad,0,0,[],[],e.kind,e.n,e.text,e.args)
def pkS(toks:List aA)(stop:Int)(s:PS)(e:af):SX:=((encS toks stop s).toks,(encS toks stop s).i,(encS toks stop s).stop,(encS toks stop s).bad,0,0,[],[],e.kind,e.n,e.text,e.args)
def aax(fa:aS->Option (aS×af)):IX->Option (IX⊕(aS×af)):=(fun (a:(List aA)×Int×Int×Int×Int×Str×(List af)×Int×Int×Str×(List af))=>
  (aV (aS.mk a.1 a.2.1 a.2.2.1) [42]).bind fun c=>
  bif c.2 then
   (fa c.1).bind fun b=>
   some (.inl (b.1.toks,b.1.i,b.1.bad,a.2.2.2.1,a.2.2.2.2.1,a.2.2.2.2.2.1,a.2.2.2.2.2.2.1,6,3,[],[af.mk a.2.2.2.2.2.2.2.1 a.2.2.2.2.2.2.2.2.1 a.2.2.2.2.2.2.2.2.2.1 a.2.2.2.2.2.2.2.2.2.2,ah b.2]))
  else
   some (.inr (c.1,af.mk a.2.2.2.2.2.2.2.1 a.2.2.2.2.2.2.2.2.1 a.2.2.2.2.2.2.2.2.2.1 a.2.2.2.2.2.2.2.2.2.2))
 )
def Rq(ga:GRd->Option (GRd×af)):SX->Option (SX⊕(GRd×af)):=(fun (a:(List aA)×Int×Int×Int×Int×Int×Str×(List af)×Int×Int×Str×(List af))=>
  (dO (GRd.mk a.1 a.2.1 a.2.2.1 a.2.2.2.1) [42]).bind fun b=>
  bif b.2 then
   (ga (GRd.mk b.1.toks (w64 (b.1.i+1)) b.1.stop b.1.bad)).bind fun c=>
   (iw 3 (af.mk a.2.2.2.2.2.2.2.2.1 a.2.2.2.2.2.2.2.2.2.1 a.2.2.2.2.2.2.2.2.2.2.1 a.2.2.2.2.2.2.2.2.2.2.2) (ah c.2)).bind fun d=>
   some (.inl (c.1.toks,c.1.i,c.1.stop,c.1.bad,a.2.2.2.2.1,a.2.2.2.2.2.1,a.2.2.2.2.2.2.1,a.2.2.2.2.2.2.2.1,d.kind,d.n,d.text,d.args))
  else
   some (.inr (b.1,af.mk a.2.2.2.2.2.2.2.2.1 a.2.2.2.2.2.2.2.2.2.1 a.2.2.2.2.2.2.2.2.2.2.1 a.2.2.2.2.2.2.2.2.2.2.2))
 )
def abf(fa:aS->Option (aS×af)):IX->Option (IX⊕(aS×af)):=(fun (a:(List aA)×Int×Int×Int×Int×Str×(List af)×Int×Int×Str×(List af))=>
  bif (decide (a.2.2.1<0))then
   (aV (aS.mk a.1 a.2.1 a.2.2.1) [43]).bind fun d=>
   bif (!d.2)then
    (aV d.1 [45]).bind fun e=>
    bif (!e.2)then
     some (.inr (e.1,af.mk a.2.2.2.2.2.2.2.1 a.2.2.2.2.2.2.2.2.1 a.2.2.2.2.2.2.2.2.2.1 a.2.2.2.2.2.2.2.2.2.2))
    else
     (fa e.1).bind fun b=>
     some (.inl (b.1.toks,b.1.i,b.1.bad,a.2.2.2.1,a.2.2.2.2.1,a.2.2.2.2.2.1,a.2.2.2.2.2.2.1,6,2,[],[af.mk a.2.2.2.2.2.2.2.1 a.2.2.2.2.2.2.2.2.1 a.2.2.2.2.2.2.2.2.2.1 a.2.2.2.2.2.2.2.2.2.2,ah b.2]))
   else
    (fa d.1).bind fun c=>
    some (.inl (c.1.toks,c.1.i,c.1.bad,a.2.2.2.1,a.2.2.2.2.1,a.2.2.2.2.2.1,a.2.2.2.2.2.2.1,6,1,[],[af.mk a.2.2.2.2.2.2.2.1 a.2.2.2.2.2.2.2.2.1 a.2.2.2.2.2.2.2.2.2.1 a.2.2.2.2.2.2.2.2.2.2,ah c.2]))
  else
   some (.inr (aS.mk a.1 a.2.1 a.2.2.1,af.mk a.2.2.2.2.2.2.2.1 a.2.2.2.2.2.2.2.2.1 a.2.2.2.2.2.2.2.2.2.1 a.2.2.2.2.2.2.2.2.2.2))
 )
def VB(ga:GRd->Option (GRd×af)):SX->Option (SX⊕(GRd×af)):=(fun (a:(List aA)×Int×Int×Int×Int×Int×Str×(List af)×Int×Int×Str×(List af))=>
  (dO (GRd.mk a.1 a.2.1 a.2.2.1 a.2.2.2.1) [43]).bind fun m=>
  bif m.2 then
   (dO m.1 [45]).bind fun e=>
   bif e.2 then
    (ga (GRd.mk e.1.toks (w64 (e.1.i+1)) e.1.stop e.1.bad)).bind fun h=>
    (iw 2 (af.mk a.2.2.2.2.2.2.2.2.1 a.2.2.2.2.2.2.2.2.2.1 a.2.2.2.2.2.2.2.2.2.2.1 a.2.2.2.2.2.2.2.2.2.2.2) (ah h.2)).bind fun k=>
    some (.inl (h.1.toks,h.1.i,h.1.stop,h.1.bad,a.2.2.2.2.1,a.2.2.2.2.2.1,a.2.2.2.2.2.2.1,a.2.2.2.2.2.2.2.1,k.kind,k.n,k.text,k.args))
   else
    (ga (GRd.mk e.1.toks (w64 (e.1.i+1)) e.1.stop e.1.bad)).bind fun j=>
    (iw 1 (af.mk a.2.2.2.2.2.2.2.2.1 a.2.2.2.2.2.2.2.2.2.1 a.2.2.2.2.2.2.2.2.2.2.1 a.2.2.2.2.2.2.2.2.2.2.2) (ah j.2)).bind fun l=>
    some (.inl (j.1.toks,j.1.i,j.1.stop,j.1.bad,a.2.2.2.2.1,a.2.2.2.2.2.1,a.2.2.2.2.2.2.1,a.2.2.2.2.2.2.2.1,l.kind,l.n,l.text,l.args))
  else
  (dO m.1 [45]).bind fun o=>
  bif o.2 then
   (dO o.1 [45]).bind fun b=>
   bif b.2 then
    (ga (GRd.mk b.1.toks (w64 (b.1.i+1)) b.1.stop b.1.bad)).bind fun c=>
    (iw 2 (af.mk a.2.2.2.2.2.2.2.2.1 a.2.2.2.2.2.2.2.2.2.1 a.2.2.2.2.2.2.2.2.2.2.1 a.2.2.2.2.2.2.2.2.2.2.2) (ah c.2)).bind fun f=>
    some (.inl (c.1.toks,c.1.i,c.1.stop,c.1.bad,a.2.2.2.2.1,a.2.2.2.2.2.1,a.2.2.2.2.2.2.1,a.2.2.2.2.2.2.2.1,f.kind,f.n,f.text,f.args))
   else
    (ga (GRd.mk b.1.toks (w64 (b.1.i+1)) b.1.stop b.1.bad)).bind fun d=>
    (iw 1 (af.mk a.2.2.2.2.2.2.2.2.1 a.2.2.2.2.2.2.2.2.2.1 a.2.2.2.2.2.2.2.2.2.2.1 a.2.2.2.2.2.2.2.2.2.2.2) (ah d.2)).bind fun g=>
    some (.inl (d.1.toks,d.1.i,d.1.stop,d.1.bad,a.2.2.2.2.1,a.2.2.2.2.2.1,a.2.2.2.2.2.2.1,a.2.2.2.2.2.2.2.1,g.kind,g.n,g.text,g.args))
  else
   some (.inr (o.1,af.mk a.2.2.2.2.2.2.2.2.1 a.2.2.2.2.2.2.2.2.2.1 a.2.2.2.2.2.2.2.2.2.2.1 a.2.2.2.2.2.2.2.2.2.2.2))
 )
theorem afM(b c d fa e)(a:aS):qJ b c d fa e a=(fa a).bind fun r=>ak (aax fa) (r.1.toks,r.1.i,r.1.bad,0,0,[],[],r.2.kind,r.2.n,r.2.text,r.2.args):=rfl
theorem aay(b c d e ga f)(a:GRd):qW b c d e ga f a=(ga a).bind fun r=>ak (Rq ga) (r.1.toks,r.1.i,r.1.stop,r.1.bad,0,0,[],[],r.2.kind,r.2.n,r.2.text,r.2.args):=rfl
theorem aij(b c fa d e)(a:aS):Ad b c fa d e a=(fa a).bind fun r=>ak (abf fa) (r.1.toks,r.1.i,r.1.bad,0,0,[],[],r.2.kind,r.2.n,r.2.text,r.2.args):=rfl
theorem ac8(b c d ga e f)(a:GRd):Fa b c d ga e f a=(ga a).bind fun r=>ak (VB ga) (r.1.toks,r.1.i,r.1.stop,r.1.bad,0,0,[],[],r.2.kind,r.2.n,r.2.text,r.2.args):=rfl
theorem DU(h:bI toks stop)(fa)(s:PS)(e:af):aax fa (pkI toks s e)=if sees toks s [42]=true then (fa (encI toks (aU s))).bind fun r=>some (.inl (r.1.toks,r.1.i,r.1.bad,0,0,[],[],6,3,[],[e,r.2]))else some (.inr (encI toks s,e)):=by
 obtain⟨ek,en,et,ea⟩:=e;have a:(aS.mk (pkI toks s ⟨ek,en,et,ea⟩).1 (pkI toks s ⟨ek,en,et,ea⟩).2.1 (pkI toks s ⟨ek,en,et,ea⟩).2.2.1)=encI toks s:=rfl;unfold aax;simp only[a,jw h s [42] rfl,zA];cases sees toks s [42]with
 | true=>simp only[ac,if_true,aH];rfl
 | false=>simp only[aa,aL,if_false];rfl
theorem sJ(h:bI toks stop)(ga)(s:PS)(e:af):Rq ga (pkS toks stop s e)=if sees toks s [42]=true then (ga (encS toks stop (aU s))).bind fun r=>some (.inl (r.1.toks,r.1.i,r.1.stop,r.1.bad,0,0,[],[],6,3,[],[e,r.2]))else some (.inr (encS toks stop s,e)):=by
 obtain⟨ek,en,et,ea⟩:=e;have a:(GRd.mk (pkS toks stop s ⟨ek,en,et,ea⟩).1 (pkS toks stop s ⟨ek,en,et,ea⟩).2.1 (pkS toks stop s ⟨ek,en,et,ea⟩).2.2.1 (pkS toks stop s ⟨ek,en,et,ea⟩).2.2.2.1)=encS toks stop s:=rfl;unfold Rq;simp only[a,gu h s [42],zA];cases b:sees toks s [42]with
 | true=>
  simp only[ac,if_true];rw[jG h (bD b).2];simp only[iw,zA,aH];rfl
 | false=>simp only[aa,aL,if_false];rfl
theorem abP(h:bI toks stop)(W:Wt){k j:Nat}{fa ga}(o:∀s,s.i<=toks.length->rem toks s<=k->Sim W.a toks stop fa ga s):∀(r:Nat) (s:PS) (c d:af),s.i<=toks.length->rem toks s<=r->r<=k->(s.bad=none->c=d/\W.p c+j<=s.i) ->
  ∃(s':PS) (x y:af),ak (aax fa) (pkI toks s c)=some (encI toks s',x)/\ak (Rq ga) (pkS toks stop s d)=some (encS toks stop s',y)/\(s'.bad=none->x=y/\W.p x+j<=s'.i)/\Adv toks s s':=by
 intro r;induction r with
 | zero=>
  intro s c d f q t e;have b:sees toks s [42]=false:=by
   cases b:sees toks s [42]with
   | false=>rfl
   | true=>have:=(fC (bD b).1 (bD b).2).2;omega
  refine⟨s,c,d,?_,?_,e,Adv.refl f⟩
  ·rw[aJ,DU h,b];rfl
  ·rw[aJ,sJ h,b];rfl
 | succ r ih=>
  intro s c d f q t e;cases b:sees toks s [42]with
  | false=>
   refine⟨s,c,d,?_,?_,e,Adv.refl f⟩
   ·rw[aJ,DU h,b];rfl
   ·rw[aJ,sJ h,b];rfl
  | true=>
   obtain⟨l,hrem⟩:=fC (bD b).1 (bD b).2;obtain⟨u,x,y,v,w,z,g⟩:=o (aU s) l.len (by omega);have A:=g.rem;obtain⟨s',x',y',B,C,D,E⟩:=ih u ⟨6,3,[],[c,x]⟩ ⟨6,3,[],[d,y]⟩ g.len (by omega) (by omega) (fun F=>by
    have m:=z F;have n:=e (bD b).1;refine⟨by rw[m.1,n.1],?_⟩;have G:=m.2;rw[jL]at G;have H:=W.prod c x;have I:=n.2;omega)
   refine⟨s',x',y',?_,?_,D,(l.trans g).trans E⟩
   ·rw[aJ,DU h,b];simp only[if_true,v,zA];exact B
   ·rw[aJ,sJ h,b];simp only[if_true,w,zA];exact C
theorem adN(h:bI toks stop)(W:Wt){k:Nat}{fa ga}(c:∀s,s.i<=toks.length->rem toks s<=k->Sim W.a toks stop fa ga s)(g j l m n o q r t)(s:PS)(u:s.i<=toks.length)(v:rem toks s<=k) :
  Sim W.p toks stop (qJ g j l fa m) (qW n o q r ga t) s:=by
 obtain⟨d,x,y,w,z,e,b⟩:=c s u v;have A:=b.rem;obtain⟨s',x',y',B,C,D,E⟩:=abP h W c (rem toks d) d x y b.len (az _) (by omega) fun f=>⟨(e f).1,Nat.le_trans (Nat.add_le_add_right (W.ap x) _) (e f).2⟩
 refine⟨s',x',y',?_,?_,D,b.trans E⟩
 ·rw[afM,w];exact B
 ·rw[aay,z];exact C
def aaD{toks:List aA}(fa:aS->Option (aS×af))(s:PS)(e:af)(op:Int):Option (IX⊕(aS×af)):=(fa (encI toks (aU s))).bind fun r=>some (.inl (r.1.toks,r.1.i,r.1.bad,0,0,[],[],6,op,[],[e,r.2]))
def Rx{toks:List aA}{stop:Int}(ga:GRd->Option (GRd×af))(s:PS)(e:af)(op:Int):Option (SX⊕(GRd×af)):=(ga (encS toks stop (aU s))).bind fun r=>some (.inl (r.1.toks,r.1.i,r.1.stop,r.1.bad,0,0,[],[],6,op,[],[e,r.2]))
theorem Bh(h:bI toks stop)(fa)(s:PS)(e:af):abf fa (pkI toks s e)=if sees toks s [43]=true then aaD (toks:=toks) fa s e 1 else if sees toks s [45]=true then aaD (toks:=toks) fa s e 2 else some (.inr (encI toks s,e)):=by
 obtain⟨ek,en,et,ea⟩:=e;have f:(aS.mk (pkI toks s ⟨ek,en,et,ea⟩).1 (pkI toks s ⟨ek,en,et,ea⟩).2.1 (pkI toks s ⟨ek,en,et,ea⟩).2.2.1)=encI toks s:=rfl;unfold abf;simp only[f];cases a:s.bad with
 | some b=>
  have c:decide ((pkI toks s ⟨ek,en,et,ea⟩).2.2.1<0)=false:=by
   show decide ((encI toks s).bad<0)=false
   simp[encI,a]
  have d:∀x,sees toks s x=false:=fun x=>by unfold sees;rw[a]
  rw[c,d,d];rfl
 | none=>
  have c:decide ((pkI toks s ⟨ek,en,et,ea⟩).2.2.1<0)=true:=by
   show decide ((encI toks s).bad<0)=true
   simp[encI,a]
  rw[c];simp only[ac,jw h s [43] rfl,zA];cases i:sees toks s [43]with
  | true=>simp only[aM,aa,if_true,aH];rfl
  | false=>
   simp only[Bool.not_false,ac,aL,if_false,jw h s [45] rfl,zA];cases g:sees toks s [45]with
   | true=>simp only[aM,aa,if_true,aH];rfl
   | false=>simp only[Bool.not_false,ac,aL,if_false];rfl
theorem rG(h:bI toks stop)(ga)(s:PS)(e:af):VB ga (pkS toks stop s e)=if sees toks s [43]=true then Rx (toks:=toks) (stop:=stop) ga s e 1 else if sees toks s [45]=true then Rx (toks:=toks) (stop:=stop) ga s e 2 else some (.inr (encS toks stop s,e)):=by
 obtain⟨ek,en,et,ea⟩:=e;have c:(GRd.mk (pkS toks stop s ⟨ek,en,et,ea⟩).1 (pkS toks stop s ⟨ek,en,et,ea⟩).2.1 (pkS toks stop s ⟨ek,en,et,ea⟩).2.2.1 (pkS toks stop s ⟨ek,en,et,ea⟩).2.2.2.1)=encS toks stop s:=rfl;unfold VB;simp only[c,gu h s,zA];cases b:sees toks s [43]with
 | true=>
  have a:=aal b (show ([43]:Str)≠[45] by decide);simp only[ac,if_true,a,aa];rw[jG h (bD b).2];simp only[iw,zA,aH];rfl
 | false=>
  simp only[aa,aL,if_false];cases a:sees toks s [45]with
  | true=>
   simp only[ac,if_true];rw[jG h (bD a).2];simp only[iw,zA,aH];rfl
  | false=>simp only[aa,aL,if_false];rfl
theorem ac7(h:bI toks stop)(W:Wt){k f:Nat}{fa ga}(q:∀s,s.i<=toks.length->rem toks s<=k->Sim W.p toks stop fa ga s):∀(r:Nat) (s:PS) (b d:af),s.i<=toks.length->rem toks s<=r->r<=k->(s.bad=none->b=d/\W.s b+f<=s.i) ->
  ∃(s':PS) (x y:af),ak (abf fa) (pkI toks s b)=some (encI toks s',x)/\ak (VB ga) (pkS toks stop s d)=some (encS toks stop s',y)/\(s'.bad=none->x=y/\W.s x+f<=s'.i)/\Adv toks s s':=by
 intro r;induction r with
 | zero=>
  intro s b d g t u e;have a:∀x,sees toks s x=false:=by
   intro x;cases a:sees toks s x with
   | false=>rfl
   | true=>have:=(fC (bD a).1 (bD a).2).2;omega
  refine⟨s,b,d,?_,?_,e,Adv.refl g⟩
  ·rw[aJ,Bh h,a,a];rfl
  ·rw[aJ,rG h,a,a];rfl
 | succ r ih=>
  intro s b d g t u e;have go:∀(x:Str) (op:Int),op=1\/op=2->sees toks s x=true->abf fa (pkI toks s b)=aaD (toks:=toks) fa s b op->VB ga (pkS toks stop s d)=Rx (toks:=toks) (stop:=stop) ga s d op ->
    ∃(s':PS) (x y:af),ak (abf fa) (pkI toks s b)=some (encI toks s',x)/\ak (VB ga) (pkS toks stop s d)=some (encS toks stop s',y)/\(s'.bad=none->x=y/\W.s x+f<=s'.i)/\Adv toks s s':=by
   intro K op j a v w;obtain⟨m,hrem⟩:=fC (bD a).1 (bD a).2;obtain⟨z,x,y,A,B,C,l⟩:=q (aU s) m.len (by omega);have D:=l.rem;obtain⟨s',x',y',E,F,G,H⟩:=ih z ⟨6,op,[],[b,x]⟩ ⟨6,op,[],[d,y]⟩ l.len (by omega) (by omega) (fun I=>by
    have n:=C I;have o:=e (bD a).1;refine⟨by rw[n.1,o.1],?_⟩;have J:=n.2;rw[jL]at J;have L:=W.sum op b x j;have M:=o.2;omega)
   refine⟨s',x',y',?_,?_,G,(m.trans l).trans H⟩
   ·rw[aJ,v];simp only[aaD,A,zA];exact E
   ·rw[aJ,w];simp only[Rx,B,zA];exact F
  cases a:sees toks s [43]with
  | true=>exact go [43] 1 (.inl rfl) a (by rw[Bh h,a,if_pos rfl]) (by rw[rG h,a,if_pos rfl])
  | false=>
   cases c:sees toks s [45]with
   | true=>exact go [45] 2 (.inr rfl) c (by rw[Bh h,a,c,if_neg Bool.false_ne_true,if_pos rfl]) (by rw[rG h,a,c,if_neg Bool.false_ne_true,if_pos rfl])
   | false=>
    refine⟨s,b,d,?_,?_,e,Adv.refl g⟩
    ·rw[aJ,Bh h,a,c];rfl
    ·rw[aJ,rG h,a,c];rfl
theorem afs(h:bI toks stop)(W:Wt){k:Nat}{fa ga}(b:∀s,s.i<=toks.length->rem toks s<=k->Sim W.p toks stop fa ga s)(f g j l m n o q r)(s:PS)(t:s.i<=toks.length)(u:rem toks s<=k) :
  Sim W.s toks stop (Ad f g fa j l) (Fa m n o ga q r) s:=by
 obtain⟨c,x,y,v,w,d,a⟩:=b s t u;have z:=a.rem;obtain⟨s',x',y',A,B,C,D⟩:=ac7 h W b (rem toks c) c x y a.len (az _) (by omega) fun e=>⟨(d e).1,Nat.le_trans (Nat.add_le_add_right (W.ps x) _) (d e).2⟩
 refine⟨s',x',y',?_,?_,C,a.trans D⟩
 ·rw[aij,v];exact A
 ·rw[ac8,w];exact B
abbrev IL:=(List aA)×Int×Int×Str×(List af)
abbrev SL:=(List aA)×Int×Int×Int×Str×(List af)
def plI(toks:List aA)(s:PS)(b:Str)(o:List af):IL:=((encI toks s).toks,(encI toks s).i,(encI toks s).bad,b,o)
def plS(toks:List aA)(stop:Int)(s:PS)(b:Str)(o:List af):SL:=((encS toks stop s).toks,(encS toks stop s).i,(encS toks stop s).stop,(encS toks stop s).bad,b,o)
def FU(fa:aS->Option (aS×af)):IL->Option (IL⊕(aS×List af)):=(fun (a:(List aA)×Int×Int×Str×(List af))=>
  bif (decide (a.2.2.1<0))then
   (fa (aS.mk a.1 a.2.1 a.2.2.1)).bind fun b=>
   (gd (a.2.2.2.2.length+[ah b.2].length)).bind fun _=>
   (aV b.1 a.2.2.2.1).bind fun c=>
   bif c.2 then
    some (.inr (c.1,a.2.2.2.2++[ah b.2]))
   else
    (bQ c.1 [44]).bind fun d=>
    some (.inl (d.toks,d.i,d.bad,a.2.2.2.1,a.2.2.2.2++[ah b.2]))
  else
   some (.inr (aS.mk a.1 a.2.1 a.2.2.1,a.2.2.2.2))
 )
def yO(ga:GRd->Option (GRd×af)):SL->Option (SL⊕(GRd×List af)):=(fun (a:(List aA)×Int×Int×Int×Str×(List af))=>
  bif (decide (a.2.2.2.1<0))then
   (ga (GRd.mk a.1 a.2.1 a.2.2.1 a.2.2.2.1)).bind fun c=>
   (gd (a.2.2.2.2.2.length+[ah c.2].length)).bind fun _=>
   (dO c.1 [44]).bind fun b=>
   bif (!b.2)then
    (
     (dV b.1 a.2.2.2.2.1).bind fun d=>
     some (d,a.2.2.2.2.2++[ah c.2])
    ).bind fun r=>some (.inr r)
   else
    some (.inl (b.1.toks,w64 (b.1.i+1),b.1.stop,b.1.bad,a.2.2.2.2.1,a.2.2.2.2.2++[ah c.2]))
  else
   (
    (dV (GRd.mk a.1 a.2.1 a.2.2.1 a.2.2.2.1) a.2.2.2.2.1).bind fun e=>
    some (e,a.2.2.2.2.2)
   ).bind fun r=>some (.inr r)
 )
theorem aaG(fa d e f g)(a:aS)(b:Str):mG fa d e f g a b=(aV a b).bind fun c=>bif c.2 then some (c.1,[])else ak (FU fa) (c.1.toks,c.1.i,c.1.bad,b,[]):=rfl
theorem UM(ga d e f g h)(a:GRd)(b:Str):rM ga d e f g h a b=(dO a b).bind fun c=>bif c.2 then some (GRd.mk c.1.toks (w64 (c.1.i+1)) c.1.stop c.1.bad,[])else ak (yO ga) (c.1.toks,c.1.i,c.1.stop,c.1.bad,b,[]):=rfl
theorem afc{s:PS}:decide ((encI toks s).bad<0)=s.bad.isNone:=by
 unfold encI;cases s.bad with
 | none=>rfl
 | some b=>simp
theorem Ya(h:bI toks stop){s:PS}:decide ((encS toks stop s).bad<0)=s.bad.isNone:=by
 unfold encS;cases s.bad with
 | none=>rfl
 | some b=>
  have:=jf h b;simp;omega
theorem gdp{n:Nat}(h:n<=34359738368):gd n=some ():=by unfold gd;simp[h]
theorem NT(fa){s:PS}(a:s.bad.isNone=false)(b:Str)(o:List af):ak (FU fa) (plI toks s b o)=some (encI toks s,o):=by
 rw[aJ];have e:FU fa (plI toks s b o)=some (.inr (encI toks s,o)):=by
  unfold FU;show (bif decide ((encI toks s).bad<0)then _ else _)=_
  rw[afc,a];rfl
 rw[e]
theorem aeN{s:PS}(a:s.bad.isNone=false):gy s=s:=by
 unfold gy;cases h:s.bad with
 | some b=>rfl
 | none=>rw[h]at a;cases a
theorem Zn(h:bI toks stop)(ga){s:PS}(a:s.bad.isNone=false)(b:Str)(o:List af):ak (yO ga) (plS toks stop s b o)=some (encS toks stop s,o):=by
 rw[aJ];have e:yO ga (plS toks stop s b o)=some (.inr (encS toks stop s,o)):=by
  unfold yO;show (bif decide ((encS toks stop s).bad<0)then _ else ((dV (encS toks stop s) b).bind fun c=>some (c,o)).bind fun r=>some (Sum.inr r))=_
  have d:dU toks s b=s:=by
   have:sees toks s b=false:=by
    unfold sees;cases h:s.bad with
    | some b=>rfl
    | none=>rw[h]at a;cases a
   unfold dU;rw[this,if_neg Bool.false_ne_true,aeN a]
  rw[Ya h,a,kD h,d];rfl
 rw[e]
theorem abZ(h:bI toks stop)(W:Wt){k v:Nat}{fa ga}(S:∀s,s.i<=toks.length->rem toks s<=k->Sim W.e toks stop fa ga s)(b:Str)(G:letter b=false)(H:b≠[44]):∀(r:Nat) (s:PS) (c d:List af),s.i<=toks.length->rem toks s<=r->r<=k->c.length<=s.i->d.length<=s.i->(s.bad=none->c=d/\W.o c+v<=s.i) ->
  ∃(s':PS) (x y:List af),ak (FU fa) (plI toks s b c)=some (encI toks s',x)/\ak (yO ga) (plS toks stop s b d)=some (encS toks stop s',y)/\(s'.bad=none->x=y/\W.l x+v<=s'.i)/\Adv toks s s':=by
 have step:∀(s:PS) (c d:List af),s.i<=toks.length->rem toks s<=k->c.length<=s.i->d.length<=s.i->(s.bad=none->c=d/\W.o c+v<=s.i) ->
   (∀(a:PS) (m q:List af),a.i<=toks.length->rem toks a+1<=rem toks s->m.length<=a.i->q.length<=a.i->(a.bad=none->m=q/\W.o m+v<=a.i)->∃(s':PS) (x y:List af),ak (FU fa) (plI toks a b m)=some (encI toks s',x)/\ak (yO ga) (plS toks stop a b q)=some (encS toks stop s',y)/\(s'.bad=none->x=y/\W.l x+v<=s'.i)/\Adv toks a s') ->
   ∃(s':PS) (x y:List af),ak (FU fa) (plI toks s b c)=some (encI toks s',x)/\ak (yO ga) (plS toks stop s b d)=some (encS toks stop s',y)/\(s'.bad=none->x=y/\W.l x+v<=s'.i)/\Adv toks s s':=by
  intro s c d w I D E A ih;cases t:s.bad.isNone with
  | false=>exact⟨s,c,d,NT fa t b c,Zn h ga t b d,fun hh=>(by rw[hh]at t;cases t),Adv.refl w⟩
  | true=>
   have hlen:=h.len;obtain⟨a,x,y,T,U,O,z⟩:=S s w I;have J:s.bad=none:=by cases hh:s.bad with
    | none=>rfl
    | some b=>rw[hh]at t;cases t
   have n:=A J;have eI:FU fa (plI toks s b c)=(if sees toks a b=true then some (Sum.inr (encI toks (aU a),c++[x]))else some (Sum.inl (plI toks (dU toks a [44]) b (c++[x])))):=by
    unfold FU;show (bif decide ((encI toks s).bad<0)then (fa (encI toks s)).bind fun p=>(gd (c.length+[ah p.2].length)).bind fun _=>(aV p.1 b).bind fun j=>bif j.2 then some (Sum.inr (j.1,c++[ah p.2]))else (bQ j.1 [44]).bind fun B=>some (Sum.inl (B.toks,B.i,B.bad,b,c++[ah p.2]))else _)=_
    rw[afc,t];simp only[ac,T,zA,aH,jw h a b G];rw[gdp (by simp;omega)];simp only[zA];cases g:sees toks a b with
    | true=>simp
    | false=>
     simp only[aa,aL,if_false,wG h,zA];rfl
   have eS:yO ga (plS toks stop s b d)=(if sees toks a [44]=true then some (Sum.inl (plS toks stop (aU a) b (d++[y])))else some (Sum.inr (encS toks stop (dU toks a b),d++[y]))):=by
    unfold yO;show (bif decide ((encS toks stop s).bad<0)then (ga (encS toks stop s)).bind fun p=>(gd (d.length+[ah p.2].length)).bind fun _=>(dO p.1 [44]).bind fun j=>bif (!j.2)then (((dV j.1 b).bind fun B=>some (B,d++[ah p.2])).bind fun r=>some (Sum.inr r))else some (Sum.inl (j.1.toks,w64 (j.1.i+1),j.1.stop,j.1.bad,b,d++[ah p.2]))else _)=_
    rw[Ya h,t];simp only[ac,U,zA,aH,gu h a [44]];rw[gdp (by simp;omega)];simp only[zA];cases g:sees toks a [44]with
    | true=>
     simp only[aM,aa,if_true];have:=jG (toks:=toks) (stop:=stop) (s:=a) h (bD g).2;have K:=congrArg GRd.i this;have K:w64 ((encS toks stop a).i+1)=(encS toks stop (aU a)).i:=K;rw[K];rfl
    | false=>simp only[Bool.not_false,ac,aL,if_false,kD h,zA]
   cases g:sees toks a b with
   | true=>
    have f:=aal g H;obtain⟨F,_⟩:=fC (bD g).1 (bD g).2;refine⟨aU a,c++[x],d++[y],?_,?_,fun hh=>(by
     have u:=O (bD g).1;refine⟨by rw[n.1,u.1],?_⟩;have P:=u.2;have L:=n.2;have M:=W.up c x;have Q:=W.ol c x;rw[jL];omega),z.trans F⟩
    ·rw[aJ,eI,g];rfl
    ·rw[aJ,eS,f];simp only[aL,if_false];unfold dU;rw[g,if_pos rfl]
   | false=>
    cases f:sees toks a [44]with
    | true=>
     obtain⟨F,R⟩:=fC (bD f).1 (bD f).2;have V:=z.rem;have X:=z.le;obtain⟨s',x',y',m,q,Y,Z⟩:=ih (aU a) (c++[x]) (d++[y]) F.len (by omega) (by simp[aU];omega) (by simp[aU];omega) (fun _=>by
      have u:=O (bD f).1;refine⟨by rw[n.1,u.1],?_⟩;have P:=u.2;have L:=n.2;have M:=W.up c x;rw[jL];omega)
     refine⟨s',x',y',?_,?_,Y,(z.trans F).trans Z⟩
     ·rw[aJ,eI,g];simp only[aL,if_false];have e:dU toks a [44]=aU a:=by unfold dU;rw[f,if_pos rfl]
      rw[e];exact m
     ·rw[aJ,eS,f];exact q
    | false=>
     have e:dU toks a [44]=gy a:=by unfold dU;rw[f,if_neg Bool.false_ne_true]
     have e2:dU toks a b=gy a:=by unfold dU;rw[g,if_neg Bool.false_ne_true]
     obtain⟨b1,C⟩:=OL a;have N:(gy a).bad.isNone=false:=by rw[C];rfl
     refine⟨gy a,c++[x],d++[y],?_,?_,fun hh=>(by rw[C]at hh;cases hh),z.trans (Gx z.len)⟩
     ·rw[aJ,eI,g];simp only[aL,if_false,e];exact NT fa N b _
     ·rw[aJ,eS,f];simp only[aL,if_false,e2]
 intro r;induction r with
 | zero=>
  intro s c d w R I D E A;exact step s c d w (by omega) D E A fun a m q _ hlt=>by omega
 | succ r ih=>
  intro s c d w R I D E A;exact step s c d w (by omega) D E A fun a m q u P L M Q=>ih a m q u (by omega) (by omega) L M Q
theorem aee(h:bI toks stop)(W:Wt){k:Nat}{fa ga}(v:∀s,s.i<=toks.length->rem toks s<=k->Sim W.e toks stop fa ga s)(b:Str)(c:letter b=false)(f:b≠[44])(g j m n p q r t u)(s:PS)(w:s.i<=toks.length)(x:rem toks s<=k) :
  Sim W.l toks stop (fun a=>mG fa g j m n a b) (fun a=>rM ga p q r t u a b) s:=by
 cases d:sees toks s b with
 | true=>
  obtain⟨y,_⟩:=fC (bD d).1 (bD d).2;refine⟨aU s,[],[],?_,?_,fun _=>⟨rfl,by have:=W.nil;rw[jL];omega⟩,y⟩
  ·show mG fa g j m n (encI toks s) b=_
   rw[aaG,jw h s b c,d];rfl
  ·show rM ga p q r t u (encS toks stop s) b=_
   rw[UM,gu h s b,d];simp only[zA,ac];rw[jG h (bD d).2]
 | false=>
  obtain⟨s',x',y',z,A,B,C⟩:=abZ h W v b c f (rem toks s) s [] [] w (az _) x (Nat.zero_le _) (Nat.zero_le _) (fun _=>⟨rfl,by show W.o []+s.i<=s.i;rw[W.o0];omega⟩);refine⟨s',x',y',?_,?_,B,C⟩
  ·show mG fa g j m n (encI toks s) b=_
   rw[aaG,jw h s b c,d];exact z
  ·show rM ga p q r t u (encS toks stop s) b=_
   rw[UM,gu h s b,d];exact A
variable {toks:List aA} {stop:Int}
theorem aiy{α:Type}{c:Bool}{x y:Option α}(a:∃r,x=some r)(b:∃r,y=some r):∃r,(bif c then x else y)=some r:=by
 cases c
 ·exact b
 ·exact a
theorem agI(a:Str):∃r,cu a=some r:=by
 unfold cu;repeat refine aiy ⟨_,rfl⟩ ?_
 exact⟨_,rfl⟩
def nH(a:Str):Int:=(cu a).getD (-1)
theorem MW(a:Str):cu a=some (nH a):=by
 obtain⟨r,h⟩:=agI a;unfold nH;rw[h];rfl
theorem XC(a:Str):fD a=some (nH a):=(aeF a).trans (MW a)
def QW(toks:List aA)(fe:aS->Option (aS×af))(fl:aS->Str->Option (aS×List af))(s:PS):Option (aS×af):=
 if sees toks s [91]=true then (fl (encI toks (aU s)) [93]).bind fun r=>some (r.1,⟨4,0,[],r.2⟩)
 else if sees toks s [40]=true then (fe (encI toks (aU s))).bind fun r=>(bQ r.1 [41]).bind fun a=>some (a,r.2)
 else some (encI toks (gy s),⟨0,0,[],[]⟩)
def zk(toks:List aA)(stop:Int)(ge:GRd->Option (GRd×af))(gl:GRd->Str->Option (GRd×List af))(s:PS):Option (GRd×af):=
 if sees toks s [91]=true then (gl (encS toks stop (aU s)) [93]).bind fun r=>some (r.1,⟨4,0,[],r.2⟩)
 else if sees toks s [40]=true then (ge (encS toks stop (aU s))).bind fun r=>(dV r.1 [41]).bind fun a=>some (a,r.2)
 else some (encS toks stop (gy s),⟨0,0,[],[]⟩)
def aff(toks:List aA)(fe:aS->Option (aS×af))(fl:aS->Str->Option (aS×List af))(s:PS):Option (aS×af):=
 if (aP toks s).kind=2 then some (encI toks (aU s),⟨1,(aP toks s).n,[],[]⟩)
 else if (aP toks s).kind=3 then some (encI toks (aU s),⟨2,0,(aP toks s).text,[]⟩)
 else if (aP toks s).kind=1 then
  if bZ (aP toks s).text=true then some (encI toks (aU s),⟨3,0,(aP toks s).text,[]⟩)
  else if 0<=nH (aP toks s).text then (fl (encI toks (dU toks (aU s) [40])) [41]).bind fun r=>some (r.1,⟨5,0,(aP toks s).text,r.2⟩)
  else QW toks fe fl s
 else QW toks fe fl s
def Dq(toks:List aA)(stop:Int)(ge:GRd->Option (GRd×af))(gl:GRd->Str->Option (GRd×List af))(s:PS):Option (GRd×af):=
 if (aP toks s).kind=2 then some (encS toks stop (aU s),⟨1,(aP toks s).n,[],[]⟩)
 else if (aP toks s).kind=3 then some (encS toks stop (aU s),⟨2,0,(aP toks s).text,[]⟩)
 else if (aP toks s).kind=1 then
  if bZ (aP toks s).text=true then some (encS toks stop (aU s),⟨3,0,(aP toks s).text,[]⟩)
  else if 0<=nH (aP toks s).text then (gl (encS toks stop (dU toks (aU s) [40])) [41]).bind fun r=>some (r.1,⟨5,0,(aP toks s).text,r.2⟩)
  else zk toks stop ge gl s
 else zk toks stop ge gl s
theorem VA(h:bI toks stop)(fe fl)(s:PS):((aV (encI toks s) [91]).bind fun b=>
      bif b.2 then (fl b.1 [93]).bind fun e=>some (e.1,af.mk 4 0 [] e.2)
      else (aV b.1 [40]).bind fun c=>bif c.2 then (fe c.1).bind fun f=>(bQ f.1 [41]).bind fun d=>some (d,ah f.2)
       else (gJ c.1).bind fun a=>some (a.1,ah a.2))=QW toks fe fl s:=by
 unfold QW;rw[jw h s [91] rfl];simp only[zA,aH];cases i:sees toks s [91]with
 | true=>simp
 | false=>
  simp only[aa,aL,if_false,jw h s [40] rfl,zA];cases g:sees toks s [40]with
  | true=>simp
  | false=>simp[OD]
theorem afe(h:bI toks stop)(fe j k l fl)(s:PS):rq fe j k l fl (encI toks s)=aff toks fe fl s:=by
 have g:=kW h s;unfold rq aff;rw[wF h];simp only[zA,wz _ g.len,XC];have a:¬(aP toks s).kind=0->(aS.mk (encI toks s).toks (w64 ((encI toks s).i+1)) (encI toks s).bad)=encI toks (aU s):=fun m=>Aj h (qA m).2.1
 by_cases b:(aP toks s).kind=2
 ·have e:((aP toks s).kind==2)=true:=by simp[b]
  rw[e,if_pos b,a (by rw[b];decide)];rfl
 ·have n:((aP toks s).kind==2)=false:=by simp[b]
  rw[n,if_neg b];simp only[aa];by_cases c:(aP toks s).kind=3
  ·have e:((aP toks s).kind==3)=true:=by simp[c]
   rw[e,if_pos c,a (by rw[c];decide)];rfl
  ·have o:((aP toks s).kind==3)=false:=by simp[c]
   rw[o,if_neg c];simp only[aa];by_cases d:(aP toks s).kind=1
   ·have e:((aP toks s).kind==1)=true:=by simp[d]
    rw[e,if_pos d,a (by rw[d];decide)];simp only[ac];cases hv:bZ (aP toks s).text with
    | true=>rfl
    | false=>
     simp only[aa,aL,if_false];by_cases f:0<=nH (aP toks s).text
     ·have ea:decide (nH (aP toks s).text>=0)=true:=by simpa using f
      rw[ea,if_pos f];simp only[ac,wG h,zA]
     ·have ea:decide (nH (aP toks s).text>=0)=false:=by simpa using f
      rw[ea,if_neg f];simp only[aa];exact VA h fe fl s
   ·have e:((aP toks s).kind==1)=false:=by simp[d]
    rw[e,if_neg d];simp only[aa];exact VA h fe fl s
theorem Vz(h:bI toks stop)(ge gl){s:PS}(j:s.bad=none)(hi:s.i<toks.length):((gV (aP toks s) [91]).bind fun d=>
  bif d then (gl (GRd.mk (encS toks stop s).toks (w64 ((encS toks stop s).i+1)) (encS toks stop s).stop (encS toks stop s).bad) [93]).bind fun a=>some (a.1,af.mk 4 0 [] a.2)
  else (gV (aP toks s) [40]).bind fun e=>bif e then (ge (GRd.mk (encS toks stop s).toks (w64 ((encS toks stop s).i+1)) (encS toks stop s).stop (encS toks stop s).bad)).bind fun b=>(dV b.1 [41]).bind fun f=>some (f,ah b.2)
   else (gZ (encS toks stop s)).bind fun c=>some (c.1,ah c.2))=zk toks stop ge gl s:=by
 unfold zk;simp only[aan,EG h s [91] rfl,EG h s [40] rfl,zA,aH,jG h hi,qp h];cases k:sees toks s [91]with
 | true=>simp
 | false=>
  simp only[aa,aL,if_false];cases g:sees toks s [40]with
  | true=>simp
  | false=>simp
theorem A7(h:bI toks stop)(ge q t u v gl)(s:PS):nM ge q t u v gl (encS toks stop s)=Dq toks stop ge gl s:=by
 have j:=kW h s;unfold nM Dq;simp only[qp h,zA,aH];have dead:∀(k:aP toks s=⟨0,0,0,[]⟩),some (encS toks stop (gy s),(⟨0,0,[],[]⟩:af))=(if (aP toks s).kind=2 then some (encS toks stop (aU s),⟨1,(aP toks s).n,[],[]⟩)
   else if (aP toks s).kind=3 then some (encS toks stop (aU s),⟨2,0,(aP toks s).text,[]⟩)
   else if (aP toks s).kind=1 then
    if bZ (aP toks s).text=true then some (encS toks stop (aU s),⟨3,0,(aP toks s).text,[]⟩)
    else if 0<=nH (aP toks s).text then (gl (encS toks stop (dU toks (aU s) [40])) [41]).bind fun r=>some (r.1,⟨5,0,(aP toks s).text,r.2⟩)
    else zk toks stop ge gl s
   else zk toks stop ge gl s):=by
  intro k;have p:∀x,letter x=false->sees toks s x=false:=fun x w=>by rw[<- EG h s x w,k];rfl
  rw[k];unfold zk;rw[p [91] rfl,p [40] rfl];rfl
 cases a:s.bad with
 | some b=>
  have:=jf h b;have e:decide ((encS toks stop s).bad>=0)=true:=by simp[encS,a];omega
  rw[e];simp only[ac];exact dead (by unfold aP;rw[a])
 | none=>
  have e:decide ((encS toks stop s).bad>=0)=false:=by simp[encS,a]
  rw[e];simp only[aa];by_cases hi:s.i<toks.length
  ·have l:decide ((encS toks stop s).i>=((encS toks stop s).toks.length:Int))=false:=by simp[encS];omega
   have m:toks[s.i]?=some (aP toks s):=by simp[aP,a,zF hi]
   have o:idx (encS toks stop s).toks (encS toks stop s).i=some (aP toks s):=by
    show idx toks (s.i:Int)=_
    rw[au,m]
   rw[l];simp only[aa,o,zA,nJ _ j.len,MW,jE,zS,aH];by_cases c:(aP toks s).kind=2
   ·have e:((aP toks s).kind==2)=true:=by simp[c]
    rw[e,if_pos c,jG h hi];rfl
   ·have y:((aP toks s).kind==2)=false:=by simp[c]
    rw[y,if_neg c];simp only[aa];by_cases d:(aP toks s).kind=3
    ·have e:((aP toks s).kind==3)=true:=by simp[d]
     rw[e,if_pos d,jG h hi];rfl
    ·have z:((aP toks s).kind==3)=false:=by simp[d]
     rw[z,if_neg d];simp only[aa];by_cases f:(aP toks s).kind=1
     ·have e:((aP toks s).kind==1)=true:=by simp[f]
      rw[e,if_pos f];simp only[ac];cases hv:bZ (aP toks s).text with
      | true=>simp only[ac,if_true,jG h hi]
      | false=>
       simp only[aa,aL,if_false];by_cases g:0<=nH (aP toks s).text
       ·have ea:decide (nH (aP toks s).text>=0)=true:=by simpa using g
        rw[ea,if_pos g,jG h hi];simp only[ac,kD h,zA]
       ·have ea:decide (nH (aP toks s).text>=0)=false:=by simpa using g
        rw[ea,if_neg g];simp only[aa];have:=Vz h ge gl a hi;simp only[aH,qp h,zA]at this;exact this
     ·have e:((aP toks s).kind==1)=false:=by simp[f]
      rw[e,if_neg f];simp only[aa];have:=Vz h ge gl a hi;simp only[aH,qp h,zA]at this;exact this
  ·have l:decide ((encS toks stop s).i>=((encS toks stop s).toks.length:Int))=true:=by simp[encS];omega
   have m:toks[s.i]?=none:=zJ (by omega);rw[l];simp only[ac];exact dead (by unfold aP;rw[a];simp[m])
theorem jo{s s':PS}(h:Adv toks s s')(a:s'.bad=none):s.bad=none:=by
 cases c:s.bad with
 | none=>rfl
 | some b=>rw[h.bad b c,c]at a;cases a
theorem ac5(h:bI toks stop)(W:Wt){k:Nat}{fe ge fl gl}(v:∀s,s.i<=toks.length->rem toks s+1<=k->Sim W.e toks stop fe ge s)
  (w:∀b,letter b=false->b≠[44]->∀s,s.i<=toks.length->rem toks s+1<=k->Sim W.l toks stop (fun a=>fl a b) (fun a=>gl a b) s) (s:PS) (z:s.i<=toks.length) (C:rem toks s<=k) :
  ∃(s':PS) (x y:af),QW toks fe fl s=some (encI toks s',x)/\zk toks stop ge gl s=some (encS toks stop s',y)/\(s'.bad=none->x=y/\W.a x+s.i<=s'.i)/\Adv toks s s':=by
 unfold QW zk;cases t:sees toks s [91]with
 | true=>
  obtain⟨d,A⟩:=fC (bD t).1 (bD t).2;obtain⟨m,x,y,n,o,p,j⟩:=w [93] rfl (by decide) (aU s) d.len (by omega);refine⟨m,⟨4,0,[],x⟩,⟨4,0,[],y⟩,?_,?_,fun c=>(by
   have f:=p c;refine⟨by rw[f.1],?_⟩;have q:=f.2;rw[jL]at q;have B:=W.lst x;omega),d.trans j⟩
  ·simp only[if_true];rw[show fl (encI toks (aU s)) [93]=_ from n];rfl
  ·simp only[if_true];rw[show gl (encS toks stop (aU s)) [93]=_ from o];rfl
 | false=>
  simp only[aL,if_false];cases g:sees toks s [40]with
  | true=>
   obtain⟨d,A⟩:=fC (bD g).1 (bD g).2;obtain⟨m,x,y,n,o,p,j⟩:=v (aU s) d.len (by omega);have u:=qh (x:=[41]) j.len;refine⟨dU toks m [41],x,y,?_,?_,fun c=>(by
    have f:=p (jo u c);refine⟨f.1,?_⟩;have q:=f.2;rw[jL]at q;have B:=zi c;have D:=W.paren x;omega),(d.trans j).trans u⟩
   ·simp only[if_true,n,zA,wG h]
   ·simp only[if_true,o,zA,kD h]
  | false=>
   simp only[aL,if_false];obtain⟨E,r⟩:=OL s;exact⟨gy s,_,_,rfl,rfl,fun c=>(by rw[r]at c;cases c),Gx z⟩
theorem UQ(W:Wt){s:PS}{t:aA}(h:Td t){k n:Int}{x:Str}(b:k=1\/k=2\/k=3)(c:x=[]\/x=t.text):W.a ⟨k,n,x,[]⟩+s.i<=(aU s).i:=by
 have d:x.length<=120:=by
  rcases c with rfl | rfl
  ·simp
  ·exact h.len
 have:=W.leaf k n x d b;rw[jL];omega
theorem afd(h:bI toks stop)(W:Wt){k:Nat}{fe ge fl gl}(t:∀s,s.i<=toks.length->rem toks s+1<=k->Sim W.e toks stop fe ge s)
  (n:∀b,letter b=false->b≠[44]->∀s,s.i<=toks.length->rem toks s+1<=k->Sim W.l toks stop (fun a=>fl a b) (fun a=>gl a b) s) (u v w z A B C) (s:PS) (D:s.i<=toks.length) (E:rem toks s<=k) :
  Sim W.a toks stop (rq fe u v w fl) (nM ge z A B C gl) s:=by
 unfold Sim;rw[afe h,A7 h];have o:=ac5 h W t n s D E;unfold aff Dq;by_cases d:(aP toks s).kind=2
 ·obtain⟨c,_⟩:=fC (qA (s:=s) (by rw[d];decide)).1 (qA (s:=s) (by rw[d];decide)).2.1;rw[if_pos d,if_pos d];exact⟨aU s,_,_,rfl,rfl,fun _=>⟨rfl,UQ W (kW h s) (by omega) (by first | exact .inl rfl | exact .inr rfl)⟩,c⟩
 rw[if_neg d,if_neg d];by_cases f:(aP toks s).kind=3
 ·obtain⟨c,_⟩:=fC (qA (s:=s) (by rw[f];decide)).1 (qA (s:=s) (by rw[f];decide)).2.1;rw[if_pos f,if_pos f];exact⟨aU s,_,_,rfl,rfl,fun _=>⟨rfl,UQ W (kW h s) (by omega) (by first | exact .inl rfl | exact .inr rfl)⟩,c⟩
 rw[if_neg f,if_neg f];by_cases g:(aP toks s).kind=1
 ·obtain⟨c,L⟩:=fC (qA (s:=s) (by rw[g];decide)).1 (qA (s:=s) (by rw[g];decide)).2.1;rw[if_pos g,if_pos g];cases hv:bZ (aP toks s).text with
  | true=>
   simp only[if_true];exact⟨aU s,_,_,rfl,rfl,fun _=>⟨rfl,UQ W (kW h s) (by omega) (by first | exact .inl rfl | exact .inr rfl)⟩,c⟩
  | false=>
   simp only[aL,if_false];by_cases j:0<=nH (aP toks s).text
   ·rw[if_pos j,if_pos j];have m:=qh (x:=[40]) c.len;have F:=m.rem;obtain⟨G,x,y,H,I,J,p⟩:=n [41] rfl (by decide) (dU toks (aU s) [40]) m.len (by omega);refine⟨G,⟨5,0,(aP toks s).text,x⟩,⟨5,0,(aP toks s).text,y⟩,?_,?_,fun q=>(by
     have r:=J q;refine⟨by rw[r.1],?_⟩;have M:=r.2;have K:=zi (jo p q);rw[jL]at K;have N:=W.call (aP toks s).text x (kW h s).len;omega),(c.trans m).trans p⟩
    ·rw[show fl (encI toks (dU toks (aU s) [40])) [41]=_ from H];rfl
    ·rw[show gl (encS toks stop (dU toks (aU s) [40])) [41]=_ from I];rfl
   ·rw[if_neg j,if_neg j];exact o
 ·rw[if_neg g,if_neg g];exact o
abbrev CX:=(List aA)×Int×Int×Int×Int×Str×(List af)×Int×Int×Str×(List af)×(List Int)×Int×Int
def OU(fs:aS->Option (aS×af)):CX->Option (CX⊕(aS×af)):=(fun (a:(List aA)×Int×Int×Int×Int×Str×(List af)×Int×Int×Str×(List af)×(List Int)×Int×Int)=>
  bif (decide (a.2.2.2.2.2.2.2.2.2.2.2.2.2<a.2.2.2.2.2.2.2.2.2.2.2.2.1))then
   (idx a.2.2.2.2.2.2.2.2.2.2.2.1 a.2.2.2.2.2.2.2.2.2.2.2.2.2).bind fun _=>
   (a.2.2.2.2.2.2.2.2.2.2.2.1[a.2.2.2.2.2.2.2.2.2.2.2.2.2.toNat]?).bind fun c=>
   (rV c).bind fun e=>
   (aV (aS.mk a.1 a.2.1 a.2.2.1) e).bind fun b=>
   bif b.2 then
    (fs b.1).bind fun d=>
    some (.inr (d.1,af.mk 6 c [] [af.mk a.2.2.2.2.2.2.2.1 a.2.2.2.2.2.2.2.2.1 a.2.2.2.2.2.2.2.2.2.1 a.2.2.2.2.2.2.2.2.2.2.1,ah d.2]))
   else
    some (.inl (b.1.toks,b.1.i,b.1.bad,a.2.2.2.1,a.2.2.2.2.1,a.2.2.2.2.2.1,a.2.2.2.2.2.2.1,a.2.2.2.2.2.2.2.1,a.2.2.2.2.2.2.2.2.1,a.2.2.2.2.2.2.2.2.2.1,a.2.2.2.2.2.2.2.2.2.2.1,a.2.2.2.2.2.2.2.2.2.2.2.1,a.2.2.2.2.2.2.2.2.2.2.2.2.1,w64 (a.2.2.2.2.2.2.2.2.2.2.2.2.2+1)))
  else
   some (.inr (aS.mk a.1 a.2.1 a.2.2.1,af.mk a.2.2.2.2.2.2.2.1 a.2.2.2.2.2.2.2.2.1 a.2.2.2.2.2.2.2.2.2.1 a.2.2.2.2.2.2.2.2.2.2.1))
 )
def pkC(toks:List aA)(s:PS)(e:af)(j:Int):CX:=((encI toks s).toks,(encI toks s).i,(encI toks s).bad,0,0,[],[],e.kind,e.n,e.text,e.args,[4,5],2,j)
def agD(toks:List aA)(fs:aS->Option (aS×af))(s:PS)(e:af):Option (aS×af):=
 if sees toks s [60]=true then (fs (encI toks (aU s))).bind fun r=>some (r.1,⟨6,4,[],[e,r.2]⟩)
 else if sees toks s [61,61]=true then (fs (encI toks (aU s))).bind fun r=>some (r.1,⟨6,5,[],[e,r.2]⟩)
 else some (encI toks s,e)
theorem cmp_eq(h:bI toks stop)(fs)(s:PS)(e:af):ak (OU fs) (pkC toks s e 0)=agD toks fs s e:=by
 obtain⟨ek,en,et,ea⟩:=e;have d:OU fs (pkC toks s ⟨ek,en,et,ea⟩ 0)=if sees toks s [60]=true then (fs (encI toks (aU s))).bind fun r=>some (.inr (r.1,⟨6,4,[],[⟨ek,en,et,ea⟩,r.2]⟩))else some (.inl (pkC toks s ⟨ek,en,et,ea⟩ 1)):=by
  unfold OU;show ((aV (encI toks s) [60]).bind fun a=>bif a.2 then (fs a.1).bind fun b=>some (Sum.inr (b.1,af.mk 6 4 [] [⟨ek,en,et,ea⟩,ah b.2]))else some (Sum.inl (a.1.toks,a.1.i,a.1.bad,0,0,[],[],ek,en,et,ea,[4,5],2,w64 (0+1))))=_
  rw[jw h s [60] rfl];simp only[zA,aH];cases c:sees toks s [60]with
  | true=>simp
  | false=>simp only[aa,aL,if_false];rfl
 have f:OU fs (pkC toks s ⟨ek,en,et,ea⟩ 1)=if sees toks s [61,61]=true then (fs (encI toks (aU s))).bind fun r=>some (.inr (r.1,⟨6,5,[],[⟨ek,en,et,ea⟩,r.2]⟩))else some (.inl (pkC toks s ⟨ek,en,et,ea⟩ 2)):=by
  unfold OU;show ((aV (encI toks s) [61,61]).bind fun a=>bif a.2 then (fs a.1).bind fun b=>some (Sum.inr (b.1,af.mk 6 5 [] [⟨ek,en,et,ea⟩,ah b.2]))else some (Sum.inl (a.1.toks,a.1.i,a.1.bad,0,0,[],[],ek,en,et,ea,[4,5],2,w64 (1+1))))=_
  rw[jw h s [61,61] rfl];simp only[zA,aH];cases c:sees toks s [61,61]with
  | true=>simp
  | false=>simp only[aa,aL,if_false];rfl
 have g:OU fs (pkC toks s ⟨ek,en,et,ea⟩ 2)=some (.inr (encI toks s,⟨ek,en,et,ea⟩)):=rfl;unfold agD;rw[aJ,d];cases c:sees toks s [60]with
 | true=>
  simp only[if_true];cases fs (encI toks (aU s))<;>rfl
 | false=>
  simp only[aL,if_false];rw[aJ,f];cases j:sees toks s [61,61]with
  | true=>
   simp only[if_true];cases fs (encI toks (aU s))<;>rfl
  | false=>
   simp only[aL,if_false];rw[aJ,g]
theorem acY(W:Wt){s d e:PS}{op:Int}{x y a f:af}(b:op=4\/op=5)(p:a=f/\W.s a+(aU d).i<=e.i)(q:x=y/\W.s x+s.i<=d.i):(⟨6,op,[],[x,a]⟩:af)=⟨6,op,[],[y,f]⟩/\W.c ⟨6,op,[],[x,a]⟩+s.i<=e.i:=by
 refine⟨by rw[p.1,q.1],?_⟩;have g:=p.2;have h:=q.2;have j:=W.cmp op x a b;rw[jL]at g;omega
theorem agC(h:bI toks stop)(W:Wt){k:Nat}{fs gs}(m:∀s,s.i<=toks.length->rem toks s<=k->Sim W.s toks stop fs gs s)(z A B C D)(s:PS)(E:s.i<=toks.length)(F:rem toks s<=k) :
  Sim W.c toks stop (fun a=>(fs a).bind fun r=>ak (OU fs) (r.1.toks,r.1.i,r.1.bad,0,0,[],[],r.2.kind,r.2.n,r.2.text,r.2.args,[4,5],([4,5].length:Int),0)) (jc z A gs B C D) s:=by
 obtain⟨b,x,y,G,H,j,l⟩:=m s E F;have I:=l.rem;have eI:((fs (encI toks s)).bind fun r=>ak (OU fs) (r.1.toks,r.1.i,r.1.bad,0,0,[],[],r.2.kind,r.2.n,r.2.text,r.2.args,[4,5],([4,5].length:Int),0))=agD toks fs b x:=by
  rw[G];exact cmp_eq h fs b x
 have eS:jc z A gs B C D (encS toks stop s)=(if sees toks b [60]=true then (gs (encS toks stop (aU b))).bind fun r=>some (r.1,⟨6,4,[],[y,r.2]⟩)else if sees toks b [61,61]=true then (gs (encS toks stop (aU b))).bind fun r=>some (r.1,⟨6,5,[],[y,r.2]⟩)else some (encS toks stop b,y)):=by
  unfold jc;simp only[H,zA,gu h b,iw,aH];cases f:sees toks b [60]with
  | true=>
   simp only[ac,if_true];rw[jG h (bD f).2]
  | false=>
   simp only[aa,aL,if_false];cases d:sees toks b [61,61]with
   | true=>
    simp only[ac,if_true];rw[jG h (bD d).2]
   | false=>simp
 unfold Sim;show ∃(s':PS) (x' y':af),((fs (encI toks s)).bind fun r=>ak (OU fs) (r.1.toks,r.1.i,r.1.bad,0,0,[],[],r.2.kind,r.2.n,r.2.text,r.2.args,[4,5],([4,5].length:Int),0))=_/\_
 rw[eI,eS];unfold agD;cases f:sees toks b [60]with
 | true=>
  obtain⟨g,J⟩:=fC (bD f).1 (bD f).2;obtain⟨o,p,q,t,u,v,w⟩:=m (aU b) g.len (by omega);refine⟨o,⟨6,4,[],[x,p]⟩,⟨6,4,[],[y,q]⟩,?_,?_,fun e=>(acY W (.inl rfl) (v e) (j (bD f).1)),(l.trans g).trans w⟩
  ·simp only[if_true,t,zA]
  ·simp only[if_true,u,zA]
 | false=>
  simp only[aL,if_false];cases d:sees toks b [61,61]with
  | true=>
   obtain⟨g,J⟩:=fC (bD d).1 (bD d).2;obtain⟨o,p,q,t,u,v,w⟩:=m (aU b) g.len (by omega);refine⟨o,⟨6,5,[],[x,p]⟩,⟨6,5,[],[y,q]⟩,?_,?_,fun e=>(acY W (.inr rfl) (v e) (j (bD d).1)),(l.trans g).trans w⟩
   ·simp only[if_true,t,zA]
   ·simp only[if_true,u,zA]
  | false=>
   simp only[aL,if_false];exact⟨b,x,y,rfl,rfl,fun e=>⟨(j e).1,Nat.le_trans (Nat.add_le_add_right (W.sc x) _) (j e).2⟩,l⟩
theorem ags(fe fs o p j)(a:aS):yh fe fs o p j a =
 ((eu a).bind fun k=>
 (jy k.2 [108,101,116]).bind fun w=>
 bif w then
  (kZ (aS.mk k.1.toks (w64 (k.1.i+1)) k.1.bad)).bind fun o=>
  (bQ o.1 [61]).bind fun p=>
  (fe p).bind fun j=>
  (gd ([ah j.2].length)).bind fun _=>
  (bQ j.1 [105,110]).bind fun x=>
  (fe x).bind fun q=>
  (gd ([ah j.2].length+[ah q.2].length)).bind fun _=>
  some (q.1,af.mk 7 0 o.2 ([ah j.2]++[ah q.2]))
 else
 (eu k.1).bind fun l=>
 (jy l.2 [105,102]).bind fun y=>
 bif y then
  (fe (aS.mk l.1.toks (w64 (l.1.i+1)) l.1.bad)).bind fun c=>
  (gd ([ah c.2].length)).bind fun _=>
  (bQ c.1 [116,104,101,110]).bind fun r=>
  (fe r).bind fun e=>
  (gd ([ah c.2].length+[ah e.2].length)).bind fun _=>
  (bQ e.1 [101,108,115,101]).bind fun s=>
  (fe s).bind fun g=>
  (gd (([ah c.2]++[ah e.2]).length+[ah g.2].length)).bind fun _=>
  some (g.1,af.mk 8 0 [] (([ah c.2]++[ah e.2])++[ah g.2]))
 else
 (eu l.1).bind fun d=>
 (jy d.2 [102,111,114]).bind fun t=>
 bif t then
  (kZ (aS.mk d.1.toks (w64 (d.1.i+1)) d.1.bad)).bind fun m=>
  (bQ m.1 [105,110]).bind fun u=>
  (fe u).bind fun f=>
  (gd ([ah f.2].length)).bind fun _=>
  (bQ f.1 [100,111]).bind fun v=>
  (fe v).bind fun h=>
  (gd ([ah f.2].length+[ah h.2].length)).bind fun _=>
  some (h.1,af.mk 9 0 m.2 ([ah f.2]++[ah h.2]))
 else
 (fs d.1).bind fun b=>
 ak (OU fs) (b.1.toks,b.1.i,b.1.bad,0,0,[],[],b.2.kind,b.2.n,b.2.text,b.2.args,[4,5],([4,5].length:Int),0)):=rfl
theorem NK(h:bI toks stop)(s:PS):(iI toks s).2.length<=120:=by
 unfold iI;split
 ·exact (kW h s).len
 ·simp
theorem aeO(h:bI toks stop)(W:Wt){k:Nat}{fe ge fs gc}(B:∀s,s.i<=toks.length->rem toks s+1<=k->Sim W.e toks stop fe ge s)
  (hC:∀s,s.i<=toks.length->rem toks s<=k->Sim W.c toks stop (fun a=>(fs a).bind fun r=>ak (OU fs) (r.1.toks,r.1.i,r.1.bad,0,0,[],[],r.2.kind,r.2.n,r.2.text,r.2.args,[4,5],([4,5].length:Int),0)) gc s)
  (r3 r4 r5 t3 t4 t5 t6) (s:PS) (hs:s.i<=toks.length) (hk:rem toks s<=k):Sim W.e toks stop (yh fe fs r3 r4 r5) (jH ge gc t3 t4 t5 t6) s:=by
 unfold Sim;have Q:∀x:af,gd [x].length=some ():=fun x=>gdp (by simp)
 have R:∀x y:af,gd ([x].length+[y].length)=some ():=fun x y=>gdp (by simp)
 have g3:∀x y z:af,gd (([x]++[y]).length+[z].length)=some ():=fun x y z=>gdp (by simp)
 rw[ags];unfold jH;simp only[wF h,zA,aaP,Oa h s [108,101,116] rfl,Oa h s [105,102] rfl,Oa h s [102,111,114] rfl,gu h s,aH];cases N:sees toks s [108,101,116]with
 | true=>
  obtain⟨p,T⟩:=fC (bD N).1 (bD N).2;have l:=WX (toks:=toks) p.len;have j:=qh (x:=[61]) l.len;obtain⟨F,q,G,C,D,t,d⟩:=B (dU toks (iI toks (aU s)).1 [61]) j.len (by have:=l.rem;have:=j.rem;omega);have b:=qh (x:=[105,110]) d.len;obtain⟨H,u,I,J,K,L,g⟩:=B (dU toks F [105,110]) b.len (by have:=l.rem;have:=j.rem;have:=d.rem;have:=b.rem;omega);refine⟨H,⟨7,0,(iI toks (aU s)).2,[q,u]⟩,⟨7,0,(iI toks (aU s)).2,[G,I]⟩,?_,?_,fun f=>(by
   have v:=L f;have w:=t (jo (b.trans g) f);refine⟨by rw[v.1,w.1],?_⟩;have U:=v.2;have S:=w.2;have A:=jo g f;have V:=zi A;have M:=jo (d.trans b) A;have c4:=zi M;have O:=aea (jo j M);rw[jL]at O;have X:=W.two _ (iI toks (aU s)).2 q u (.inl rfl) (NK h (aU s));omega),((((p.trans l).trans j).trans d).trans b).trans g⟩
  ·simp only[ac];rw[Aj h (bD N).2];simp only[Xr h,zA,wG h,C,Q,R,J];rfl
  ·simp only[ac];rw[jG h (bD N).2];simp only[ER h,zA,kD h,D,K]
 | false=>
  simp only[aa];cases m:sees toks s [105,102]with
  | true=>
   obtain⟨p,T⟩:=fC (bD m).1 (bD m).2;obtain⟨F,q,G,C,D,t,d⟩:=B (aU s) p.len (by omega);have b:=qh (x:=[116,104,101,110]) d.len;obtain⟨H,u,I,J,K,L,g⟩:=B (dU toks F [116,104,101,110]) b.len (by have:=d.rem;have:=b.rem;omega);have E:=qh (x:=[101,108,115,101]) g.len;obtain⟨s4,Y,y4,u1,u2,u3,P⟩:=B (dU toks H [101,108,115,101]) E.len (by have:=d.rem;have:=b.rem;have:=g.rem;have:=E.rem;omega);refine⟨s4,⟨8,0,[],[q,u,Y]⟩,⟨8,0,[],[G,I,y4]⟩,?_,?_,fun f=>(by
    have Z:=u3 f;have v:=L (jo (E.trans P) f);have w:=t (jo ((b.trans g).trans (E.trans P)) f);refine⟨by rw[Z.1,v.1,w.1],?_⟩;have c0:=Z.2;have U:=v.2;have S:=w.2;have A:=jo P f;have V:=zi A;have O:=zi (jo (g.trans E) A);rw[jL]at S;have X:=W.three q u Y;omega),((((p.trans d).trans b).trans g).trans E).trans P⟩
   ·simp only[ac];rw[Aj h (bD m).2];simp only[zA,wG h,C,Q,R,g3,J,u1];rfl
   ·simp only[ac];rw[jG h (bD m).2];simp only[zA,kD h,D,K,u2]
  | false=>
   simp only[aa];cases o:sees toks s [102,111,114]with
   | true=>
    obtain⟨p,T⟩:=fC (bD o).1 (bD o).2;have l:=WX (toks:=toks) p.len;have j:=qh (x:=[105,110]) l.len;obtain⟨F,q,G,C,D,t,d⟩:=B (dU toks (iI toks (aU s)).1 [105,110]) j.len (by have:=l.rem;have:=j.rem;omega);have b:=qh (x:=[100,111]) d.len;obtain⟨H,u,I,J,K,L,g⟩:=B (dU toks F [100,111]) b.len (by have:=l.rem;have:=j.rem;have:=d.rem;have:=b.rem;omega);refine⟨H,⟨9,0,(iI toks (aU s)).2,[q,u]⟩,⟨9,0,(iI toks (aU s)).2,[G,I]⟩,?_,?_,fun f=>(by
   have v:=L f;have w:=t (jo (b.trans g) f);refine⟨by rw[v.1,w.1],?_⟩;have U:=v.2;have S:=w.2;have A:=jo g f;have V:=zi A;have M:=jo (d.trans b) A;have c4:=zi M;have O:=aea (jo j M);rw[jL]at O;have X:=W.two _ (iI toks (aU s)).2 q u (.inr rfl) (NK h (aU s));omega),((((p.trans l).trans j).trans d).trans b).trans g⟩
    ·simp only[ac];rw[Aj h (bD o).2];simp only[Xr h,zA,wG h,C,Q,R,J];rfl
    ·simp only[ac];rw[jG h (bD o).2];simp only[ER h,zA,kD h,D,K]
   | false=>
    simp only[aa];obtain⟨s',x,y,C,D,t,d⟩:=hC s hs hk;refine⟨s',x,y,C,?_,fun f=>⟨(t f).1,Nat.le_trans (Nat.add_le_add_right (W.ce x) _) (t f).2⟩,d⟩;rw[D];rfl
variable {toks:List aA} {stop:Int}
theorem Y8(h:bI toks stop)(W:Wt):∀(k:Nat) (s:PS),s.i<=toks.length->rem toks s<=k->∀n m,5*k+5<=n->6*k+6<=m->Sim W.e toks stop (aG n).1 (aB m).1 s:=by
 intro k;induction k using Nat.strongRecOn with
 | _ k ih=>
  have r:∀n m,5*k<=n->6*k<=m->∀s,s.i<=toks.length->rem toks s+1<=k->Sim W.e toks stop (aG n).1 (aB m).1 s:=fun n m o q s f g=>
   ih (k-1) (by omega) s f (by omega) n m (by omega) (by omega)
  have u:∀n m,5*k+1<=n->6*k+1<=m->∀b,letter b=false->b≠[44]->∀s,s.i<=toks.length->rem toks s+1<=k->Sim W.l toks stop (fun a=>(aG n).2.2.2.2 a b) (fun a=>(aB m).2.2.2.2.2 a b) s:=by
   intro n m o q b v t s f g;obtain⟨d,rfl⟩:∃d,n=d+1:=⟨n-1,by omega⟩;obtain⟨c,rfl⟩:∃c,m=c+1:=⟨m-1,by omega⟩;exact aee h W (k:=k-1) (fun s f g=>r d c (by omega) (by omega) s f (by omega)) b v t (aG d).2.1 (aG d).2.2.1 (aG d).2.2.2.1 (aG d).2.2.2.2 (aB c).2.1 (aB c).2.2.1 (aB c).2.2.2.1 (aB c).2.2.2.2.1 (aB c).2.2.2.2.2 s f (by omega)
  have w:∀n m,5*k+2<=n->6*k+2<=m->∀s,s.i<=toks.length->rem toks s<=k->Sim W.a toks stop (aG n).2.2.2.1 (aB m).2.2.2.2.1 s:=by
   intro n m o q s f g;obtain⟨d,rfl⟩:∃d,n=d+1:=⟨n-1,by omega⟩;obtain⟨c,rfl⟩:∃c,m=c+1:=⟨m-1,by omega⟩;exact afd h W (r d c (by omega) (by omega)) (u d c (by omega) (by omega)) (aG d).2.1 (aG d).2.2.1 (aG d).2.2.2.1 (aB c).2.1 (aB c).2.2.1 (aB c).2.2.2.1 (aB c).2.2.2.2.1 s f g
  have x:∀n m,5*k+3<=n->6*k+3<=m->∀s,s.i<=toks.length->rem toks s<=k->Sim W.p toks stop (aG n).2.2.1 (aB m).2.2.2.1 s:=by
   intro n m o q s f g;obtain⟨d,rfl⟩:∃d,n=d+1:=⟨n-1,by omega⟩;obtain⟨c,rfl⟩:∃c,m=c+1:=⟨m-1,by omega⟩;exact adN h W (w d c (by omega) (by omega)) (aG d).1 (aG d).2.1 (aG d).2.2.1 (aG d).2.2.2.2 (aB c).1 (aB c).2.1 (aB c).2.2.1 (aB c).2.2.2.1 (aB c).2.2.2.2.2 s f g
  have y:∀n m,5*k+4<=n->6*k+4<=m->∀s,s.i<=toks.length->rem toks s<=k->Sim W.s toks stop (aG n).2.1 (aB m).2.2.1 s:=by
   intro n m o q s f g;obtain⟨d,rfl⟩:∃d,n=d+1:=⟨n-1,by omega⟩;obtain⟨c,rfl⟩:∃c,m=c+1:=⟨m-1,by omega⟩;exact afs h W (x d c (by omega) (by omega)) (aG d).1 (aG d).2.1 (aG d).2.2.2.1 (aG d).2.2.2.2 (aB c).1 (aB c).2.1 (aB c).2.2.1 (aB c).2.2.2.2.1 (aB c).2.2.2.2.2 s f g
  intro s f g n m o q;obtain⟨d,rfl⟩:∃d,n=d+1:=⟨n-1,by omega⟩;obtain⟨c,rfl⟩:∃c,m=c+1:=⟨m-1,by omega⟩;refine aeO h W (r d c (by omega) (by omega)) (fs:=(aG d).2.1) (gc:=(aB c).2.1) (fun s f g=>?_) (aG d).2.2.1 (aG d).2.2.2.1 (aG d).2.2.2.2 (aB c).2.2.1 (aB c).2.2.2.1 (aB c).2.2.2.2.1 (aB c).2.2.2.2.2 s f g;obtain⟨j,rfl⟩:∃j,c=j+1:=⟨c-1,by omega⟩;exact agC h W (y d j (by omega) (by omega)) (aB j).1 (aB j).2.1 (aB j).2.2.2.1 (aB j).2.2.2.2.1 (aB j).2.2.2.2.2 s f g
variable {toks:List aA} {stop:Int}
theorem kR(n:Int):1<=SizeOf.sizeOf n:=by
 cases n with
 | ofNat m=>rw[Int.ofNat.sizeOf_spec];omega
 | negSucc m=>rw[Int.negSucc.sizeOf_spec];omega
theorem abh{α:Type}[SizeOf α](xs:List α):1<=SizeOf.sizeOf xs:=by
 cases xs with
 | nil=>rw[List.nil.sizeOf_spec];omega
 | cons x r=>rw[List.cons.sizeOf_spec];omega
theorem afu(t:aA):5<=SizeOf.sizeOf t:=by
 obtain⟨a,b,c,d⟩:=t;rw[aA.mk.sizeOf_spec];have:=kR a;have:=kR b;have:=kR c;have:=abh d;omega
theorem VF(toks:List aA):6*toks.length+1<=SizeOf.sizeOf toks:=by
 induction toks with
 | nil=>rw[List.nil.sizeOf_spec];simp
 | cons t r ih=>
  rw[List.cons.sizeOf_spec];have:=afu t;simp only[List.length_cons];omega
theorem FI(h:bI toks stop)(W:Wt):∃(s':PS) (x y:af),Ag (aS.mk toks 0 (-1))=some (encI toks s',x)/\Fe (GRd.mk toks 0 stop (-1))=some (encS toks stop s',y)/\(s'.bad=none->x=y/\W.e x<=s'.i)/\s'.i<=toks.length:=by
 have g:=VF toks;have hi:5*toks.length+5<=siz (aS.mk toks 0 (-1))+1:=by
  show _<=SizeOf.sizeOf (aS.mk toks 0 (-1))+1
  rw[aS.mk.sizeOf_spec];have:=kR 0;have:=kR (-1);omega
 have a:6*toks.length+6<=siz (GRd.mk toks 0 stop (-1))+1:=by
  show _<=SizeOf.sizeOf (GRd.mk toks 0 stop (-1))+1
  rw[GRd.mk.sizeOf_spec];have:=kR 0;have:=kR (-1);have:=kR stop;omega
 obtain⟨s',x,y,b,c,d,f⟩:=Y8 h W toks.length ⟨0,none⟩ (Nat.zero_le _) (by simp[rem]) _ _ hi a;exact⟨s',x,y,b,c,d,f.len⟩
theorem Za(a:Str){toks:List aA}{t:Int}(hi:wB a=some (toks,t))(z:nK a=some (toks,t))(m:t<0->bI toks (a.length:Int))
  (hv:∀e:af,wtE e<=60->∃v,fZ e=some v/\bV e=some v):∃(e:af) (p:Int),sS a=some (e,p)/\fB a=some (e,p)/\(p<0->fZ e=some true/\wtE e<=60):=by
 unfold sS fB;rw[hi,z];simp only[zA];by_cases u:t>=0
 ·have e:decide (t>=0)=true:=by simpa using u
  rw[e];exact⟨_,_,rfl,rfl,fun h=>by omega⟩
 ·have e:decide (t>=0)=false:=by simpa using u
  rw[e];simp only[aa];have h:=m (by omega);obtain⟨s',x,y,A,B,n,D⟩:=FI h wtW;have n:s'.bad=none->x=y/\wtE x<=s'.i:=n;have hlen:=h.len;rw[A,B];simp only[zA,aH];rw[afc,Ya h];cases g:s'.bad with
  | some b=>
   have eb:(encI toks s').bad=(b:Int):=by simp[encI,g]
   have es:(encS toks (a.length:Int) s').bad=sK toks (a.length:Int) b:=by simp[encS,g]
   have o:=jf h b;have j:decide ((encS toks (a.length:Int) s').bad>=0)=true:=by rw[es];simpa using o
   have k:decide ((encI toks s').bad>=0)=true:=by rw[eb];simp
   rw[j,k,eb,es];simp only[Option.isNone_some,aa,ac];by_cases c:b<toks.length
   ·have d:decide ((b:Int)>=(toks.length:Int))=false:=by simp;omega
    rw[d];simp only[aa,au,zF c,zA,aD];refine⟨_,_,rfl,?_,fun hh=>?_⟩
    ·simp[sK,zF c]
    ·have:=(h.all _ (List.getElem_mem c)).pos;omega
   ·have d:decide ((b:Int)>=(toks.length:Int))=true:=by simp;omega
    rw[d];simp only[ac];have:toks[b]?=none:=zJ (by omega);refine⟨_,_,rfl,?_,fun hh=>by omega⟩;simp[sK,this]
  | none=>
   have ei:(encI toks s').i=(s'.i:Int):=rfl;have esi:(encS toks (a.length:Int) s').i=(s'.i:Int):=rfl;have eb:(encI toks s').bad = -1:=by simp[encI,g]
   have es:(encS toks (a.length:Int) s').bad = -1:=by simp[encS,g]
   simp only[Option.isNone_none,ac,ei,esi,qp h,zA];obtain⟨q,f⟩:=n g;have f:wtE x<=60:=by omega
   subst q;by_cases r:s'.i<toks.length
   ·have j:decide ((s'.i:Int)<(toks.length:Int))=true:=by simp;omega
    have k:decide ((s'.i:Int)>=(toks.length:Int))=false:=by simp;omega
    have d:decide ((s'.i:Int)>=0)=true:=by simp
    have w:(encS toks (a.length:Int) (gy s')).bad=toks[s'.i].pos:=by simp[encS,gy,g,sK,zF r]
    have o:=(h.all _ (List.getElem_mem r)).pos;have C:decide ((encS toks (a.length:Int) (gy s')).bad>=0)=true:=by rw[w];simpa using o
    rw[j,k,d,C,w];simp only[ac,aa,au,zF r,zA,aD];exact⟨_,_,rfl,rfl,fun hh=>by omega⟩
   ·have j:decide ((s'.i:Int)<(toks.length:Int))=false:=by simp;omega
    have k:decide ((-1:Int)>=(toks.length:Int))=false:=by simp;omega
    have d:decide ((-1:Int)>=0)=false:=rfl;obtain⟨v,l,s⟩:=hv x f;rw[j,eb,es,k,d];simp only[aa,l,s,zA];cases v with
    | false=>exact⟨_,_,rfl,rfl,fun hh=>by omega⟩
    | true=>exact⟨_,_,rfl,rfl,fun _=>⟨l,f⟩⟩
end
end Go.Proofs.YtkebfkahdmddpaaGreatDoor
