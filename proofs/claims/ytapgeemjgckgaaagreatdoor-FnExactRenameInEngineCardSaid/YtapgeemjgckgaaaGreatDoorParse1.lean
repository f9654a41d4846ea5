import Derived.Test.YtapgeemjgckgaaaGreatDoorRen1
set_option linter.unusedSimpArgs false
set_option linter.unusedVariables false
/- The two parsers: their states, and the steps that read a token. The two parsers alike: products, sums, lists. The two parsers alike: atoms, expressions. The two parsers alike: with enough fuel they come to the same end. ParseExpr alike, out of the same tokens. -/
namespace Go.Proofs.YtapgeemjgckgaaaGreatDoor
noncomputable section
open Go.Abs Go.Proofs
structure PS where
 i:Nat
 bad:Option Nat
def BR(toks:List aK)(stop:Int)(b:Nat):Int:=match toks[b]? with
 | some t=>t.pos
 | none=>stop
def encI(toks:List aK)(s:PS):aV:=⟨toks,s.i,match s.bad with | none=>-1 | some b=>b⟩
def encS(toks:List aK)(stop:Int)(s:PS):GRd:=⟨toks,s.i,stop,match s.bad with | none=>-1 | some b=>BR toks stop b⟩
def letter(s:Str):Bool:=match s with
 | c::_=>decide (97<=c.toNat/\c.toNat<=122)
 | []=>false
structure Wj(t:aK):Prop where
 pos:0<=t.pos
 name:t.kind=1->letter t.text=true
 sym:t.kind=4->letter t.text=false
 len:t.text.length<=120
structure dM(toks:List aK)(stop:Int):Prop where
 all:∀t,t∈toks->Wj t
 stop:0<=stop
 len:toks.length<=60
def sees(toks:List aK)(s:PS)(x:Str):Bool:=match s.bad with
 | some _=>false
 | none=>match toks[s.i]? with
  | some t=>(t.kind==4||t.kind==1)&&t.text==x
  | none=>false
def iJ(s:PS):PS:=match s.bad with
 | some _=>s
 | none=>⟨s.i,some s.i⟩
def bD(s:PS):PS:=⟨s.i+1,s.bad⟩
def eU(toks:List aK)(s:PS)(x:Str):PS:=if sees toks s x=true then bD s else iJ s
variable {toks:List aK} {stop:Int}
theorem lZ(h:dM toks stop)(b:Nat):0<=BR toks stop b:=by
 unfold BR;cases a:toks[b]? with
 | none=>exact h.stop
 | some t=>exact (h.all t (zG a)).pos
theorem bI{s:PS}{x:Str}(h:sees toks s x=true):s.bad=none/\s.i<toks.length:=by
 unfold sees at h;cases a:s.bad with
 | some b=>rw[a]at h;cases h
 | none=>
  rw[a]at h;refine⟨rfl,?_⟩;cases c:toks[s.i]? with
  | none=>rw[c]at h;cases h
  | some t=>exact (zC.1 c).1
def aU(toks:List aK)(s:PS):aK:=match s.bad with
 | some _=>⟨0,0,0,[]⟩
 | none=>(toks[s.i]?).getD ⟨0,0,0,[]⟩
theorem yC(h:dM toks stop)(s:PS):fD (encI toks s)=some (encI toks s,aU toks s):=by
 obtain⟨i,bad⟩:=s;unfold fD aU encI;cases bad with
 | some b=>
  have e:decide ((b:Int)<0)=false:=by simp
  simp[e]
 | none=>
  simp only;by_cases hi:i<toks.length
  ·simp[aA,hi,zF hi]
  ·have:toks[i]?=none:=zJ (by omega);simp[hi,this]
theorem afd(t:aK)(x:Str):yE t x=some (t.kind==4&&t.text==x):=by
 unfold yE;by_cases h:t.kind==4<;>simp[h]
theorem afe(t:aK)(x:Str):jE t x=some (t.kind==1&&t.text==x):=by
 unfold jE;by_cases h:t.kind==1<;>simp[h]
theorem aeI(t:aK)(x:Str):iw t x=some (t.kind==4&&t.text==x):=by
 unfold iw;by_cases h:t.kind==4<;>simp[h]
theorem akF(t:aK)(x:Str):zu t x=some (t.kind==1&&t.text==x):=by
 unfold zu;by_cases h:t.kind==1<;>simp[h]
theorem Gw(s:PS)(x:Str):((aU toks s).kind==4&&(aU toks s).text==x||(aU toks s).kind==1&&(aU toks s).text==x)=sees toks s x:=by
 unfold aU sees;cases s.bad with
 | some b=>simp
 | none=>
  cases toks[s.i]? with
  | none=>simp
  | some t=>simp only[Option.getD_some];cases (t.kind==4)<;>cases (t.kind==1)<;>simp
theorem lG(h:dM toks stop)(s:PS):Wj (aU toks s):=by
 have a:Wj ⟨0,0,0,[]⟩:=⟨by simp,by simp,by simp,by simp⟩;unfold aU;cases s.bad with
 | some b=>exact a
 | none=>
  cases c:toks[s.i]? with
  | none=>exact a
  | some t=>exact h.all t (zG c)
theorem QK(h:dM toks stop)(s:PS)(x:Str)(c:letter x=true):((aU toks s).kind==1&&(aU toks s).text==x)=sees toks s x:=by
 rw[<- Gw];have a:=lG h s;cases b:((aU toks s).kind==4&&(aU toks s).text==x)with
 | false=>simp
 | true=>
  simp only[zI,beq_iff_eq]at b;have:=a.sym b.1;rw[b.2,c]at this;cases this
theorem Hu(h:dM toks stop)(s:PS)(x:Str)(c:letter x=false):((aU toks s).kind==4&&(aU toks s).text==x)=sees toks s x:=by
 rw[<- Gw];have a:=lG h s;cases b:((aU toks s).kind==1&&(aU toks s).text==x)with
 | false=>simp
 | true=>
  simp only[zI,beq_iff_eq]at b;have:=a.name b.1;rw[b.2,c]at this;cases this
theorem Rl(s:PS):gY (encI toks s)=some (encI toks (iJ s),⟨0,0,[],[]⟩):=by
 obtain⟨i,bad⟩:=s;unfold gY iJ encI;cases bad with
 | some b=>
  have e:decide ((b:Int)<0)=false:=by simp
  simp[e]
 | none=>simp
theorem JA{n:Nat}(h:n<=60):w64 ((n:Int)+1)=((n+1:Nat):Int):=by rw[aX (by omega) (by omega)];rfl
theorem CU{s:PS}(h:dM toks stop)(a:s.i<toks.length):(aV.mk (encI toks s).toks (w64 ((encI toks s).i+1)) (encI toks s).bad)=encI toks (bD s):=by
 have:=h.len;have e:w64 ((encI toks s).i+1)=((s.i+1:Nat):Int):=JA (by omega);rw[e];rfl
theorem kW{s:PS}(h:dM toks stop)(a:s.i<toks.length):(GRd.mk (encS toks stop s).toks (w64 ((encS toks stop s).i+1)) (encS toks stop s).stop (encS toks stop s).bad)=encS toks stop (bD s):=by
 have:=h.len;have e:w64 ((encS toks stop s).i+1)=((s.i+1:Nat):Int):=JA (by omega);rw[e];rfl
theorem jD(h:dM toks stop)(s:PS)(x:Str)(a:letter x=false):bn (encI toks s) x=some (encI toks (if sees toks s x=true then bD s else s),sees toks s x):=by
 unfold bn;rw[yC h];simp only[zA,afd,Hu h s x a];cases b:sees toks s x with
 | true=>simp only[ac,if_true];rw[CU h (bI b).2]
 | false=>simp
theorem yD(h:dM toks stop)(s:PS)(x:Str):bV (encI toks s) x=some (encI toks (eU toks s x)):=by
 unfold bV eU;rw[yC h];simp only[zA,afe,yC h,afd,Rl];have a:=Gw (toks:=toks) s x;cases b:((aU toks s).kind==1&&(aU toks s).text==x)with
 | true=>
  rw[b,Bool.or_true]at a;simp only[ac,<- a,if_true];rw[CU h (bI a.symm).2]
 | false=>
  rw[b,Bool.or_false]at a;simp only[aa,a];cases c:sees toks s x with
  | true=>simp only[ac,if_true];rw[CU h (bI c).2]
  | false=>simp
theorem qm(h:dM toks stop)(s:PS)(x:Str):dZ (encS toks stop s) x=some (encS toks stop s,sees toks s x):=by
 obtain⟨i,bad⟩:=s;unfold dZ sees encS;cases bad with
 | some b=>
  have:=lZ h b;have e:decide (BR toks stop b<0)=false:=by simp;omega
  simp[e]
 | none=>
  simp only;by_cases hi:i<toks.length
  ·simp only[aA,zF hi,zA,aeI,akF];have a:decide ((-1:Int)<0)=true:=rfl;have c:decide ((i:Int)<(toks.length:Int))=true:=by simp;omega
   simp only[a,c,ac];cases (toks[i].kind==4)<;>cases (toks[i].kind==1)<;>cases (toks[i].text==x)<;>simp
  ·have:toks[i]?=none:=zJ (by omega);simp[hi,this]
theorem um(h:dM toks stop)(s:PS):iG (encS toks stop s)=some (encS toks stop (iJ s),⟨0,0,[],[]⟩):=by
 obtain⟨i,bad⟩:=s;unfold iG iJ encS;cases bad with
 | some b=>
  have:=lZ h b;have e:decide (BR toks stop b<0)=false:=by simp;omega
  simp[e]
 | none=>
  simp only;by_cases hi:i<toks.length
  ·simp[aA,hi,zF hi,BR]
  ·have:toks[i]?=none:=zJ (by omega);simp[hi,this,BR]
theorem tZ(h:dM toks stop)(s:PS)(x:Str):eG (encS toks stop s) x=some (encS toks stop (eU toks s x)):=by
 unfold eG eU;rw[qm h];simp only[zA,um h];cases a:sees toks s x with
 | true=>simp only[aL,aa,if_true];rw[kW h (bI a).2]
 | false=>simp
def fH(a:Str):Bool:=(bU a).getD false
theorem Ei(a:Str)(b:a.length<=120):bU a=some (fH a):=by
 obtain⟨v,h⟩:=oD a (by omega);unfold fH;rw[h];rfl
theorem DL(a:Str)(b:a.length<=120):bP a=some (fH a):=by
 rw[<- nX a (by omega),Ei a b]
def kR(t:aK):Bool:=t.kind==1&&fH t.text
def jC(toks:List aK)(s:PS):PS×Str:=if kR (aU toks s)=true then (bD s,(aU toks s).text)else (iJ s,[])
theorem qB{s:PS}(h:¬(aU toks s).kind=0):s.bad=none/\s.i<toks.length/\toks[s.i]?=some (aU toks s):=by
 unfold aU at h ⊢;cases a:s.bad with
 | some b=>rw[a]at h;exact absurd rfl h
 | none=>
  rw[a]at h;simp only at h ⊢;cases c:toks[s.i]? with
  | none=>rw[c]at h;exact absurd rfl h
  | some t=>exact⟨trivial,(zC.1 c).1,rfl⟩
theorem KF{s:PS}(h:kR (aU toks s)=true):s.bad=none/\s.i<toks.length/\toks[s.i]?=some (aU toks s):=by
 refine qB fun a=>?_
 unfold kR at h;rw[a]at h;cases h
theorem aaV(h:dM toks stop)(s:PS):lK (encI toks s)=some (encI toks (jC toks s).1,(jC toks s).2):=by
 unfold lK jC;rw[yC h];have c:=lG h s;simp only[zA,Rl,Ei _ c.len];cases b:((aU toks s).kind==1)with
 | false=>
  have e:((aU toks s).kind != 1)=true:=by simp[bne,b]
  have a:kR (aU toks s)=false:=by unfold kR;rw[b];rfl
  rw[e,a];simp
 | true=>
  have e:((aU toks s).kind != 1)=false:=by simp[bne,b]
  rw[e];cases hv:fH (aU toks s).text with
  | false=>
   have a:kR (aU toks s)=false:=by unfold kR;rw[b,hv];rfl
   rw[a];simp
  | true=>
   have a:kR (aU toks s)=true:=by unfold kR;rw[b,hv];rfl
   rw[a];simp only[aa,aL,if_true];rw[CU h (KF a).2.1]
theorem ZB(h:dM toks stop)(s:PS):BK (encS toks stop s)=some (encS toks stop (jC toks s).1,(jC toks s).2):=by
 unfold BK jC;simp only[um h];obtain⟨i,bad⟩:=s;cases bad with
 | some b=>
  have:=lZ h b;have e:decide ((encS toks stop ⟨i,some b⟩).bad>=0)=true:=by simp[encS];omega
  have a:kR (aU toks ⟨i,some b⟩)=false:=rfl;rw[e,a];simp
 | none=>
  have e:decide ((encS toks stop ⟨i,none⟩).bad>=0)=false:=by simp[encS]
  rw[e];by_cases hi:i<toks.length
  ·have g:decide ((encS toks stop ⟨i,none⟩).i>=((encS toks stop ⟨i,none⟩).toks.length:Int))=false:=by simp[encS];omega
   have f:toks[i]?=some (aU toks ⟨i,none⟩):=by simp[aU,zF hi]
   have j:idx (encS toks stop ⟨i,none⟩).toks (encS toks stop ⟨i,none⟩).i=some (aU toks ⟨i,none⟩):=by
    show idx toks (i:Int)=_
    rw[aA,f]
   have hlen:=h.len;have c:idx (encS toks stop ⟨i,none⟩).toks (w64 (w64 ((encS toks stop ⟨i,none⟩).i+1)-1))=some (aU toks ⟨i,none⟩):=by
    have l:w64 (w64 ((encS toks stop ⟨i,none⟩).i+1)-1)=(i:Int):=by
     show w64 (w64 ((i:Int)+1)-1)=_
     rw[JA (by omega),aX (by omega) (by omega)];omega
    rw[l];show idx toks (i:Int)=_
    rw[aA,f]
   have k:=lG h ⟨i,none⟩;rw[g];simp only[aa,j,c,zA,DL _ k.len];cases d:((aU toks ⟨i,none⟩).kind==1)with
   | false=>
    have e:((aU toks ⟨i,none⟩).kind != 1)=true:=by simp[bne,d]
    have a:kR (aU toks ⟨i,none⟩)=false:=by unfold kR;rw[d];rfl
    rw[e,a];simp
   | true=>
    have e:((aU toks ⟨i,none⟩).kind != 1)=false:=by simp[bne,d]
    rw[e];cases hv:fH (aU toks ⟨i,none⟩).text with
    | false=>
     have a:kR (aU toks ⟨i,none⟩)=false:=by unfold kR;rw[d,hv];rfl
     rw[a];simp
    | true=>
     have a:kR (aU toks ⟨i,none⟩)=true:=by unfold kR;rw[d,hv];rfl
     rw[a];simp only[aa,aL,if_true];rw[kW (s:=⟨i,none⟩) h hi]
  ·have g:decide ((encS toks stop ⟨i,none⟩).i>=((encS toks stop ⟨i,none⟩).toks.length:Int))=true:=by simp[encS];omega
   have f:toks[i]?=none:=zJ (by omega);have a:kR (aU toks ⟨i,none⟩)=false:=by simp[aU,f,kR]
   rw[g,a];simp
structure Adv(toks:List aK)(s s':PS):Prop where
 le:s.i<=s'.i
 len:s'.i<=toks.length
 bad:∀b,s.bad=some b->s'=s
theorem Adv.refl{s:PS}(h:s.i<=toks.length):Adv toks s s:=⟨aw _,h,fun _ _=>rfl⟩
theorem Adv.trans{a b c:PS}(h:Adv toks a b)(k:Adv toks b c):Adv toks a c:=⟨Nat.le_trans h.le k.le,k.len,fun x d=>by
 have e:=h.bad x d;subst e;exact k.bad x d⟩
def rem(toks:List aK)(s:PS):Nat:=match s.bad with
 | some _=>0
 | none=>toks.length-s.i
theorem Adv.rem{s s':PS}(h:Adv toks s s'):rem toks s'<=rem toks s:=by
 cases a:s.bad with
 | some b=>rw[h.bad b a];exact aw _
 | none=>
  have e:Go.Proofs.YtapgeemjgckgaaaGreatDoor.rem toks s=toks.length-s.i:=by unfold Go.Proofs.YtapgeemjgckgaaaGreatDoor.rem;rw[a]
  rw[e];have:=h.le;unfold Go.Proofs.YtapgeemjgckgaaaGreatDoor.rem;cases s'.bad with
  | some b=>exact Nat.zero_le _
  | none=>simp only;omega
theorem fV{s:PS}(a:s.bad=none)(hi:s.i<toks.length):Adv toks s (bD s)/\rem toks (bD s)+1=rem toks s:=by
 refine⟨⟨by simp[bD],hi,fun b h=>by rw[a]at h;cases h⟩,?_⟩;simp only[rem,bD,a];omega
theorem Ji{s:PS}(hi:s.i<=toks.length):Adv toks s (iJ s):=by
 unfold iJ;cases a:s.bad with
 | some b=>exact Adv.refl hi
 | none=>exact⟨aw _,hi,fun b h=>by rw[a]at h;cases h⟩
theorem RN(s:PS):∃b,(iJ s).bad=some b:=by
 unfold iJ;cases a:s.bad with
 | some b=>exact⟨b,a⟩
 | none=>exact⟨s.i,rfl⟩
theorem qj{s:PS}{x:Str}(hi:s.i<=toks.length):Adv toks s (eU toks s x):=by
 unfold eU;split
 ·rename_i h;exact (fV (bI h).1 (bI h).2).1
 ·exact Ji hi
theorem aat{s:PS}(hi:s.i<=toks.length):Adv toks s (jC toks s).1:=by
 unfold jC;split
 ·rename_i h;exact (fV (KF h).1 (KF h).2.1).1
 ·exact Ji hi
variable {toks:List aK} {stop:Int}
mutual
def wtE:af->Nat
 | ⟨_,_,t,a⟩=>(if t.length<=120 then 1 else 18446744073709551616)+wtL a
def wtL:List af->Nat
 | []=>0
 | x::r=>wtE x+wtL r
end
theorem FQ(a b:List af):wtL (a++b)=wtL a+wtL b:=by
 induction a with
 | nil=>simp[wtL]
 | cons x r ih=>simp only[List.cons_append,wtL,ih];omega
theorem Dw{k n:Int}{t:Str}{a:List af}(h:t.length<=120):wtE ⟨k,n,t,a⟩=1+wtL a:=by simp[wtE,h]
theorem Dy{k n:Int}{a:List af}:wtE ⟨k,n,[],a⟩=1+wtL a:=by simp[wtE]
theorem aev(x:af):wtL [x]=wtE x:=by simp[wtL]
theorem yT(x y:af):wtL [x,y]=wtE x+wtE y:=by simp[wtL]
theorem U7(x y z:af):wtL [x,y,z]=wtE x+(wtE y+wtE z):=by simp[wtL]
structure Wt where
 a:af->Nat
 p:af->Nat
 s:af->Nat
 c:af->Nat
 e:af->Nat
 l:List af->Nat
 o:List af->Nat
 leaf:∀(k n:Int) (x:Str),x.length<=120->k=1\/k=2\/k=3->a ⟨k,n,x,[]⟩<=1
 paren:∀x,a x<=e x+2
 lst:∀xs,a ⟨4,0,[],xs⟩<=l xs+1
 call:∀(x:Str) xs,x.length<=120->a ⟨5,0,x,xs⟩<=l xs+2
 ap:∀x,p x<=a x
 prod:∀x y,p ⟨6,3,[],[x,y]⟩<=p x+1+a y
 ps:∀x,s x<=p x
 sum:∀(k:Int) x y,k=1\/k=2->s ⟨6,k,[],[x,y]⟩<=s x+1+p y
 sc:∀x,c x<=s x
 cmp:∀(k:Int) x y,k=4\/k=5->c ⟨6,k,[],[x,y]⟩<=s x+1+s y
 ce:∀x,e x<=c x
 two:∀(k:Int) (t:Str) x y,k=7\/k=9->t.length<=120->e ⟨k,0,t,[x,y]⟩<=e x+e y+4
 three:∀x y z,e ⟨8,0,[],[x,y,z]⟩<=e x+e y+e z+3
 nil:l []<=1
 o0:o []=0
 up:∀xs x,o (xs++[x])<=o xs+e x+1
 ol:∀xs x,l (xs++[x])<=o (xs++[x])
def wtW:Wt where
 a:=wtE
 p:=wtE
 s:=wtE
 c:=wtE
 e:=wtE
 l:=wtL
 o:=wtL
 leaf:=fun k n x h _=>by rw[Dw h];simp[wtL]
 paren:=fun x=>by omega
 lst:=fun xs=>by rw[Dy];omega
 call:=fun x xs h=>by rw[Dw h];omega
 ap:=fun x=>aw _
 prod:=fun x y=>by rw[Dy,yT];omega
 ps:=fun x=>aw _
 sum:=fun k x y _=>by rw[Dy,yT];omega
 sc:=fun x=>aw _
 cmp:=fun k x y _=>by rw[Dy,yT];omega
 ce:=fun x=>aw _
 two:=fun k t x y _ h=>by rw[Dw h,yT];omega
 three:=fun x y z=>by rw[Dy,U7];omega
 nil:=by simp[wtL]
 o0:=rfl
 up:=fun xs x=>by rw[FQ,aev];omega
 ol:=fun xs x=>aw _
def Sim{α:Type}(w:α->Nat)(toks:List aK)(stop:Int)(f:aV->Option (aV×α))(g:GRd->Option (GRd×α))(s:PS):Prop:=
 ∃(s':PS) (x y:α),f (encI toks s)=some (encI toks s',x)/\g (encS toks stop s)=some (encS toks stop s',y)/\(s'.bad=none->x=y/\w x+s.i<=s'.i)/\Adv toks s s'
theorem jQ(s:PS):(bD s).i=s.i+1:=rfl
theorem VQ{s:PS}(h:(iJ s).bad=none):False:=by
 obtain⟨b,a⟩:=RN s;rw[a]at h;cases h
theorem Bg{s:PS}{x:Str}(h:(eU toks s x).bad=none):(eU toks s x).i=s.i+1:=by
 unfold eU at h ⊢;split
 ·rfl
 ·rename_i a;rw[if_neg a]at h;exact (VQ h).elim
theorem ai7{s:PS}(h:(jC toks s).1.bad=none):(jC toks s).1.i=s.i+1:=by
 unfold jC at h ⊢;split
 ·rfl
 ·rename_i a;rw[if_neg a]at h;exact (VQ h).elim
theorem aeH{s:PS}{x y:Str}(h:sees toks s x=true)(a:x≠y):sees toks s y=false:=by
 unfold sees at h ⊢;cases c:s.bad with
 | some b=>rfl
 | none=>
  rw[c]at h;simp only at h ⊢;cases d:toks[s.i]? with
  | none=>rfl
  | some t=>
   rw[d]at h;simp only[zI,beq_iff_eq]at h ⊢;have:¬t.text=y:=by rw[h.2];exact a
   simp[this]
abbrev IX:=(List aK)×Int×Int×Int×Int×Str×(List af)×Int×Int×Str×(List af)
abbrev SX:=(List aK)×Int×Int×Int×Int×Int×Str×(List af)×Int×Int×Str×(List af)
def pkI(toks:List aK)(s:PS)(e:af):IX:=((encI toks s).toks,(encI toks s).i,(encI toks s).bad,0,0,[],[],e.kind,e.n,e.text,e.args)
def pkS(toks:List aK)(stop:Int)(s:PS)(e:af):SX:=((encS toks stop s).toks,(encS toks stop s).i,(encS toks stop s).stop,(encS toks stop s).bad,0,0,[],[],e.kind,e.n,e.text,e.args)
def aeW(fa:aV->Option (aV×af)):IX->Option (IX⊕(aV×af)):=(fun (a:(List aK)×Int×Int×Int×Int×Str×(List af)×Int×Int×Str×(List af))=>
  (bn (aV.mk a.1 a.2.1 a.2.2.1) [42]).bind fun c=>
  bif c.2 then
   (fa c.1).bind fun b=>
   some (.inl (b.1.toks,b.1.i,b.1.bad,a.2.2.2.1,a.2.2.2.2.1,a.2.2.2.2.2.1,a.2.2.2.2.2.2.1,6,3,[],[af.mk a.2.2.2.2.2.2.2.1 a.2.2.2.2.2.2.2.2.1 a.2.2.2.2.2.2.2.2.2.1 a.2.2.2.2.2.2.2.2.2.2,ah b.2]))
  else
   some (.inr (c.1,af.mk a.2.2.2.2.2.2.2.1 a.2.2.2.2.2.2.2.2.1 a.2.2.2.2.2.2.2.2.2.1 a.2.2.2.2.2.2.2.2.2.2))
 )
def aeV(ga:GRd->Option (GRd×af)):SX->Option (SX⊕(GRd×af)):=(fun (a:(List aK)×Int×Int×Int×Int×Int×Str×(List af)×Int×Int×Str×(List af))=>
  (dZ (GRd.mk a.1 a.2.1 a.2.2.1 a.2.2.2.1) [42]).bind fun b=>
  bif b.2 then
   (ga (GRd.mk b.1.toks (w64 (b.1.i+1)) b.1.stop b.1.bad)).bind fun c=>
   (kY 3 (af.mk a.2.2.2.2.2.2.2.2.1 a.2.2.2.2.2.2.2.2.2.1 a.2.2.2.2.2.2.2.2.2.2.1 a.2.2.2.2.2.2.2.2.2.2.2) (ah c.2)).bind fun d=>
   some (.inl (c.1.toks,c.1.i,c.1.stop,c.1.bad,a.2.2.2.2.1,a.2.2.2.2.2.1,a.2.2.2.2.2.2.1,a.2.2.2.2.2.2.2.1,d.kind,d.n,d.text,d.args))
  else
   some (.inr (b.1,af.mk a.2.2.2.2.2.2.2.2.1 a.2.2.2.2.2.2.2.2.2.1 a.2.2.2.2.2.2.2.2.2.2.1 a.2.2.2.2.2.2.2.2.2.2.2))
 )
def af0(fa:aV->Option (aV×af)):IX->Option (IX⊕(aV×af)):=(fun (a:(List aK)×Int×Int×Int×Int×Str×(List af)×Int×Int×Str×(List af))=>
  bif (decide (a.2.2.1<0))then
   (bn (aV.mk a.1 a.2.1 a.2.2.1) [43]).bind fun d=>
   bif (!d.2)then
    (bn d.1 [45]).bind fun e=>
    bif (!e.2)then
     some (.inr (e.1,af.mk a.2.2.2.2.2.2.2.1 a.2.2.2.2.2.2.2.2.1 a.2.2.2.2.2.2.2.2.2.1 a.2.2.2.2.2.2.2.2.2.2))
    else
     (fa e.1).bind fun b=>
     some (.inl (b.1.toks,b.1.i,b.1.bad,a.2.2.2.1,a.2.2.2.2.1,a.2.2.2.2.2.1,a.2.2.2.2.2.2.1,6,2,[],[af.mk a.2.2.2.2.2.2.2.1 a.2.2.2.2.2.2.2.2.1 a.2.2.2.2.2.2.2.2.2.1 a.2.2.2.2.2.2.2.2.2.2,ah b.2]))
   else
    (fa d.1).bind fun c=>
    some (.inl (c.1.toks,c.1.i,c.1.bad,a.2.2.2.1,a.2.2.2.2.1,a.2.2.2.2.2.1,a.2.2.2.2.2.2.1,6,1,[],[af.mk a.2.2.2.2.2.2.2.1 a.2.2.2.2.2.2.2.2.1 a.2.2.2.2.2.2.2.2.2.1 a.2.2.2.2.2.2.2.2.2.2,ah c.2]))
  else
   some (.inr (aV.mk a.1 a.2.1 a.2.2.1,af.mk a.2.2.2.2.2.2.2.1 a.2.2.2.2.2.2.2.2.1 a.2.2.2.2.2.2.2.2.2.1 a.2.2.2.2.2.2.2.2.2.2))
 )
def afZ(ga:GRd->Option (GRd×af)):SX->Option (SX⊕(GRd×af)):=(fun (a:(List aK)×Int×Int×Int×Int×Int×Str×(List af)×Int×Int×Str×(List af))=>
  (dZ (GRd.mk a.1 a.2.1 a.2.2.1 a.2.2.2.1) [43]).bind fun m=>
  bif m.2 then
   (dZ m.1 [45]).bind fun e=>
   bif e.2 then
    (ga (GRd.mk e.1.toks (w64 (e.1.i+1)) e.1.stop e.1.bad)).bind fun h=>
    (kY 2 (af.mk a.2.2.2.2.2.2.2.2.1 a.2.2.2.2.2.2.2.2.2.1 a.2.2.2.2.2.2.2.2.2.2.1 a.2.2.2.2.2.2.2.2.2.2.2) (ah h.2)).bind fun k=>
    some (.inl (h.1.toks,h.1.i,h.1.stop,h.1.bad,a.2.2.2.2.1,a.2.2.2.2.2.1,a.2.2.2.2.2.2.1,a.2.2.2.2.2.2.2.1,k.kind,k.n,k.text,k.args))
   else
    (ga (GRd.mk e.1.toks (w64 (e.1.i+1)) e.1.stop e.1.bad)).bind fun j=>
    (kY 1 (af.mk a.2.2.2.2.2.2.2.2.1 a.2.2.2.2.2.2.2.2.2.1 a.2.2.2.2.2.2.2.2.2.2.1 a.2.2.2.2.2.2.2.2.2.2.2) (ah j.2)).bind fun l=>
    some (.inl (j.1.toks,j.1.i,j.1.stop,j.1.bad,a.2.2.2.2.1,a.2.2.2.2.2.1,a.2.2.2.2.2.2.1,a.2.2.2.2.2.2.2.1,l.kind,l.n,l.text,l.args))
  else
  (dZ m.1 [45]).bind fun o=>
  bif o.2 then
   (dZ o.1 [45]).bind fun b=>
   bif b.2 then
    (ga (GRd.mk b.1.toks (w64 (b.1.i+1)) b.1.stop b.1.bad)).bind fun c=>
    (kY 2 (af.mk a.2.2.2.2.2.2.2.2.1 a.2.2.2.2.2.2.2.2.2.1 a.2.2.2.2.2.2.2.2.2.2.1 a.2.2.2.2.2.2.2.2.2.2.2) (ah c.2)).bind fun f=>
    some (.inl (c.1.toks,c.1.i,c.1.stop,c.1.bad,a.2.2.2.2.1,a.2.2.2.2.2.1,a.2.2.2.2.2.2.1,a.2.2.2.2.2.2.2.1,f.kind,f.n,f.text,f.args))
   else
    (ga (GRd.mk b.1.toks (w64 (b.1.i+1)) b.1.stop b.1.bad)).bind fun d=>
    (kY 1 (af.mk a.2.2.2.2.2.2.2.2.1 a.2.2.2.2.2.2.2.2.2.1 a.2.2.2.2.2.2.2.2.2.2.1 a.2.2.2.2.2.2.2.2.2.2.2) (ah d.2)).bind fun g=>
    some (.inl (d.1.toks,d.1.i,d.1.stop,d.1.bad,a.2.2.2.2.1,a.2.2.2.2.2.1,a.2.2.2.2.2.2.1,a.2.2.2.2.2.2.2.1,g.kind,g.n,g.text,g.args))
  else
   some (.inr (o.1,af.mk a.2.2.2.2.2.2.2.2.1 a.2.2.2.2.2.2.2.2.2.1 a.2.2.2.2.2.2.2.2.2.2.1 a.2.2.2.2.2.2.2.2.2.2.2))
 )
theorem akM(b c d fa e)(a:aV):qO b c d fa e a=(fa a).bind fun r=>ak (aeW fa) (r.1.toks,r.1.i,r.1.bad,0,0,[],[],r.2.kind,r.2.n,r.2.text,r.2.args):=rfl
theorem akL(b c d e ga f)(a:GRd):zq b c d e ga f a=(ga a).bind fun r=>ak (aeV ga) (r.1.toks,r.1.i,r.1.stop,r.1.bad,0,0,[],[],r.2.kind,r.2.n,r.2.text,r.2.args):=rfl
theorem aou(b c fa d e)(a:aV):CG b c fa d e a=(fa a).bind fun r=>ak (af0 fa) (r.1.toks,r.1.i,r.1.bad,0,0,[],[],r.2.kind,r.2.n,r.2.text,r.2.args):=rfl
theorem aot(b c d ga e f)(a:GRd):Py b c d ga e f a=(ga a).bind fun r=>ak (afZ ga) (r.1.toks,r.1.i,r.1.stop,r.1.bad,0,0,[],[],r.2.kind,r.2.n,r.2.text,r.2.args):=rfl
theorem Gs(h:dM toks stop)(fa)(s:PS)(e:af):aeW fa (pkI toks s e)=if sees toks s [42]=true then (fa (encI toks (bD s))).bind fun r=>some (.inl (r.1.toks,r.1.i,r.1.bad,0,0,[],[],6,3,[],[e,r.2]))else some (.inr (encI toks s,e)):=by
 obtain⟨ek,en,et,ea⟩:=e;have a:(aV.mk (pkI toks s ⟨ek,en,et,ea⟩).1 (pkI toks s ⟨ek,en,et,ea⟩).2.1 (pkI toks s ⟨ek,en,et,ea⟩).2.2.1)=encI toks s:=rfl;unfold aeW;simp only[a,jD h s [42] rfl,zA];cases sees toks s [42]with
 | true=>simp only[ac,if_true,aQ];rfl
 | false=>simp only[aa,aE,if_false];rfl
theorem Gq(h:dM toks stop)(ga)(s:PS)(e:af):aeV ga (pkS toks stop s e)=if sees toks s [42]=true then (ga (encS toks stop (bD s))).bind fun r=>some (.inl (r.1.toks,r.1.i,r.1.stop,r.1.bad,0,0,[],[],6,3,[],[e,r.2]))else some (.inr (encS toks stop s,e)):=by
 obtain⟨ek,en,et,ea⟩:=e;have a:(GRd.mk (pkS toks stop s ⟨ek,en,et,ea⟩).1 (pkS toks stop s ⟨ek,en,et,ea⟩).2.1 (pkS toks stop s ⟨ek,en,et,ea⟩).2.2.1 (pkS toks stop s ⟨ek,en,et,ea⟩).2.2.2.1)=encS toks stop s:=rfl;unfold aeV;simp only[a,qm h s [42],zA];cases b:sees toks s [42]with
 | true=>
  simp only[ac,if_true];rw[kW h (bI b).2];simp only[kY,zA,aQ];rfl
 | false=>simp only[aa,aE,if_false];rfl
theorem agu(h:dM toks stop)(W:Wt){k j:Nat}{fa ga}(o:∀s,s.i<=toks.length->rem toks s<=k->Sim W.a toks stop fa ga s):∀(r:Nat) (s:PS) (c d:af),s.i<=toks.length->rem toks s<=r->r<=k->(s.bad=none->c=d/\W.p c+j<=s.i) ->
  ∃(s':PS) (x y:af),ak (aeW fa) (pkI toks s c)=some (encI toks s',x)/\ak (aeV ga) (pkS toks stop s d)=some (encS toks stop s',y)/\(s'.bad=none->x=y/\W.p x+j<=s'.i)/\Adv toks s s':=by
 intro r;induction r with
 | zero=>
  intro s c d f q t e;have b:sees toks s [42]=false:=by
   cases b:sees toks s [42]with
   | false=>rfl
   | true=>have:=(fV (bI b).1 (bI b).2).2;omega
  refine⟨s,c,d,?_,?_,e,Adv.refl f⟩
  ·rw[aI,Gs h,b];rfl
  ·rw[aI,Gq h,b];rfl
 | succ r ih=>
  intro s c d f q t e;cases b:sees toks s [42]with
  | false=>
   refine⟨s,c,d,?_,?_,e,Adv.refl f⟩
   ·rw[aI,Gs h,b];rfl
   ·rw[aI,Gq h,b];rfl
  | true=>
   obtain⟨l,hrem⟩:=fV (bI b).1 (bI b).2;obtain⟨u,x,y,v,w,z,g⟩:=o (bD s) l.len (by omega);have A:=g.rem;obtain⟨s',x',y',B,C,D,E⟩:=ih u ⟨6,3,[],[c,x]⟩ ⟨6,3,[],[d,y]⟩ g.len (by omega) (by omega) (fun F=>by
    have m:=z F;have n:=e (bI b).1;refine⟨by rw[m.1,n.1],?_⟩;have G:=m.2;rw[jQ]at G;have H:=W.prod c x;have I:=n.2;omega)
   refine⟨s',x',y',?_,?_,D,(l.trans g).trans E⟩
   ·rw[aI,Gs h,b];simp only[if_true,v,zA];exact B
   ·rw[aI,Gq h,b];simp only[if_true,w,zA];exact C
theorem aiG(h:dM toks stop)(W:Wt){k:Nat}{fa ga}(c:∀s,s.i<=toks.length->rem toks s<=k->Sim W.a toks stop fa ga s)(g j l m n o q r t)(s:PS)(u:s.i<=toks.length)(v:rem toks s<=k) :
  Sim W.p toks stop (qO g j l fa m) (zq n o q r ga t) s:=by
 obtain⟨d,x,y,w,z,e,b⟩:=c s u v;have A:=b.rem;obtain⟨s',x',y',B,C,D,E⟩:=agu h W c (rem toks d) d x y b.len (aw _) (by omega) fun f=>⟨(e f).1,Nat.le_trans (Nat.add_le_add_right (W.ap x) _) (e f).2⟩
 refine⟨s',x',y',?_,?_,D,b.trans E⟩
 ·rw[akM,w];exact B
 ·rw[akL,z];exact C
def ae0{toks:List aK}(fa:aV->Option (aV×af))(s:PS)(e:af)(op:Int):Option (IX⊕(aV×af)):=(fa (encI toks (bD s))).bind fun r=>some (.inl (r.1.toks,r.1.i,r.1.bad,0,0,[],[],6,op,[],[e,r.2]))
def aeZ{toks:List aK}{stop:Int}(ga:GRd->Option (GRd×af))(s:PS)(e:af)(op:Int):Option (SX⊕(GRd×af)):=(ga (encS toks stop (bD s))).bind fun r=>some (.inl (r.1.toks,r.1.i,r.1.stop,r.1.bad,0,0,[],[],6,op,[],[e,r.2]))
theorem DJ(h:dM toks stop)(fa)(s:PS)(e:af):af0 fa (pkI toks s e)=if sees toks s [43]=true then ae0 (toks:=toks) fa s e 1 else if sees toks s [45]=true then ae0 (toks:=toks) fa s e 2 else some (.inr (encI toks s,e)):=by
 obtain⟨ek,en,et,ea⟩:=e;have f:(aV.mk (pkI toks s ⟨ek,en,et,ea⟩).1 (pkI toks s ⟨ek,en,et,ea⟩).2.1 (pkI toks s ⟨ek,en,et,ea⟩).2.2.1)=encI toks s:=rfl;unfold af0;simp only[f];cases a:s.bad with
 | some b=>
  have c:decide ((pkI toks s ⟨ek,en,et,ea⟩).2.2.1<0)=false:=by
   show decide ((encI toks s).bad<0)=false
   simp[encI,a]
  have d:∀x,sees toks s x=false:=fun x=>by unfold sees;rw[a]
  rw[c,d,d];rfl
 | none=>
  have c:decide ((pkI toks s ⟨ek,en,et,ea⟩).2.2.1<0)=true:=by
   show decide ((encI toks s).bad<0)=true
   simp[encI,a]
  rw[c];simp only[ac,jD h s [43] rfl,zA];cases i:sees toks s [43]with
  | true=>simp only[aL,aa,if_true,aQ];rfl
  | false=>
   simp only[Bool.not_false,ac,aE,if_false,jD h s [45] rfl,zA];cases g:sees toks s [45]with
   | true=>simp only[aL,aa,if_true,aQ];rfl
   | false=>simp only[Bool.not_false,ac,aE,if_false];rfl
theorem DI(h:dM toks stop)(ga)(s:PS)(e:af):afZ ga (pkS toks stop s e)=if sees toks s [43]=true then aeZ (toks:=toks) (stop:=stop) ga s e 1 else if sees toks s [45]=true then aeZ (toks:=toks) (stop:=stop) ga s e 2 else some (.inr (encS toks stop s,e)):=by
 obtain⟨ek,en,et,ea⟩:=e;have c:(GRd.mk (pkS toks stop s ⟨ek,en,et,ea⟩).1 (pkS toks stop s ⟨ek,en,et,ea⟩).2.1 (pkS toks stop s ⟨ek,en,et,ea⟩).2.2.1 (pkS toks stop s ⟨ek,en,et,ea⟩).2.2.2.1)=encS toks stop s:=rfl;unfold afZ;simp only[c,qm h s,zA];cases b:sees toks s [43]with
 | true=>
  have a:=aeH b (show ([43]:Str)≠[45] by decide);simp only[ac,if_true,a,aa];rw[kW h (bI b).2];simp only[kY,zA,aQ];rfl
 | false=>
  simp only[aa,aE,if_false];cases a:sees toks s [45]with
  | true=>
   simp only[ac,if_true];rw[kW h (bI a).2];simp only[kY,zA,aQ];rfl
  | false=>simp only[aa,aE,if_false];rfl
theorem ahY(h:dM toks stop)(W:Wt){k f:Nat}{fa ga}(q:∀s,s.i<=toks.length->rem toks s<=k->Sim W.p toks stop fa ga s):∀(r:Nat) (s:PS) (b d:af),s.i<=toks.length->rem toks s<=r->r<=k->(s.bad=none->b=d/\W.s b+f<=s.i) ->
  ∃(s':PS) (x y:af),ak (af0 fa) (pkI toks s b)=some (encI toks s',x)/\ak (afZ ga) (pkS toks stop s d)=some (encS toks stop s',y)/\(s'.bad=none->x=y/\W.s x+f<=s'.i)/\Adv toks s s':=by
 intro r;induction r with
 | zero=>
  intro s b d g t u e;have a:∀x,sees toks s x=false:=by
   intro x;cases a:sees toks s x with
   | false=>rfl
   | true=>have:=(fV (bI a).1 (bI a).2).2;omega
  refine⟨s,b,d,?_,?_,e,Adv.refl g⟩
  ·rw[aI,DJ h,a,a];rfl
  ·rw[aI,DI h,a,a];rfl
 | succ r ih=>
  intro s b d g t u e;have go:∀(x:Str) (op:Int),op=1\/op=2->sees toks s x=true->af0 fa (pkI toks s b)=ae0 (toks:=toks) fa s b op->afZ ga (pkS toks stop s d)=aeZ (toks:=toks) (stop:=stop) ga s d op ->
    ∃(s':PS) (x y:af),ak (af0 fa) (pkI toks s b)=some (encI toks s',x)/\ak (afZ ga) (pkS toks stop s d)=some (encS toks stop s',y)/\(s'.bad=none->x=y/\W.s x+f<=s'.i)/\Adv toks s s':=by
   intro K op j a v w;obtain⟨m,hrem⟩:=fV (bI a).1 (bI a).2;obtain⟨z,x,y,A,B,C,l⟩:=q (bD s) m.len (by omega);have D:=l.rem;obtain⟨s',x',y',E,F,G,H⟩:=ih z ⟨6,op,[],[b,x]⟩ ⟨6,op,[],[d,y]⟩ l.len (by omega) (by omega) (fun I=>by
    have n:=C I;have o:=e (bI a).1;refine⟨by rw[n.1,o.1],?_⟩;have J:=n.2;rw[jQ]at J;have L:=W.sum op b x j;have M:=o.2;omega)
   refine⟨s',x',y',?_,?_,G,(m.trans l).trans H⟩
   ·rw[aI,v];simp only[ae0,A,zA];exact E
   ·rw[aI,w];simp only[aeZ,B,zA];exact F
  cases a:sees toks s [43]with
  | true=>exact go [43] 1 (.inl rfl) a (by rw[DJ h,a,if_pos rfl]) (by rw[DI h,a,if_pos rfl])
  | false=>
   cases c:sees toks s [45]with
   | true=>exact go [45] 2 (.inr rfl) c (by rw[DJ h,a,c,if_neg Bool.false_ne_true,if_pos rfl]) (by rw[DI h,a,c,if_neg Bool.false_ne_true,if_pos rfl])
   | false=>
    refine⟨s,b,d,?_,?_,e,Adv.refl g⟩
    ·rw[aI,DJ h,a,c];rfl
    ·rw[aI,DI h,a,c];rfl
theorem akv(h:dM toks stop)(W:Wt){k:Nat}{fa ga}(b:∀s,s.i<=toks.length->rem toks s<=k->Sim W.p toks stop fa ga s)(f g j l m n o q r)(s:PS)(t:s.i<=toks.length)(u:rem toks s<=k) :
  Sim W.s toks stop (CG f g fa j l) (Py m n o ga q r) s:=by
 obtain⟨c,x,y,v,w,d,a⟩:=b s t u;have z:=a.rem;obtain⟨s',x',y',A,B,C,D⟩:=ahY h W b (rem toks c) c x y a.len (aw _) (by omega) fun e=>⟨(d e).1,Nat.le_trans (Nat.add_le_add_right (W.ps x) _) (d e).2⟩
 refine⟨s',x',y',?_,?_,C,a.trans D⟩
 ·rw[aou,v];exact A
 ·rw[aot,w];exact B
abbrev IL:=(List aK)×Int×Int×Str×(List af)
abbrev SL:=(List aK)×Int×Int×Int×Str×(List af)
def plI(toks:List aK)(s:PS)(b:Str)(o:List af):IL:=((encI toks s).toks,(encI toks s).i,(encI toks s).bad,b,o)
def plS(toks:List aK)(stop:Int)(s:PS)(b:Str)(o:List af):SL:=((encS toks stop s).toks,(encS toks stop s).i,(encS toks stop s).stop,(encS toks stop s).bad,b,o)
def IU(fa:aV->Option (aV×af)):IL->Option (IL⊕(aV×List af)):=(fun (a:(List aK)×Int×Int×Str×(List af))=>
  bif (decide (a.2.2.1<0))then
   (fa (aV.mk a.1 a.2.1 a.2.2.1)).bind fun b=>
   (gd (a.2.2.2.2.length+[ah b.2].length)).bind fun _=>
   (bn b.1 a.2.2.2.1).bind fun c=>
   bif c.2 then
    some (.inr (c.1,a.2.2.2.2++[ah b.2]))
   else
    (bV c.1 [44]).bind fun d=>
    some (.inl (d.toks,d.i,d.bad,a.2.2.2.1,a.2.2.2.2++[ah b.2]))
  else
   some (.inr (aV.mk a.1 a.2.1 a.2.2.1,a.2.2.2.2))
 )
def IQ(ga:GRd->Option (GRd×af)):SL->Option (SL⊕(GRd×List af)):=(fun (a:(List aK)×Int×Int×Int×Str×(List af))=>
  bif (decide (a.2.2.2.1<0))then
   (ga (GRd.mk a.1 a.2.1 a.2.2.1 a.2.2.2.1)).bind fun c=>
   (gd (a.2.2.2.2.2.length+[ah c.2].length)).bind fun _=>
   (dZ c.1 [44]).bind fun b=>
   bif (!b.2)then
    (
     (eG b.1 a.2.2.2.2.1).bind fun d=>
     some (d,a.2.2.2.2.2++[ah c.2])
    ).bind fun r=>some (.inr r)
   else
    some (.inl (b.1.toks,w64 (b.1.i+1),b.1.stop,b.1.bad,a.2.2.2.2.1,a.2.2.2.2.2++[ah c.2]))
  else
   (
    (eG (GRd.mk a.1 a.2.1 a.2.2.1 a.2.2.2.1) a.2.2.2.2.1).bind fun e=>
    some (e,a.2.2.2.2.2)
   ).bind fun r=>some (.inr r)
 )
theorem ae2(fa d e f g)(a:aV)(b:Str):mP fa d e f g a b=(bn a b).bind fun c=>bif c.2 then some (c.1,[])else ak (IU fa) (c.1.toks,c.1.i,c.1.bad,b,[]):=rfl
theorem ae1(ga d e f g h)(a:GRd)(b:Str):xJ ga d e f g h a b=(dZ a b).bind fun c=>bif c.2 then some (GRd.mk c.1.toks (w64 (c.1.i+1)) c.1.stop c.1.bad,[])else ak (IQ ga) (c.1.toks,c.1.i,c.1.stop,c.1.bad,b,[]):=rfl
theorem akc{s:PS}:decide ((encI toks s).bad<0)=s.bad.isNone:=by
 unfold encI;cases s.bad with
 | none=>rfl
 | some b=>simp
theorem akb(h:dM toks stop){s:PS}:decide ((encS toks stop s).bad<0)=s.bad.isNone:=by
 unfold encS;cases s.bad with
 | none=>rfl
 | some b=>
  have:=lZ h b;simp;omega
theorem gdp{n:Nat}(h:n<=34359738368):gd n=some ():=by unfold gd;simp[h]
theorem QE(fa){s:PS}(a:s.bad.isNone=false)(b:Str)(o:List af):ak (IU fa) (plI toks s b o)=some (encI toks s,o):=by
 rw[aI];have e:IU fa (plI toks s b o)=some (.inr (encI toks s,o)):=by
  unfold IU;show (bif decide ((encI toks s).bad<0)then _ else _)=_
  rw[akc,a];rfl
 rw[e]
theorem ajI{s:PS}(a:s.bad.isNone=false):iJ s=s:=by
 unfold iJ;cases h:s.bad with
 | some b=>rfl
 | none=>rw[h]at a;cases a
theorem adu(h:dM toks stop)(ga){s:PS}(a:s.bad.isNone=false)(b:Str)(o:List af):ak (IQ ga) (plS toks stop s b o)=some (encS toks stop s,o):=by
 rw[aI];have e:IQ ga (plS toks stop s b o)=some (.inr (encS toks stop s,o)):=by
  unfold IQ;show (bif decide ((encS toks stop s).bad<0)then _ else ((eG (encS toks stop s) b).bind fun c=>some (c,o)).bind fun r=>some (Sum.inr r))=_
  have d:eU toks s b=s:=by
   have:sees toks s b=false:=by
    unfold sees;cases h:s.bad with
    | some b=>rfl
    | none=>rw[h]at a;cases a
   unfold eU;rw[this,if_neg Bool.false_ne_true,ajI a]
  rw[akb h,a,tZ h,d];rfl
 rw[e]
theorem agJ(h:dM toks stop)(W:Wt){k v:Nat}{fa ga}(S:∀s,s.i<=toks.length->rem toks s<=k->Sim W.e toks stop fa ga s)(b:Str)(G:letter b=false)(H:b≠[44]):∀(r:Nat) (s:PS) (c d:List af),s.i<=toks.length->rem toks s<=r->r<=k->c.length<=s.i->d.length<=s.i->(s.bad=none->c=d/\W.o c+v<=s.i) ->
  ∃(s':PS) (x y:List af),ak (IU fa) (plI toks s b c)=some (encI toks s',x)/\ak (IQ ga) (plS toks stop s b d)=some (encS toks stop s',y)/\(s'.bad=none->x=y/\W.l x+v<=s'.i)/\Adv toks s s':=by
 have step:∀(s:PS) (c d:List af),s.i<=toks.length->rem toks s<=k->c.length<=s.i->d.length<=s.i->(s.bad=none->c=d/\W.o c+v<=s.i) ->
   (∀(a:PS) (m q:List af),a.i<=toks.length->rem toks a+1<=rem toks s->m.length<=a.i->q.length<=a.i->(a.bad=none->m=q/\W.o m+v<=a.i)->∃(s':PS) (x y:List af),ak (IU fa) (plI toks a b m)=some (encI toks s',x)/\ak (IQ ga) (plS toks stop a b q)=some (encS toks stop s',y)/\(s'.bad=none->x=y/\W.l x+v<=s'.i)/\Adv toks a s') ->
   ∃(s':PS) (x y:List af),ak (IU fa) (plI toks s b c)=some (encI toks s',x)/\ak (IQ ga) (plS toks stop s b d)=some (encS toks stop s',y)/\(s'.bad=none->x=y/\W.l x+v<=s'.i)/\Adv toks s s':=by
  intro s c d w I D E A ih;cases t:s.bad.isNone with
  | false=>exact⟨s,c,d,QE fa t b c,adu h ga t b d,fun hh=>(by rw[hh]at t;cases t),Adv.refl w⟩
  | true=>
   have hlen:=h.len;obtain⟨a,x,y,T,U,O,z⟩:=S s w I;have J:s.bad=none:=by cases hh:s.bad with
    | none=>rfl
    | some b=>rw[hh]at t;cases t
   have n:=A J;have eI:IU fa (plI toks s b c)=(if sees toks a b=true then some (Sum.inr (encI toks (bD a),c++[x]))else some (Sum.inl (plI toks (eU toks a [44]) b (c++[x])))):=by
    unfold IU;show (bif decide ((encI toks s).bad<0)then (fa (encI toks s)).bind fun p=>(gd (c.length+[ah p.2].length)).bind fun _=>(bn p.1 b).bind fun j=>bif j.2 then some (Sum.inr (j.1,c++[ah p.2]))else (bV j.1 [44]).bind fun B=>some (Sum.inl (B.toks,B.i,B.bad,b,c++[ah p.2]))else _)=_
    rw[akc,t];simp only[ac,T,zA,aQ,jD h a b G];rw[gdp (by simp;omega)];simp only[zA];cases g:sees toks a b with
    | true=>simp
    | false=>
     simp only[aa,aE,if_false,yD h,zA];rfl
   have eS:IQ ga (plS toks stop s b d)=(if sees toks a [44]=true then some (Sum.inl (plS toks stop (bD a) b (d++[y])))else some (Sum.inr (encS toks stop (eU toks a b),d++[y]))):=by
    unfold IQ;show (bif decide ((encS toks stop s).bad<0)then (ga (encS toks stop s)).bind fun p=>(gd (d.length+[ah p.2].length)).bind fun _=>(dZ p.1 [44]).bind fun j=>bif (!j.2)then (((eG j.1 b).bind fun B=>some (B,d++[ah p.2])).bind fun r=>some (Sum.inr r))else some (Sum.inl (j.1.toks,w64 (j.1.i+1),j.1.stop,j.1.bad,b,d++[ah p.2]))else _)=_
    rw[akb h,t];simp only[ac,U,zA,aQ,qm h a [44]];rw[gdp (by simp;omega)];simp only[zA];cases g:sees toks a [44]with
    | true=>
     simp only[aL,aa,if_true];have:=kW (toks:=toks) (stop:=stop) (s:=a) h (bI g).2;have K:=congrArg GRd.i this;have K:w64 ((encS toks stop a).i+1)=(encS toks stop (bD a)).i:=K;rw[K];rfl
    | false=>simp only[Bool.not_false,ac,aE,if_false,tZ h,zA]
   cases g:sees toks a b with
   | true=>
    have f:=aeH g H;obtain⟨F,_⟩:=fV (bI g).1 (bI g).2;refine⟨bD a,c++[x],d++[y],?_,?_,fun hh=>(by
     have u:=O (bI g).1;refine⟨by rw[n.1,u.1],?_⟩;have P:=u.2;have L:=n.2;have M:=W.up c x;have Q:=W.ol c x;rw[jQ];omega),z.trans F⟩
    ·rw[aI,eI,g];rfl
    ·rw[aI,eS,f];simp only[aE,if_false];unfold eU;rw[g,if_pos rfl]
   | false=>
    cases f:sees toks a [44]with
    | true=>
     obtain⟨F,R⟩:=fV (bI f).1 (bI f).2;have V:=z.rem;have X:=z.le;obtain⟨s',x',y',m,q,Y,Z⟩:=ih (bD a) (c++[x]) (d++[y]) F.len (by omega) (by simp[bD];omega) (by simp[bD];omega) (fun _=>by
      have u:=O (bI f).1;refine⟨by rw[n.1,u.1],?_⟩;have P:=u.2;have L:=n.2;have M:=W.up c x;rw[jQ];omega)
     refine⟨s',x',y',?_,?_,Y,(z.trans F).trans Z⟩
     ·rw[aI,eI,g];simp only[aE,if_false];have e:eU toks a [44]=bD a:=by unfold eU;rw[f,if_pos rfl]
      rw[e];exact m
     ·rw[aI,eS,f];exact q
    | false=>
     have e:eU toks a [44]=iJ a:=by unfold eU;rw[f,if_neg Bool.false_ne_true]
     have e2:eU toks a b=iJ a:=by unfold eU;rw[g,if_neg Bool.false_ne_true]
     obtain⟨b1,C⟩:=RN a;have N:(iJ a).bad.isNone=false:=by rw[C];rfl
     refine⟨iJ a,c++[x],d++[y],?_,?_,fun hh=>(by rw[C]at hh;cases hh),z.trans (Ji z.len)⟩
     ·rw[aI,eI,g];simp only[aE,if_false,e];exact QE fa N b _
     ·rw[aI,eS,f];simp only[aE,if_false,e2]
 intro r;induction r with
 | zero=>
  intro s c d w R I D E A;exact step s c d w (by omega) D E A fun a m q _ hlt=>by omega
 | succ r ih=>
  intro s c d w R I D E A;exact step s c d w (by omega) D E A fun a m q u P L M Q=>ih a m q u (by omega) (by omega) L M Q
theorem ai9(h:dM toks stop)(W:Wt){k:Nat}{fa ga}(v:∀s,s.i<=toks.length->rem toks s<=k->Sim W.e toks stop fa ga s)(b:Str)(c:letter b=false)(f:b≠[44])(g j m n p q r t u)(s:PS)(w:s.i<=toks.length)(x:rem toks s<=k) :
  Sim W.l toks stop (fun a=>mP fa g j m n a b) (fun a=>xJ ga p q r t u a b) s:=by
 cases d:sees toks s b with
 | true=>
  obtain⟨y,_⟩:=fV (bI d).1 (bI d).2;refine⟨bD s,[],[],?_,?_,fun _=>⟨rfl,by have:=W.nil;rw[jQ];omega⟩,y⟩
  ·show mP fa g j m n (encI toks s) b=_
   rw[ae2,jD h s b c,d];rfl
  ·show xJ ga p q r t u (encS toks stop s) b=_
   rw[ae1,qm h s b,d];simp only[zA,ac];rw[kW h (bI d).2]
 | false=>
  obtain⟨s',x',y',z,A,B,C⟩:=agJ h W v b c f (rem toks s) s [] [] w (aw _) x (Nat.zero_le _) (Nat.zero_le _) (fun _=>⟨rfl,by show W.o []+s.i<=s.i;rw[W.o0];omega⟩);refine⟨s',x',y',?_,?_,B,C⟩
  ·show mP fa g j m n (encI toks s) b=_
   rw[ae2,jD h s b c,d];exact z
  ·show xJ ga p q r t u (encS toks stop s) b=_
   rw[ae1,qm h s b,d];exact A
variable {toks:List aK} {stop:Int}
theorem aoF{α:Type}{c:Bool}{x y:Option α}(a:∃r,x=some r)(b:∃r,y=some r):∃r,(bif c then x else y)=some r:=by
 cases c
 ·exact b
 ·exact a
theorem alA(a:Str):∃r,dU a=some r:=by
 unfold dU;repeat refine aoF ⟨_,rfl⟩ ?_
 exact⟨_,rfl⟩
def vw(a:Str):Int:=(dU a).getD (-1)
theorem Z4(a:Str):dU a=some (vw a):=by
 obtain⟨r,h⟩:=alA a;unfold vw;rw[h];rfl
theorem ajB(a:Str):fZ a=some (vw a):=(ajA a).trans (Z4 a)
def Vf(toks:List aK)(fe:aV->Option (aV×af))(fl:aV->Str->Option (aV×List af))(s:PS):Option (aV×af):=
 if sees toks s [91]=true then (fl (encI toks (bD s)) [93]).bind fun r=>some (r.1,⟨4,0,[],r.2⟩)
 else if sees toks s [40]=true then (fe (encI toks (bD s))).bind fun r=>(bV r.1 [41]).bind fun a=>some (a,r.2)
 else some (encI toks (iJ s),⟨0,0,[],[]⟩)
def Hq(toks:List aK)(stop:Int)(ge:GRd->Option (GRd×af))(gl:GRd->Str->Option (GRd×List af))(s:PS):Option (GRd×af):=
 if sees toks s [91]=true then (gl (encS toks stop (bD s)) [93]).bind fun r=>some (r.1,⟨4,0,[],r.2⟩)
 else if sees toks s [40]=true then (ge (encS toks stop (bD s))).bind fun r=>(eG r.1 [41]).bind fun a=>some (a,r.2)
 else some (encS toks stop (iJ s),⟨0,0,[],[]⟩)
def akh(toks:List aK)(fe:aV->Option (aV×af))(fl:aV->Str->Option (aV×List af))(s:PS):Option (aV×af):=
 if (aU toks s).kind=2 then some (encI toks (bD s),⟨1,(aU toks s).n,[],[]⟩)
 else if (aU toks s).kind=3 then some (encI toks (bD s),⟨2,0,(aU toks s).text,[]⟩)
 else if (aU toks s).kind=1 then
  if fH (aU toks s).text=true then some (encI toks (bD s),⟨3,0,(aU toks s).text,[]⟩)
  else if 0<=vw (aU toks s).text then (fl (encI toks (eU toks (bD s) [40])) [41]).bind fun r=>some (r.1,⟨5,0,(aU toks s).text,r.2⟩)
  else Vf toks fe fl s
 else Vf toks fe fl s
def akf(toks:List aK)(stop:Int)(ge:GRd->Option (GRd×af))(gl:GRd->Str->Option (GRd×List af))(s:PS):Option (GRd×af):=
 if (aU toks s).kind=2 then some (encS toks stop (bD s),⟨1,(aU toks s).n,[],[]⟩)
 else if (aU toks s).kind=3 then some (encS toks stop (bD s),⟨2,0,(aU toks s).text,[]⟩)
 else if (aU toks s).kind=1 then
  if fH (aU toks s).text=true then some (encS toks stop (bD s),⟨3,0,(aU toks s).text,[]⟩)
  else if 0<=vw (aU toks s).text then (gl (encS toks stop (eU toks (bD s) [40])) [41]).bind fun r=>some (r.1,⟨5,0,(aU toks s).text,r.2⟩)
  else Hq toks stop ge gl s
 else Hq toks stop ge gl s
theorem Zm(h:dM toks stop)(fe fl)(s:PS):((bn (encI toks s) [91]).bind fun b=>
      bif b.2 then (fl b.1 [93]).bind fun e=>some (e.1,af.mk 4 0 [] e.2)
      else (bn b.1 [40]).bind fun c=>bif c.2 then (fe c.1).bind fun f=>(bV f.1 [41]).bind fun d=>some (d,ah f.2)
       else (gY c.1).bind fun a=>some (a.1,ah a.2))=Vf toks fe fl s:=by
 unfold Vf;rw[jD h s [91] rfl];simp only[zA,aQ];cases i:sees toks s [91]with
 | true=>simp
 | false=>
  simp only[aa,aE,if_false,jD h s [40] rfl,zA];cases g:sees toks s [40]with
  | true=>simp
  | false=>simp[Rl]
theorem akg(h:dM toks stop)(fe j k l fl)(s:PS):rQ fe j k l fl (encI toks s)=akh toks fe fl s:=by
 have g:=lG h s;unfold rQ akh;rw[yC h];simp only[zA,Ei _ g.len,ajB];have a:¬(aU toks s).kind=0->(aV.mk (encI toks s).toks (w64 ((encI toks s).i+1)) (encI toks s).bad)=encI toks (bD s):=fun m=>CU h (qB m).2.1
 by_cases b:(aU toks s).kind=2
 ·have e:((aU toks s).kind==2)=true:=by simp[b]
  rw[e,if_pos b,a (by rw[b];decide)];rfl
 ·have n:((aU toks s).kind==2)=false:=by simp[b]
  rw[n,if_neg b];simp only[aa];by_cases c:(aU toks s).kind=3
  ·have e:((aU toks s).kind==3)=true:=by simp[c]
   rw[e,if_pos c,a (by rw[c];decide)];rfl
  ·have o:((aU toks s).kind==3)=false:=by simp[c]
   rw[o,if_neg c];simp only[aa];by_cases d:(aU toks s).kind=1
   ·have e:((aU toks s).kind==1)=true:=by simp[d]
    rw[e,if_pos d,a (by rw[d];decide)];simp only[ac];cases hv:fH (aU toks s).text with
    | true=>rfl
    | false=>
     simp only[aa,aE,if_false];by_cases f:0<=vw (aU toks s).text
     ·have ea:decide (vw (aU toks s).text>=0)=true:=by simpa using f
      rw[ea,if_pos f];simp only[ac,yD h,zA]
     ·have ea:decide (vw (aU toks s).text>=0)=false:=by simpa using f
      rw[ea,if_neg f];simp only[aa];exact Zm h fe fl s
   ·have e:((aU toks s).kind==1)=false:=by simp[d]
    rw[e,if_neg d];simp only[aa];exact Zm h fe fl s
theorem Zl(h:dM toks stop)(ge gl){s:PS}(j:s.bad=none)(hi:s.i<toks.length):((iw (aU toks s) [91]).bind fun d=>
  bif d then (gl (GRd.mk (encS toks stop s).toks (w64 ((encS toks stop s).i+1)) (encS toks stop s).stop (encS toks stop s).bad) [93]).bind fun a=>some (a.1,af.mk 4 0 [] a.2)
  else (iw (aU toks s) [40]).bind fun e=>bif e then (ge (GRd.mk (encS toks stop s).toks (w64 ((encS toks stop s).i+1)) (encS toks stop s).stop (encS toks stop s).bad)).bind fun b=>(eG b.1 [41]).bind fun f=>some (f,ah b.2)
   else (iG (encS toks stop s)).bind fun c=>some (c.1,ah c.2))=Hq toks stop ge gl s:=by
 unfold Hq;simp only[aeI,Hu h s [91] rfl,Hu h s [40] rfl,zA,aQ,kW h hi,um h];cases k:sees toks s [91]with
 | true=>simp
 | false=>
  simp only[aa,aE,if_false];cases g:sees toks s [40]with
  | true=>simp
  | false=>simp
theorem ake(h:dM toks stop)(ge q t u v gl)(s:PS):DW ge q t u v gl (encS toks stop s)=akf toks stop ge gl s:=by
 have j:=lG h s;unfold DW akf;simp only[um h,zA,aQ];have dead:∀(k:aU toks s=⟨0,0,0,[]⟩),some (encS toks stop (iJ s),(⟨0,0,[],[]⟩:af))=(if (aU toks s).kind=2 then some (encS toks stop (bD s),⟨1,(aU toks s).n,[],[]⟩)
   else if (aU toks s).kind=3 then some (encS toks stop (bD s),⟨2,0,(aU toks s).text,[]⟩)
   else if (aU toks s).kind=1 then
    if fH (aU toks s).text=true then some (encS toks stop (bD s),⟨3,0,(aU toks s).text,[]⟩)
    else if 0<=vw (aU toks s).text then (gl (encS toks stop (eU toks (bD s) [40])) [41]).bind fun r=>some (r.1,⟨5,0,(aU toks s).text,r.2⟩)
    else Hq toks stop ge gl s
   else Hq toks stop ge gl s):=by
  intro k;have p:∀x,letter x=false->sees toks s x=false:=fun x w=>by rw[<- Hu h s x w,k];rfl
  rw[k];unfold Hq;rw[p [91] rfl,p [40] rfl];rfl
 cases a:s.bad with
 | some b=>
  have:=lZ h b;have e:decide ((encS toks stop s).bad>=0)=true:=by simp[encS,a];omega
  rw[e];simp only[ac];exact dead (by unfold aU;rw[a])
 | none=>
  have e:decide ((encS toks stop s).bad>=0)=false:=by simp[encS,a]
  rw[e];simp only[aa];by_cases hi:s.i<toks.length
  ·have l:decide ((encS toks stop s).i>=((encS toks stop s).toks.length:Int))=false:=by simp[encS];omega
   have m:toks[s.i]?=some (aU toks s):=by simp[aU,a,zF hi]
   have o:idx (encS toks stop s).toks (encS toks stop s).i=some (aU toks s):=by
    show idx toks (s.i:Int)=_
    rw[aA,m]
   rw[l];simp only[aa,o,zA,DL _ j.len,Z4,Xo,PI,aQ];by_cases c:(aU toks s).kind=2
   ·have e:((aU toks s).kind==2)=true:=by simp[c]
    rw[e,if_pos c,kW h hi];rfl
   ·have y:((aU toks s).kind==2)=false:=by simp[c]
    rw[y,if_neg c];simp only[aa];by_cases d:(aU toks s).kind=3
    ·have e:((aU toks s).kind==3)=true:=by simp[d]
     rw[e,if_pos d,kW h hi];rfl
    ·have z:((aU toks s).kind==3)=false:=by simp[d]
     rw[z,if_neg d];simp only[aa];by_cases f:(aU toks s).kind=1
     ·have e:((aU toks s).kind==1)=true:=by simp[f]
      rw[e,if_pos f];simp only[ac];cases hv:fH (aU toks s).text with
      | true=>simp only[ac,if_true,kW h hi]
      | false=>
       simp only[aa,aE,if_false];by_cases g:0<=vw (aU toks s).text
       ·have ea:decide (vw (aU toks s).text>=0)=true:=by simpa using g
        rw[ea,if_pos g,kW h hi];simp only[ac,tZ h,zA]
       ·have ea:decide (vw (aU toks s).text>=0)=false:=by simpa using g
        rw[ea,if_neg g];simp only[aa];have:=Zl h ge gl a hi;simp only[aQ,um h,zA]at this;exact this
     ·have e:((aU toks s).kind==1)=false:=by simp[f]
      rw[e,if_neg f];simp only[aa];have:=Zl h ge gl a hi;simp only[aQ,um h,zA]at this;exact this
  ·have l:decide ((encS toks stop s).i>=((encS toks stop s).toks.length:Int))=true:=by simp[encS];omega
   have m:toks[s.i]?=none:=zJ (by omega);rw[l];simp only[ac];exact dead (by unfold aU;rw[a];simp[m])
theorem jB{s s':PS}(h:Adv toks s s')(a:s'.bad=none):s.bad=none:=by
 cases c:s.bad with
 | none=>rfl
 | some b=>rw[h.bad b c,c]at a;cases a
theorem ahP(h:dM toks stop)(W:Wt){k:Nat}{fe ge fl gl}(v:∀s,s.i<=toks.length->rem toks s+1<=k->Sim W.e toks stop fe ge s)
  (w:∀b,letter b=false->b≠[44]->∀s,s.i<=toks.length->rem toks s+1<=k->Sim W.l toks stop (fun a=>fl a b) (fun a=>gl a b) s) (s:PS) (z:s.i<=toks.length) (C:rem toks s<=k) :
  ∃(s':PS) (x y:af),Vf toks fe fl s=some (encI toks s',x)/\Hq toks stop ge gl s=some (encS toks stop s',y)/\(s'.bad=none->x=y/\W.a x+s.i<=s'.i)/\Adv toks s s':=by
 unfold Vf Hq;cases t:sees toks s [91]with
 | true=>
  obtain⟨d,A⟩:=fV (bI t).1 (bI t).2;obtain⟨m,x,y,n,o,p,j⟩:=w [93] rfl (by decide) (bD s) d.len (by omega);refine⟨m,⟨4,0,[],x⟩,⟨4,0,[],y⟩,?_,?_,fun c=>(by
   have f:=p c;refine⟨by rw[f.1],?_⟩;have q:=f.2;rw[jQ]at q;have B:=W.lst x;omega),d.trans j⟩
  ·simp only[if_true];rw[show fl (encI toks (bD s)) [93]=_ from n];rfl
  ·simp only[if_true];rw[show gl (encS toks stop (bD s)) [93]=_ from o];rfl
 | false=>
  simp only[aE,if_false];cases g:sees toks s [40]with
  | true=>
   obtain⟨d,A⟩:=fV (bI g).1 (bI g).2;obtain⟨m,x,y,n,o,p,j⟩:=v (bD s) d.len (by omega);have u:=qj (x:=[41]) j.len;refine⟨eU toks m [41],x,y,?_,?_,fun c=>(by
    have f:=p (jB u c);refine⟨f.1,?_⟩;have q:=f.2;rw[jQ]at q;have B:=Bg c;have D:=W.paren x;omega),(d.trans j).trans u⟩
   ·simp only[if_true,n,zA,yD h]
   ·simp only[if_true,o,zA,tZ h]
  | false=>
   simp only[aE,if_false];obtain⟨E,r⟩:=RN s;exact⟨iJ s,_,_,rfl,rfl,fun c=>(by rw[r]at c;cases c),Ji z⟩
theorem X7(W:Wt){s:PS}{t:aK}(h:Wj t){k n:Int}{x:Str}(b:k=1\/k=2\/k=3)(c:x=[]\/x=t.text):W.a ⟨k,n,x,[]⟩+s.i<=(bD s).i:=by
 have d:x.length<=120:=by
  rcases c with rfl | rfl
  ·simp
  ·exact h.len
 have:=W.leaf k n x d b;rw[jQ];omega
theorem akd(h:dM toks stop)(W:Wt){k:Nat}{fe ge fl gl}(t:∀s,s.i<=toks.length->rem toks s+1<=k->Sim W.e toks stop fe ge s)
  (n:∀b,letter b=false->b≠[44]->∀s,s.i<=toks.length->rem toks s+1<=k->Sim W.l toks stop (fun a=>fl a b) (fun a=>gl a b) s) (u v w z A B C) (s:PS) (D:s.i<=toks.length) (E:rem toks s<=k) :
  Sim W.a toks stop (rQ fe u v w fl) (DW ge z A B C gl) s:=by
 unfold Sim;rw[akg h,ake h];have o:=ahP h W t n s D E;unfold akh akf;by_cases d:(aU toks s).kind=2
 ·obtain⟨c,_⟩:=fV (qB (s:=s) (by rw[d];decide)).1 (qB (s:=s) (by rw[d];decide)).2.1;rw[if_pos d,if_pos d];exact⟨bD s,_,_,rfl,rfl,fun _=>⟨rfl,X7 W (lG h s) (by omega) (by first | exact .inl rfl | exact .inr rfl)⟩,c⟩
 rw[if_neg d,if_neg d];by_cases f:(aU toks s).kind=3
 ·obtain⟨c,_⟩:=fV (qB (s:=s) (by rw[f];decide)).1 (qB (s:=s) (by rw[f];decide)).2.1;rw[if_pos f,if_pos f];exact⟨bD s,_,_,rfl,rfl,fun _=>⟨rfl,X7 W (lG h s) (by omega) (by first | exact .inl rfl | exact .inr rfl)⟩,c⟩
 rw[if_neg f,if_neg f];by_cases g:(aU toks s).kind=1
 ·obtain⟨c,L⟩:=fV (qB (s:=s) (by rw[g];decide)).1 (qB (s:=s) (by rw[g];decide)).2.1;rw[if_pos g,if_pos g];cases hv:fH (aU toks s).text with
  | true=>
   simp only[if_true];exact⟨bD s,_,_,rfl,rfl,fun _=>⟨rfl,X7 W (lG h s) (by omega) (by first | exact .inl rfl | exact .inr rfl)⟩,c⟩
  | false=>
   simp only[aE,if_false];by_cases j:0<=vw (aU toks s).text
   ·rw[if_pos j,if_pos j];have m:=qj (x:=[40]) c.len;have F:=m.rem;obtain⟨G,x,y,H,I,J,p⟩:=n [41] rfl (by decide) (eU toks (bD s) [40]) m.len (by omega);refine⟨G,⟨5,0,(aU toks s).text,x⟩,⟨5,0,(aU toks s).text,y⟩,?_,?_,fun q=>(by
     have r:=J q;refine⟨by rw[r.1],?_⟩;have M:=r.2;have K:=Bg (jB p q);rw[jQ]at K;have N:=W.call (aU toks s).text x (lG h s).len;omega),(c.trans m).trans p⟩
    ·rw[show fl (encI toks (eU toks (bD s) [40])) [41]=_ from H];rfl
    ·rw[show gl (encS toks stop (eU toks (bD s) [40])) [41]=_ from I];rfl
   ·rw[if_neg j,if_neg j];exact o
 ·rw[if_neg g,if_neg g];exact o
abbrev CX:=(List aK)×Int×Int×Int×Int×Str×(List af)×Int×Int×Str×(List af)×(List Int)×Int×Int
def Sz(fs:aV->Option (aV×af)):CX->Option (CX⊕(aV×af)):=(fun (a:(List aK)×Int×Int×Int×Int×Str×(List af)×Int×Int×Str×(List af)×(List Int)×Int×Int)=>
  bif (decide (a.2.2.2.2.2.2.2.2.2.2.2.2.2<a.2.2.2.2.2.2.2.2.2.2.2.2.1))then
   (idx a.2.2.2.2.2.2.2.2.2.2.2.1 a.2.2.2.2.2.2.2.2.2.2.2.2.2).bind fun _=>
   (a.2.2.2.2.2.2.2.2.2.2.2.1[a.2.2.2.2.2.2.2.2.2.2.2.2.2.toNat]?).bind fun c=>
   (sZ c).bind fun e=>
   (bn (aV.mk a.1 a.2.1 a.2.2.1) e).bind fun b=>
   bif b.2 then
    (fs b.1).bind fun d=>
    some (.inr (d.1,af.mk 6 c [] [af.mk a.2.2.2.2.2.2.2.1 a.2.2.2.2.2.2.2.2.1 a.2.2.2.2.2.2.2.2.2.1 a.2.2.2.2.2.2.2.2.2.2.1,ah d.2]))
   else
    some (.inl (b.1.toks,b.1.i,b.1.bad,a.2.2.2.1,a.2.2.2.2.1,a.2.2.2.2.2.1,a.2.2.2.2.2.2.1,a.2.2.2.2.2.2.2.1,a.2.2.2.2.2.2.2.2.1,a.2.2.2.2.2.2.2.2.2.1,a.2.2.2.2.2.2.2.2.2.2.1,a.2.2.2.2.2.2.2.2.2.2.2.1,a.2.2.2.2.2.2.2.2.2.2.2.2.1,w64 (a.2.2.2.2.2.2.2.2.2.2.2.2.2+1)))
  else
   some (.inr (aV.mk a.1 a.2.1 a.2.2.1,af.mk a.2.2.2.2.2.2.2.1 a.2.2.2.2.2.2.2.2.1 a.2.2.2.2.2.2.2.2.2.1 a.2.2.2.2.2.2.2.2.2.2.1))
 )
def pkC(toks:List aK)(s:PS)(e:af)(j:Int):CX:=((encI toks s).toks,(encI toks s).i,(encI toks s).bad,0,0,[],[],e.kind,e.n,e.text,e.args,[4,5],2,j)
def alr(toks:List aK)(fs:aV->Option (aV×af))(s:PS)(e:af):Option (aV×af):=
 if sees toks s [60]=true then (fs (encI toks (bD s))).bind fun r=>some (r.1,⟨6,4,[],[e,r.2]⟩)
 else if sees toks s [61,61]=true then (fs (encI toks (bD s))).bind fun r=>some (r.1,⟨6,5,[],[e,r.2]⟩)
 else some (encI toks s,e)
theorem cmp_eq(h:dM toks stop)(fs)(s:PS)(e:af):ak (Sz fs) (pkC toks s e 0)=alr toks fs s e:=by
 obtain⟨ek,en,et,ea⟩:=e;have d:Sz fs (pkC toks s ⟨ek,en,et,ea⟩ 0)=if sees toks s [60]=true then (fs (encI toks (bD s))).bind fun r=>some (.inr (r.1,⟨6,4,[],[⟨ek,en,et,ea⟩,r.2]⟩))else some (.inl (pkC toks s ⟨ek,en,et,ea⟩ 1)):=by
  unfold Sz;show ((bn (encI toks s) [60]).bind fun a=>bif a.2 then (fs a.1).bind fun b=>some (Sum.inr (b.1,af.mk 6 4 [] [⟨ek,en,et,ea⟩,ah b.2]))else some (Sum.inl (a.1.toks,a.1.i,a.1.bad,0,0,[],[],ek,en,et,ea,[4,5],2,w64 (0+1))))=_
  rw[jD h s [60] rfl];simp only[zA,aQ];cases c:sees toks s [60]with
  | true=>simp
  | false=>simp only[aa,aE,if_false];rfl
 have f:Sz fs (pkC toks s ⟨ek,en,et,ea⟩ 1)=if sees toks s [61,61]=true then (fs (encI toks (bD s))).bind fun r=>some (.inr (r.1,⟨6,5,[],[⟨ek,en,et,ea⟩,r.2]⟩))else some (.inl (pkC toks s ⟨ek,en,et,ea⟩ 2)):=by
  unfold Sz;show ((bn (encI toks s) [61,61]).bind fun a=>bif a.2 then (fs a.1).bind fun b=>some (Sum.inr (b.1,af.mk 6 5 [] [⟨ek,en,et,ea⟩,ah b.2]))else some (Sum.inl (a.1.toks,a.1.i,a.1.bad,0,0,[],[],ek,en,et,ea,[4,5],2,w64 (1+1))))=_
  rw[jD h s [61,61] rfl];simp only[zA,aQ];cases c:sees toks s [61,61]with
  | true=>simp
  | false=>simp only[aa,aE,if_false];rfl
 have g:Sz fs (pkC toks s ⟨ek,en,et,ea⟩ 2)=some (.inr (encI toks s,⟨ek,en,et,ea⟩)):=rfl;unfold alr;rw[aI,d];cases c:sees toks s [60]with
 | true=>
  simp only[if_true];cases fs (encI toks (bD s))<;>rfl
 | false=>
  simp only[aE,if_false];rw[aI,f];cases j:sees toks s [61,61]with
  | true=>
   simp only[if_true];cases fs (encI toks (bD s))<;>rfl
  | false=>
   simp only[aE,if_false];rw[aI,g]
theorem ahF(W:Wt){s d e:PS}{op:Int}{x y a f:af}(b:op=4\/op=5)(p:a=f/\W.s a+(bD d).i<=e.i)(q:x=y/\W.s x+s.i<=d.i):(⟨6,op,[],[x,a]⟩:af)=⟨6,op,[],[y,f]⟩/\W.c ⟨6,op,[],[x,a]⟩+s.i<=e.i:=by
 refine⟨by rw[p.1,q.1],?_⟩;have g:=p.2;have h:=q.2;have j:=W.cmp op x a b;rw[jQ]at g;omega
theorem alq(h:dM toks stop)(W:Wt){k:Nat}{fs gs}(m:∀s,s.i<=toks.length->rem toks s<=k->Sim W.s toks stop fs gs s)(z A B C D)(s:PS)(E:s.i<=toks.length)(F:rem toks s<=k) :
  Sim W.c toks stop (fun a=>(fs a).bind fun r=>ak (Sz fs) (r.1.toks,r.1.i,r.1.bad,0,0,[],[],r.2.kind,r.2.n,r.2.text,r.2.args,[4,5],([4,5].length:Int),0)) (rD z A gs B C D) s:=by
 obtain⟨b,x,y,G,H,j,l⟩:=m s E F;have I:=l.rem;have eI:((fs (encI toks s)).bind fun r=>ak (Sz fs) (r.1.toks,r.1.i,r.1.bad,0,0,[],[],r.2.kind,r.2.n,r.2.text,r.2.args,[4,5],([4,5].length:Int),0))=alr toks fs b x:=by
  rw[G];exact cmp_eq h fs b x
 have eS:rD z A gs B C D (encS toks stop s)=(if sees toks b [60]=true then (gs (encS toks stop (bD b))).bind fun r=>some (r.1,⟨6,4,[],[y,r.2]⟩)else if sees toks b [61,61]=true then (gs (encS toks stop (bD b))).bind fun r=>some (r.1,⟨6,5,[],[y,r.2]⟩)else some (encS toks stop b,y)):=by
  unfold rD;simp only[H,zA,qm h b,kY,aQ];cases f:sees toks b [60]with
  | true=>
   simp only[ac,if_true];rw[kW h (bI f).2]
  | false=>
   simp only[aa,aE,if_false];cases d:sees toks b [61,61]with
   | true=>
    simp only[ac,if_true];rw[kW h (bI d).2]
   | false=>simp
 unfold Sim;show ∃(s':PS) (x' y':af),((fs (encI toks s)).bind fun r=>ak (Sz fs) (r.1.toks,r.1.i,r.1.bad,0,0,[],[],r.2.kind,r.2.n,r.2.text,r.2.args,[4,5],([4,5].length:Int),0))=_/\_
 rw[eI,eS];unfold alr;cases f:sees toks b [60]with
 | true=>
  obtain⟨g,J⟩:=fV (bI f).1 (bI f).2;obtain⟨o,p,q,t,u,v,w⟩:=m (bD b) g.len (by omega);refine⟨o,⟨6,4,[],[x,p]⟩,⟨6,4,[],[y,q]⟩,?_,?_,fun e=>(ahF W (.inl rfl) (v e) (j (bI f).1)),(l.trans g).trans w⟩
  ·simp only[if_true,t,zA]
  ·simp only[if_true,u,zA]
 | false=>
  simp only[aE,if_false];cases d:sees toks b [61,61]with
  | true=>
   obtain⟨g,J⟩:=fV (bI d).1 (bI d).2;obtain⟨o,p,q,t,u,v,w⟩:=m (bD b) g.len (by omega);refine⟨o,⟨6,5,[],[x,p]⟩,⟨6,5,[],[y,q]⟩,?_,?_,fun e=>(ahF W (.inr rfl) (v e) (j (bI d).1)),(l.trans g).trans w⟩
   ·simp only[if_true,t,zA]
   ·simp only[if_true,u,zA]
  | false=>
   simp only[aE,if_false];exact⟨b,x,y,rfl,rfl,fun e=>⟨(j e).1,Nat.le_trans (Nat.add_le_add_right (W.sc x) _) (j e).2⟩,l⟩
theorem ale(fe fs o p j)(a:aV):Ad fe fs o p j a =
 ((fD a).bind fun k=>
 (jE k.2 [108,101,116]).bind fun w=>
 bif w then
  (lK (aV.mk k.1.toks (w64 (k.1.i+1)) k.1.bad)).bind fun o=>
  (bV o.1 [61]).bind fun p=>
  (fe p).bind fun j=>
  (gd ([ah j.2].length)).bind fun _=>
  (bV j.1 [105,110]).bind fun x=>
  (fe x).bind fun q=>
  (gd ([ah j.2].length+[ah q.2].length)).bind fun _=>
  some (q.1,af.mk 7 0 o.2 ([ah j.2]++[ah q.2]))
 else
 (fD k.1).bind fun l=>
 (jE l.2 [105,102]).bind fun y=>
 bif y then
  (fe (aV.mk l.1.toks (w64 (l.1.i+1)) l.1.bad)).bind fun c=>
  (gd ([ah c.2].length)).bind fun _=>
  (bV c.1 [116,104,101,110]).bind fun r=>
  (fe r).bind fun e=>
  (gd ([ah c.2].length+[ah e.2].length)).bind fun _=>
  (bV e.1 [101,108,115,101]).bind fun s=>
  (fe s).bind fun g=>
  (gd (([ah c.2]++[ah e.2]).length+[ah g.2].length)).bind fun _=>
  some (g.1,af.mk 8 0 [] (([ah c.2]++[ah e.2])++[ah g.2]))
 else
 (fD l.1).bind fun d=>
 (jE d.2 [102,111,114]).bind fun t=>
 bif t then
  (lK (aV.mk d.1.toks (w64 (d.1.i+1)) d.1.bad)).bind fun m=>
  (bV m.1 [105,110]).bind fun u=>
  (fe u).bind fun f=>
  (gd ([ah f.2].length)).bind fun _=>
  (bV f.1 [100,111]).bind fun v=>
  (fe v).bind fun h=>
  (gd ([ah f.2].length+[ah h.2].length)).bind fun _=>
  some (h.1,af.mk 9 0 m.2 ([ah f.2]++[ah h.2]))
 else
 (fs d.1).bind fun b=>
 ak (Sz fs) (b.1.toks,b.1.i,b.1.bad,0,0,[],[],b.2.kind,b.2.n,b.2.text,b.2.args,[4,5],([4,5].length:Int),0)):=rfl
theorem Qy(h:dM toks stop)(s:PS):(jC toks s).2.length<=120:=by
 unfold jC;split
 ·exact (lG h s).len
 ·simp
theorem ajJ(h:dM toks stop)(W:Wt){k:Nat}{fe ge fs gc}(B:∀s,s.i<=toks.length->rem toks s+1<=k->Sim W.e toks stop fe ge s)
  (hC:∀s,s.i<=toks.length->rem toks s<=k->Sim W.c toks stop (fun a=>(fs a).bind fun r=>ak (Sz fs) (r.1.toks,r.1.i,r.1.bad,0,0,[],[],r.2.kind,r.2.n,r.2.text,r.2.args,[4,5],([4,5].length:Int),0)) gc s)
  (r3 r4 r5 t3 t4 t5 t6) (s:PS) (hs:s.i<=toks.length) (hk:rem toks s<=k):Sim W.e toks stop (Ad fe fs r3 r4 r5) (J3 ge gc t3 t4 t5 t6) s:=by
 unfold Sim;have Q:∀x:af,gd [x].length=some ():=fun x=>gdp (by simp)
 have R:∀x y:af,gd ([x].length+[y].length)=some ():=fun x y=>gdp (by simp)
 have g3:∀x y z:af,gd (([x]++[y]).length+[z].length)=some ():=fun x y z=>gdp (by simp)
 rw[ale];unfold J3;simp only[yC h,zA,afe,QK h s [108,101,116] rfl,QK h s [105,102] rfl,QK h s [102,111,114] rfl,qm h s,aQ];cases N:sees toks s [108,101,116]with
 | true=>
  obtain⟨p,T⟩:=fV (bI N).1 (bI N).2;have l:=aat (toks:=toks) p.len;have j:=qj (x:=[61]) l.len;obtain⟨F,q,G,C,D,t,d⟩:=B (eU toks (jC toks (bD s)).1 [61]) j.len (by have:=l.rem;have:=j.rem;omega);have b:=qj (x:=[105,110]) d.len;obtain⟨H,u,I,J,K,L,g⟩:=B (eU toks F [105,110]) b.len (by have:=l.rem;have:=j.rem;have:=d.rem;have:=b.rem;omega);refine⟨H,⟨7,0,(jC toks (bD s)).2,[q,u]⟩,⟨7,0,(jC toks (bD s)).2,[G,I]⟩,?_,?_,fun f=>(by
   have v:=L f;have w:=t (jB (b.trans g) f);refine⟨by rw[v.1,w.1],?_⟩;have U:=v.2;have S:=w.2;have A:=jB g f;have V:=Bg A;have M:=jB (d.trans b) A;have c4:=Bg M;have O:=ai7 (jB j M);rw[jQ]at O;have X:=W.two _ (jC toks (bD s)).2 q u (.inl rfl) (Qy h (bD s));omega),((((p.trans l).trans j).trans d).trans b).trans g⟩
  ·simp only[ac];rw[CU h (bI N).2];simp only[aaV h,zA,yD h,C,Q,R,J];rfl
  ·simp only[ac];rw[kW h (bI N).2];simp only[ZB h,zA,tZ h,D,K]
 | false=>
  simp only[aa];cases m:sees toks s [105,102]with
  | true=>
   obtain⟨p,T⟩:=fV (bI m).1 (bI m).2;obtain⟨F,q,G,C,D,t,d⟩:=B (bD s) p.len (by omega);have b:=qj (x:=[116,104,101,110]) d.len;obtain⟨H,u,I,J,K,L,g⟩:=B (eU toks F [116,104,101,110]) b.len (by have:=d.rem;have:=b.rem;omega);have E:=qj (x:=[101,108,115,101]) g.len;obtain⟨s4,Y,y4,u1,u2,u3,P⟩:=B (eU toks H [101,108,115,101]) E.len (by have:=d.rem;have:=b.rem;have:=g.rem;have:=E.rem;omega);refine⟨s4,⟨8,0,[],[q,u,Y]⟩,⟨8,0,[],[G,I,y4]⟩,?_,?_,fun f=>(by
    have Z:=u3 f;have v:=L (jB (E.trans P) f);have w:=t (jB ((b.trans g).trans (E.trans P)) f);refine⟨by rw[Z.1,v.1,w.1],?_⟩;have c0:=Z.2;have U:=v.2;have S:=w.2;have A:=jB P f;have V:=Bg A;have O:=Bg (jB (g.trans E) A);rw[jQ]at S;have X:=W.three q u Y;omega),((((p.trans d).trans b).trans g).trans E).trans P⟩
   ·simp only[ac];rw[CU h (bI m).2];simp only[zA,yD h,C,Q,R,g3,J,u1];rfl
   ·simp only[ac];rw[kW h (bI m).2];simp only[zA,tZ h,D,K,u2]
  | false=>
   simp only[aa];cases o:sees toks s [102,111,114]with
   | true=>
    obtain⟨p,T⟩:=fV (bI o).1 (bI o).2;have l:=aat (toks:=toks) p.len;have j:=qj (x:=[105,110]) l.len;obtain⟨F,q,G,C,D,t,d⟩:=B (eU toks (jC toks (bD s)).1 [105,110]) j.len (by have:=l.rem;have:=j.rem;omega);have b:=qj (x:=[100,111]) d.len;obtain⟨H,u,I,J,K,L,g⟩:=B (eU toks F [100,111]) b.len (by have:=l.rem;have:=j.rem;have:=d.rem;have:=b.rem;omega);refine⟨H,⟨9,0,(jC toks (bD s)).2,[q,u]⟩,⟨9,0,(jC toks (bD s)).2,[G,I]⟩,?_,?_,fun f=>(by
   have v:=L f;have w:=t (jB (b.trans g) f);refine⟨by rw[v.1,w.1],?_⟩;have U:=v.2;have S:=w.2;have A:=jB g f;have V:=Bg A;have M:=jB (d.trans b) A;have c4:=Bg M;have O:=ai7 (jB j M);rw[jQ]at O;have X:=W.two _ (jC toks (bD s)).2 q u (.inr rfl) (Qy h (bD s));omega),((((p.trans l).trans j).trans d).trans b).trans g⟩
    ·simp only[ac];rw[CU h (bI o).2];simp only[aaV h,zA,yD h,C,Q,R,J];rfl
    ·simp only[ac];rw[kW h (bI o).2];simp only[ZB h,zA,tZ h,D,K]
   | false=>
    simp only[aa];obtain⟨s',x,y,C,D,t,d⟩:=hC s hs hk;refine⟨s',x,y,C,?_,fun f=>⟨(t f).1,Nat.le_trans (Nat.add_le_add_right (W.ce x) _) (t f).2⟩,d⟩;rw[D];rfl
variable {toks:List aK} {stop:Int}
theorem ac9(h:dM toks stop)(W:Wt):∀(k:Nat) (s:PS),s.i<=toks.length->rem toks s<=k->∀n m,5*k+5<=n->6*k+6<=m->Sim W.e toks stop (aG n).1 (aH m).1 s:=by
 intro k;induction k using Nat.strongRecOn with
 | _ k ih=>
  have r:∀n m,5*k<=n->6*k<=m->∀s,s.i<=toks.length->rem toks s+1<=k->Sim W.e toks stop (aG n).1 (aH m).1 s:=fun n m o q s f g=>
   ih (k-1) (by omega) s f (by omega) n m (by omega) (by omega)
  have u:∀n m,5*k+1<=n->6*k+1<=m->∀b,letter b=false->b≠[44]->∀s,s.i<=toks.length->rem toks s+1<=k->Sim W.l toks stop (fun a=>(aG n).2.2.2.2 a b) (fun a=>(aH m).2.2.2.2.2 a b) s:=by
   intro n m o q b v t s f g;obtain⟨d,rfl⟩:∃d,n=d+1:=⟨n-1,by omega⟩;obtain⟨c,rfl⟩:∃c,m=c+1:=⟨m-1,by omega⟩;exact ai9 h W (k:=k-1) (fun s f g=>r d c (by omega) (by omega) s f (by omega)) b v t (aG d).2.1 (aG d).2.2.1 (aG d).2.2.2.1 (aG d).2.2.2.2 (aH c).2.1 (aH c).2.2.1 (aH c).2.2.2.1 (aH c).2.2.2.2.1 (aH c).2.2.2.2.2 s f (by omega)
  have w:∀n m,5*k+2<=n->6*k+2<=m->∀s,s.i<=toks.length->rem toks s<=k->Sim W.a toks stop (aG n).2.2.2.1 (aH m).2.2.2.2.1 s:=by
   intro n m o q s f g;obtain⟨d,rfl⟩:∃d,n=d+1:=⟨n-1,by omega⟩;obtain⟨c,rfl⟩:∃c,m=c+1:=⟨m-1,by omega⟩;exact akd h W (r d c (by omega) (by omega)) (u d c (by omega) (by omega)) (aG d).2.1 (aG d).2.2.1 (aG d).2.2.2.1 (aH c).2.1 (aH c).2.2.1 (aH c).2.2.2.1 (aH c).2.2.2.2.1 s f g
  have x:∀n m,5*k+3<=n->6*k+3<=m->∀s,s.i<=toks.length->rem toks s<=k->Sim W.p toks stop (aG n).2.2.1 (aH m).2.2.2.1 s:=by
   intro n m o q s f g;obtain⟨d,rfl⟩:∃d,n=d+1:=⟨n-1,by omega⟩;obtain⟨c,rfl⟩:∃c,m=c+1:=⟨m-1,by omega⟩;exact aiG h W (w d c (by omega) (by omega)) (aG d).1 (aG d).2.1 (aG d).2.2.1 (aG d).2.2.2.2 (aH c).1 (aH c).2.1 (aH c).2.2.1 (aH c).2.2.2.1 (aH c).2.2.2.2.2 s f g
  have y:∀n m,5*k+4<=n->6*k+4<=m->∀s,s.i<=toks.length->rem toks s<=k->Sim W.s toks stop (aG n).2.1 (aH m).2.2.1 s:=by
   intro n m o q s f g;obtain⟨d,rfl⟩:∃d,n=d+1:=⟨n-1,by omega⟩;obtain⟨c,rfl⟩:∃c,m=c+1:=⟨m-1,by omega⟩;exact akv h W (x d c (by omega) (by omega)) (aG d).1 (aG d).2.1 (aG d).2.2.2.1 (aG d).2.2.2.2 (aH c).1 (aH c).2.1 (aH c).2.2.1 (aH c).2.2.2.2.1 (aH c).2.2.2.2.2 s f g
  intro s f g n m o q;obtain⟨d,rfl⟩:∃d,n=d+1:=⟨n-1,by omega⟩;obtain⟨c,rfl⟩:∃c,m=c+1:=⟨m-1,by omega⟩;refine ajJ h W (r d c (by omega) (by omega)) (fs:=(aG d).2.1) (gc:=(aH c).2.1) (fun s f g=>?_) (aG d).2.2.1 (aG d).2.2.2.1 (aG d).2.2.2.2 (aH c).2.2.1 (aH c).2.2.2.1 (aH c).2.2.2.2.1 (aH c).2.2.2.2.2 s f g;obtain⟨j,rfl⟩:∃j,c=j+1:=⟨c-1,by omega⟩;exact alq h W (y d j (by omega) (by omega)) (aH j).1 (aH j).2.1 (aH j).2.2.2.1 (aH j).2.2.2.2.1 (aH j).2.2.2.2.2 s f g
variable {toks:List aK} {stop:Int}
theorem ql(n:Int):1<=SizeOf.sizeOf n:=by
 cases n with
 | ofNat m=>rw[Int.ofNat.sizeOf_spec];omega
 | negSucc m=>rw[Int.negSucc.sizeOf_spec];omega
theorem af2{α:Type}[SizeOf α](xs:List α):1<=SizeOf.sizeOf xs:=by
 cases xs with
 | nil=>rw[List.nil.sizeOf_spec];omega
 | cons x r=>rw[List.cons.sizeOf_spec];omega
theorem akx(t:aK):5<=SizeOf.sizeOf t:=by
 obtain⟨a,b,c,d⟩:=t;rw[aK.mk.sizeOf_spec];have:=ql a;have:=ql b;have:=ql c;have:=af2 d;omega
theorem ah4(toks:List aK):6*toks.length+1<=SizeOf.sizeOf toks:=by
 induction toks with
 | nil=>rw[List.nil.sizeOf_spec];simp
 | cons t r ih=>
  rw[List.cons.sizeOf_spec];have:=akx t;simp only[List.length_cons];omega
theorem XB(h:dM toks stop)(W:Wt):∃(s':PS) (x y:af),CP (aV.mk toks 0 (-1))=some (encI toks s',x)/\PD (GRd.mk toks 0 stop (-1))=some (encS toks stop s',y)/\(s'.bad=none->x=y/\W.e x<=s'.i)/\s'.i<=toks.length:=by
 have g:=ah4 toks;have hi:5*toks.length+5<=siz (aV.mk toks 0 (-1))+1:=by
  show _<=SizeOf.sizeOf (aV.mk toks 0 (-1))+1
  rw[aV.mk.sizeOf_spec];have:=ql 0;have:=ql (-1);omega
 have a:6*toks.length+6<=siz (GRd.mk toks 0 stop (-1))+1:=by
  show _<=SizeOf.sizeOf (GRd.mk toks 0 stop (-1))+1
  rw[GRd.mk.sizeOf_spec];have:=ql 0;have:=ql (-1);have:=ql stop;omega
 obtain⟨s',x,y,b,c,d,f⟩:=ac9 h W toks.length ⟨0,none⟩ (Nat.zero_le _) (by simp[rem]) _ _ hi a;exact⟨s',x,y,b,c,d,f.len⟩
theorem adb(a:Str){toks:List aK}{t:Int}(hi:yw a=some (toks,t))(z:xC a=some (toks,t))(m:t<0->dM toks (a.length:Int))
  (hv:∀e:af,wtE e<=60->∃v,gW e=some v/\gU e=some v):∃(e:af) (p:Int),uM a=some (e,p)/\ug a=some (e,p)/\(p<0->gW e=some true/\wtE e<=60):=by
 unfold uM ug;rw[hi,z];simp only[zA];by_cases u:t>=0
 ·have e:decide (t>=0)=true:=by simpa using u
  rw[e];exact⟨_,_,rfl,rfl,fun h=>by omega⟩
 ·have e:decide (t>=0)=false:=by simpa using u
  rw[e];simp only[aa];have h:=m (by omega);obtain⟨s',x,y,A,B,n,D⟩:=XB h wtW;have n:s'.bad=none->x=y/\wtE x<=s'.i:=n;have hlen:=h.len;rw[A,B];simp only[zA,aQ];rw[akc,akb h];cases g:s'.bad with
  | some b=>
   have eb:(encI toks s').bad=(b:Int):=by simp[encI,g]
   have es:(encS toks (a.length:Int) s').bad=BR toks (a.length:Int) b:=by simp[encS,g]
   have o:=lZ h b;have j:decide ((encS toks (a.length:Int) s').bad>=0)=true:=by rw[es];simpa using o
   have k:decide ((encI toks s').bad>=0)=true:=by rw[eb];simp
   rw[j,k,eb,es];simp only[Option.isNone_some,aa,ac];by_cases c:b<toks.length
   ·have d:decide ((b:Int)>=(toks.length:Int))=false:=by simp;omega
    rw[d];simp only[aa,aA,zF c,zA,az];refine⟨_,_,rfl,?_,fun hh=>?_⟩
    ·simp[BR,zF c]
    ·have:=(h.all _ (List.getElem_mem c)).pos;omega
   ·have d:decide ((b:Int)>=(toks.length:Int))=true:=by simp;omega
    rw[d];simp only[ac];have:toks[b]?=none:=zJ (by omega);refine⟨_,_,rfl,?_,fun hh=>by omega⟩;simp[BR,this]
  | none=>
   have ei:(encI toks s').i=(s'.i:Int):=rfl;have esi:(encS toks (a.length:Int) s').i=(s'.i:Int):=rfl;have eb:(encI toks s').bad = -1:=by simp[encI,g]
   have es:(encS toks (a.length:Int) s').bad = -1:=by simp[encS,g]
   simp only[Option.isNone_none,ac,ei,esi,um h,zA];obtain⟨q,f⟩:=n g;have f:wtE x<=60:=by omega
   subst q;by_cases r:s'.i<toks.length
   ·have j:decide ((s'.i:Int)<(toks.length:Int))=true:=by simp;omega
    have k:decide ((s'.i:Int)>=(toks.length:Int))=false:=by simp;omega
    have d:decide ((s'.i:Int)>=0)=true:=by simp
    have w:(encS toks (a.length:Int) (iJ s')).bad=toks[s'.i].pos:=by simp[encS,iJ,g,BR,zF r]
    have o:=(h.all _ (List.getElem_mem r)).pos;have C:decide ((encS toks (a.length:Int) (iJ s')).bad>=0)=true:=by rw[w];simpa using o
    rw[j,k,d,C,w];simp only[ac,aa,aA,zF r,zA,az];exact⟨_,_,rfl,rfl,fun hh=>by omega⟩
   ·have j:decide ((s'.i:Int)<(toks.length:Int))=false:=by simp;omega
    have k:decide ((-1:Int)>=(toks.length:Int))=false:=by simp;omega
    have d:decide ((-1:Int)>=0)=false:=rfl;obtain⟨v,l,s⟩:=hv x f;rw[j,eb,es,k,d];simp only[aa,l,s,zA];cases v with
    | false=>exact⟨_,_,rfl,rfl,fun hh=>by omega⟩
    | true=>exact⟨_,_,rfl,rfl,fun _=>⟨l,f⟩⟩
end
end Go.Proofs.YtapgeemjgckgaaaGreatDoor
