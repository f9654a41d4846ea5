import Derived.Test.YtngjomkjlonfpaaGreatNames2
set_option linter.unusedSimpArgs false
set_option linter.unusedVariables false
/- The two parsers: their states, and the steps that read a token. The two parsers alike: products, sums, lists. The two parsers alike: atoms, expressions. The two parsers alike: with enough fuel they come to the same end. ParseExpr alike, out of the same tokens. -/
namespace Go.Proofs.YtngjomkjlonfpaaGreat
noncomputable section
open Go.Abs Go.Proofs
structure PS where
 i:Nat
 bad:Option Nat
def CW(toks:List aI)(stop:Int)(b:Nat):Int:=match toks[b]? with
 | some t=>t.pos
 | none=>stop
def encI(toks:List aI)(s:PS):bn:=⟨toks,s.i,match s.bad with | none=>-1 | some b=>b⟩
def encS(toks:List aI)(stop:Int)(s:PS):GRd:=⟨toks,s.i,stop,match s.bad with | none=>-1 | some b=>CW toks stop b⟩
def letter(s:Str):Bool:=match s with
 | c::_=>decide (97<=c.toNat/\c.toNat<=122)
 | []=>false
structure Vo(t:aI):Prop where
 pos:0<=t.pos
 name:t.kind=1->letter t.text=true
 sym:t.kind=4->letter t.text=false
 len:t.text.length<=120
structure dW(toks:List aI)(stop:Int):Prop where
 all:∀t,t∈toks->Vo t
 stop:0<=stop
 len:toks.length<=60
def sees(toks:List aI)(s:PS)(x:Str):Bool:=match s.bad with
 | some _=>false
 | none=>match toks[s.i]? with
  | some t=>(t.kind==4||t.kind==1)&&t.text==x
  | none=>false
def iZ(s:PS):PS:=match s.bad with
 | some _=>s
 | none=>⟨s.i,some s.i⟩
def bK(s:PS):PS:=⟨s.i+1,s.bad⟩
def fO(toks:List aI)(s:PS)(x:Str):PS:=if sees toks s x=true then bK s else iZ s
variable {toks:List aI} {stop:Int}
theorem mW(h:dW toks stop)(b:Nat):0<=CW toks stop b:=by
 unfold CW;cases a:toks[b]? with
 | none=>exact h.stop
 | some t=>exact (h.all t (zG a)).pos
theorem bZ{s:PS}{x:Str}(h:sees toks s x=true):s.bad=none/\s.i<toks.length:=by
 unfold sees at h;cases a:s.bad with
 | some b=>rw[a]at h;cases h
 | none=>
  rw[a]at h;refine⟨rfl,?_⟩;cases c:toks[s.i]? with
  | none=>rw[c]at h;cases h
  | some t=>exact (zC.1 c).1
def aW(toks:List aI)(s:PS):aI:=match s.bad with
 | some _=>⟨0,0,0,[]⟩
 | none=>(toks[s.i]?).getD ⟨0,0,0,[]⟩
theorem yR(h:dW toks stop)(s:PS):gu (encI toks s)=some (encI toks s,aW toks s):=by
 obtain⟨i,bad⟩:=s;unfold gu aW encI;cases bad with
 | some b=>
  have e:decide ((b:Int)<0)=false:=by simp
  simp[e]
 | none=>
  simp only;by_cases hi:i<toks.length
  ·simp[au,hi,zF hi]
  ·have:toks[i]?=none:=zJ (by omega);simp[hi,this]
theorem adJ(t:aI)(x:Str):Ey t x=some (t.kind==4&&t.text==x):=by
 unfold Ey;by_cases h:t.kind==4<;>simp[h]
theorem adL(t:aI)(x:Str):kQ t x=some (t.kind==1&&t.text==x):=by
 unfold kQ;by_cases h:t.kind==1<;>simp[h]
theorem ac1(t:aI)(x:Str):iP t x=some (t.kind==4&&t.text==x):=by
 unfold iP;by_cases h:t.kind==4<;>simp[h]
theorem aiS(t:aI)(x:Str):zQ t x=some (t.kind==1&&t.text==x):=by
 unfold zQ;by_cases h:t.kind==1<;>simp[h]
theorem F8(s:PS)(x:Str):((aW toks s).kind==4&&(aW toks s).text==x||(aW toks s).kind==1&&(aW toks s).text==x)=sees toks s x:=by
 unfold aW sees;cases s.bad with
 | some b=>simp
 | none=>
  cases toks[s.i]? with
  | none=>simp
  | some t=>simp only[Option.getD_some];cases (t.kind==4)<;>cases (t.kind==1)<;>simp
theorem l9(h:dW toks stop)(s:PS):Vo (aW toks s):=by
 have a:Vo ⟨0,0,0,[]⟩:=⟨by simp,by simp,by simp,by simp⟩;unfold aW;cases s.bad with
 | some b=>exact a
 | none=>
  cases c:toks[s.i]? with
  | none=>exact a
  | some t=>exact h.all t (zG c)
theorem QK(h:dW toks stop)(s:PS)(x:Str)(c:letter x=true):((aW toks s).kind==1&&(aW toks s).text==x)=sees toks s x:=by
 rw[<- F8];have a:=l9 h s;cases b:((aW toks s).kind==4&&(aW toks s).text==x)with
 | false=>simp
 | true=>
  simp only[zI,beq_iff_eq]at b;have:=a.sym b.1;rw[b.2,c]at this;cases this
theorem GN(h:dW toks stop)(s:PS)(x:Str)(c:letter x=false):((aW toks s).kind==4&&(aW toks s).text==x)=sees toks s x:=by
 rw[<- F8];have a:=l9 h s;cases b:((aW toks s).kind==1&&(aW toks s).text==x)with
 | false=>simp
 | true=>
  simp only[zI,beq_iff_eq]at b;have:=a.name b.1;rw[b.2,c]at this;cases this
theorem Q5(s:PS):jh (encI toks s)=some (encI toks (iZ s),⟨0,0,[],[]⟩):=by
 obtain⟨i,bad⟩:=s;unfold jh iZ encI;cases bad with
 | some b=>
  have e:decide ((b:Int)<0)=false:=by simp
  simp[e]
 | none=>simp
theorem JF{n:Nat}(h:n<=60):w64 ((n:Int)+1)=((n+1:Nat):Int):=by rw[bM (by omega) (by omega)];rfl
theorem Dl{s:PS}(h:dW toks stop)(a:s.i<toks.length):(bn.mk (encI toks s).toks (w64 ((encI toks s).i+1)) (encI toks s).bad)=encI toks (bK s):=by
 have:=h.len;have e:w64 ((encI toks s).i+1)=((s.i+1:Nat):Int):=JF (by omega);rw[e];rfl
theorem lQ{s:PS}(h:dW toks stop)(a:s.i<toks.length):(GRd.mk (encS toks stop s).toks (w64 ((encS toks stop s).i+1)) (encS toks stop s).stop (encS toks stop s).bad)=encS toks stop (bK s):=by
 have:=h.len;have e:w64 ((encS toks stop s).i+1)=((s.i+1:Nat):Int):=JF (by omega);rw[e];rfl
theorem jS(h:dW toks stop)(s:PS)(x:Str)(a:letter x=false):bG (encI toks s) x=some (encI toks (if sees toks s x=true then bK s else s),sees toks s x):=by
 unfold bG;rw[yR h];simp only[zA,adJ,GN h s x a];cases b:sees toks s x with
 | true=>simp only[ab,if_true];rw[Dl h (bZ b).2]
 | false=>simp
theorem yS(h:dW toks stop)(s:PS)(x:Str):dw (encI toks s) x=some (encI toks (fO toks s x)):=by
 unfold dw fO;rw[yR h];simp only[zA,adL,yR h,adJ,Q5];have a:=F8 (toks:=toks) s x;cases b:((aW toks s).kind==1&&(aW toks s).text==x)with
 | true=>
  rw[b,Bool.or_true]at a;simp only[ab,<- a,if_true];rw[Dl h (bZ a.symm).2]
 | false=>
  rw[b,Bool.or_false]at a;simp only[aa,a];cases c:sees toks s x with
  | true=>simp only[ab,if_true];rw[Dl h (bZ c).2]
  | false=>simp
theorem rD(h:dW toks stop)(s:PS)(x:Str):eY (encS toks stop s) x=some (encS toks stop s,sees toks s x):=by
 obtain⟨i,bad⟩:=s;unfold eY sees encS;cases bad with
 | some b=>
  have:=mW h b;have e:decide (CW toks stop b<0)=false:=by simp;omega
  simp[e]
 | none=>
  simp only;by_cases hi:i<toks.length
  ·simp only[au,zF hi,zA,ac1,aiS];have a:decide ((-1:Int)<0)=true:=rfl;have c:decide ((i:Int)<(toks.length:Int))=true:=by simp;omega
   simp only[a,c,ab];cases (toks[i].kind==4)<;>cases (toks[i].kind==1)<;>cases (toks[i].text==x)<;>simp
  ·have:toks[i]?=none:=zJ (by omega);simp[hi,this]
theorem uX(h:dW toks stop)(s:PS):iU (encS toks stop s)=some (encS toks stop (iZ s),⟨0,0,[],[]⟩):=by
 obtain⟨i,bad⟩:=s;unfold iU iZ encS;cases bad with
 | some b=>
  have:=mW h b;have e:decide (CW toks stop b<0)=false:=by simp;omega
  simp[e]
 | none=>
  simp only;by_cases hi:i<toks.length
  ·simp[au,hi,zF hi,CW]
  ·have:toks[i]?=none:=zJ (by omega);simp[hi,this,CW]
theorem uN(h:dW toks stop)(s:PS)(x:Str):fH (encS toks stop s) x=some (encS toks stop (fO toks s x)):=by
 unfold fH fO;rw[rD h];simp only[zA,uX h];cases a:sees toks s x with
 | true=>simp only[aE,aa,if_true];rw[lQ h (bZ a).2]
 | false=>simp
def fJ(a:Str):Bool:=(bg a).getD false
theorem Eo(a:Str)(b:a.length<=120):bg a=some (fJ a):=by
 obtain⟨v,h⟩:=mJ a (by omega);unfold fJ;rw[h];rfl
theorem D5(a:Str)(b:a.length<=120):bU a=some (fJ a):=by
 rw[<- oI a (by omega),Eo a b]
def lG(t:aI):Bool:=t.kind==1&&fJ t.text
def jR(toks:List aI)(s:PS):PS×Str:=if lG (aW toks s)=true then (bK s,(aW toks s).text)else (iZ s,[])
theorem rQ{s:PS}(h:¬(aW toks s).kind=0):s.bad=none/\s.i<toks.length/\toks[s.i]?=some (aW toks s):=by
 unfold aW at h ⊢;cases a:s.bad with
 | some b=>rw[a]at h;exact absurd rfl h
 | none=>
  rw[a]at h;simp only at h ⊢;cases c:toks[s.i]? with
  | none=>rw[c]at h;exact absurd rfl h
  | some t=>exact⟨trivial,(zC.1 c).1,rfl⟩
theorem KI{s:PS}(h:lG (aW toks s)=true):s.bad=none/\s.i<toks.length/\toks[s.i]?=some (aW toks s):=by
 refine rQ fun a=>?_
 unfold lG at h;rw[a]at h;cases h
theorem Zx(h:dW toks stop)(s:PS):oO (encI toks s)=some (encI toks (jR toks s).1,(jR toks s).2):=by
 unfold oO jR;rw[yR h];have c:=l9 h s;simp only[zA,Q5,Eo _ c.len];cases b:((aW toks s).kind==1)with
 | false=>
  have e:((aW toks s).kind != 1)=true:=by simp[bne,b]
  have a:lG (aW toks s)=false:=by unfold lG;rw[b];rfl
  rw[e,a];simp
 | true=>
  have e:((aW toks s).kind != 1)=false:=by simp[bne,b]
  rw[e];cases d:fJ (aW toks s).text with
  | false=>
   have a:lG (aW toks s)=false:=by unfold lG;rw[b,d];rfl
   rw[a];simp
  | true=>
   have a:lG (aW toks s)=true:=by unfold lG;rw[b,d];rfl
   rw[a];simp only[aa,aE,if_true];rw[Dl h (KI a).2.1]
theorem Yc(h:dW toks stop)(s:PS):CJ (encS toks stop s)=some (encS toks stop (jR toks s).1,(jR toks s).2):=by
 unfold CJ jR;simp only[uX h];obtain⟨i,bad⟩:=s;cases bad with
 | some b=>
  have:=mW h b;have e:decide ((encS toks stop ⟨i,some b⟩).bad>=0)=true:=by simp[encS];omega
  have a:lG (aW toks ⟨i,some b⟩)=false:=rfl;rw[e,a];simp
 | none=>
  have e:decide ((encS toks stop ⟨i,none⟩).bad>=0)=false:=by simp[encS]
  rw[e];by_cases hi:i<toks.length
  ·have g:decide ((encS toks stop ⟨i,none⟩).i>=((encS toks stop ⟨i,none⟩).toks.length:Int))=false:=by simp[encS];omega
   have f:toks[i]?=some (aW toks ⟨i,none⟩):=by simp[aW,zF hi]
   have j:idx (encS toks stop ⟨i,none⟩).toks (encS toks stop ⟨i,none⟩).i=some (aW toks ⟨i,none⟩):=by
    show idx toks (i:Int)=_
    rw[au,f]
   have hlen:=h.len;have c:idx (encS toks stop ⟨i,none⟩).toks (w64 (w64 ((encS toks stop ⟨i,none⟩).i+1)-1))=some (aW toks ⟨i,none⟩):=by
    have m:w64 (w64 ((encS toks stop ⟨i,none⟩).i+1)-1)=(i:Int):=by
     show w64 (w64 ((i:Int)+1)-1)=_
     rw[JF (by omega),bM (by omega) (by omega)];omega
    rw[m];show idx toks (i:Int)=_
    rw[au,f]
   have k:=l9 h ⟨i,none⟩;rw[g];simp only[aa,j,c,zA,D5 _ k.len];cases d:((aW toks ⟨i,none⟩).kind==1)with
   | false=>
    have e:((aW toks ⟨i,none⟩).kind != 1)=true:=by simp[bne,d]
    have a:lG (aW toks ⟨i,none⟩)=false:=by unfold lG;rw[d];rfl
    rw[e,a];simp
   | true=>
    have e:((aW toks ⟨i,none⟩).kind != 1)=false:=by simp[bne,d]
    rw[e];cases l:fJ (aW toks ⟨i,none⟩).text with
    | false=>
     have a:lG (aW toks ⟨i,none⟩)=false:=by unfold lG;rw[d,l];rfl
     rw[a];simp
    | true=>
     have a:lG (aW toks ⟨i,none⟩)=true:=by unfold lG;rw[d,l];rfl
     rw[a];simp only[aa,aE,if_true];rw[lQ (s:=⟨i,none⟩) h hi]
  ·have g:decide ((encS toks stop ⟨i,none⟩).i>=((encS toks stop ⟨i,none⟩).toks.length:Int))=true:=by simp[encS];omega
   have f:toks[i]?=none:=zJ (by omega);have a:lG (aW toks ⟨i,none⟩)=false:=by simp[aW,f,lG]
   rw[g,a];simp
structure Adv(toks:List aI)(s s':PS):Prop where
 le:s.i<=s'.i
 len:s'.i<=toks.length
 bad:∀b,s.bad=some b->s'=s
theorem Adv.refl{s:PS}(h:s.i<=toks.length):Adv toks s s:=⟨ar _,h,fun _ _=>rfl⟩
theorem Adv.trans{a b c:PS}(h:Adv toks a b)(k:Adv toks b c):Adv toks a c:=⟨Nat.le_trans h.le k.le,k.len,fun x d=>by
 have e:=h.bad x d;subst e;exact k.bad x d⟩
def rem(toks:List aI)(s:PS):Nat:=match s.bad with
 | some _=>0
 | none=>toks.length-s.i
theorem Adv.rem{s s':PS}(h:Adv toks s s'):rem toks s'<=rem toks s:=by
 cases a:s.bad with
 | some b=>rw[h.bad b a];exact ar _
 | none=>
  have e:Go.Proofs.YtngjomkjlonfpaaGreat.rem toks s=toks.length-s.i:=by unfold Go.Proofs.YtngjomkjlonfpaaGreat.rem;rw[a]
  rw[e];have:=h.le;unfold Go.Proofs.YtngjomkjlonfpaaGreat.rem;cases s'.bad with
  | some b=>exact Nat.zero_le _
  | none=>simp only;omega
theorem gJ{s:PS}(a:s.bad=none)(hi:s.i<toks.length):Adv toks s (bK s)/\rem toks (bK s)+1=rem toks s:=by
 refine⟨⟨by simp[bK],hi,fun b h=>by rw[a]at h;cases h⟩,?_⟩;simp only[rem,bK,a];omega
theorem Jt{s:PS}(hi:s.i<=toks.length):Adv toks s (iZ s):=by
 unfold iZ;cases a:s.bad with
 | some b=>exact Adv.refl hi
 | none=>exact⟨ar _,hi,fun b h=>by rw[a]at h;cases h⟩
theorem Rk(s:PS):∃b,(iZ s).bad=some b:=by
 unfold iZ;cases a:s.bad with
 | some b=>exact⟨b,a⟩
 | none=>exact⟨s.i,rfl⟩
theorem ru{s:PS}{x:Str}(hi:s.i<=toks.length):Adv toks s (fO toks s x):=by
 unfold fO;split
 ·rename_i h;exact (gJ (bZ h).1 (bZ h).2).1
 ·exact Jt hi
theorem Za{s:PS}(hi:s.i<=toks.length):Adv toks s (jR toks s).1:=by
 unfold jR;split
 ·rename_i h;exact (gJ (KI h).1 (KI h).2.1).1
 ·exact Jt hi
variable {toks:List aI} {stop:Int}
mutual
def wtE:af->Nat
 | ⟨_,_,t,a⟩=>(if t.length<=120 then 1 else 18446744073709551616)+wtL a
def wtL:List af->Nat
 | []=>0
 | x::r=>wtE x+wtL r
end
theorem Fv(a b:List af):wtL (a++b)=wtL a+wtL b:=by
 induction a with
 | nil=>simp[wtL]
 | cons x r ih=>simp only[List.cons_append,wtL,ih];omega
theorem DU{k n:Int}{t:Str}{a:List af}(h:t.length<=120):wtE ⟨k,n,t,a⟩=1+wtL a:=by simp[wtE,h]
theorem DW{k n:Int}{a:List af}:wtE ⟨k,n,[],a⟩=1+wtL a:=by simp[wtE]
theorem acK(x:af):wtL [x]=wtE x:=by simp[wtL]
theorem zl(x y:af):wtL [x,y]=wtE x+wtE y:=by simp[wtL]
theorem Ui(x y z:af):wtL [x,y,z]=wtE x+(wtE y+wtE z):=by simp[wtL]
structure Wt where
 a:af->Nat
 p:af->Nat
 s:af->Nat
 c:af->Nat
 e:af->Nat
 l:List af->Nat
 o:List af->Nat
 leaf:∀(k n:Int) (x:Str),x.length<=120->k=1\/k=2\/k=3->a ⟨k,n,x,[]⟩<=1
 paren:∀x,a x<=e x+2
 lst:∀xs,a ⟨4,0,[],xs⟩<=l xs+1
 call:∀(x:Str) xs,x.length<=120->a ⟨5,0,x,xs⟩<=l xs+2
 ap:∀x,p x<=a x
 prod:∀x y,p ⟨6,3,[],[x,y]⟩<=p x+1+a y
 ps:∀x,s x<=p x
 sum:∀(k:Int) x y,k=1\/k=2->s ⟨6,k,[],[x,y]⟩<=s x+1+p y
 sc:∀x,c x<=s x
 cmp:∀(k:Int) x y,k=4\/k=5->c ⟨6,k,[],[x,y]⟩<=s x+1+s y
 ce:∀x,e x<=c x
 two:∀(k:Int) (t:Str) x y,k=7\/k=9->t.length<=120->e ⟨k,0,t,[x,y]⟩<=e x+e y+4
 three:∀x y z,e ⟨8,0,[],[x,y,z]⟩<=e x+e y+e z+3
 nil:l []<=1
 o0:o []=0
 up:∀xs x,o (xs++[x])<=o xs+e x+1
 ol:∀xs x,l (xs++[x])<=o (xs++[x])
def wtW:Wt where
 a:=wtE
 p:=wtE
 s:=wtE
 c:=wtE
 e:=wtE
 l:=wtL
 o:=wtL
 leaf:=fun k n x h _=>by rw[DU h];simp[wtL]
 paren:=fun x=>by omega
 lst:=fun xs=>by rw[DW];omega
 call:=fun x xs h=>by rw[DU h];omega
 ap:=fun x=>ar _
 prod:=fun x y=>by rw[DW,zl];omega
 ps:=fun x=>ar _
 sum:=fun k x y _=>by rw[DW,zl];omega
 sc:=fun x=>ar _
 cmp:=fun k x y _=>by rw[DW,zl];omega
 ce:=fun x=>ar _
 two:=fun k t x y _ h=>by rw[DU h,zl];omega
 three:=fun x y z=>by rw[DW,Ui];omega
 nil:=by simp[wtL]
 o0:=rfl
 up:=fun xs x=>by rw[Fv,acK];omega
 ol:=fun xs x=>ar _
def Sim{α:Type}(w:α->Nat)(toks:List aI)(stop:Int)(f:bn->Option (bn×α))(g:GRd->Option (GRd×α))(s:PS):Prop:=
 ∃(s':PS) (x y:α),f (encI toks s)=some (encI toks s',x)/\g (encS toks stop s)=some (encS toks stop s',y)/\(s'.bad=none->x=y/\w x+s.i<=s'.i)/\Adv toks s s'
theorem kC(s:PS):(bK s).i=s.i+1:=rfl
theorem U1{s:PS}(h:(iZ s).bad=none):False:=by
 obtain⟨b,a⟩:=Rk s;rw[a]at h;cases h
theorem BJ{s:PS}{x:Str}(h:(fO toks s x).bad=none):(fO toks s x).i=s.i+1:=by
 unfold fO at h ⊢;split
 ·rfl
 ·rename_i a;rw[if_neg a]at h;exact (U1 h).elim
theorem ahg{s:PS}(h:(jR toks s).1.bad=none):(jR toks s).1.i=s.i+1:=by
 unfold jR at h ⊢;split
 ·rfl
 ·rename_i a;rw[if_neg a]at h;exact (U1 h).elim
theorem ac0{s:PS}{x y:Str}(h:sees toks s x=true)(a:x≠y):sees toks s y=false:=by
 unfold sees at h ⊢;cases c:s.bad with
 | some b=>rfl
 | none=>
  rw[c]at h;simp only at h ⊢;cases d:toks[s.i]? with
  | none=>rfl
  | some t=>
   rw[d]at h;simp only[zI,beq_iff_eq]at h ⊢;have:¬t.text=y:=by rw[h.2];exact a
   simp[this]
abbrev IX:=(List aI)×Int×Int×Int×Int×Str×(List af)×Int×Int×Str×(List af)
abbrev SX:=(List aI)×Int×Int×Int×Int×Int×Str×(List af)×Int×Int×Str×(List af)
def pkI(toks:List aI)(s:PS)(e:af):IX:=((encI toks s).toks,(encI toks s).i,(encI toks s).bad,0,0,[],[],e.kind,e.n,e.text,e.args)
def pkS(toks:List aI)(stop:Int)(s:PS)(e:af):SX:=((encS toks stop s).toks,(encS toks stop s).i,(encS toks stop s).stop,(encS toks stop s).bad,0,0,[],[],e.kind,e.n,e.text,e.args)
def adh(fa:bn->Option (bn×af)):IX->Option (IX⊕(bn×af)):=(fun (a:(List aI)×Int×Int×Int×Int×Str×(List af)×Int×Int×Str×(List af))=>
  (bG (bn.mk a.1 a.2.1 a.2.2.1) [42]).bind fun c=>
  bif c.2 then
   (fa c.1).bind fun b=>
   some (.inl (b.1.toks,b.1.i,b.1.bad,a.2.2.2.1,a.2.2.2.2.1,a.2.2.2.2.2.1,a.2.2.2.2.2.2.1,6,3,[],[af.mk a.2.2.2.2.2.2.2.1 a.2.2.2.2.2.2.2.2.1 a.2.2.2.2.2.2.2.2.2.1 a.2.2.2.2.2.2.2.2.2.2,aj b.2]))
  else
   some (.inr (c.1,af.mk a.2.2.2.2.2.2.2.1 a.2.2.2.2.2.2.2.2.1 a.2.2.2.2.2.2.2.2.2.1 a.2.2.2.2.2.2.2.2.2.2))
 )
def adg(ga:GRd->Option (GRd×af)):SX->Option (SX⊕(GRd×af)):=(fun (a:(List aI)×Int×Int×Int×Int×Int×Str×(List af)×Int×Int×Str×(List af))=>
  (eY (GRd.mk a.1 a.2.1 a.2.2.1 a.2.2.2.1) [42]).bind fun b=>
  bif b.2 then
   (ga (GRd.mk b.1.toks (w64 (b.1.i+1)) b.1.stop b.1.bad)).bind fun c=>
   (jw 3 (af.mk a.2.2.2.2.2.2.2.2.1 a.2.2.2.2.2.2.2.2.2.1 a.2.2.2.2.2.2.2.2.2.2.1 a.2.2.2.2.2.2.2.2.2.2.2) (aj c.2)).bind fun d=>
   some (.inl (c.1.toks,c.1.i,c.1.stop,c.1.bad,a.2.2.2.2.1,a.2.2.2.2.2.1,a.2.2.2.2.2.2.1,a.2.2.2.2.2.2.2.1,d.kind,d.n,d.text,d.args))
  else
   some (.inr (b.1,af.mk a.2.2.2.2.2.2.2.2.1 a.2.2.2.2.2.2.2.2.2.1 a.2.2.2.2.2.2.2.2.2.2.1 a.2.2.2.2.2.2.2.2.2.2.2))
 )
def aed(fa:bn->Option (bn×af)):IX->Option (IX⊕(bn×af)):=(fun (a:(List aI)×Int×Int×Int×Int×Str×(List af)×Int×Int×Str×(List af))=>
  bif (decide (a.2.2.1<0))then
   (bG (bn.mk a.1 a.2.1 a.2.2.1) [43]).bind fun d=>
   bif (!d.2)then
    (bG d.1 [45]).bind fun e=>
    bif (!e.2)then
     some (.inr (e.1,af.mk a.2.2.2.2.2.2.2.1 a.2.2.2.2.2.2.2.2.1 a.2.2.2.2.2.2.2.2.2.1 a.2.2.2.2.2.2.2.2.2.2))
    else
     (fa e.1).bind fun b=>
     some (.inl (b.1.toks,b.1.i,b.1.bad,a.2.2.2.1,a.2.2.2.2.1,a.2.2.2.2.2.1,a.2.2.2.2.2.2.1,6,2,[],[af.mk a.2.2.2.2.2.2.2.1 a.2.2.2.2.2.2.2.2.1 a.2.2.2.2.2.2.2.2.2.1 a.2.2.2.2.2.2.2.2.2.2,aj b.2]))
   else
    (fa d.1).bind fun c=>
    some (.inl (c.1.toks,c.1.i,c.1.bad,a.2.2.2.1,a.2.2.2.2.1,a.2.2.2.2.2.1,a.2.2.2.2.2.2.1,6,1,[],[af.mk a.2.2.2.2.2.2.2.1 a.2.2.2.2.2.2.2.2.1 a.2.2.2.2.2.2.2.2.2.1 a.2.2.2.2.2.2.2.2.2.2,aj c.2]))
  else
   some (.inr (bn.mk a.1 a.2.1 a.2.2.1,af.mk a.2.2.2.2.2.2.2.1 a.2.2.2.2.2.2.2.2.1 a.2.2.2.2.2.2.2.2.2.1 a.2.2.2.2.2.2.2.2.2.2))
 )
def aec(ga:GRd->Option (GRd×af)):SX->Option (SX⊕(GRd×af)):=(fun (a:(List aI)×Int×Int×Int×Int×Int×Str×(List af)×Int×Int×Str×(List af))=>
  (eY (GRd.mk a.1 a.2.1 a.2.2.1 a.2.2.2.1) [43]).bind fun m=>
  bif m.2 then
   (eY m.1 [45]).bind fun e=>
   bif e.2 then
    (ga (GRd.mk e.1.toks (w64 (e.1.i+1)) e.1.stop e.1.bad)).bind fun h=>
    (jw 2 (af.mk a.2.2.2.2.2.2.2.2.1 a.2.2.2.2.2.2.2.2.2.1 a.2.2.2.2.2.2.2.2.2.2.1 a.2.2.2.2.2.2.2.2.2.2.2) (aj h.2)).bind fun k=>
    some (.inl (h.1.toks,h.1.i,h.1.stop,h.1.bad,a.2.2.2.2.1,a.2.2.2.2.2.1,a.2.2.2.2.2.2.1,a.2.2.2.2.2.2.2.1,k.kind,k.n,k.text,k.args))
   else
    (ga (GRd.mk e.1.toks (w64 (e.1.i+1)) e.1.stop e.1.bad)).bind fun j=>
    (jw 1 (af.mk a.2.2.2.2.2.2.2.2.1 a.2.2.2.2.2.2.2.2.2.1 a.2.2.2.2.2.2.2.2.2.2.1 a.2.2.2.2.2.2.2.2.2.2.2) (aj j.2)).bind fun l=>
    some (.inl (j.1.toks,j.1.i,j.1.stop,j.1.bad,a.2.2.2.2.1,a.2.2.2.2.2.1,a.2.2.2.2.2.2.1,a.2.2.2.2.2.2.2.1,l.kind,l.n,l.text,l.args))
  else
  (eY m.1 [45]).bind fun o=>
  bif o.2 then
   (eY o.1 [45]).bind fun b=>
   bif b.2 then
    (ga (GRd.mk b.1.toks (w64 (b.1.i+1)) b.1.stop b.1.bad)).bind fun c=>
    (jw 2 (af.mk a.2.2.2.2.2.2.2.2.1 a.2.2.2.2.2.2.2.2.2.1 a.2.2.2.2.2.2.2.2.2.2.1 a.2.2.2.2.2.2.2.2.2.2.2) (aj c.2)).bind fun f=>
    some (.inl (c.1.toks,c.1.i,c.1.stop,c.1.bad,a.2.2.2.2.1,a.2.2.2.2.2.1,a.2.2.2.2.2.2.1,a.2.2.2.2.2.2.2.1,f.kind,f.n,f.text,f.args))
   else
    (ga (GRd.mk b.1.toks (w64 (b.1.i+1)) b.1.stop b.1.bad)).bind fun d=>
    (jw 1 (af.mk a.2.2.2.2.2.2.2.2.1 a.2.2.2.2.2.2.2.2.2.1 a.2.2.2.2.2.2.2.2.2.2.1 a.2.2.2.2.2.2.2.2.2.2.2) (aj d.2)).bind fun g=>
    some (.inl (d.1.toks,d.1.i,d.1.stop,d.1.bad,a.2.2.2.2.1,a.2.2.2.2.2.1,a.2.2.2.2.2.2.1,a.2.2.2.2.2.2.2.1,g.kind,g.n,g.text,g.args))
  else
   some (.inr (o.1,af.mk a.2.2.2.2.2.2.2.2.1 a.2.2.2.2.2.2.2.2.2.1 a.2.2.2.2.2.2.2.2.2.2.1 a.2.2.2.2.2.2.2.2.2.2.2))
 )
theorem ai6(b c d fa e)(a:bn):sG b c d fa e a=(fa a).bind fun r=>aA (adh fa) (r.1.toks,r.1.i,r.1.bad,0,0,[],[],r.2.kind,r.2.n,r.2.text,r.2.args):=rfl
theorem ai5(b c d e ga f)(a:GRd):zO b c d e ga f a=(ga a).bind fun r=>aA (adg ga) (r.1.toks,r.1.i,r.1.stop,r.1.bad,0,0,[],[],r.2.kind,r.2.n,r.2.text,r.2.args):=rfl
theorem alG(b c fa d e)(a:bn):Dj b c fa d e a=(fa a).bind fun r=>aA (aed fa) (r.1.toks,r.1.i,r.1.bad,0,0,[],[],r.2.kind,r.2.n,r.2.text,r.2.args):=rfl
theorem alF(b c d ga e f)(a:GRd):Po b c d ga e f a=(ga a).bind fun r=>aA (aec ga) (r.1.toks,r.1.i,r.1.stop,r.1.bad,0,0,[],[],r.2.kind,r.2.n,r.2.text,r.2.args):=rfl
theorem FZ(h:dW toks stop)(fa)(s:PS)(e:af):adh fa (pkI toks s e)=if sees toks s [42]=true then (fa (encI toks (bK s))).bind fun r=>some (.inl (r.1.toks,r.1.i,r.1.bad,0,0,[],[],6,3,[],[e,r.2]))else some (.inr (encI toks s,e)):=by
 obtain⟨ek,en,et,ea⟩:=e;have a:(bn.mk (pkI toks s ⟨ek,en,et,ea⟩).1 (pkI toks s ⟨ek,en,et,ea⟩).2.1 (pkI toks s ⟨ek,en,et,ea⟩).2.2.1)=encI toks s:=rfl;unfold adh;simp only[a,jS h s [42] rfl,zA];cases sees toks s [42]with
 | true=>simp only[ab,if_true,aP];rfl
 | false=>simp only[aa,aD,if_false];rfl
theorem FY(h:dW toks stop)(ga)(s:PS)(e:af):adg ga (pkS toks stop s e)=if sees toks s [42]=true then (ga (encS toks stop (bK s))).bind fun r=>some (.inl (r.1.toks,r.1.i,r.1.stop,r.1.bad,0,0,[],[],6,3,[],[e,r.2]))else some (.inr (encS toks stop s,e)):=by
 obtain⟨ek,en,et,ea⟩:=e;have a:(GRd.mk (pkS toks stop s ⟨ek,en,et,ea⟩).1 (pkS toks stop s ⟨ek,en,et,ea⟩).2.1 (pkS toks stop s ⟨ek,en,et,ea⟩).2.2.1 (pkS toks stop s ⟨ek,en,et,ea⟩).2.2.2.1)=encS toks stop s:=rfl;unfold adg;simp only[a,rD h s [42],zA];cases b:sees toks s [42]with
 | true=>
  simp only[ab,if_true];rw[lQ h (bZ b).2];simp only[jw,zA,aP];rfl
 | false=>simp only[aa,aD,if_false];rfl
theorem aeW(h:dW toks stop)(W:Wt){k j:Nat}{fa ga}(o:∀s,s.i<=toks.length->rem toks s<=k->Sim W.a toks stop fa ga s):∀(r:Nat) (s:PS) (c d:af),s.i<=toks.length->rem toks s<=r->r<=k->(s.bad=none->c=d/\W.p c+j<=s.i) ->
  ∃(s':PS) (x y:af),aA (adh fa) (pkI toks s c)=some (encI toks s',x)/\aA (adg ga) (pkS toks stop s d)=some (encS toks stop s',y)/\(s'.bad=none->x=y/\W.p x+j<=s'.i)/\Adv toks s s':=by
 intro r;induction r with
 | zero=>
  intro s c d f q t e;have b:sees toks s [42]=false:=by
   cases b:sees toks s [42]with
   | false=>rfl
   | true=>have:=(gJ (bZ b).1 (bZ b).2).2;omega
  refine⟨s,c,d,?_,?_,e,Adv.refl f⟩
  ·rw[aF,FZ h,b];rfl
  ·rw[aF,FY h,b];rfl
 | succ r ih=>
  intro s c d f q t e;cases b:sees toks s [42]with
  | false=>
   refine⟨s,c,d,?_,?_,e,Adv.refl f⟩
   ·rw[aF,FZ h,b];rfl
   ·rw[aF,FY h,b];rfl
  | true=>
   obtain⟨l,hrem⟩:=gJ (bZ b).1 (bZ b).2;obtain⟨u,x,y,v,w,z,g⟩:=o (bK s) l.len (by omega);have A:=g.rem;obtain⟨s',x',y',B,C,D,E⟩:=ih u ⟨6,3,[],[c,x]⟩ ⟨6,3,[],[d,y]⟩ g.len (by omega) (by omega) (fun F=>by
    have m:=z F;have n:=e (bZ b).1;refine⟨by rw[m.1,n.1],?_⟩;have G:=m.2;rw[kC]at G;have H:=W.prod c x;have I:=n.2;omega)
   refine⟨s',x',y',?_,?_,D,(l.trans g).trans E⟩
   ·rw[aF,FZ h,b];simp only[if_true,v,zA];exact B
   ·rw[aF,FY h,b];simp only[if_true,w,zA];exact C
theorem agQ(h:dW toks stop)(W:Wt){k:Nat}{fa ga}(c:∀s,s.i<=toks.length->rem toks s<=k->Sim W.a toks stop fa ga s)(g j l m t1 n o q r)(s:PS)(t:s.i<=toks.length)(u:rem toks s<=k) :
  Sim W.p toks stop (sG g j l fa m) (zO t1 n o q ga r) s:=by
 obtain⟨d,x,y,v,w,e,b⟩:=c s t u;have z:=b.rem;obtain⟨s',x',y',A,B,C,D⟩:=aeW h W c (rem toks d) d x y b.len (ar _) (by omega) fun f=>⟨(e f).1,Nat.le_trans (Nat.add_le_add_right (W.ap x) _) (e f).2⟩
 refine⟨s',x',y',?_,?_,C,b.trans D⟩
 ·rw[ai6,v];exact A
 ·rw[ai5,w];exact B
def adp{toks:List aI}(fa:bn->Option (bn×af))(s:PS)(e:af)(op:Int):Option (IX⊕(bn×af)):=(fa (encI toks (bK s))).bind fun r=>some (.inl (r.1.toks,r.1.i,r.1.bad,0,0,[],[],6,op,[],[e,r.2]))
def ado{toks:List aI}{stop:Int}(ga:GRd->Option (GRd×af))(s:PS)(e:af)(op:Int):Option (SX⊕(GRd×af)):=(ga (encS toks stop (bK s))).bind fun r=>some (.inl (r.1.toks,r.1.i,r.1.stop,r.1.bad,0,0,[],[],6,op,[],[e,r.2]))
theorem DZ(h:dW toks stop)(fa)(s:PS)(e:af):aed fa (pkI toks s e)=if sees toks s [43]=true then adp (toks:=toks) fa s e 1 else if sees toks s [45]=true then adp (toks:=toks) fa s e 2 else some (.inr (encI toks s,e)):=by
 obtain⟨ek,en,et,ea⟩:=e;have f:(bn.mk (pkI toks s ⟨ek,en,et,ea⟩).1 (pkI toks s ⟨ek,en,et,ea⟩).2.1 (pkI toks s ⟨ek,en,et,ea⟩).2.2.1)=encI toks s:=rfl;unfold aed;simp only[f];cases a:s.bad with
 | some b=>
  have c:decide ((pkI toks s ⟨ek,en,et,ea⟩).2.2.1<0)=false:=by
   show decide ((encI toks s).bad<0)=false
   simp[encI,a]
  have d:∀x,sees toks s x=false:=fun x=>by unfold sees;rw[a]
  rw[c,d,d];rfl
 | none=>
  have c:decide ((pkI toks s ⟨ek,en,et,ea⟩).2.2.1<0)=true:=by
   show decide ((encI toks s).bad<0)=true
   simp[encI,a]
  rw[c];simp only[ab,jS h s [43] rfl,zA];cases i:sees toks s [43]with
  | true=>simp only[aE,aa,if_true,aP];rfl
  | false=>
   simp only[Bool.not_false,ab,aD,if_false,jS h s [45] rfl,zA];cases g:sees toks s [45]with
   | true=>simp only[aE,aa,if_true,aP];rfl
   | false=>simp only[Bool.not_false,ab,aD,if_false];rfl
theorem DY(h:dW toks stop)(ga)(s:PS)(e:af):aec ga (pkS toks stop s e)=if sees toks s [43]=true then ado (toks:=toks) (stop:=stop) ga s e 1 else if sees toks s [45]=true then ado (toks:=toks) (stop:=stop) ga s e 2 else some (.inr (encS toks stop s,e)):=by
 obtain⟨ek,en,et,ea⟩:=e;have c:(GRd.mk (pkS toks stop s ⟨ek,en,et,ea⟩).1 (pkS toks stop s ⟨ek,en,et,ea⟩).2.1 (pkS toks stop s ⟨ek,en,et,ea⟩).2.2.1 (pkS toks stop s ⟨ek,en,et,ea⟩).2.2.2.1)=encS toks stop s:=rfl;unfold aec;simp only[c,rD h s,zA];cases b:sees toks s [43]with
 | true=>
  have a:=ac0 b (show ([43]:Str)≠[45] by decide);simp only[ab,if_true,a,aa];rw[lQ h (bZ b).2];simp only[jw,zA,aP];rfl
 | false=>
  simp only[aa,aD,if_false];cases a:sees toks s [45]with
  | true=>
   simp only[ab,if_true];rw[lQ h (bZ a).2];simp only[jw,zA,aP];rfl
  | false=>simp only[aa,aD,if_false];rfl
theorem afY(h:dW toks stop)(W:Wt){k f:Nat}{fa ga}(q:∀s,s.i<=toks.length->rem toks s<=k->Sim W.p toks stop fa ga s):∀(r:Nat) (s:PS) (b d:af),s.i<=toks.length->rem toks s<=r->r<=k->(s.bad=none->b=d/\W.s b+f<=s.i) ->
  ∃(s':PS) (x y:af),aA (aed fa) (pkI toks s b)=some (encI toks s',x)/\aA (aec ga) (pkS toks stop s d)=some (encS toks stop s',y)/\(s'.bad=none->x=y/\W.s x+f<=s'.i)/\Adv toks s s':=by
 intro r;induction r with
 | zero=>
  intro s b d g t u e;have a:∀x,sees toks s x=false:=by
   intro x;cases a:sees toks s x with
   | false=>rfl
   | true=>have:=(gJ (bZ a).1 (bZ a).2).2;omega
  refine⟨s,b,d,?_,?_,e,Adv.refl g⟩
  ·rw[aF,DZ h,a,a];rfl
  ·rw[aF,DY h,a,a];rfl
 | succ r ih=>
  intro s b d g t u e;have go:∀(x:Str) (op:Int),op=1\/op=2->sees toks s x=true->aed fa (pkI toks s b)=adp (toks:=toks) fa s b op->aec ga (pkS toks stop s d)=ado (toks:=toks) (stop:=stop) ga s d op ->
    ∃(s':PS) (x y:af),aA (aed fa) (pkI toks s b)=some (encI toks s',x)/\aA (aec ga) (pkS toks stop s d)=some (encS toks stop s',y)/\(s'.bad=none->x=y/\W.s x+f<=s'.i)/\Adv toks s s':=by
   intro K op j a v w;obtain⟨m,hrem⟩:=gJ (bZ a).1 (bZ a).2;obtain⟨z,x,y,A,B,C,l⟩:=q (bK s) m.len (by omega);have D:=l.rem;obtain⟨s',x',y',E,F,G,H⟩:=ih z ⟨6,op,[],[b,x]⟩ ⟨6,op,[],[d,y]⟩ l.len (by omega) (by omega) (fun I=>by
    have n:=C I;have o:=e (bZ a).1;refine⟨by rw[n.1,o.1],?_⟩;have J:=n.2;rw[kC]at J;have L:=W.sum op b x j;have M:=o.2;omega)
   refine⟨s',x',y',?_,?_,G,(m.trans l).trans H⟩
   ·rw[aF,v];simp only[adp,A,zA];exact E
   ·rw[aF,w];simp only[ado,B,zA];exact F
  cases a:sees toks s [43]with
  | true=>exact go [43] 1 (.inl rfl) a (by rw[DZ h,a,if_pos rfl]) (by rw[DY h,a,if_pos rfl])
  | false=>
   cases c:sees toks s [45]with
   | true=>exact go [45] 2 (.inr rfl) c (by rw[DZ h,a,c,if_neg Bool.false_ne_true,if_pos rfl]) (by rw[DY h,a,c,if_neg Bool.false_ne_true,if_pos rfl])
   | false=>
    refine⟨s,b,d,?_,?_,e,Adv.refl g⟩
    ·rw[aF,DZ h,a,c];rfl
    ·rw[aF,DY h,a,c];rfl
theorem aiC(h:dW toks stop)(W:Wt){k:Nat}{fa ga}(b:∀s,s.i<=toks.length->rem toks s<=k->Sim W.p toks stop fa ga s)(f g j l t1 m n o q)(s:PS)(r:s.i<=toks.length)(t:rem toks s<=k) :
  Sim W.s toks stop (Dj f g fa j l) (Po t1 m n ga o q) s:=by
 obtain⟨c,x,y,u,v,d,a⟩:=b s r t;have w:=a.rem;obtain⟨s',x',y',z,A,B,C⟩:=afY h W b (rem toks c) c x y a.len (ar _) (by omega) fun e=>⟨(d e).1,Nat.le_trans (Nat.add_le_add_right (W.ps x) _) (d e).2⟩
 refine⟨s',x',y',?_,?_,B,a.trans C⟩
 ·rw[alG,u];exact z
 ·rw[alF,v];exact A
abbrev IL:=(List aI)×Int×Int×Str×(List af)
abbrev SL:=(List aI)×Int×Int×Int×Str×(List af)
def plI(toks:List aI)(s:PS)(b:Str)(o:List af):IL:=((encI toks s).toks,(encI toks s).i,(encI toks s).bad,b,o)
def plS(toks:List aI)(stop:Int)(s:PS)(b:Str)(o:List af):SL:=((encS toks stop s).toks,(encS toks stop s).i,(encS toks stop s).stop,(encS toks stop s).bad,b,o)
def IZ(fa:bn->Option (bn×af)):IL->Option (IL⊕(bn×List af)):=(fun (a:(List aI)×Int×Int×Str×(List af))=>
  bif (decide (a.2.2.1<0))then
   (fa (bn.mk a.1 a.2.1 a.2.2.1)).bind fun b=>
   (gd (a.2.2.2.2.length+[aj b.2].length)).bind fun _=>
   (bG b.1 a.2.2.2.1).bind fun c=>
   bif c.2 then
    some (.inr (c.1,a.2.2.2.2++[aj b.2]))
   else
    (dw c.1 [44]).bind fun d=>
    some (.inl (d.toks,d.i,d.bad,a.2.2.2.1,a.2.2.2.2++[aj b.2]))
  else
   some (.inr (bn.mk a.1 a.2.1 a.2.2.1,a.2.2.2.2))
 )
def IY(ga:GRd->Option (GRd×af)):SL->Option (SL⊕(GRd×List af)):=(fun (a:(List aI)×Int×Int×Int×Str×(List af))=>
  bif (decide (a.2.2.2.1<0))then
   (ga (GRd.mk a.1 a.2.1 a.2.2.1 a.2.2.2.1)).bind fun c=>
   (gd (a.2.2.2.2.2.length+[aj c.2].length)).bind fun _=>
   (eY c.1 [44]).bind fun b=>
   bif (!b.2)then
    (
     (fH b.1 a.2.2.2.2.1).bind fun d=>
     some (d,a.2.2.2.2.2++[aj c.2])
    ).bind fun r=>some (.inr r)
   else
    some (.inl (b.1.toks,w64 (b.1.i+1),b.1.stop,b.1.bad,a.2.2.2.2.1,a.2.2.2.2.2++[aj c.2]))
  else
   (
    (fH (GRd.mk a.1 a.2.1 a.2.2.1 a.2.2.2.1) a.2.2.2.2.1).bind fun e=>
    some (e,a.2.2.2.2.2)
   ).bind fun r=>some (.inr r)
 )
theorem adw(fa d e f g)(a:bn)(b:Str):nM fa d e f g a b=(bG a b).bind fun c=>bif c.2 then some (c.1,[])else aA (IZ fa) (c.1.toks,c.1.i,c.1.bad,b,[]):=rfl
theorem adv(ga d e f g h)(a:GRd)(b:Str):yA ga d e f g h a b=(eY a b).bind fun c=>bif c.2 then some (GRd.mk c.1.toks (w64 (c.1.i+1)) c.1.stop c.1.bad,[])else aA (IY ga) (c.1.toks,c.1.i,c.1.stop,c.1.bad,b,[]):=rfl
theorem aii{s:PS}:decide ((encI toks s).bad<0)=s.bad.isNone:=by
 unfold encI;cases s.bad with
 | none=>rfl
 | some b=>simp
theorem aif(h:dW toks stop){s:PS}:decide ((encS toks stop s).bad<0)=s.bad.isNone:=by
 unfold encS;cases s.bad with
 | none=>rfl
 | some b=>
  have:=mW h b;simp;omega
theorem gdp{n:Nat}(h:n<=34359738368):gd n=some ():=by unfold gd;simp[h]
theorem QD(fa){s:PS}(a:s.bad.isNone=false)(b:Str)(o:List af):aA (IZ fa) (plI toks s b o)=some (encI toks s,o):=by
 rw[aF];have e:IZ fa (plI toks s b o)=some (.inr (encI toks s,o)):=by
  unfold IZ;show (bif decide ((encI toks s).bad<0)then _ else _)=_
  rw[aii,a];rfl
 rw[e]
theorem ahO{s:PS}(a:s.bad.isNone=false):iZ s=s:=by
 unfold iZ;cases h:s.bad with
 | some b=>rfl
 | none=>rw[h]at a;cases a
theorem ab6(h:dW toks stop)(ga){s:PS}(a:s.bad.isNone=false)(b:Str)(o:List af):aA (IY ga) (plS toks stop s b o)=some (encS toks stop s,o):=by
 rw[aF];have e:IY ga (plS toks stop s b o)=some (.inr (encS toks stop s,o)):=by
  unfold IY;show (bif decide ((encS toks stop s).bad<0)then _ else ((fH (encS toks stop s) b).bind fun c=>some (c,o)).bind fun r=>some (Sum.inr r))=_
  have d:fO toks s b=s:=by
   have:sees toks s b=false:=by
    unfold sees;cases h:s.bad with
    | some b=>rfl
    | none=>rw[h]at a;cases a
   unfold fO;rw[this,if_neg Bool.false_ne_true,ahO a]
  rw[aif h,a,uN h,d];rfl
 rw[e]
theorem ae8(h:dW toks stop)(W:Wt){k v:Nat}{fa ga}(S:∀s,s.i<=toks.length->rem toks s<=k->Sim W.e toks stop fa ga s)(b:Str)(G:letter b=false)(H:b≠[44]):∀(r:Nat) (s:PS) (c d:List af),s.i<=toks.length->rem toks s<=r->r<=k->c.length<=s.i->d.length<=s.i->(s.bad=none->c=d/\W.o c+v<=s.i) ->
  ∃(s':PS) (x y:List af),aA (IZ fa) (plI toks s b c)=some (encI toks s',x)/\aA (IY ga) (plS toks stop s b d)=some (encS toks stop s',y)/\(s'.bad=none->x=y/\W.l x+v<=s'.i)/\Adv toks s s':=by
 have step:∀(s:PS) (c d:List af),s.i<=toks.length->rem toks s<=k->c.length<=s.i->d.length<=s.i->(s.bad=none->c=d/\W.o c+v<=s.i) ->
   (∀(a:PS) (m q:List af),a.i<=toks.length->rem toks a+1<=rem toks s->m.length<=a.i->q.length<=a.i->(a.bad=none->m=q/\W.o m+v<=a.i)->∃(s':PS) (x y:List af),aA (IZ fa) (plI toks a b m)=some (encI toks s',x)/\aA (IY ga) (plS toks stop a b q)=some (encS toks stop s',y)/\(s'.bad=none->x=y/\W.l x+v<=s'.i)/\Adv toks a s') ->
   ∃(s':PS) (x y:List af),aA (IZ fa) (plI toks s b c)=some (encI toks s',x)/\aA (IY ga) (plS toks stop s b d)=some (encS toks stop s',y)/\(s'.bad=none->x=y/\W.l x+v<=s'.i)/\Adv toks s s':=by
  intro s c d w I D E A ih;cases t:s.bad.isNone with
  | false=>exact⟨s,c,d,QD fa t b c,ab6 h ga t b d,fun hh=>(by rw[hh]at t;cases t),Adv.refl w⟩
  | true=>
   have hlen:=h.len;obtain⟨a,x,y,T,U,O,z⟩:=S s w I;have J:s.bad=none:=by cases hh:s.bad with
    | none=>rfl
    | some b=>rw[hh]at t;cases t
   have n:=A J;have eI:IZ fa (plI toks s b c)=(if sees toks a b=true then some (Sum.inr (encI toks (bK a),c++[x]))else some (Sum.inl (plI toks (fO toks a [44]) b (c++[x])))):=by
    unfold IZ;show (bif decide ((encI toks s).bad<0)then (fa (encI toks s)).bind fun p=>(gd (c.length+[aj p.2].length)).bind fun _=>(bG p.1 b).bind fun j=>bif j.2 then some (Sum.inr (j.1,c++[aj p.2]))else (dw j.1 [44]).bind fun B=>some (Sum.inl (B.toks,B.i,B.bad,b,c++[aj p.2]))else _)=_
    rw[aii,t];simp only[ab,T,zA,aP,jS h a b G];rw[gdp (by simp;omega)];simp only[zA];cases g:sees toks a b with
    | true=>simp
    | false=>
     simp only[aa,aD,if_false,yS h,zA];rfl
   have eS:IY ga (plS toks stop s b d)=(if sees toks a [44]=true then some (Sum.inl (plS toks stop (bK a) b (d++[y])))else some (Sum.inr (encS toks stop (fO toks a b),d++[y]))):=by
    unfold IY;show (bif decide ((encS toks stop s).bad<0)then (ga (encS toks stop s)).bind fun p=>(gd (d.length+[aj p.2].length)).bind fun _=>(eY p.1 [44]).bind fun j=>bif (!j.2)then (((fH j.1 b).bind fun B=>some (B,d++[aj p.2])).bind fun r=>some (Sum.inr r))else some (Sum.inl (j.1.toks,w64 (j.1.i+1),j.1.stop,j.1.bad,b,d++[aj p.2]))else _)=_
    rw[aif h,t];simp only[ab,U,zA,aP,rD h a [44]];rw[gdp (by simp;omega)];simp only[zA];cases g:sees toks a [44]with
    | true=>
     simp only[aE,aa,if_true];have:=lQ (toks:=toks) (stop:=stop) (s:=a) h (bZ g).2;have K:=congrArg GRd.i this;have K:w64 ((encS toks stop a).i+1)=(encS toks stop (bK a)).i:=K;rw[K];rfl
    | false=>simp only[Bool.not_false,ab,aD,if_false,uN h,zA]
   cases g:sees toks a b with
   | true=>
    have f:=ac0 g H;obtain⟨F,_⟩:=gJ (bZ g).1 (bZ g).2;refine⟨bK a,c++[x],d++[y],?_,?_,fun hh=>(by
     have u:=O (bZ g).1;refine⟨by rw[n.1,u.1],?_⟩;have P:=u.2;have L:=n.2;have M:=W.up c x;have Q:=W.ol c x;rw[kC];omega),z.trans F⟩
    ·rw[aF,eI,g];rfl
    ·rw[aF,eS,f];simp only[aD,if_false];unfold fO;rw[g,if_pos rfl]
   | false=>
    cases f:sees toks a [44]with
    | true=>
     obtain⟨F,R⟩:=gJ (bZ f).1 (bZ f).2;have V:=z.rem;have X:=z.le;obtain⟨s',x',y',m,q,Y,Z⟩:=ih (bK a) (c++[x]) (d++[y]) F.len (by omega) (by simp[bK];omega) (by simp[bK];omega) (fun _=>by
      have u:=O (bZ f).1;refine⟨by rw[n.1,u.1],?_⟩;have P:=u.2;have L:=n.2;have M:=W.up c x;rw[kC];omega)
     refine⟨s',x',y',?_,?_,Y,(z.trans F).trans Z⟩
     ·rw[aF,eI,g];simp only[aD,if_false];have e:fO toks a [44]=bK a:=by unfold fO;rw[f,if_pos rfl]
      rw[e];exact m
     ·rw[aF,eS,f];exact q
    | false=>
     have e:fO toks a [44]=iZ a:=by unfold fO;rw[f,if_neg Bool.false_ne_true]
     have e2:fO toks a b=iZ a:=by unfold fO;rw[g,if_neg Bool.false_ne_true]
     obtain⟨b1,C⟩:=Rk a;have N:(iZ a).bad.isNone=false:=by rw[C];rfl
     refine⟨iZ a,c++[x],d++[y],?_,?_,fun hh=>(by rw[C]at hh;cases hh),z.trans (Jt z.len)⟩
     ·rw[aF,eI,g];simp only[aD,if_false,e];exact QD fa N b _
     ·rw[aF,eS,f];simp only[aD,if_false,e2]
 intro r;induction r with
 | zero=>
  intro s c d w R I D E A;exact step s c d w (by omega) D E A fun a m q _ hlt=>by omega
 | succ r ih=>
  intro s c d w R I D E A;exact step s c d w (by omega) D E A fun a m q u P L M Q=>ih a m q u (by omega) (by omega) L M Q
theorem ahm(h:dW toks stop)(W:Wt){k:Nat}{fa ga}(v:∀s,s.i<=toks.length->rem toks s<=k->Sim W.e toks stop fa ga s)(b:Str)(c:letter b=false)(f:b≠[44])(g j m n p q r t u)(s:PS)(w:s.i<=toks.length)(x:rem toks s<=k) :
  Sim W.l toks stop (fun a=>nM fa g j m n a b) (fun a=>yA ga p q r t u a b) s:=by
 cases d:sees toks s b with
 | true=>
  obtain⟨y,_⟩:=gJ (bZ d).1 (bZ d).2;refine⟨bK s,[],[],?_,?_,fun _=>⟨rfl,by have:=W.nil;rw[kC];omega⟩,y⟩
  ·show nM fa g j m n (encI toks s) b=_
   rw[adw,jS h s b c,d];rfl
  ·show yA ga p q r t u (encS toks stop s) b=_
   rw[adv,rD h s b,d];simp only[zA,ab];rw[lQ h (bZ d).2]
 | false=>
  obtain⟨s',x',y',z,A,B,C⟩:=ae8 h W v b c f (rem toks s) s [] [] w (ar _) x (Nat.zero_le _) (Nat.zero_le _) (fun _=>⟨rfl,by show W.o []+s.i<=s.i;rw[W.o0];omega⟩);refine⟨s',x',y',?_,?_,B,C⟩
  ·show nM fa g j m n (encI toks s) b=_
   rw[adw,jS h s b c,d];exact z
  ·show yA ga p q r t u (encS toks stop s) b=_
   rw[adv,rD h s b,d];exact A
variable {toks:List aI} {stop:Int}
theorem alW{α:Type}{c:Bool}{x y:Option α}(a:∃r,x=some r)(b:∃r,y=some r):∃r,(bif c then x else y)=some r:=by
 cases c
 ·exact b
 ·exact a
theorem akc(a:Str):∃r,dP a=some r:=by
 unfold dP;repeat refine alW ⟨_,rfl⟩ ?_
 exact⟨_,rfl⟩
def Lp(a:Str):Int:=(dP a).getD (-1)
theorem YL(a:Str):dP a=some (Lp a):=by
 obtain⟨r,h⟩:=akc a;unfold Lp;rw[h];rfl
theorem ahG(a:Str):gQ a=some (Lp a):=(ahF a).trans (YL a)
def Uo(toks:List aI)(fe:bn->Option (bn×af))(fl:bn->Str->Option (bn×List af))(s:PS):Option (bn×af):=
 if sees toks s [91]=true then (fl (encI toks (bK s)) [93]).bind fun r=>some (r.1,⟨4,0,[],r.2⟩)
 else if sees toks s [40]=true then (fe (encI toks (bK s))).bind fun r=>(dw r.1 [41]).bind fun a=>some (a,r.2)
 else some (encI toks (iZ s),⟨0,0,[],[]⟩)
def GL(toks:List aI)(stop:Int)(ge:GRd->Option (GRd×af))(gl:GRd->Str->Option (GRd×List af))(s:PS):Option (GRd×af):=
 if sees toks s [91]=true then (gl (encS toks stop (bK s)) [93]).bind fun r=>some (r.1,⟨4,0,[],r.2⟩)
 else if sees toks s [40]=true then (ge (encS toks stop (bK s))).bind fun r=>(fH r.1 [41]).bind fun a=>some (a,r.2)
 else some (encS toks stop (iZ s),⟨0,0,[],[]⟩)
def ain(toks:List aI)(fe:bn->Option (bn×af))(fl:bn->Str->Option (bn×List af))(s:PS):Option (bn×af):=
 if (aW toks s).kind=2 then some (encI toks (bK s),⟨1,(aW toks s).n,[],[]⟩)
 else if (aW toks s).kind=3 then some (encI toks (bK s),⟨2,0,(aW toks s).text,[]⟩)
 else if (aW toks s).kind=1 then
  if fJ (aW toks s).text=true then some (encI toks (bK s),⟨3,0,(aW toks s).text,[]⟩)
  else if 0<=Lp (aW toks s).text then (fl (encI toks (fO toks (bK s) [40])) [41]).bind fun r=>some (r.1,⟨5,0,(aW toks s).text,r.2⟩)
  else Uo toks fe fl s
 else Uo toks fe fl s
def ail(toks:List aI)(stop:Int)(ge:GRd->Option (GRd×af))(gl:GRd->Str->Option (GRd×List af))(s:PS):Option (GRd×af):=
 if (aW toks s).kind=2 then some (encS toks stop (bK s),⟨1,(aW toks s).n,[],[]⟩)
 else if (aW toks s).kind=3 then some (encS toks stop (bK s),⟨2,0,(aW toks s).text,[]⟩)
 else if (aW toks s).kind=1 then
  if fJ (aW toks s).text=true then some (encS toks stop (bK s),⟨3,0,(aW toks s).text,[]⟩)
  else if 0<=Lp (aW toks s).text then (gl (encS toks stop (fO toks (bK s) [40])) [41]).bind fun r=>some (r.1,⟨5,0,(aW toks s).text,r.2⟩)
  else GL toks stop ge gl s
 else GL toks stop ge gl s
theorem XV(h:dW toks stop)(fe fl)(s:PS):((bG (encI toks s) [91]).bind fun b=>
      bif b.2 then (fl b.1 [93]).bind fun e=>some (e.1,af.mk 4 0 [] e.2)
      else (bG b.1 [40]).bind fun c=>bif c.2 then (fe c.1).bind fun f=>(dw f.1 [41]).bind fun d=>some (d,aj f.2)
       else (jh c.1).bind fun a=>some (a.1,aj a.2))=Uo toks fe fl s:=by
 unfold Uo;rw[jS h s [91] rfl];simp only[zA,aP];cases i:sees toks s [91]with
 | true=>simp
 | false=>
  simp only[aa,aD,if_false,jS h s [40] rfl,zA];cases g:sees toks s [40]with
  | true=>simp
  | false=>simp[Q5]
theorem aim(h:dW toks stop)(fe j k l fl)(s:PS):tJ fe j k l fl (encI toks s)=ain toks fe fl s:=by
 have g:=l9 h s;unfold tJ ain;rw[yR h];simp only[zA,Eo _ g.len,ahG];have a:¬(aW toks s).kind=0->(bn.mk (encI toks s).toks (w64 ((encI toks s).i+1)) (encI toks s).bad)=encI toks (bK s):=fun m=>Dl h (rQ m).2.1
 by_cases b:(aW toks s).kind=2
 ·have e:((aW toks s).kind==2)=true:=by simp[b]
  rw[e,if_pos b,a (by rw[b];decide)];rfl
 ·have n:((aW toks s).kind==2)=false:=by simp[b]
  rw[n,if_neg b];simp only[aa];by_cases c:(aW toks s).kind=3
  ·have e:((aW toks s).kind==3)=true:=by simp[c]
   rw[e,if_pos c,a (by rw[c];decide)];rfl
  ·have o:((aW toks s).kind==3)=false:=by simp[c]
   rw[o,if_neg c];simp only[aa];by_cases d:(aW toks s).kind=1
   ·have e:((aW toks s).kind==1)=true:=by simp[d]
    rw[e,if_pos d,a (by rw[d];decide)];simp only[ab];cases p:fJ (aW toks s).text with
    | true=>rfl
    | false=>
     simp only[aa,aD,if_false];by_cases f:0<=Lp (aW toks s).text
     ·have ea:decide (Lp (aW toks s).text>=0)=true:=by simpa using f
      rw[ea,if_pos f];simp only[ab,yS h,zA]
     ·have ea:decide (Lp (aW toks s).text>=0)=false:=by simpa using f
      rw[ea,if_neg f];simp only[aa];exact XV h fe fl s
   ·have e:((aW toks s).kind==1)=false:=by simp[d]
    rw[e,if_neg d];simp only[aa];exact XV h fe fl s
theorem XU(h:dW toks stop)(ge gl){s:PS}(j:s.bad=none)(hi:s.i<toks.length):((iP (aW toks s) [91]).bind fun d=>
  bif d then (gl (GRd.mk (encS toks stop s).toks (w64 ((encS toks stop s).i+1)) (encS toks stop s).stop (encS toks stop s).bad) [93]).bind fun a=>some (a.1,af.mk 4 0 [] a.2)
  else (iP (aW toks s) [40]).bind fun e=>bif e then (ge (GRd.mk (encS toks stop s).toks (w64 ((encS toks stop s).i+1)) (encS toks stop s).stop (encS toks stop s).bad)).bind fun b=>(fH b.1 [41]).bind fun f=>some (f,aj b.2)
   else (iU (encS toks stop s)).bind fun c=>some (c.1,aj c.2))=GL toks stop ge gl s:=by
 unfold GL;simp only[ac1,GN h s [91] rfl,GN h s [40] rfl,zA,aP,lQ h hi,uX h];cases k:sees toks s [91]with
 | true=>simp
 | false=>
  simp only[aa,aD,if_false];cases g:sees toks s [40]with
  | true=>simp
  | false=>simp
theorem aik(h:dW toks stop)(ge q t u v gl)(s:PS):Ec ge q t u v gl (encS toks stop s)=ail toks stop ge gl s:=by
 have j:=l9 h s;unfold Ec ail;simp only[uX h,zA,aP];have dead:∀(k:aW toks s=⟨0,0,0,[]⟩),some (encS toks stop (iZ s),(⟨0,0,[],[]⟩:af))=(if (aW toks s).kind=2 then some (encS toks stop (bK s),⟨1,(aW toks s).n,[],[]⟩)
   else if (aW toks s).kind=3 then some (encS toks stop (bK s),⟨2,0,(aW toks s).text,[]⟩)
   else if (aW toks s).kind=1 then
    if fJ (aW toks s).text=true then some (encS toks stop (bK s),⟨3,0,(aW toks s).text,[]⟩)
    else if 0<=Lp (aW toks s).text then (gl (encS toks stop (fO toks (bK s) [40])) [41]).bind fun r=>some (r.1,⟨5,0,(aW toks s).text,r.2⟩)
    else GL toks stop ge gl s
   else GL toks stop ge gl s):=by
  intro k;have p:∀x,letter x=false->sees toks s x=false:=fun x w=>by rw[<- GN h s x w,k];rfl
  rw[k];unfold GL;rw[p [91] rfl,p [40] rfl];rfl
 cases a:s.bad with
 | some b=>
  have:=mW h b;have e:decide ((encS toks stop s).bad>=0)=true:=by simp[encS,a];omega
  rw[e];simp only[ab];exact dead (by unfold aW;rw[a])
 | none=>
  have e:decide ((encS toks stop s).bad>=0)=false:=by simp[encS,a]
  rw[e];simp only[aa];by_cases hi:s.i<toks.length
  ·have l:decide ((encS toks stop s).i>=((encS toks stop s).toks.length:Int))=false:=by simp[encS];omega
   have m:toks[s.i]?=some (aW toks s):=by simp[aW,a,zF hi]
   have o:idx (encS toks stop s).toks (encS toks stop s).i=some (aW toks s):=by
    show idx toks (s.i:Int)=_
    rw[au,m]
   rw[l];simp only[aa,o,zA,D5 _ j.len,YL,jX,CP,aP];by_cases c:(aW toks s).kind=2
   ·have e:((aW toks s).kind==2)=true:=by simp[c]
    rw[e,if_pos c,lQ h hi];rfl
   ·have y:((aW toks s).kind==2)=false:=by simp[c]
    rw[y,if_neg c];simp only[aa];by_cases d:(aW toks s).kind=3
    ·have e:((aW toks s).kind==3)=true:=by simp[d]
     rw[e,if_pos d,lQ h hi];rfl
    ·have z:((aW toks s).kind==3)=false:=by simp[d]
     rw[z,if_neg d];simp only[aa];by_cases f:(aW toks s).kind=1
     ·have e:((aW toks s).kind==1)=true:=by simp[f]
      rw[e,if_pos f];simp only[ab];cases A:fJ (aW toks s).text with
      | true=>simp only[ab,if_true,lQ h hi]
      | false=>
       simp only[aa,aD,if_false];by_cases g:0<=Lp (aW toks s).text
       ·have ea:decide (Lp (aW toks s).text>=0)=true:=by simpa using g
        rw[ea,if_pos g,lQ h hi];simp only[ab,uN h,zA]
       ·have ea:decide (Lp (aW toks s).text>=0)=false:=by simpa using g
        rw[ea,if_neg g];simp only[aa];have:=XU h ge gl a hi;simp only[aP,uX h,zA]at this;exact this
     ·have e:((aW toks s).kind==1)=false:=by simp[f]
      rw[e,if_neg f];simp only[aa];have:=XU h ge gl a hi;simp only[aP,uX h,zA]at this;exact this
  ·have l:decide ((encS toks stop s).i>=((encS toks stop s).toks.length:Int))=true:=by simp[encS];omega
   have m:toks[s.i]?=none:=zJ (by omega);rw[l];simp only[ab];exact dead (by unfold aW;rw[a];simp[m])
theorem jJ{s s':PS}(h:Adv toks s s')(a:s'.bad=none):s.bad=none:=by
 cases c:s.bad with
 | none=>rfl
 | some b=>rw[h.bad b c,c]at a;cases a
theorem afX(h:dW toks stop)(W:Wt){k:Nat}{fe ge fl gl}(v:∀s,s.i<=toks.length->rem toks s+1<=k->Sim W.e toks stop fe ge s)
  (w:∀b,letter b=false->b≠[44]->∀s,s.i<=toks.length->rem toks s+1<=k->Sim W.l toks stop (fun a=>fl a b) (fun a=>gl a b) s) (s:PS) (z:s.i<=toks.length) (C:rem toks s<=k) :
  ∃(s':PS) (x y:af),Uo toks fe fl s=some (encI toks s',x)/\GL toks stop ge gl s=some (encS toks stop s',y)/\(s'.bad=none->x=y/\W.a x+s.i<=s'.i)/\Adv toks s s':=by
 unfold Uo GL;cases t:sees toks s [91]with
 | true=>
  obtain⟨d,A⟩:=gJ (bZ t).1 (bZ t).2;obtain⟨m,x,y,n,o,p,j⟩:=w [93] rfl (by decide) (bK s) d.len (by omega);refine⟨m,⟨4,0,[],x⟩,⟨4,0,[],y⟩,?_,?_,fun c=>(by
   have f:=p c;refine⟨by rw[f.1],?_⟩;have q:=f.2;rw[kC]at q;have B:=W.lst x;omega),d.trans j⟩
  ·simp only[if_true];rw[show fl (encI toks (bK s)) [93]=_ from n];rfl
  ·simp only[if_true];rw[show gl (encS toks stop (bK s)) [93]=_ from o];rfl
 | false=>
  simp only[aD,if_false];cases g:sees toks s [40]with
  | true=>
   obtain⟨d,A⟩:=gJ (bZ g).1 (bZ g).2;obtain⟨m,x,y,n,o,p,j⟩:=v (bK s) d.len (by omega);have u:=ru (x:=[41]) j.len;refine⟨fO toks m [41],x,y,?_,?_,fun c=>(by
    have f:=p (jJ u c);refine⟨f.1,?_⟩;have q:=f.2;rw[kC]at q;have B:=BJ c;have D:=W.paren x;omega),(d.trans j).trans u⟩
   ·simp only[if_true,n,zA,yS h]
   ·simp only[if_true,o,zA,uN h]
  | false=>
   simp only[aD,if_false];obtain⟨E,r⟩:=Rk s;exact⟨iZ s,_,_,rfl,rfl,fun c=>(by rw[r]at c;cases c),Jt z⟩
theorem Xh(W:Wt){s:PS}{t:aI}(h:Vo t){k n:Int}{x:Str}(b:k=1\/k=2\/k=3)(c:x=[]\/x=t.text):W.a ⟨k,n,x,[]⟩+s.i<=(bK s).i:=by
 have d:x.length<=120:=by
  rcases c with rfl | rfl
  ·simp
  ·exact h.len
 have:=W.leaf k n x d b;rw[kC];omega
theorem aij(h:dW toks stop)(W:Wt){k:Nat}{fe ge fl gl}(t:∀s,s.i<=toks.length->rem toks s+1<=k->Sim W.e toks stop fe ge s)
  (n:∀b,letter b=false->b≠[44]->∀s,s.i<=toks.length->rem toks s+1<=k->Sim W.l toks stop (fun a=>fl a b) (fun a=>gl a b) s) (u v w z A B C) (s:PS) (D:s.i<=toks.length) (E:rem toks s<=k) :
  Sim W.a toks stop (tJ fe u v w fl) (Ec ge z A B C gl) s:=by
 unfold Sim;rw[aim h,aik h];have o:=afX h W t n s D E;unfold ain ail;by_cases d:(aW toks s).kind=2
 ·obtain⟨c,_⟩:=gJ (rQ (s:=s) (by rw[d];decide)).1 (rQ (s:=s) (by rw[d];decide)).2.1;rw[if_pos d,if_pos d];exact⟨bK s,_,_,rfl,rfl,fun _=>⟨rfl,Xh W (l9 h s) (by omega) (by first | exact .inl rfl | exact .inr rfl)⟩,c⟩
 rw[if_neg d,if_neg d];by_cases f:(aW toks s).kind=3
 ·obtain⟨c,_⟩:=gJ (rQ (s:=s) (by rw[f];decide)).1 (rQ (s:=s) (by rw[f];decide)).2.1;rw[if_pos f,if_pos f];exact⟨bK s,_,_,rfl,rfl,fun _=>⟨rfl,Xh W (l9 h s) (by omega) (by first | exact .inl rfl | exact .inr rfl)⟩,c⟩
 rw[if_neg f,if_neg f];by_cases g:(aW toks s).kind=1
 ·obtain⟨c,L⟩:=gJ (rQ (s:=s) (by rw[g];decide)).1 (rQ (s:=s) (by rw[g];decide)).2.1;rw[if_pos g,if_pos g];cases M:fJ (aW toks s).text with
  | true=>
   simp only[if_true];exact⟨bK s,_,_,rfl,rfl,fun _=>⟨rfl,Xh W (l9 h s) (by omega) (by first | exact .inl rfl | exact .inr rfl)⟩,c⟩
  | false=>
   simp only[aD,if_false];by_cases j:0<=Lp (aW toks s).text
   ·rw[if_pos j,if_pos j];have m:=ru (x:=[40]) c.len;have F:=m.rem;obtain⟨G,x,y,H,I,J,p⟩:=n [41] rfl (by decide) (fO toks (bK s) [40]) m.len (by omega);refine⟨G,⟨5,0,(aW toks s).text,x⟩,⟨5,0,(aW toks s).text,y⟩,?_,?_,fun q=>(by
     have r:=J q;refine⟨by rw[r.1],?_⟩;have N:=r.2;have K:=BJ (jJ p q);rw[kC]at K;have O:=W.call (aW toks s).text x (l9 h s).len;omega),(c.trans m).trans p⟩
    ·rw[show fl (encI toks (fO toks (bK s) [40])) [41]=_ from H];rfl
    ·rw[show gl (encS toks stop (fO toks (bK s) [40])) [41]=_ from I];rfl
   ·rw[if_neg j,if_neg j];exact o
 ·rw[if_neg g,if_neg g];exact o
abbrev CX:=(List aI)×Int×Int×Int×Int×Str×(List af)×Int×Int×Str×(List af)×(List Int)×Int×Int
def Ru(fs:bn->Option (bn×af)):CX->Option (CX⊕(bn×af)):=(fun (a:(List aI)×Int×Int×Int×Int×Str×(List af)×Int×Int×Str×(List af)×(List Int)×Int×Int)=>
  bif (decide (a.2.2.2.2.2.2.2.2.2.2.2.2.2<a.2.2.2.2.2.2.2.2.2.2.2.2.1))then
   (idx a.2.2.2.2.2.2.2.2.2.2.2.1 a.2.2.2.2.2.2.2.2.2.2.2.2.2).bind fun _=>
   (a.2.2.2.2.2.2.2.2.2.2.2.1[a.2.2.2.2.2.2.2.2.2.2.2.2.2.toNat]?).bind fun c=>
   (yQ c).bind fun e=>
   (bG (bn.mk a.1 a.2.1 a.2.2.1) e).bind fun b=>
   bif b.2 then
    (fs b.1).bind fun d=>
    some (.inr (d.1,af.mk 6 c [] [af.mk a.2.2.2.2.2.2.2.1 a.2.2.2.2.2.2.2.2.1 a.2.2.2.2.2.2.2.2.2.1 a.2.2.2.2.2.2.2.2.2.2.1,aj d.2]))
   else
    some (.inl (b.1.toks,b.1.i,b.1.bad,a.2.2.2.1,a.2.2.2.2.1,a.2.2.2.2.2.1,a.2.2.2.2.2.2.1,a.2.2.2.2.2.2.2.1,a.2.2.2.2.2.2.2.2.1,a.2.2.2.2.2.2.2.2.2.1,a.2.2.2.2.2.2.2.2.2.2.1,a.2.2.2.2.2.2.2.2.2.2.2.1,a.2.2.2.2.2.2.2.2.2.2.2.2.1,w64 (a.2.2.2.2.2.2.2.2.2.2.2.2.2+1)))
  else
   some (.inr (bn.mk a.1 a.2.1 a.2.2.1,af.mk a.2.2.2.2.2.2.2.1 a.2.2.2.2.2.2.2.2.1 a.2.2.2.2.2.2.2.2.2.1 a.2.2.2.2.2.2.2.2.2.2.1))
 )
def pkC(toks:List aI)(s:PS)(e:af)(j:Int):CX:=((encI toks s).toks,(encI toks s).i,(encI toks s).bad,0,0,[],[],e.kind,e.n,e.text,e.args,[4,5],2,j)
def aj0(toks:List aI)(fs:bn->Option (bn×af))(s:PS)(e:af):Option (bn×af):=
 if sees toks s [60]=true then (fs (encI toks (bK s))).bind fun r=>some (r.1,⟨6,4,[],[e,r.2]⟩)
 else if sees toks s [61,61]=true then (fs (encI toks (bK s))).bind fun r=>some (r.1,⟨6,5,[],[e,r.2]⟩)
 else some (encI toks s,e)
theorem cmp_eq(h:dW toks stop)(fs)(s:PS)(e:af):aA (Ru fs) (pkC toks s e 0)=aj0 toks fs s e:=by
 obtain⟨ek,en,et,ea⟩:=e;have d:Ru fs (pkC toks s ⟨ek,en,et,ea⟩ 0)=if sees toks s [60]=true then (fs (encI toks (bK s))).bind fun r=>some (.inr (r.1,⟨6,4,[],[⟨ek,en,et,ea⟩,r.2]⟩))else some (.inl (pkC toks s ⟨ek,en,et,ea⟩ 1)):=by
  unfold Ru;show ((bG (encI toks s) [60]).bind fun a=>bif a.2 then (fs a.1).bind fun b=>some (Sum.inr (b.1,af.mk 6 4 [] [⟨ek,en,et,ea⟩,aj b.2]))else some (Sum.inl (a.1.toks,a.1.i,a.1.bad,0,0,[],[],ek,en,et,ea,[4,5],2,w64 (0+1))))=_
  rw[jS h s [60] rfl];simp only[zA,aP];cases c:sees toks s [60]with
  | true=>simp
  | false=>simp only[aa,aD,if_false];rfl
 have f:Ru fs (pkC toks s ⟨ek,en,et,ea⟩ 1)=if sees toks s [61,61]=true then (fs (encI toks (bK s))).bind fun r=>some (.inr (r.1,⟨6,5,[],[⟨ek,en,et,ea⟩,r.2]⟩))else some (.inl (pkC toks s ⟨ek,en,et,ea⟩ 2)):=by
  unfold Ru;show ((bG (encI toks s) [61,61]).bind fun a=>bif a.2 then (fs a.1).bind fun b=>some (Sum.inr (b.1,af.mk 6 5 [] [⟨ek,en,et,ea⟩,aj b.2]))else some (Sum.inl (a.1.toks,a.1.i,a.1.bad,0,0,[],[],ek,en,et,ea,[4,5],2,w64 (1+1))))=_
  rw[jS h s [61,61] rfl];simp only[zA,aP];cases c:sees toks s [61,61]with
  | true=>simp
  | false=>simp only[aa,aD,if_false];rfl
 have g:Ru fs (pkC toks s ⟨ek,en,et,ea⟩ 2)=some (.inr (encI toks s,⟨ek,en,et,ea⟩)):=rfl;unfold aj0;rw[aF,d];cases c:sees toks s [60]with
 | true=>
  simp only[if_true];cases fs (encI toks (bK s))<;>rfl
 | false=>
  simp only[aD,if_false];rw[aF,f];cases j:sees toks s [61,61]with
  | true=>
   simp only[if_true];cases fs (encI toks (bK s))<;>rfl
  | false=>
   simp only[aD,if_false];rw[aF,g]
theorem afU(W:Wt){s d e:PS}{op:Int}{x y a f:af}(b:op=4\/op=5)(p:a=f/\W.s a+(bK d).i<=e.i)(q:x=y/\W.s x+s.i<=d.i):(⟨6,op,[],[x,a]⟩:af)=⟨6,op,[],[y,f]⟩/\W.c ⟨6,op,[],[x,a]⟩+s.i<=e.i:=by
 refine⟨by rw[p.1,q.1],?_⟩;have g:=p.2;have h:=q.2;have j:=W.cmp op x a b;rw[kC]at g;omega
theorem ajZ(h:dW toks stop)(W:Wt){k:Nat}{fs gs}(m:∀s,s.i<=toks.length->rem toks s<=k->Sim W.s toks stop fs gs s)(t1 z A B C)(s:PS)(D:s.i<=toks.length)(E:rem toks s<=k) :
  Sim W.c toks stop (fun a=>(fs a).bind fun r=>aA (Ru fs) (r.1.toks,r.1.i,r.1.bad,0,0,[],[],r.2.kind,r.2.n,r.2.text,r.2.args,[4,5],([4,5].length:Int),0)) (sV t1 z gs A B C) s:=by
 obtain⟨b,x,y,F,G,j,l⟩:=m s D E;have H:=l.rem;have eI:((fs (encI toks s)).bind fun r=>aA (Ru fs) (r.1.toks,r.1.i,r.1.bad,0,0,[],[],r.2.kind,r.2.n,r.2.text,r.2.args,[4,5],([4,5].length:Int),0))=aj0 toks fs b x:=by
  rw[F];exact cmp_eq h fs b x
 have eS:sV t1 z gs A B C (encS toks stop s)=(if sees toks b [60]=true then (gs (encS toks stop (bK b))).bind fun r=>some (r.1,⟨6,4,[],[y,r.2]⟩)else if sees toks b [61,61]=true then (gs (encS toks stop (bK b))).bind fun r=>some (r.1,⟨6,5,[],[y,r.2]⟩)else some (encS toks stop b,y)):=by
  unfold sV;simp only[G,zA,rD h b,jw,aP];cases f:sees toks b [60]with
  | true=>
   simp only[ab,if_true];rw[lQ h (bZ f).2]
  | false=>
   simp only[aa,aD,if_false];cases d:sees toks b [61,61]with
   | true=>
    simp only[ab,if_true];rw[lQ h (bZ d).2]
   | false=>simp
 unfold Sim;show ∃(s':PS) (x' y':af),((fs (encI toks s)).bind fun r=>aA (Ru fs) (r.1.toks,r.1.i,r.1.bad,0,0,[],[],r.2.kind,r.2.n,r.2.text,r.2.args,[4,5],([4,5].length:Int),0))=_/\_
 rw[eI,eS];unfold aj0;cases f:sees toks b [60]with
 | true=>
  obtain⟨g,I⟩:=gJ (bZ f).1 (bZ f).2;obtain⟨o,p,q,t,u,v,w⟩:=m (bK b) g.len (by omega);refine⟨o,⟨6,4,[],[x,p]⟩,⟨6,4,[],[y,q]⟩,?_,?_,fun e=>(afU W (.inl rfl) (v e) (j (bZ f).1)),(l.trans g).trans w⟩
  ·simp only[if_true,t,zA]
  ·simp only[if_true,u,zA]
 | false=>
  simp only[aD,if_false];cases d:sees toks b [61,61]with
  | true=>
   obtain⟨g,I⟩:=gJ (bZ d).1 (bZ d).2;obtain⟨o,p,q,t,u,v,w⟩:=m (bK b) g.len (by omega);refine⟨o,⟨6,5,[],[x,p]⟩,⟨6,5,[],[y,q]⟩,?_,?_,fun e=>(afU W (.inr rfl) (v e) (j (bZ d).1)),(l.trans g).trans w⟩
   ·simp only[if_true,t,zA]
   ·simp only[if_true,u,zA]
  | false=>
   simp only[aD,if_false];exact⟨b,x,y,rfl,rfl,fun e=>⟨(j e).1,Nat.le_trans (Nat.add_le_add_right (W.sc x) _) (j e).2⟩,l⟩
theorem ajN(fe fs o p j)(a:bn):Am fe fs o p j a =
 ((gu a).bind fun k=>
 (kQ k.2 [108,101,116]).bind fun w=>
 bif w then
  (oO (bn.mk k.1.toks (w64 (k.1.i+1)) k.1.bad)).bind fun o=>
  (dw o.1 [61]).bind fun p=>
  (fe p).bind fun j=>
  (gd ([aj j.2].length)).bind fun _=>
  (dw j.1 [105,110]).bind fun x=>
  (fe x).bind fun q=>
  (gd ([aj j.2].length+[aj q.2].length)).bind fun _=>
  some (q.1,af.mk 7 0 o.2 ([aj j.2]++[aj q.2]))
 else
 (gu k.1).bind fun l=>
 (kQ l.2 [105,102]).bind fun y=>
 bif y then
  (fe (bn.mk l.1.toks (w64 (l.1.i+1)) l.1.bad)).bind fun c=>
  (gd ([aj c.2].length)).bind fun _=>
  (dw c.1 [116,104,101,110]).bind fun r=>
  (fe r).bind fun e=>
  (gd ([aj c.2].length+[aj e.2].length)).bind fun _=>
  (dw e.1 [101,108,115,101]).bind fun s=>
  (fe s).bind fun g=>
  (gd (([aj c.2]++[aj e.2]).length+[aj g.2].length)).bind fun _=>
  some (g.1,af.mk 8 0 [] (([aj c.2]++[aj e.2])++[aj g.2]))
 else
 (gu l.1).bind fun d=>
 (kQ d.2 [102,111,114]).bind fun t=>
 bif t then
  (oO (bn.mk d.1.toks (w64 (d.1.i+1)) d.1.bad)).bind fun m=>
  (dw m.1 [105,110]).bind fun u=>
  (fe u).bind fun f=>
  (gd ([aj f.2].length)).bind fun _=>
  (dw f.1 [100,111]).bind fun v=>
  (fe v).bind fun h=>
  (gd ([aj f.2].length+[aj h.2].length)).bind fun _=>
  some (h.1,af.mk 9 0 m.2 ([aj f.2]++[aj h.2]))
 else
 (fs d.1).bind fun b=>
 aA (Ru fs) (b.1.toks,b.1.i,b.1.bad,0,0,[],[],b.2.kind,b.2.n,b.2.text,b.2.args,[4,5],([4,5].length:Int),0)):=rfl
theorem Qw(h:dW toks stop)(s:PS):(jR toks s).2.length<=120:=by
 unfold jR;split
 ·exact (l9 h s).len
 ·simp
theorem ahP(h:dW toks stop)(W:Wt){k:Nat}{fe ge fs gc}(B:∀s,s.i<=toks.length->rem toks s+1<=k->Sim W.e toks stop fe ge s)
  (hC:∀s,s.i<=toks.length->rem toks s<=k->Sim W.c toks stop (fun a=>(fs a).bind fun r=>aA (Ru fs) (r.1.toks,r.1.i,r.1.bad,0,0,[],[],r.2.kind,r.2.n,r.2.text,r.2.args,[4,5],([4,5].length:Int),0)) gc s)
  (r3 r4 r5 t3 t4 t5 t6) (s:PS) (hs:s.i<=toks.length) (hk:rem toks s<=k):Sim W.e toks stop (Am fe fs r3 r4 r5) (J4 ge gc t3 t4 t5 t6) s:=by
 unfold Sim;have Q:∀x:af,gd [x].length=some ():=fun x=>gdp (by simp)
 have R:∀x y:af,gd ([x].length+[y].length)=some ():=fun x y=>gdp (by simp)
 have g3:∀x y z:af,gd (([x]++[y]).length+[z].length)=some ():=fun x y z=>gdp (by simp)
 rw[ajN];unfold J4;simp only[yR h,zA,adL,QK h s [108,101,116] rfl,QK h s [105,102] rfl,QK h s [102,111,114] rfl,rD h s,aP];cases N:sees toks s [108,101,116]with
 | true=>
  obtain⟨p,T⟩:=gJ (bZ N).1 (bZ N).2;have l:=Za (toks:=toks) p.len;have j:=ru (x:=[61]) l.len;obtain⟨F,q,G,C,D,t,d⟩:=B (fO toks (jR toks (bK s)).1 [61]) j.len (by have:=l.rem;have:=j.rem;omega);have b:=ru (x:=[105,110]) d.len;obtain⟨H,u,I,J,K,L,g⟩:=B (fO toks F [105,110]) b.len (by have:=l.rem;have:=j.rem;have:=d.rem;have:=b.rem;omega);refine⟨H,⟨7,0,(jR toks (bK s)).2,[q,u]⟩,⟨7,0,(jR toks (bK s)).2,[G,I]⟩,?_,?_,fun f=>(by
   have v:=L f;have w:=t (jJ (b.trans g) f);refine⟨by rw[v.1,w.1],?_⟩;have U:=v.2;have S:=w.2;have A:=jJ g f;have V:=BJ A;have M:=jJ (d.trans b) A;have c4:=BJ M;have O:=ahg (jJ j M);rw[kC]at O;have X:=W.two _ (jR toks (bK s)).2 q u (.inl rfl) (Qw h (bK s));omega),((((p.trans l).trans j).trans d).trans b).trans g⟩
  ·simp only[ab];rw[Dl h (bZ N).2];simp only[Zx h,zA,yS h,C,Q,R,J];rfl
  ·simp only[ab];rw[lQ h (bZ N).2];simp only[Yc h,zA,uN h,D,K]
 | false=>
  simp only[aa];cases m:sees toks s [105,102]with
  | true=>
   obtain⟨p,T⟩:=gJ (bZ m).1 (bZ m).2;obtain⟨F,q,G,C,D,t,d⟩:=B (bK s) p.len (by omega);have b:=ru (x:=[116,104,101,110]) d.len;obtain⟨H,u,I,J,K,L,g⟩:=B (fO toks F [116,104,101,110]) b.len (by have:=d.rem;have:=b.rem;omega);have E:=ru (x:=[101,108,115,101]) g.len;obtain⟨s4,Y,y4,u1,u2,u3,P⟩:=B (fO toks H [101,108,115,101]) E.len (by have:=d.rem;have:=b.rem;have:=g.rem;have:=E.rem;omega);refine⟨s4,⟨8,0,[],[q,u,Y]⟩,⟨8,0,[],[G,I,y4]⟩,?_,?_,fun f=>(by
    have Z:=u3 f;have v:=L (jJ (E.trans P) f);have w:=t (jJ ((b.trans g).trans (E.trans P)) f);refine⟨by rw[Z.1,v.1,w.1],?_⟩;have c0:=Z.2;have U:=v.2;have S:=w.2;have A:=jJ P f;have V:=BJ A;have O:=BJ (jJ (g.trans E) A);rw[kC]at S;have X:=W.three q u Y;omega),((((p.trans d).trans b).trans g).trans E).trans P⟩
   ·simp only[ab];rw[Dl h (bZ m).2];simp only[zA,yS h,C,Q,R,g3,J,u1];rfl
   ·simp only[ab];rw[lQ h (bZ m).2];simp only[zA,uN h,D,K,u2]
  | false=>
   simp only[aa];cases o:sees toks s [102,111,114]with
   | true=>
    obtain⟨p,T⟩:=gJ (bZ o).1 (bZ o).2;have l:=Za (toks:=toks) p.len;have j:=ru (x:=[105,110]) l.len;obtain⟨F,q,G,C,D,t,d⟩:=B (fO toks (jR toks (bK s)).1 [105,110]) j.len (by have:=l.rem;have:=j.rem;omega);have b:=ru (x:=[100,111]) d.len;obtain⟨H,u,I,J,K,L,g⟩:=B (fO toks F [100,111]) b.len (by have:=l.rem;have:=j.rem;have:=d.rem;have:=b.rem;omega);refine⟨H,⟨9,0,(jR toks (bK s)).2,[q,u]⟩,⟨9,0,(jR toks (bK s)).2,[G,I]⟩,?_,?_,fun f=>(by
   have v:=L f;have w:=t (jJ (b.trans g) f);refine⟨by rw[v.1,w.1],?_⟩;have U:=v.2;have S:=w.2;have A:=jJ g f;have V:=BJ A;have M:=jJ (d.trans b) A;have c4:=BJ M;have O:=ahg (jJ j M);rw[kC]at O;have X:=W.two _ (jR toks (bK s)).2 q u (.inr rfl) (Qw h (bK s));omega),((((p.trans l).trans j).trans d).trans b).trans g⟩
    ·simp only[ab];rw[Dl h (bZ o).2];simp only[Zx h,zA,yS h,C,Q,R,J];rfl
    ·simp only[ab];rw[lQ h (bZ o).2];simp only[Yc h,zA,uN h,D,K]
   | false=>
    simp only[aa];obtain⟨s',x,y,C,D,t,d⟩:=hC s hs hk;refine⟨s',x,y,C,?_,fun f=>⟨(t f).1,Nat.le_trans (Nat.add_le_add_right (W.ce x) _) (t f).2⟩,d⟩;rw[D];rfl
variable {toks:List aI} {stop:Int}
theorem abO(h:dW toks stop)(W:Wt):∀(k:Nat) (s:PS),s.i<=toks.length->rem toks s<=k->∀n m,5*k+5<=n->6*k+6<=m->Sim W.e toks stop (aJ n).1 (aG m).1 s:=by
 intro k;induction k using Nat.strongRecOn with
 | _ k ih=>
  have r:∀n m,5*k<=n->6*k<=m->∀s,s.i<=toks.length->rem toks s+1<=k->Sim W.e toks stop (aJ n).1 (aG m).1 s:=fun n m o q s f g=>
   ih (k-1) (by omega) s f (by omega) n m (by omega) (by omega)
  have u:∀n m,5*k+1<=n->6*k+1<=m->∀b,letter b=false->b≠[44]->∀s,s.i<=toks.length->rem toks s+1<=k->Sim W.l toks stop (fun a=>(aJ n).2.2.2.2 a b) (fun a=>(aG m).2.2.2.2.2 a b) s:=by
   intro n m o q b v t s f g;obtain⟨d,rfl⟩:∃d,n=d+1:=⟨n-1,by omega⟩;obtain⟨c,rfl⟩:∃c,m=c+1:=⟨m-1,by omega⟩;exact ahm h W (k:=k-1) (fun s f g=>r d c (by omega) (by omega) s f (by omega)) b v t (aJ d).2.1 (aJ d).2.2.1 (aJ d).2.2.2.1 (aJ d).2.2.2.2 (aG c).2.1 (aG c).2.2.1 (aG c).2.2.2.1 (aG c).2.2.2.2.1 (aG c).2.2.2.2.2 s f (by omega)
  have w:∀n m,5*k+2<=n->6*k+2<=m->∀s,s.i<=toks.length->rem toks s<=k->Sim W.a toks stop (aJ n).2.2.2.1 (aG m).2.2.2.2.1 s:=by
   intro n m o q s f g;obtain⟨d,rfl⟩:∃d,n=d+1:=⟨n-1,by omega⟩;obtain⟨c,rfl⟩:∃c,m=c+1:=⟨m-1,by omega⟩;exact aij h W (r d c (by omega) (by omega)) (u d c (by omega) (by omega)) (aJ d).2.1 (aJ d).2.2.1 (aJ d).2.2.2.1 (aG c).2.1 (aG c).2.2.1 (aG c).2.2.2.1 (aG c).2.2.2.2.1 s f g
  have x:∀n m,5*k+3<=n->6*k+3<=m->∀s,s.i<=toks.length->rem toks s<=k->Sim W.p toks stop (aJ n).2.2.1 (aG m).2.2.2.1 s:=by
   intro n m o q s f g;obtain⟨d,rfl⟩:∃d,n=d+1:=⟨n-1,by omega⟩;obtain⟨c,rfl⟩:∃c,m=c+1:=⟨m-1,by omega⟩;exact agQ h W (w d c (by omega) (by omega)) (aJ d).1 (aJ d).2.1 (aJ d).2.2.1 (aJ d).2.2.2.2 (aG c).1 (aG c).2.1 (aG c).2.2.1 (aG c).2.2.2.1 (aG c).2.2.2.2.2 s f g
  have y:∀n m,5*k+4<=n->6*k+4<=m->∀s,s.i<=toks.length->rem toks s<=k->Sim W.s toks stop (aJ n).2.1 (aG m).2.2.1 s:=by
   intro n m o q s f g;obtain⟨d,rfl⟩:∃d,n=d+1:=⟨n-1,by omega⟩;obtain⟨c,rfl⟩:∃c,m=c+1:=⟨m-1,by omega⟩;exact aiC h W (x d c (by omega) (by omega)) (aJ d).1 (aJ d).2.1 (aJ d).2.2.2.1 (aJ d).2.2.2.2 (aG c).1 (aG c).2.1 (aG c).2.2.1 (aG c).2.2.2.2.1 (aG c).2.2.2.2.2 s f g
  intro s f g n m o q;obtain⟨d,rfl⟩:∃d,n=d+1:=⟨n-1,by omega⟩;obtain⟨c,rfl⟩:∃c,m=c+1:=⟨m-1,by omega⟩;refine ahP h W (r d c (by omega) (by omega)) (fs:=(aJ d).2.1) (gc:=(aG c).2.1) (fun s f g=>?_) (aJ d).2.2.1 (aJ d).2.2.2.1 (aJ d).2.2.2.2 (aG c).2.2.1 (aG c).2.2.2.1 (aG c).2.2.2.2.1 (aG c).2.2.2.2.2 s f g;obtain⟨j,rfl⟩:∃j,c=j+1:=⟨c-1,by omega⟩;exact ajZ h W (y d j (by omega) (by omega)) (aG j).1 (aG j).2.1 (aG j).2.2.2.1 (aG j).2.2.2.2.1 (aG j).2.2.2.2.2 s f g
variable {toks:List aI} {stop:Int}
theorem rC(n:Int):1<=SizeOf.sizeOf n:=by
 cases n with
 | ofNat m=>rw[Int.ofNat.sizeOf_spec];omega
 | negSucc m=>rw[Int.negSucc.sizeOf_spec];omega
theorem aef{α:Type}[SizeOf α](xs:List α):1<=SizeOf.sizeOf xs:=by
 cases xs with
 | nil=>rw[List.nil.sizeOf_spec];omega
 | cons x r=>rw[List.cons.sizeOf_spec];omega
theorem aiH(t:aI):5<=SizeOf.sizeOf t:=by
 obtain⟨a,b,c,d⟩:=t;rw[aI.mk.sizeOf_spec];have:=rC a;have:=rC b;have:=rC c;have:=aef d;omega
theorem af8(toks:List aI):6*toks.length+1<=SizeOf.sizeOf toks:=by
 induction toks with
 | nil=>rw[List.nil.sizeOf_spec];simp
 | cons t r ih=>
  rw[List.cons.sizeOf_spec];have:=aiH t;simp only[List.length_cons];omega
theorem WQ(h:dW toks stop)(W:Wt):∃(s':PS) (x y:af),MZ (bn.mk toks 0 (-1))=some (encI toks s',x)/\Pv (GRd.mk toks 0 stop (-1))=some (encS toks stop s',y)/\(s'.bad=none->x=y/\W.e x<=s'.i)/\s'.i<=toks.length:=by
 have g:=af8 toks;have hi:5*toks.length+5<=siz (bn.mk toks 0 (-1))+1:=by
  show _<=SizeOf.sizeOf (bn.mk toks 0 (-1))+1
  rw[bn.mk.sizeOf_spec];have:=rC 0;have:=rC (-1);omega
 have a:6*toks.length+6<=siz (GRd.mk toks 0 stop (-1))+1:=by
  show _<=SizeOf.sizeOf (GRd.mk toks 0 stop (-1))+1
  rw[GRd.mk.sizeOf_spec];have:=rC 0;have:=rC (-1);have:=rC stop;omega
 obtain⟨s',x,y,b,c,d,f⟩:=abO h W toks.length ⟨0,none⟩ (Nat.zero_le _) (by simp[rem]) _ _ hi a;exact⟨s',x,y,b,c,d,f.len⟩
theorem abP(a:Str){toks:List aI}{t:Int}(hi:Ep a=some (toks,t))(z:xZ a=some (toks,t))(m:t<0->dW toks (a.length:Int))
  (A:∀e:af,wtE e<=60->∃v,jc e=some v/\gI e=some v):∃(e:af) (p:Int),vJ a=some (e,p)/\qj a=some (e,p)/\(p<0->jc e=some true/\wtE e<=60):=by
 unfold vJ qj;rw[hi,z];simp only[zA];by_cases u:t>=0
 ·have e:decide (t>=0)=true:=by simpa using u
  rw[e];exact⟨_,_,rfl,rfl,fun h=>by omega⟩
 ·have e:decide (t>=0)=false:=by simpa using u
  rw[e];simp only[aa];have h:=m (by omega);obtain⟨s',x,y,B,C,n,E⟩:=WQ h wtW;have n:s'.bad=none->x=y/\wtE x<=s'.i:=n;have hlen:=h.len;rw[B,C];simp only[zA,aP];rw[aii,aif h];cases g:s'.bad with
  | some b=>
   have eb:(encI toks s').bad=(b:Int):=by simp[encI,g]
   have es:(encS toks (a.length:Int) s').bad=CW toks (a.length:Int) b:=by simp[encS,g]
   have o:=mW h b;have j:decide ((encS toks (a.length:Int) s').bad>=0)=true:=by rw[es];simpa using o
   have k:decide ((encI toks s').bad>=0)=true:=by rw[eb];simp
   rw[j,k,eb,es];simp only[Option.isNone_some,aa,ab];by_cases c:b<toks.length
   ·have d:decide ((b:Int)>=(toks.length:Int))=false:=by simp;omega
    rw[d];simp only[aa,au,zF c,zA,aw];refine⟨_,_,rfl,?_,fun hh=>?_⟩
    ·simp[CW,zF c]
    ·have:=(h.all _ (List.getElem_mem c)).pos;omega
   ·have d:decide ((b:Int)>=(toks.length:Int))=true:=by simp;omega
    rw[d];simp only[ab];have:toks[b]?=none:=zJ (by omega);refine⟨_,_,rfl,?_,fun hh=>by omega⟩;simp[CW,this]
  | none=>
   have ei:(encI toks s').i=(s'.i:Int):=rfl;have esi:(encS toks (a.length:Int) s').i=(s'.i:Int):=rfl;have eb:(encI toks s').bad = -1:=by simp[encI,g]
   have es:(encS toks (a.length:Int) s').bad = -1:=by simp[encS,g]
   simp only[Option.isNone_none,ab,ei,esi,uX h,zA];obtain⟨q,f⟩:=n g;have f:wtE x<=60:=by omega
   subst q;by_cases r:s'.i<toks.length
   ·have j:decide ((s'.i:Int)<(toks.length:Int))=true:=by simp;omega
    have k:decide ((s'.i:Int)>=(toks.length:Int))=false:=by simp;omega
    have d:decide ((s'.i:Int)>=0)=true:=by simp
    have w:(encS toks (a.length:Int) (iZ s')).bad=toks[s'.i].pos:=by simp[encS,iZ,g,CW,zF r]
    have o:=(h.all _ (List.getElem_mem r)).pos;have D:decide ((encS toks (a.length:Int) (iZ s')).bad>=0)=true:=by rw[w];simpa using o
    rw[j,k,d,D,w];simp only[ab,aa,au,zF r,zA,aw];exact⟨_,_,rfl,rfl,fun hh=>by omega⟩
   ·have j:decide ((s'.i:Int)<(toks.length:Int))=false:=by simp;omega
    have k:decide ((-1:Int)>=(toks.length:Int))=false:=by simp;omega
    have d:decide ((-1:Int)>=0)=false:=rfl;obtain⟨v,l,s⟩:=A x f;rw[j,eb,es,k,d];simp only[aa,l,s,zA];cases v with
    | false=>exact⟨_,_,rfl,rfl,fun hh=>by omega⟩
    | true=>exact⟨_,_,rfl,rfl,fun _=>⟨l,f⟩⟩
end
end Go.Proofs.YtngjomkjlonfpaaGreat
