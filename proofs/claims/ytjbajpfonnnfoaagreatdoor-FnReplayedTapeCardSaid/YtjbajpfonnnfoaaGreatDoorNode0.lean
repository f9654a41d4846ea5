import Derived.Test.YtjbajpfonnnfoaaGreatDoorVal13
import Derived.Test.YtjbajpfonnnfoaaGreatDoorEv1
import Derived.Test.YtjbajpfonnnfoaaGreatDoorPlain1
set_option linter.unusedSimpArgs false
set_option linter.unusedVariables false
/- Plain laws: expressions with few nodes and short texts: validity is alike on both sides, and gives the shape that the evaluator asks for. -/
namespace Go.Proofs.YtjbajpfonnnfoaaGreatDoor
open Go.Abs Go.Proofs
def prn(_:Str):Bool:=true
noncomputable def Pn(a:Str):Int:=(gm a).getD (-1)
theorem S9(a:Str):lg a=iq a:=rfl
mutual
def wtE:aA->Nat
 | ⟨_,_,t,a⟩=>(if t.length<=120 then 1 else 18446744073709551616)+wtL a
def wtL:List aA->Nat
 | []=>0
 | x::r=>wtE x+wtL r
end
theorem Dc(a b:List aA):wtL (a++b)=wtL a+wtL b:=by
 induction a with
 | nil=>simp[wtL]
 | cons x r ih=>simp only[List.cons_append,wtL,ih];omega
theorem mG{k n:Int}{t:Str}{a:List aA}(h:t.length<=120):wtE ⟨k,n,t,a⟩=1+wtL a:=by simp[wtE,h]
theorem SN(x:aA):wtL [x]=wtE x:=by simp[wtL]
theorem afR(x y:aA):wtL [x,y]=wtE x+wtE y:=by simp[wtL]
theorem aa8(x y z:aA):wtL [x,y,z]=wtE x+(wtE y+wtE z):=by simp[wtL]
theorem mW{α:Type}(c:Bool){a b a' b':α}(d:a=a')(e:b=b'):(bif c then a else b)=bif c then a' else b':=by rw[d,e]
theorem aa9(a b c:Int):jD a b c=vX a b c:=rfl
theorem y5(a b c:Int):vX a b c=some (decide (a>=b)&&decide (a<=c)):=by
 unfold vX;cases decide (a>=b)<;>rfl
theorem JC(a:Str):dR a=gm a:=rfl
theorem Zi(e:aA)(b:e.text.length<=34359738368)(c:∃v,iq e.text=some v)(d:∃v,eY e.text=some v):BI e=nC e:=by
 obtain⟨v,f⟩:=c;obtain⟨u,g⟩:=d;unfold BI nC;simp only[aa9,y5,JC,S9,Jb e.text b,f,g,zA];generalize (e.text==[])=p;generalize ((e.args.length:Int)==0)=q0;generalize ((e.args.length:Int)==2)=a;generalize (decide (e.n>=0)&&decide (e.n<=1000000000))=w1;generalize (decide (e.n>=1)&&decide (e.n<=5))=h;refine mW _ ?_ (mW _ ?_ (mW _ ?_ (mW _ rfl (mW _ rfl (mW _ ?_ (mW _ ?_ (mW _ ?_ rfl)))))))
 ·cases p<;>cases q0<;>cases w1<;>rfl
 ·cases q0<;>cases v<;>cases (e.n==0)<;>rfl
 ·cases q0<;>cases u<;>cases (e.n==0)<;>rfl
 ·cases p<;>cases a<;>cases h<;>rfl
 ·cases a<;>cases u<;>cases (e.n==0)<;>rfl
 ·cases a<;>cases u<;>cases (e.n==0)<;>rfl
theorem N9{X ρ:Type}{f:X->Option (X⊕ρ)}{x:X}{r:ρ}{n:Nat}(a:iter f n x=some r):aO f x=some r:=by
 have hh:∃n r,iter f n x=some r:=⟨n,r,a⟩;unfold aO;rw[dif_pos hh];exact congrArg some (Iz hh.choose_spec.choose_spec a)
theorem Xd{X Y ρ:Type}{f:X->Option (X⊕ρ)}{g:Y->Option (Y⊕ρ)}(P:X->Y->Prop)
  (H:∀x y,P x y->(f x=none/\g y=none)\/(∃r,f x=some (.inr r)/\g y=some (.inr r))\/(∃x' y',P x' y'/\f x=some (.inl x')/\g y=some (.inl y')))
  {x:X} {y:Y} (h:P x y):aO f x=aO g y:=by
 have i:∀(n:Nat) (x:X) (y:Y),P x y->iter f n x=iter g n y:=by
  intro n;induction n with
  | zero=>intro x y _;rfl
  | succ n ih=>
   intro x y hp;unfold iter;rcases H x y hp with ⟨b,a⟩ | ⟨r,b,a⟩ | ⟨x',y',d,b,a⟩
   ·rw[b,a]
   ·rw[b,a]
   ·rw[b,a];exact ih x' y' d
 cases e:aO f x with
 | some r=>
  obtain⟨n,c⟩:=yt e;rw[i n x y h]at c;exact (N9 c).symm
 | none=>
  cases a:aO g y with
  | none=>rfl
  | some r=>
   obtain⟨n,c⟩:=yt a;rw[<- i n x y h]at c;rw[N9 c]at e;cases e
theorem Q5(m r:Int):Dx m r=some (if r>m then r else m):=by
 unfold Dx;by_cases h:m>r
 ·rw[ae h,if_neg (by omega)];rfl
 ·rw[ac h];by_cases a:r>m
  ·rw[if_pos a];rfl
  ·rw[if_neg a];have:r=m:=by omega
   rw[this];rfl
theorem Qp:∀(n:Nat) (e:aA),qh n e=jA n e:=by
 intro n;induction n with
 | zero=>intro e;rfl
 | succ n ih=>
  intro e;show Aw (qh n) e=pJ (jA n) e
  unfold Aw pJ;refine Xd (fun x y=>∃m i:Int,x=(m,e.args,(e.args.length:Int),i)/\y=(e.kind,e.n,e.text,e.args,m,i)) ?_ ⟨0,0,rfl,rfl⟩;rintro _ _ ⟨m,i,rfl,rfl⟩;simp only;cases decide (i<(e.args.length:Int))with
  | false=>exact .inr (.inl ⟨_,rfl,rfl⟩)
  | true=>
   simp only[ab];cases idx e.args i with
   | none=>exact .inl ⟨rfl,rfl⟩
   | some x=>
    simp only[zA,ih];cases jA n (aP x)with
    | none=>exact .inl ⟨rfl,rfl⟩
    | some r=>
     simp only[zA,Q5];exact .inr (.inr ⟨_,_,⟨_,_,rfl,rfl⟩,rfl,rfl⟩)
theorem abX(x:aA):aP x=x:=by cases x;rfl
theorem aeU{α:Type}{xs:List α}{i:Int}{x:α}(h:idx xs i=some x):x∈xs:=by
 unfold idx at h;split at h
 ·exact zG h
 ·cases h
theorem W9(P:aA->Prop)(hsub:∀e x,P e->x∈e.args->P x)(hnode:∀e,P e->BI e=nC e):∀(n:Nat) (e:aA),P e->sW n e=pM n e:=by
 intro n;induction n with
 | zero=>intro e _;rfl
 | succ n ih=>
  intro e a;show Ef (sW n) e=zS (pM n) e
  unfold Ef zS;refine Xd (fun x y=>∃i:Int,x=(e.kind,e.n,e.text,e.args,e.args,(e.args.length:Int),i)/\y=(e.kind,e.n,e.text,e.args,i)) ?_ ⟨0,rfl,rfl⟩;rintro _ _ ⟨i,rfl,rfl⟩;simp only;cases decide (i<(e.args.length:Int))with
  | false=>
   have b:BI ⟨e.kind,e.n,e.text,e.args⟩=nC ⟨e.kind,e.n,e.text,e.args⟩:=by
    have:=hnode e a;cases e;exact this
   simp only[aa,b];cases nC ⟨e.kind,e.n,e.text,e.args⟩with
   | none=>exact .inl ⟨rfl,rfl⟩
   | some r=>exact .inr (.inl ⟨_,rfl,rfl⟩)
  | true=>
   simp only[ab];cases c:idx e.args i with
   | none=>exact .inl ⟨rfl,rfl⟩
   | some x=>
    simp only[zA,abX,ih x (hsub e x a (aeU c))];cases pM n x with
    | none=>exact .inl ⟨rfl,rfl⟩
    | some r=>
     simp only[zA];cases r with
     | false=>exact .inr (.inl ⟨_,rfl,rfl⟩)
     | true=>exact .inr (.inr ⟨_,_,⟨_,rfl,rfl⟩,rfl,rfl⟩)
theorem aad{x:aA}:∀ {xs:List aA},x∈xs->wtE x<=wtL xs
 | [],h=>by cases h
 | y::r,h=>by
  rcases ba.1 h with rfl | h
  ·show _<=wtE x+wtL r;omega
  ·have:=aad h;show _<=wtE y+wtL r;omega
theorem J8(e:aA):1+wtL e.args<=wtE e:=by
 obtain⟨k,n,t,a⟩:=e;show 1+wtL a<=(if t.length<=120 then 1 else 18446744073709551616)+wtL a
 split<;>omega
theorem aaf(e:aA):1<=wtE e:=by have:=J8 e;omega
theorem aae:∀(xs:List aA),xs.length<=wtL xs
 | []=>by simp
 | x::r=>by
  have:=aae r;have:=aaf x;show r.length+1<=wtE x+wtL r;omega
theorem GU{x e:aA}(h:x∈e.args):wtE x+1<=wtE e:=by
 have:=aad h;have:=J8 e;omega
theorem Em{e:aA}(h:wtE e<=1048576):e.text.length<=120:=by
 obtain⟨k,n,t,a⟩:=e;have h:(if t.length<=120 then 1 else 18446744073709551616)+wtL a<=1048576:=h;show t.length<=120
 split at h
 ·assumption
 ·omega
theorem aac{e:aA}(h:wtE e<=1048576):wtE e=1+wtL e.args:=by
 have:=Em h;obtain⟨k,n,t,a⟩:=e;exact mG this
theorem KY{e:aA}:e.args.length+1<=wtE e:=by
 have:=J8 e;have:=aae e.args;omega
theorem abu{e:aA}:siz e.args<siz e:=by
 cases e;simp only[siz];rw[aA.mk.sizeOf_spec];omega
theorem ads{x:aA}{xs:List aA}(h:x∈xs):siz x+1<=siz xs:=by
 have:=List.sizeOf_lt_of_mem h;simp only[siz];omega
theorem ED{x e:aA}(h:x∈e.args):siz x+2<=siz e:=by
 have:=ads h;have:=abu (e:=e);omega
theorem VG{xs:List aA}{i:Nat}{x:aA}(h:xs[i]?=some x):wtL (xs.take (i+1))=wtL (xs.take i)+wtE x:=by
 obtain⟨a,rfl⟩:=zC.1 h;rw[List.take_succ_eq_append_getElem a,Dc,SN]
theorem yZ(xs:List aA)(i:Nat):wtL (xs.take i)<=wtL xs:=by
 have h:wtL (xs.take i)+wtL (xs.drop i)=wtL xs:=by rw[<- Dc,List.take_append_drop]
 omega
theorem FM{α X ρ σ:Type}{g:X->Option (X⊕ρ)}(pk:σ->Nat->X)(xs:List α)(I:Nat->σ->Prop)(R:ρ->Prop)
  (f:∀i x s,xs[i]?=some x->I i s->(∃s',g (pk s i)=some (.inl (pk s' (i+1)))/\I (i+1) s')\/∃r,g (pk s i)=some (.inr r)/\R r)
  (hf:∀s,I xs.length s->∃r,g (pk s xs.length)=some (.inr r)/\R r) (s:σ) (h:I 0 s):∃r,aO g (pk s 0)=some r/\R r:=by
 have key:∀(k i:Nat) (s:σ),xs.length=i+k->I i s->∃r,aO g (pk s i)=some r/\R r:=by
  intro k;induction k with
  | zero=>
   intro i s j b;have:i=xs.length:=by omega
   subst this;obtain⟨r,e,a⟩:=hf s b;exact⟨r,by rw[aX,e],a⟩
  | succ k ih=>
   intro i s j b;have c:i<xs.length:=by omega
   rcases f i _ s (zF c) b with ⟨s',e,d⟩ | ⟨r,e,a⟩
   ·obtain⟨r,e',a⟩:=ih (i+1) s' (by omega) d;exact⟨r,by rw[aX,e];exact e',a⟩
   ·exact⟨r,by rw[aX,e],a⟩
 exact key xs.length 0 s (by omega) h
theorem O7{α:Type}{xs:List α}{i:Nat}{x:α}(h:xs[i]?=some x):decide ((i:Int)<(xs.length:Int))=true:=by
 have:=(zC.1 h).1;simp;omega
theorem KW{α:Type}(xs:List α):decide ((xs.length:Int)<(xs.length:Int))=false:=by simp
theorem Vt{α:Type}{xs:List α}{i:Nat}{x:α}(h:xs[i]?=some x)(a:xs.length<=34359738368):w64 ((i:Int)+1)=((i+1:Nat):Int):=by
 have:=(zC.1 h).1;rw[bT (by omega) (by omega)];omega
theorem FD:∀(n:Nat) (e:aA),siz e<n->wtE e<=1048576->mQ n e=some (wtE e:Int)
 | 0,e,h,_=>absurd h (Nat.not_lt_zero _)
 | n+1,e,m,d=>by
  have ih:=FD n;have o:=KY (e:=e);show Au (mQ n) e=_
  unfold Au;have key:=FM (fun (s:Unit) (i:Nat)=>((((1+wtL (e.args.take i):Nat):Int),e.args,(e.args.length:Int),(i:Int)):Int×(List aA)×Int×Int)) e.args (fun _ _=>True) (fun r=>r=(wtE e:Int)) (g:=fun (a:Int×(List aA)×Int×Int)=>
   bif (decide (a.2.2.2<a.2.2.1))then
    (idx a.2.1 a.2.2.2).bind fun f=>
    (mQ n (aP f)).bind fun j=>
    some (.inl (w64 (a.1+j),a.2.1,a.2.2.1,w64 (a.2.2.2+1)))
   else
    some (.inr (a.1))) (fun i x s b _=>.inl ⟨(),by
   have c:=zG b
   have p:=GU c
   have k:=VG b
   have q:=yZ e.args (i+1)
   have t:=J8 e
   simp only[O7 b,ab,aQ,b,zA,dJ,ih x (by have:=ED c;omega) (by omega),Vt b (by omega),k]
   rw[bT (by omega) (by omega)]
   congr 4
   omega,trivial⟩) (fun s _=>⟨_,by simp only[KW,aa];rfl,by rw[List.take_length,aac d]⟩) () trivial
  obtain⟨r,l,rfl⟩:=key;exact l
theorem aaJ:∀(n:Nat) (e:aA) (b:Int),siz e<n->wtE e<=1048576->0<=b->b<=1048576 ->
  ∃r,wz n e b=some r/\(0<=b-wtE e->r=b-wtE e)/\(b-wtE e<0->r = -1)
 | 0,e,b,h,_,_,_=>absurd h (Nat.not_lt_zero _)
 | n+1,e,b,y,o,z,p=>by
  have ih:=aaJ n;have A:=KY (e:=e);have q:=aac o;show ∃r,Hw (wz n) e b=some r/\_
  unfold Hw;rw[bT (n:=b-1) (by omega) (by omega)];refine FM (fun (s:Int) (i:Nat)=>((s,e.kind,e.n,e.text,e.args,(i:Int)):Int×Int×Int×Str×(List aA)×Int)) e.args
   (fun i s=>(0<=b-1-wtL (e.args.take i)->s=b-1-wtL (e.args.take i))/\(b-1-wtL (e.args.take i)<0->s = -1)) _ (fun i x s c g=>?_) (fun s g=>?_) (b-1) ⟨fun _=>by simp[wtL],fun h=>by simp[wtL]at h;omega⟩
  ·obtain⟨a,d⟩:=g;have l:=zG c;have p:=GU l;have m:=VG c;have B:=yZ e.args (i+1);by_cases j:s>=0
   ·obtain⟨r,t,u,v⟩:=ih x s (by have:=ED l;omega) (by omega) j (by
     by_cases f:0<=b-1-wtL (e.args.take i)
     ·have:=a f;omega
     ·have:=d (by omega);omega)
    have w:s=b-1-wtL (e.args.take i):=by
     by_cases f:0<=b-1-wtL (e.args.take i)
     ·exact a f
     ·have:=d (by omega);omega
    refine .inl ⟨r,?_,fun k=>?_,fun k=>?_⟩
    ·simp only[O7 c,ab,ae j,aQ,c,zA,dJ,t,Vt c (by omega)]
    ·rw[m]at k ⊢;rw[u (by omega)];omega
    ·rw[m]at k;exact v (by omega)
   ·refine .inr ⟨s,?_,fun h=>?_,fun h=>?_⟩
    ·simp only[O7 c,ab,ac j,aa]
    ·have:=yZ e.args i;have:=a (by omega);omega
    ·have:=a;by_cases f:0<=b-1-wtL (e.args.take i)
     ·have:=a f;omega
     ·exact d (by omega)
  ·obtain⟨a,d⟩:=g;rw[List.take_length]at a d;exact⟨s,by simp only[KW,aa],fun h=>by rw[a (by omega)];omega,fun h=>d (by omega)⟩
theorem NG:∀(n:Nat) (e:aA),siz e<n->wtE e<=1048576->∃r,jA n e=some r/\True
 | 0,e,h,_=>absurd h (Nat.not_lt_zero _)
 | n+1,e,f,hf=>by
  have ih:=NG n;have g:=KY (e:=e);show ∃r,pJ (jA n) e=some r/\_
  unfold pJ;refine FM (fun (s:Int) (i:Nat)=>((e.kind,e.n,e.text,e.args,s,(i:Int)):Int×Int×Str×(List aA)×Int×Int)) e.args (fun _ _=>True) _ (fun i x s a c=>?_) (fun s c=>?_) 0 trivial
  ·have b:=zG a;obtain⟨r,d,_⟩:=ih x (by have:=ED b;omega) (by have:=GU b;omega);refine .inl ⟨if r>s then r else s,?_,trivial⟩;simp only[O7 a,ab,aQ,a,zA,dJ,d,Q5,Vt a (by omega)]
  ·exact⟨_,by simp only[KW,aa];rfl,trivial⟩
theorem JB(a:Str):∃r,gm a=some r/\r<=4/\(0<=r->a.length<=6/\prn a=true):=by
 unfold gm;have go:∀(w:Str) (k:Int) (z:Option Int),w.length<=6/\prn w=true->k<=4->(∃r,z=some r/\r<=4/\(0<=r->a.length<=6/\prn a=true))->∃r,(bif (a==w)then some k else z)=some r/\r<=4/\(0<=r->a.length<=6/\prn a=true):=by
  intro w k z b hk c;cases h:(a==w)with
  | true=>
   have e:=eq_of_beq h;exact⟨k,rfl,hk,fun _=>by rw[e];exact b⟩
  | false=>exact c
 repeat refine go _ _ _ (by decide) (by decide) ?_
 exact⟨-1,rfl,by decide,fun h=>by omega⟩
structure JE(e:aA):Prop where
 pr:prn e.text=true
 k0:1<=e.kind
 k9:e.kind<=9
 num:e.kind=1->0<=e.n/\e.n<=1000000000
 call:e.kind=5->e.args.length<=4
 list:e.kind=4->e.args.length<=8
 op:e.kind=6->e.args.length=2/\1<=e.n/\e.n<=5
 two:e.kind=7\/e.kind=9->e.args.length=2
 three:e.kind=8->e.args.length=3
 leaf:e.kind=1\/e.kind=2\/e.kind=3->e.args=[]
 z:e.kind=1\/e.kind=4\/e.kind=6\/e.kind=8->e.text=[]
 w:e.kind≠1->e.kind≠6->e.n=0
 nm:e.kind=3\/e.kind=7\/e.kind=9->eY e.text=some true
 tx:e.kind=2->iq e.text=some true
 cl:e.kind=5->(e.args.length:Int)=Pn e.text
inductive I8:aA->Prop
 | mk (e:aA) (h:JE e) (hs:∀x,x∈e.args->I8 x):I8 e
theorem agT(e:aA)(q:∃v,iq e.text=some v/\(v=true->prn e.text=true))(r:∃v,eY e.text=some v/\(v=true->prn e.text=true)):∃v,nC e=some v/\(v=true->JE e):=by
 have s:=y5 e.n 0 1000000000;have t:=y5 e.n 1 5;obtain⟨w,f,u⟩:=q;obtain⟨x,g,l⟩:=r;have nl:(e.text==[])=true->prn e.text=true:=fun h=>by rw[eq_of_beq h];rfl
 obtain⟨y,i,A,m⟩:=JB e.text;have no:∃v,(some false:Option Bool)=some v/\(v=true->JE e):=⟨false,rfl,fun h=>(by cases h)⟩;have bb:∀(c:Bool) (z:Option Bool),(c=true->∃v,z=some v/\(v=true->JE e))->∃v,(bif c then z else some false)=some v/\(v=true->JE e):=by
  intro c z o;cases c with
  | true=>exact o rfl
  | false=>exact no
 have kk:∀(k:Int) (z z':Option Bool),(e.kind=k->∃v,z=some v/\(v=true->JE e))->(¬e.kind=k->∃v,z'=some v/\(v=true->JE e))->∃v,(bif (e.kind==k)then z else z')=some v/\(v=true->JE e):=by
  intro k z z' o p;cases h:(e.kind==k)with
  | true=>exact o (eq_of_beq h)
  | false=>exact p (by simpa using h)
 have nil:((e.args.length:Int)==0)=true->e.args=[]:=fun h=>by
  have h:=eq_of_beq h;exact List.length_eq_zero_iff.1 (by omega)
 unfold nC;simp only[s,f,g,i,t,zA];refine kk 1 _ _ (fun hk=>bb _ _ fun d=>bb _ _ fun b=>⟨_,rfl,fun a=>?_⟩) fun B=>?_
 ·have a:0<=e.n/\e.n<=1000000000:=by simpa using a
  exact⟨nl b,by omega,by omega,fun _=>a,fun h=>by omega,fun h=>by omega,fun h=>by omega,fun h=>by omega,fun h=>by omega,fun _=>nil d,fun h=>(by first | exact eq_of_beq d | exact eq_of_beq b | omega),fun h j=>(by first | exact eq_of_beq d | exact eq_of_beq b | omega),fun h=>(by first | omega | rw[g,a]),fun h=>(by first | omega | rw[f,a]),fun h=>(by first | omega | (unfold Pn;rw[i];exact a))⟩
 refine kk 2 _ _ (fun hk=>bb _ _ fun d=>bb _ _ fun b=>⟨_,rfl,fun a=>?_⟩) fun C=>?_
 ·exact⟨u a,by omega,by omega,fun h=>by omega,fun h=>by omega,fun h=>by omega,fun h=>by omega,fun h=>by omega,fun h=>by omega,fun _=>nil d,fun h=>(by first | exact eq_of_beq d | exact eq_of_beq b | omega),fun h j=>(by first | exact eq_of_beq d | exact eq_of_beq b | omega),fun h=>(by first | omega | rw[g,a]),fun h=>(by first | omega | rw[f,a]),fun h=>(by first | omega | (unfold Pn;rw[i];exact a))⟩
 refine kk 3 _ _ (fun hk=>bb _ _ fun d=>bb _ _ fun b=>⟨_,rfl,fun a=>?_⟩) fun D=>?_
 ·exact⟨l a,by omega,by omega,fun h=>by omega,fun h=>by omega,fun h=>by omega,fun h=>by omega,fun h=>by omega,fun h=>by omega,fun _=>nil d,fun h=>(by first | exact eq_of_beq d | exact eq_of_beq b | omega),fun h j=>(by first | exact eq_of_beq d | exact eq_of_beq b | omega),fun h=>(by first | omega | rw[g,a]),fun h=>(by first | omega | rw[f,a]),fun h=>(by first | omega | (unfold Pn;rw[i];exact a))⟩
 refine kk 4 _ _ (fun hk=>bb _ _ fun d=>bb _ _ fun b=>⟨_,rfl,fun a=>?_⟩) fun E=>?_
 ·have a:=of_decide_eq_true a;exact⟨nl b,by omega,by omega,fun h=>by omega,fun h=>by omega,fun h=>by omega,fun h=>by omega,fun h=>by omega,fun h=>by omega,fun h=>by omega,fun h=>(by first | exact eq_of_beq d | exact eq_of_beq b | omega),fun h j=>(by first | exact eq_of_beq d | exact eq_of_beq b | omega),fun h=>(by first | omega | rw[g,a]),fun h=>(by first | omega | rw[f,a]),fun h=>(by first | omega | (unfold Pn;rw[i];exact a))⟩
 refine kk 5 _ _ (fun hk=>bb _ _ fun d=>⟨_,rfl,fun a=>?_⟩) fun F=>?_
 ·have a:=eq_of_beq a;exact⟨(m (by omega)).2,by omega,by omega,fun h=>by omega,fun h=>by omega,fun h=>by omega,fun h=>by omega,fun h=>by omega,fun h=>by omega,fun h=>by omega,fun h=>(by first | exact eq_of_beq d | exact eq_of_beq b | omega),fun h j=>(by first | exact eq_of_beq d | exact eq_of_beq b | omega),fun h=>(by first | omega | rw[g,a]),fun h=>(by first | omega | rw[f,a]),fun h=>(by first | omega | (unfold Pn;rw[i];exact a))⟩
 refine kk 6 _ _ (fun hk=>bb _ _ fun d=>bb _ _ fun b=>⟨_,rfl,fun a=>?_⟩) fun G=>?_
 ·have b:=eq_of_beq b;have a:1<=e.n/\e.n<=5:=by simpa using a
  exact⟨nl d,by omega,by omega,fun h=>by omega,fun h=>by omega,fun h=>by omega,fun _=>⟨by omega,a⟩,fun h=>by omega,fun h=>by omega,fun h=>by omega,fun h=>(by first | exact eq_of_beq d | exact eq_of_beq b | omega),fun h j=>(by first | exact eq_of_beq d | exact eq_of_beq b | omega),fun h=>(by first | omega | rw[g,a]),fun h=>(by first | omega | rw[f,a]),fun h=>(by first | omega | (unfold Pn;rw[i];exact a))⟩
 refine kk 7 _ _ (fun hk=>bb _ _ fun d=>bb _ _ fun b=>⟨_,rfl,fun a=>?_⟩) fun H=>?_
 ·have b:=eq_of_beq b;exact⟨l a,by omega,by omega,fun h=>by omega,fun h=>by omega,fun h=>by omega,fun h=>by omega,fun _=>by omega,fun h=>by omega,fun h=>by omega,fun h=>(by first | exact eq_of_beq d | exact eq_of_beq b | omega),fun h j=>(by first | exact eq_of_beq d | exact eq_of_beq b | omega),fun h=>(by first | omega | rw[g,a]),fun h=>(by first | omega | rw[f,a]),fun h=>(by first | omega | (unfold Pn;rw[i];exact a))⟩
 refine kk 9 _ _ (fun hk=>bb _ _ fun d=>bb _ _ fun b=>⟨_,rfl,fun a=>?_⟩) fun I=>?_
 ·have b:=eq_of_beq b;exact⟨l a,by omega,by omega,fun h=>by omega,fun h=>by omega,fun h=>by omega,fun h=>by omega,fun _=>by omega,fun h=>by omega,fun h=>by omega,fun h=>(by first | exact eq_of_beq d | exact eq_of_beq b | omega),fun h j=>(by first | exact eq_of_beq d | exact eq_of_beq b | omega),fun h=>(by first | omega | rw[g,a]),fun h=>(by first | omega | rw[f,a]),fun h=>(by first | omega | (unfold Pn;rw[i];exact a))⟩
 refine kk 8 _ _ (fun hk=>bb _ _ fun d=>bb _ _ fun b=>⟨_,rfl,fun a=>?_⟩) fun J=>no
 ·have a:=eq_of_beq a;exact⟨nl b,by omega,by omega,fun h=>by omega,fun h=>by omega,fun h=>by omega,fun h=>by omega,fun h=>by omega,fun _=>by omega,fun h=>by omega,fun h=>(by first | exact eq_of_beq d | exact eq_of_beq b | omega),fun h j=>(by first | exact eq_of_beq d | exact eq_of_beq b | omega),fun h=>(by first | omega | rw[g,a]),fun h=>(by first | omega | rw[f,a]),fun h=>(by first | omega | (unfold Pn;rw[i];exact a))⟩
theorem xI(e:aA)(a:wtE e<=1048576):(∃v,iq e.text=some v/\(v=true->prn e.text=true))/\∃v,eY e.text=some v/\(v=true->prn e.text=true):=by
 have b:=Em a;exact⟨⟨_,EH e.text (by omega),fun _=>rfl⟩,_,LW e.text (by omega),fun _=>rfl⟩
theorem afI:∀(n:Nat) (e:aA),siz e<n->wtE e<=1048576->∃v,pM n e=some v/\(v=true->I8 e)
 | 0,e,h,_=>absurd h (Nat.not_lt_zero _)
 | n+1,e,p,l=>by
  have ih:=afI n;have q:=KY (e:=e);show ∃v,zS (pM n) e=some v/\_
  unfold zS;refine FM (fun (_:Unit) (i:Nat)=>((e.kind,e.n,e.text,e.args,(i:Int)):Int×Int×Str×(List aA)×Int)) e.args (fun i _=>∀j x,e.args[j]?=some x->j<i->I8 x) _ (fun i x s a c=>?_) (fun s c=>?_) () (fun j x _ b=>absurd b (Nat.not_lt_zero _))
  ·have m:=zG a;obtain⟨v,d,f⟩:=ih x (by have:=ED m;omega) (by have:=GU m;omega);simp only[O7 a,ab,aQ,a,zA,dJ,d,Vt a (by omega)];cases v with
   | false=>exact .inr ⟨false,rfl,fun h=>(by cases h)⟩
   | true=>
    refine .inl ⟨(),rfl,fun j y g b=>?_⟩;by_cases k:j=i
    ·subst k;rw[a]at g;cases g
     exact f rfl
    ·exact c j y g (by omega)
  ·obtain⟨v,d,f⟩:=agT e (xI e l).1 (xI e l).2;have eta:aA.mk e.kind e.n e.text e.args=e:=by cases e;rfl
   refine⟨v,by simp only[KW,aa,eta,d,zA],fun o=>.mk e (f o) fun x a=>?_⟩;obtain⟨j,b⟩:=List.mem_iff_getElem?.1 a;exact c j x b (zC.1 b).1
theorem Zh(e:aA)(a:wtE e<=1048576):BK e=Kt e:=
 W9 (fun e=>wtE e<=1048576) (fun e x h b=>by have:=GU b;omega) (fun e h=>Zi e (by have:=Em h;omega) ((xI e h).1.imp fun _ h=>h.1) ((xI e h).2.imp fun _ h=>h.1)) _ e a
theorem Ja(e:aA)(a:wtE e<=1048576):∃v,lm e=some v/\fA e=some v/\(v=true->I8 e/\wtE e<=40):=by
 have f:D8 e=some (wtE e:Int):=FD _ e (Nat.lt_succ_self _) a;obtain⟨r,d,g,i⟩:=aaJ _ e 40 (Nat.lt_succ_self _) a (by omega) (by omega);have d:MK e 40=some r:=d;obtain⟨m,b,_⟩:=NG _ e (Nat.lt_succ_self _) a;have b:Dn e=some m:=b;have j:D9 e=some m:=(Qp _ e).trans b;obtain⟨v,c,k⟩:=afI _ e (Nat.lt_succ_self _) a;have c:Kt e=some v:=c;have l:BK e=some v:=(Zh e a).trans c;unfold lm fA;simp only[dJ,f,d,b,j,c,l,zA];have n:decide ((wtE e:Int)<=40)=decide (r>=0):=by
  by_cases h:(wtE e:Int)<=40
  ·have:=g (by omega);rw[ae h,ae (by omega)]
  ·have:=i (by omega);rw[ac h,ac (by omega)]
 rw[<- n];by_cases h:(wtE e:Int)<=40
 ·rw[ae h];simp only[ab];cases decide (m<=8)with
  | true=>exact⟨v,rfl,rfl,fun o=>⟨k o,by omega⟩⟩
  | false=>exact⟨false,rfl,rfl,fun h=>(by cases h)⟩
 ·rw[ac h];exact⟨false,rfl,rfl,fun h=>(by cases h)⟩
theorem adu:∀(n:Nat) (e:aA),wtE e<=n->n<=1048576->I8 e->ShX n e
 | 0,e,h,_,_=>absurd (aaf e) (by omega)
 | n+1,e,h,l,.mk _ a f=>by
  have g:=Em (e:=e) (by omega);refine .mk n e a.k0 a.k9 (fun b=>?_) (fun i=>?_) g ?_ (fun j=>(a.op j).1) a.two a.three (fun k=>?_) fun x c=>adu n x (by have:=GU c;omega) (by omega) (f x c)
  ·have:=a.num b;unfold nB;simp;omega
  ·have:=a.tx i;rw[EH e.text (by omega)]at this;exact aR this
  ·have m:=a.k0;have o:=a.k9;rcases (show e.kind=1\/e.kind=2\/e.kind=3\/e.kind=4\/e.kind=5\/e.kind=6\/e.kind=7\/e.kind=8\/e.kind=9 by omega)with q | q | q | q | q | q | q | q | q
   ·rw[a.leaf (.inl q)];simp
   ·rw[a.leaf (.inr (.inl q))];simp
   ·rw[a.leaf (.inr (.inr q))];simp
   ·exact a.list q
   ·have:=a.call q;omega
   ·have:=(a.op q).1;omega
   ·have:=a.two (.inl q);omega
   ·have:=a.three q;omega
   ·have:=a.two (.inr q);omega
  ·have b:=a.cl k;obtain⟨r,d,_⟩:=JB e.text;rw[JC,d,b];unfold Pn;rw[d];rfl
theorem abb(e:aA)(c:wtE e<=1048576):∃v,lm e=some v/\fA e=some v/\(v=true->ShX 40 e):=by
 obtain⟨v,d,f,a⟩:=Ja e c;exact⟨v,d,f,fun b=>adu 40 e (a b).2 (by omega) (a b).1⟩
structure Ext(m m1:au):Prop where
 t:m1.tape=m.tape
 w:m1.w=m.w
 c:m1.cell=m.cell
 v:m1.version=m.version
 r:∃l,m1.reads=m.reads++l
theorem Ext.refl(m:au):Ext m m:=⟨rfl,rfl,rfl,rfl,[],by simp⟩
theorem Ext.trans{a b c:au}(h:Ext a b)(k:Ext b c):Ext a c:=by
 obtain⟨l,e⟩:=h.r;obtain⟨l',d⟩:=k.r;exact⟨k.t.trans h.t,k.w.trans h.w,k.c.trans h.c,k.v.trans h.v,l++l',by rw[d,e,a7]⟩
theorem Ext.mem{a b:au}(h:Ext a b){x:aF}(c:x∈a.reads):x∈b.reads:=by
 obtain⟨l,d⟩:=h.r;rw[d];exact List.mem_append_left _ c
theorem aho(m:au):Ext m (ovr m):=⟨rfl,rfl,rfl,rfl,[],by simp[ovr]⟩
theorem OW(m:au):Ext m (tick m):=⟨rfl,rfl,rfl,rfl,[],by simp[tick]⟩
theorem OY(m:au)(r:aF):Ext m (CJ m r).1:=⟨rfl,rfl,rfl,rfl,_,rfl⟩
theorem BZ{α:Type}{f:au->α->au×af}:∀(xs:List α) (m:au),(∀m x,x∈xs->Ext m (f m x).1)->Ext m (evL f m xs).1
 | [],m,_=>.refl m
 | x::r,m,h=>by
  have a:=h m x aq;unfold evL;cases b:(f m x).1.over with
  | true=>exact a
  | false=>exact a.trans (BZ r _ fun m y c=>h m y (ao _ c))
theorem o9(p:au×List af)(f:List af->af):(fin p f).1=p.1:=by
 unfold fin;cases p.1.over<;>rfl
theorem KT{m:au}(p:au×af)(k:au->af->au×af)(h:Ext m p.1)(hk:∀v,Ext p.1 (k p.1 v).1):Ext m (thn p k).1:=by
 unfold thn;cases p.1.over with
 | true=>exact h
 | false=>exact h.trans (hk _)
theorem RV{m:au}(t:Str)(p:au×List af)(h:Ext m p.1):Ext m (tC t p).1:=by
 unfold tC;cases p.1.over with
 | true=>exact h
 | false=>
  cases !Oa t with
  | true=>exact h
  | false=>
   cases t==[99,108,111,99,107]with
   | true=>exact h.trans (OY _ _)
   | false=>
    cases (p.2.getD 0 zV).kind==6 with
    | true=>exact h
    | false=>
     cases t==[99,104,97,110,99,101]with
     | true=>
      cases (p.2.getD 0 zV).kind==1 with
      | true=>exact h.trans (OY _ _)
      | false=>exact h
     | false=>
      cases (p.2.getD 0 zV).kind==2 with
      | true=>exact h.trans (OY _ _)
      | false=>exact h
theorem ahp{f:au->aA->List ak->au×af}{d:Nat}{e:aA}(b:ShX d e)(hf:∀m x c,x∈e.args->Ext m (f m x c).1)(m:au)(c:List ak):Ext m (evB f m e c).1:=by
 cases b with
 | mk d _ k0 k9 num tx tl al op two three cl A=>
 unfold evB;cases (m.over||(m.steps==200))with
 | true=>exact aho m
 | false=>
 have a:=OW m;have g:∀c,Ext m (evL (fun m x=>f m x c) (tick m) e.args).1:=fun c=>a.trans (BZ _ _ fun m x b=>hf m x c b)
 simp only[aa];by_cases j:e.kind=1
 ·rw[j];exact a
 by_cases k:e.kind=2
 ·rw[k];exact a
 by_cases l:e.kind=3
 ·rw[l];exact a
 by_cases n:e.kind=4
 ·rw[n];simp only[show ((4:Int)==1)=false from rfl,show ((4:Int)==2)=false from rfl,show ((4:Int)==3)=false from rfl,beq_self_eq_true,aa,ab];rw[o9];exact g c
 by_cases o:e.kind=5
 ·rw[o];simp only[show ((5:Int)==1)=false from rfl,show ((5:Int)==2)=false from rfl,show ((5:Int)==3)=false from rfl,show ((5:Int)==4)=false from rfl,beq_self_eq_true,aa,ab];exact RV _ _ (g c)
 by_cases h:e.kind=7
 ·have p:=two (.inl h);rw[h];simp only[show ((7:Int)==1)=false from rfl,show ((7:Int)==2)=false from rfl,show ((7:Int)==3)=false from rfl,show ((7:Int)==4)=false from rfl,show ((7:Int)==5)=false from rfl,beq_self_eq_true,aa,ab];exact KT _ _ (a.trans (hf _ _ _ (dK (by omega)))) fun v=>hf _ _ _ (dK (by omega))
 by_cases i:e.kind=8
 ·have B:=three i;rw[i];simp only[show ((8:Int)==1)=false from rfl,show ((8:Int)==2)=false from rfl,show ((8:Int)==3)=false from rfl,show ((8:Int)==4)=false from rfl,show ((8:Int)==5)=false from rfl,show ((8:Int)==7)=false from rfl,beq_self_eq_true,aa,ab];refine KT _ _ (a.trans (hf _ _ _ (dK (by omega)))) fun v=>?_
  cases v.kind==6 with
  | true=>exact .refl _
  | false=>
   cases G5 v with
   | true=>exact hf _ _ _ (dK (by omega))
   | false=>exact hf _ _ _ (dK (by omega))
 by_cases k9':e.kind=9
 ·have p:=two (.inr k9');rw[k9'];simp only[show ((9:Int)==1)=false from rfl,show ((9:Int)==2)=false from rfl,show ((9:Int)==3)=false from rfl,show ((9:Int)==4)=false from rfl,show ((9:Int)==5)=false from rfl,show ((9:Int)==7)=false from rfl,show ((9:Int)==8)=false from rfl,beq_self_eq_true,aa,ab];refine KT _ _ (a.trans (hf _ _ _ (dK (by omega)))) fun v=>?_
  cases v.kind==6 with
  | true=>exact .refl _
  | false=>
   cases v.kind != 3 with
   | true=>exact .refl _
   | false=>
    simp only[aa];rw[o9];exact BZ _ _ fun m x _=>hf _ _ _ (dK (by omega))
 have q:(e.kind==1)=false:=by simpa using j
 have r:(e.kind==2)=false:=by simpa using k
 have s:(e.kind==3)=false:=by simpa using l
 have t:(e.kind==4)=false:=by simpa using n
 have u:(e.kind==5)=false:=by simpa using o
 have w:(e.kind==7)=false:=by simpa using h
 have y:(e.kind==8)=false:=by simpa using i
 have z:(e.kind==9)=false:=by simpa using k9'
 simp only[q,r,s,t,u,w,y,z,aa];rw[o9];exact g c
theorem O0:∀(d:Nat) (e:aA) (m:au) (c:List ak),ShX d e->Ext m (ev m e c).1
 | 0,e,m,c,a=>by cases a
 | d+1,e,m,c,a=>by
  rw[XL m e c a];refine ahp a (fun m x c b=>?_) m c;cases a with
  | mk d _ k0 k9 num tx tl al op two three cl f=>exact O0 d x m c (f x b)
theorem NQ(xs:List ak)(b:ak)(s:Str):∀n,n<=xs.length->uH (xs++[b]) s n=uH xs s n
 | 0,_=>rfl
 | n+1,h=>by
  unfold uH;rw[List.getElem?_append_left (by omega),NQ xs b s n (by omega)]
theorem NP(xs:List ak)(x s:Str)(v:af):Ak (xs++[ak.mk x v]) s=bif x==s then v else Ak xs s:=by
 unfold Ak;rw[a6];show uH (xs++[ak.mk x v]) s (xs.length+1)=_
 rw[uH,List.getElem?_append_right (ar _),Nat.sub_self];show (bif x==s then v else uH (xs++[ak.mk x v]) s xs.length)=_
 rw[NQ xs _ s _ (ar _)]
def extN(σ:Str->Str->Prop)(x x' s s':Str):Prop:=(s=x/\s'=x')\/(s≠x/\s'≠x'/\σ s s')
def Ym(σ:Str->Str->Prop)(c c':List ak):Prop:=∀s s',σ s s'->Ak c' s'=Ak c s
theorem Ym.bind{σ:Str->Str->Prop}{c c':List ak}(h:Ym σ c c')(x x':Str)(v:af):Ym (extN σ x x') (c++[ak.mk x v]) (c'++[ak.mk x' v]):=by
 intro s s' a;rw[NP,NP];rcases a with ⟨rfl,rfl⟩ | ⟨b,d,e⟩
 ·simp
 ·have f:(x==s)=false:=by simpa using Ne.symm b
  have g:(x'==s')=false:=by simpa using Ne.symm d
  rw[f,g];exact h s s' e
inductive Z5:(Str->Str->Prop)->aA->aA->Prop
 | mk (σ:Str->Str->Prop) (e e':aA) (hk:e'.kind=e.kind) (hn:e'.n=e.n) (hl:e'.args.length=e.args.length) (h3:e.kind=3->σ e.text e'.text) (ht:e.kind≠3->e.kind≠7->e.kind≠9->e'.text=e.text)
   (h0:e.kind≠7->e.kind≠9->∀i,i<e.args.length->Z5 σ (arg e i) (arg e' i)) (ha:e.kind=7\/e.kind=9->Z5 σ (arg e 0) (arg e' 0)) (hb:e.kind=7\/e.kind=9->Z5 (extN σ e.text e'.text) (arg e 1) (arg e' 1)):Z5 σ e e'
variable (t':List aF) (w':bV)
def sw(m:au):au:=au.mk t' w' m.cell m.version m.reads m.steps m.over
def swP{α:Type}(p:au×α):au×α:=(sw t' w' p.1,p.2)
def Good(a b:Int)(x:aF):Prop:=(rdE t' x).getD (resV w' a b x)=x.result
def Fine(a b:Int)(m c:au):Prop:=m.cell=a/\m.version=b/\∀x,x∈c.reads->Good t' w' a b x
variable {t' w'}
theorem Fine.back{a b:Int}{m c d:au}(h:Fine t' w' a b m d)(e:Ext c d):Fine t' w' a b m c:=⟨h.1,h.2.1,fun x f=>h.2.2 x (e.mem f)⟩
theorem Fine.on{a b:Int}{m d e:au}(h:Fine t' w' a b m e)(f:Ext m d):Fine t' w' a b d e:=⟨f.c.trans h.1,f.v.trans h.2.1,h.2.2⟩
theorem O4{a b:Int}{m:au}{r:aF}(h:Fine t' w' a b m (CJ m r).1):CJ (sw t' w' m) r=swP t' w' (CJ m r):=by
 have c:=h.2.2 (aF.mk r.kind r.n (yU m r).time r.text (Gl m r)) (by show _∈m.reads++[_];simp);have d:Gl (sw t' w' m) r=Gl m r:=by
  have e:Gl (sw t' w' m) r=(rdE t' (aF.mk r.kind r.n (yU m r).time r.text (Gl m r))).getD (resV w' a b (aF.mk r.kind r.n (yU m r).time r.text (Gl m r))):=by
   rw[<- h.1,<- h.2.1];rfl
  rw[e];exact c
 unfold CJ swP;rw[d];rfl
theorem Vr{α β:Type}{a b:Int}{f:au->α->au×af}{g:au->β->au×af}:∀(xs:List α) (ys:List β) (m:au),ys.length=xs.length->(∀m x,x∈xs->Ext m (f m x).1) ->
  (∀(i:Nat) x y m,xs[i]?=some x->ys[i]?=some y->Fine t' w' a b m (f m x).1->g (sw t' w' m) y=swP t' w' (f m x))->Fine t' w' a b m (evL f m xs).1->evL g (sw t' w' m) ys=swP t' w' (evL f m xs)
 | [],[],m,_,_,_,_=>rfl
 | [],_::_,_,h,_,_,_=>by simp at h
 | _::_,[],_,h,_,_,_=>by simp at h
 | x::r,y::s,m,l,j,h,hf=>by
  have n:=j m x aq;have k:∀m x,x∈r->Ext m (f m x).1:=fun m y o=>j m y (ao _ o)
  cases c:(f m x).1.over with
  | true=>
   have d:evL f m (x::r)=((f m x).1,[]):=by unfold evL;rw[c];rfl
   rw[d]at hf ⊢;have e:=h 0 x y m rfl rfl hf;unfold evL;rw[e];show (bif (f m x).1.over then _ else _)=_
   rw[c];rfl
  | false=>
   have d:evL f m (x::r)=((evL f (f m x).1 r).1,(f m x).2::(evL f (f m x).1 r).2):=by rw[evL,c];rfl
   rw[d]at hf ⊢;have e:=h 0 x y m rfl rfl (hf.back (BZ r _ k));have p:=Vr r s (f m x).1 (by simpa using l) k (fun i a b m q t=>h (i+1) a b m q t) (hf.on n);rw[evL,e];show (bif (f m x).1.over then _ else ((evL g (sw t' w' (f m x).1) s).1,(f m x).2::(evL g (sw t' w' (f m x).1) s).2))=_
   rw[c,p];rfl
theorem Vp(p:au×List af)(f:List af->af):fin (swP t' w' p) f=swP t' w' (fin p f):=by
 unfold fin;show (bif p.1.over then _ else _)=_
 cases p.1.over<;>rfl
theorem Tq{a b:Int}{m:au}(p:au×af)(k k':au->af->au×af)(e:∀v,Ext p.1 (k p.1 v).1)(d:Ext m p.1)(hf:Fine t' w' a b m (thn p k).1)(h:∀v,Fine t' w' a b p.1 (k p.1 v).1->k' (sw t' w' p.1) v=swP t' w' (k p.1 v)) :
  thn (swP t' w' p) k'=swP t' w' (thn p k):=by
 unfold thn at hf ⊢;show (bif p.1.over then _ else k' (sw t' w' p.1) p.2)=_
 cases c:p.1.over with
 | true=>rfl
 | false=>
  rw[c]at hf;exact h p.2 (Fine.on hf d)
theorem acR{a b:Int}{m:au}(t:Str)(p:au×List af)(g:Ext m p.1)(hf:Fine t' w' a b m (tC t p).1):tC t (swP t' w' p)=swP t' w' (tC t p):=by
 have hf:=hf.on g;unfold tC at hf ⊢;show (bif p.1.over then _ else _)=_
 cases c:p.1.over with
 | true=>rfl
 | false=>
  rw[c]at hf;simp only[aa]at hf ⊢;cases h:!Oa t with
  | true=>rfl
  | false=>
   rw[h]at hf;simp only[aa]at hf ⊢;cases e:t==[99,108,111,99,107]with
   | true=>rw[e]at hf;exact O4 hf
   | false=>
    rw[e]at hf;simp only[aa]at hf ⊢;show (bif (p.2.getD 0 zV).kind==6 then _ else _)=_
    cases i:(p.2.getD 0 zV).kind==6 with
    | true=>rfl
    | false=>
     rw[i]at hf;simp only[aa]at hf ⊢;cases f:t==[99,104,97,110,99,101]with
     | true=>
      rw[f]at hf;simp only[ab]at hf ⊢;show (bif (p.2.getD 0 zV).kind==1 then _ else _)=_
      cases d:(p.2.getD 0 zV).kind==1 with
      | true=>rw[d]at hf;exact O4 hf
      | false=>rfl
     | false=>
      rw[f]at hf;simp only[aa]at hf ⊢;show (bif (p.2.getD 0 zV).kind==2 then _ else _)=_
      cases d:(p.2.getD 0 zV).kind==2 with
      | true=>rw[d]at hf;exact O4 hf
      | false=>rfl
end Go.Proofs.YtjbajpfonnnfoaaGreatDoor
/- Plain laws: the two runs of the evaluator. -/
namespace Go.Proofs.YtjbajpfonnnfoaaGreatDoor
open Go.Abs Go.Proofs
variable {t':List aF} {w':bV}
theorem OX(p:au×af)(k:au->af->au×af)(hk:∀v,Ext p.1 (k p.1 v).1):Ext p.1 (thn p k).1:=KT p k (.refl _) hk
theorem afg{a b:Int}:∀(d:Nat) (e e':aA) (m:au) (c c':List ak) (σ:Str->Str->Prop),ShX d e->ShX d e'->Z5 σ e e'->Ym σ c c'->Fine t' w' a b m (ev m e c).1->ev (sw t' w' m) e' c'=swP t' w' (ev m e c)
 | 0,e,_,_,_,_,_,k,_,_,_,_=>by cases k
 | d+1,e,e',m,c,c',σ,k,q,O,g,hf=>by
  rw[XL m e c k]at hf ⊢;rw[XL _ e' c' q];cases k with
  | mk d _ k0 k9 num tx tl al op two three cl u=>
  cases q with
  | mk d _ k0' k9' num' tx' tl' al' op' two' three' cl' B=>
  cases O with
  | mk σ e e' hk G P Q H w I J=>
  have sub:∀i,i<e.args.length->∀(m:au) (c c':List ak) (σ':Str->Str->Prop),Z5 σ' (arg e i) (arg e' i)->Ym σ' c c'->Fine t' w' a b m (ev m (arg e i) c).1->ev (sw t' w' m) (arg e' i) c'=swP t' w' (ev m (arg e i) c):=
   fun i o m c c' σ' R S T=>afg d _ _ m c c' σ' (u _ (dK o)) (B _ (dK (by omega))) R S T
  have X:∀(m:au) (c:List ak) i,i<e.args.length->Ext m (ev m (arg e i) c).1:=fun m c i o=>O0 d _ m c (u _ (dK o))
  have all:e.kind≠7->e.kind≠9->Fine t' w' a b m (evL (fun m x=>ev m x c) (tick m) e.args).1->evL (fun m x=>ev m x c') (sw t' w' (tick m)) e'.args=swP t' w' (evL (fun m x=>ev m x c) (tick m) e.args):=fun U V hf=>
   Vr e.args e'.args (tick m) P (fun m x k=>O0 d x m c (u x k)) (fun i x y m k z hf=>by
    have o:=(zC.1 k).1;have W:arg e i=x:=by unfold arg;rw[zE,k];rfl
    have Y:arg e' i=y:=by unfold arg;rw[zE,z];rfl
    have:=sub i o m c c' σ (w U V i o) g;rw[W,Y]at this;exact this hf) (hf.on (OW m))
  unfold evB at hf ⊢;show (bif m.over||(m.steps==200)then _ else _)=_
  cases C:(m.over||(m.steps==200))with
  | true=>rfl
  | false=>
  rw[C]at hf;have j:=OW m;simp only[aa,hk]at hf ⊢;by_cases K:e.kind=1
  ·rw[K];show (sw t' w' (tick m),mg e'.n)=_
   rw[G];rfl
  by_cases L:e.kind=2
  ·rw[L];show (sw t' w' (tick m),Di e'.text)=_
   rw[H (by omega) (by omega) (by omega)];rfl
  by_cases D:e.kind=3
  ·rw[D];show (sw t' w' (tick m),Ak c' e'.text)=_
   rw[g _ _ (Q D)];rfl
  by_cases M:e.kind=4
  ·rw[M]at hf ⊢;simp only[show ((4:Int)==1)=false from rfl,show ((4:Int)==2)=false from rfl,show ((4:Int)==3)=false from rfl,beq_self_eq_true,aa,ab]at hf ⊢;rw[o9]at hf;show fin (evL (fun m x=>ev m x c') (sw t' w' (tick m)) e'.args) iR=_
   rw[all (by omega) (by omega) hf,Vp]
  by_cases N:e.kind=5
  ·rw[N]at hf ⊢;simp only[show ((5:Int)==1)=false from rfl,show ((5:Int)==2)=false from rfl,show ((5:Int)==3)=false from rfl,show ((5:Int)==4)=false from rfl,beq_self_eq_true,aa,ab]at hf ⊢;have l:Ext (evL (fun m x=>ev m x c) (tick m) e.args).1 (tC e.text (evL (fun m x=>ev m x c) (tick m) e.args)).1:=RV _ _ (.refl _);show tC e'.text (evL (fun m x=>ev m x c') (sw t' w' (tick m)) e'.args)=_
   rw[all (by omega) (by omega) (hf.back l),H (by omega) (by omega) (by omega)];exact acR _ _ (j.trans (BZ _ _ fun m x k=>O0 d x m c (u x k))) hf
  by_cases p:e.kind=7
  ·have Z:=two (.inl p);rw[p]at hf ⊢;simp only[show ((7:Int)==1)=false from rfl,show ((7:Int)==2)=false from rfl,show ((7:Int)==3)=false from rfl,show ((7:Int)==4)=false from rfl,show ((7:Int)==5)=false from rfl,beq_self_eq_true,aa,ab]at hf ⊢;have l:=X (tick m) c 0 (by omega);have r:=OX (ev (tick m) (arg e 0) c) (fun m v=>ev m (arg e 1) (c++[ak.mk e.text v])) (fun v=>X _ _ 1 (by omega));show thn (ev (sw t' w' (tick m)) (arg e' 0) c') _=_
   rw[sub 0 (by omega) (tick m) c c' σ (I (.inl p)) g ((hf.back r).on j)];exact Tq _ _ _ (fun v=>X _ _ 1 (by omega)) (j.trans l) hf fun v h=>sub 1 (by omega) _ _ _ _ (J (.inl p)) (g.bind _ _ v) h
  by_cases E:e.kind=8
  ·have l3:=three E;rw[E]at hf ⊢;simp only[show ((8:Int)==1)=false from rfl,show ((8:Int)==2)=false from rfl,show ((8:Int)==3)=false from rfl,show ((8:Int)==4)=false from rfl,show ((8:Int)==5)=false from rfl,show ((8:Int)==7)=false from rfl,beq_self_eq_true,aa,ab]at hf ⊢;have l:=X (tick m) c 0 (by omega);have s:∀v,Ext (ev (tick m) (arg e 0) c).1 ((fun (m:au) (v:af)=>bif v.kind==6 then (m,v)else bif G5 v then ev m (arg e 1) c else ev m (arg e 2) c) (ev (tick m) (arg e 0) c).1 v).1:=fun v=>by
    show Ext _ (bif v.kind==6 then _ else _:au×af).1
    cases v.kind==6 with
    | true=>exact .refl _
    | false=>
     cases G5 v with
     | true=>exact X _ _ 1 (by omega)
     | false=>exact X _ _ 2 (by omega)
   have r:=OX (ev (tick m) (arg e 0) c) (fun (m:au) (v:af)=>bif v.kind==6 then (m,v)else bif G5 v then ev m (arg e 1) c else ev m (arg e 2) c) s;show thn (ev (sw t' w' (tick m)) (arg e' 0) c') _=_
   rw[sub 0 (by omega) (tick m) c c' σ (w (by omega) (by omega) 0 (by omega)) g ((hf.back r).on j)];refine Tq _ _ _ s (j.trans l) hf fun v h=>?_
   have h:Fine t' w' a b _ (bif v.kind==6 then ((ev (tick m) (arg e 0) c).1,v)else bif G5 v then ev (ev (tick m) (arg e 0) c).1 (arg e 1) c else ev (ev (tick m) (arg e 0) c).1 (arg e 2) c).1:=h;show (bif v.kind==6 then _ else _)=_
   cases F:v.kind==6 with
   | true=>rfl
   | false=>
    rw[F]at h;simp only[aa]at h ⊢;cases A:G5 v with
    | true=>rw[A]at h;exact sub 1 (by omega) _ _ _ _ (w (by omega) (by omega) 1 (by omega)) g h
    | false=>rw[A]at h;exact sub 2 (by omega) _ _ _ _ (w (by omega) (by omega) 2 (by omega)) g h
  by_cases k9:e.kind=9
  ·have Z:=two (.inr k9);rw[k9]at hf ⊢;simp only[show ((9:Int)==1)=false from rfl,show ((9:Int)==2)=false from rfl,show ((9:Int)==3)=false from rfl,show ((9:Int)==4)=false from rfl,show ((9:Int)==5)=false from rfl,show ((9:Int)==7)=false from rfl,show ((9:Int)==8)=false from rfl,beq_self_eq_true,aa,ab]at hf ⊢;have l:=X (tick m) c 0 (by omega);have t:∀v,Ext (ev (tick m) (arg e 0) c).1 ((fun (m:au) (v:af)=>bif v.kind==6 then (m,v)else bif v.kind != 3 then (m,dI 4)else fin (evL (fun m x=>ev m (arg e 1) (c++[ak.mk e.text x])) m v.list) iR) (ev (tick m) (arg e 0) c).1 v).1:=fun v=>by
    show Ext _ (bif v.kind==6 then _ else _:au×af).1
    cases v.kind==6 with
    | true=>exact .refl _
    | false=>
     cases v.kind != 3 with
     | true=>exact .refl _
     | false=>
      simp only[aa];rw[o9];exact BZ _ _ fun m x _=>X _ _ 1 (by omega)
   have r:=OX (ev (tick m) (arg e 0) c) (fun (m:au) (v:af)=>bif v.kind==6 then (m,v)else bif v.kind != 3 then (m,dI 4)else fin (evL (fun m x=>ev m (arg e 1) (c++[ak.mk e.text x])) m v.list) iR) t;show thn (ev (sw t' w' (tick m)) (arg e' 0) c') _=_
   rw[sub 0 (by omega) (tick m) c c' σ (I (.inr k9)) g ((hf.back r).on j)];refine Tq _ _ _ t (j.trans l) hf fun v h=>?_
   have h:Fine t' w' a b _ (bif v.kind==6 then ((ev (tick m) (arg e 0) c).1,v)else bif v.kind != 3 then ((ev (tick m) (arg e 0) c).1,dI 4)else fin (evL (fun m x=>ev m (arg e 1) (c++[ak.mk e.text x])) (ev (tick m) (arg e 0) c).1 v.list) iR).1:=h;show (bif v.kind==6 then _ else _)=_
   cases F:v.kind==6 with
   | true=>rfl
   | false=>
    rw[F]at h;simp only[aa]at h ⊢;cases A:v.kind != 3 with
    | true=>rfl
    | false=>
     rw[A]at h;simp only[aa]at h ⊢;rw[o9]at h;rw[Vr (f:=fun m x=>ev m (arg e 1) (c++[ak.mk e.text x])) v.list v.list _ rfl (fun m x _=>X _ _ 1 (by omega)) (fun i x y m k z hf=>?_) h,Vp];rw[k]at z;cases z
     exact sub 1 (by omega) _ _ _ _ (J (.inr k9)) (g.bind _ _ x) hf
  have b1:(e.kind==1)=false:=by simpa using K
  have b2:(e.kind==2)=false:=by simpa using L
  have b3:(e.kind==3)=false:=by simpa using D
  have b4:(e.kind==4)=false:=by simpa using M
  have b5:(e.kind==5)=false:=by simpa using N
  have b7:(e.kind==7)=false:=by simpa using p
  have b8:(e.kind==8)=false:=by simpa using E
  have b9:(e.kind==9)=false:=by simpa using k9
  simp only[b1,b2,b3,b4,b5,b7,b8,b9,aa]at hf ⊢;rw[o9]at hf;show fin (evL (fun m x=>ev m x c') (sw t' w' (tick m)) e'.args) _=_
  rw[all p k9 hf,Vp,G]
end Go.Proofs.YtjbajpfonnnfoaaGreatDoor
/- Plain laws of merged reads and of tapes, with no program in sight. Plain laws: the functions on reads and tapes, both sides, are the plain ones. Plain laws: putting and copying of tapes, both sides. -/
namespace Go.Proofs.YtjbajpfonnnfoaaGreatDoor
noncomputable section
open Go.Abs Go.Proofs
def kH(x y:aF):Bool:=eqd x.kind y.kind&&(eqd x.n y.n&&(eqd x.text y.text&&eqd x.time y.time))
theorem Bj{x y:aF}:kH x y=true↔x.kind=y.kind/\x.n=y.n/\x.text=y.text/\x.time=y.time:=by
 unfold kH;simp only[zI,jG]
theorem LJ(x:aF):kH x x=true:=Bj.2 ⟨rfl,rfl,rfl,rfl⟩
theorem VT{x y z:aF}(h:kH x y=true)(a:kH y z=true):kH x z=true:=by
 rw[Bj]at *;exact⟨h.1.trans a.1,h.2.1.trans a.2.1,h.2.2.1.trans a.2.2.1,h.2.2.2.trans a.2.2.2⟩
def tq(l:List aF)(r:aF):Bool:=l.any fun x=>kH x r
def kR(l:List aF)(r:aF):Option aF:=l.find? fun x=>kH x r
def qX(l:List aF)(r:aF):List aF:=bif tq l r then l else l++[r]
def gy(a b:List aF):List aF:=b.foldl qX a
theorem IW(l:List aF)(r:aF):(kR l r).isSome=tq l r:=by
 unfold kR tq;induction l with
 | nil=>rfl
 | cons x l ih=>
  rw[List.find?_cons,List.any_cons];cases kH x r with
  | true=>rfl
  | false=>simpa using ih
theorem OL(l:List aF)(r:aF):tq (qX l r) r=true:=by
 unfold qX;cases h:tq l r with
 | true=>exact h
 | false=>simp[tq,LJ]
theorem acC{l:List aF}{r x:aF}(h:tq l x=true):tq (qX l r) x=true:=by
 unfold qX;cases tq l r with
 | true=>exact h
 | false=>
  simp only[aa];unfold tq at h ⊢;rw[List.any_append,h];rfl
theorem yS:∀(b:List aF) {a:List aF} {x:aF},tq a x=true->tq (gy a b) x=true
 | [],_,_,h=>h
 | r::b,a,x,h=>yS b (a:=qX a r) (acC h)
theorem xh:∀(b:List aF) {a:List aF} {x:aF},x∈b->tq (gy a b) x=true
 | r::b,a,x,h=>by
  rcases ba.1 h with rfl | h
  ·exact yS b (a:=qX a x) (OL a x)
  ·exact xh b (a:=qX a r) h
theorem ae5{l:List aF}{x:aF}(h:x∈l):tq l x=true:=by
 unfold tq;rw[List.any_eq_true];exact⟨x,h,LJ x⟩
theorem Jl:∀(b:List aF) {a:List aF},(∀x∈b,tq a x=true)->gy a b=a
 | [],_,_=>rfl
 | r::b,a,h=>by
  have e:qX a r=a:=by unfold qX;rw[h r aq];rfl
  show gy (qX a r) b=a
  rw[e];exact Jl b fun x c=>h x (ao _ c)
theorem Xb(a b:List aF):gy (gy a b) b=gy a b:=Jl b fun _ c=>xh b c
theorem yj:∀(b a:List aF),∃t,gy a b=a++t/\t.Sublist b
 | [],a=>⟨[],by simp[gy],List.Sublist.refl _⟩
 | r::b,a=>by
  obtain⟨t,e,s⟩:=yj b (qX a r);have e':gy a (r::b)=gy (qX a r) b:=rfl;rw[e',e];unfold qX;cases tq a r with
  | true=>exact⟨t,rfl,s.cons _⟩
  | false=>exact⟨r::t,by simp,s.cons_cons _⟩
theorem Iq(a b:List aF):a.length<=(gy a b).length/\(gy a b).length<=a.length+b.length:=by
 obtain⟨t,e,s⟩:=yj b a;rw[e,a6];have:=s.length_le;omega
theorem Rw{a b:List aF}{x:aF}(h:x∈gy a b):x∈a\/x∈b:=by
 obtain⟨t,e,s⟩:=yj b a;rw[e,List.mem_append]at h;rcases h with h | h
 ·exact .inl h
 ·exact .inr (s.subset h)
theorem abv{α X ρ:Type}{g:X->Option (X⊕ρ)}(pk:Nat->X)(xs:List α)(p:α->Bool)(f:α->ρ)(no:ρ)
  (b:∀i x,xs[i]?=some x->g (pk i)=bif p x then some (.inr (f x))else some (.inl (pk (i+1))))
  (c:g (pk xs.length)=some (.inr no)):aO g (pk 0)=some ((xs.find? p).elim no f):=by
 have key:∀(n i:Nat),xs.length=i+n->aO g (pk i)=some (((xs.drop i).find? p).elim no f):=by
  intro n;induction n with
  | zero=>
   intro i d;rw[List.drop_eq_nil_of_le (by omega),aX];have:i=xs.length:=by omega
   subst this;rw[c];rfl
  | succ n ih=>
   intro i d;have a:i<xs.length:=by omega
   rw[List.drop_eq_getElem_cons a,aX,b i xs[i] (zF a),List.find?_cons];cases p xs[i]with
   | false=>simpa using ih (i+1) (by omega)
   | true=>rfl
 simpa using key xs.length 0 (by omega)
theorem aga(x y:aF):oG x y=some (kH x y):=Qx x y
theorem adY(x:aF):aF.mk x.kind x.n x.time x.text (af.mk x.result.kind x.result.n x.result.step x.result.text x.result.list x.result.columns x.result.rows)=x:=by
 cases x with
 | mk a b c d r=>cases r;rfl
theorem U6(a:List aF)(b:aF)(h:bQ B20 (.list (.base .read) a)):mV a b=some ((kR a b).elim (af.mk 0 0 0 [] [] [] [],false) fun x=>(x.result,true)):=by
 have d:=kz (bU h);unfold mV kR;refine abv (fun i:Nat=>(b.kind,b.n,b.time,b.text,b.result.kind,b.result.n,b.result.step,b.result.text,b.result.list,b.result.columns,b.result.rows,(0:Int),(0:Int),(0:Int),([]:Str),([]:List af),([]:List Str),([]:List aB),a,(a.length:Int),(i:Int))) a (fun x=>kH x b) (fun x=>(x.result,true)) _ (fun i x c=>?_) ?_
 ·have f:=h.bY x (zG c);rw[tu]at f;simp only[dec_lt c,ab,aQ,c,zA,rq,aC,adY,aga,dX _ f.2.2.2.2,y7 c d]
 ·simp only[dF,aa]
theorem afd(a:List aF)(b:aF){y:af×Bool}(c:y=(kR a b).elim (af.mk 0 0 0 [] [] [] [],false) fun x=>(x.result,true)):y.2=tq a b:=by
 subst c;rw[<- IW];cases kR a b<;>rfl
theorem afN{l:List aF}{r:aF}(h:bQ B20 (.list (.base .read) l))(b:Fit B20 (.base .read) r)(c:(l.length:Int)+1<=1048576):bQ B20 (.list (.base .read) (qX l r)):=by
 unfold qX;cases tq l r with
 | true=>exact h
 | false=>
  refine cO (by simp;omega) fun x a=>?_
  rcases List.mem_append.1 a with a | a
  ·exact h.bY x a
  ·rw[List.mem_singleton.1 a];exact b
theorem afM(l:List aF)(r:aF):(qX l r).length<=l.length+1:=by
 unfold qX;cases tq l r<;>simp
theorem Zj{a b:List aF}(c:bQ B20 (.list (.base .read) a))(d:bQ B20 (.list (.base .read) b))(f:(a.length:Int)+b.length<=1048576):bQ B20 (.list (.base .read) (gy a b)):=by
 have:=(Iq a b).2;refine cO (by omega) fun x e=>?_
 rcases Rw e with h | h
 ·exact c.bY x h
 ·exact d.bY x h
theorem Az(a b:List aF)(g:bQ B20 (.list (.base .read) a))(e:bQ B20 (.list (.base .read) b))(k:(a.length:Int)+b.length<=1048576):kM a b=some (gy a b):=by
 have f:=kz (bU e);unfold kM;rw[CY a g,zA];refine (oC (fun (s:List aF) (i:Nat)=>(s,b,(b.length:Int),(i:Int))) b qX id (fun i s=>bQ B20 (.list (.base .read) s)/\s.length<=a.length+i) (fun i x s c d=>?_) (fun i x s c d=>?_) (fun s d=>?_) a ⟨g,by omega⟩).1
 ·have h:=(zC.1 c).1;refine⟨afN d.1 (e.bY x (zG c)) (by omega),?_⟩;have:=afM s x;omega
 ·have h:=(zC.1 c).1;have hf:bQ B20 (.list (.base .read) [x]):=cO (by simp) fun y j=>by rw[List.mem_singleton.1 j];exact e.bY x (zG c)
  simp only[dec_lt c,ab,aQ,c,zA,rq,U6 s x d.1,afd s x rfl,CY _ hf,bP (show s.length+[x].length<=34359738368 by simp;omega),y7 c f];unfold qX;cases tq s x<;>rfl
 ·simp only[dF,aa,id]
theorem ahS{t:Ty}:bQ B20 (.list t []):=cO (by simp) fun x a=>(by cases a)
theorem TG(a b:List nU)(h:bQ B20 (.list (.base .tape) a)):Bh a b=some (eqd a b):=by
 have c:Fit B20 (.base .document) (jW.mk (iG.mk []) a []):=by
  rw[Gg,Gf];exact⟨ahS,h,ahS⟩
 unfold Bh;rw[EZ _ _ c,zA,Gj];rfl
theorem EG(a b:List aF)(h:bQ B20 (.list (.base .read) a)):vU a b=some (eqd a b):=by
 have z:bQ B20 (.int .i64 0):=.int .i64 _ (by decide);unfold vU;rw[TG _ _ (cO (by simp) fun x c=>by rw[List.mem_singleton.1 c,XG];exact⟨z,z,h⟩),zA];congr 1;rw[Bool.eq_iff_iff,jG,jG];simp
end
end Go.Proofs.YtjbajpfonnnfoaaGreatDoor
/- Plain laws: what is drawn is drawn, and is small. -/
namespace Go.Proofs.YtjbajpfonnnfoaaGreatDoor
open Go.Abs Go.Proofs
def bK(c:aS):Prop:=0<=c.i/\(c.b.length:Int)<=1048576
theorem agY{X ρ σ:Type}{g:X->Option (X⊕ρ)}(pk:σ->X)(I:Nat->σ->Prop)(R:ρ->Prop)
  (d:∀n s,I n s->(∃s' m,m<n/\I m s'/\g (pk s)=some (.inl (pk s')))\/∃r,g (pk s)=some (.inr r)/\R r):∀n s,I n s->∃r,aO g (pk s)=some r/\R r:=by
 intro n;induction n using Nat.strongRecOn with
 | ind n ih=>
  intro s e;rcases d n s e with ⟨s',m,f,a,b⟩ | ⟨r,b,c⟩
  ·obtain⟨r,h,c⟩:=ih m f s' a;exact⟨r,by rw[aX,b];exact h,c⟩
  ·exact⟨r,by rw[aX,b],c⟩
theorem aaK(n:Int):0<=w64 ((BitVec.ofInt 64 n &&& BitVec.ofInt 64 255).toNat:Int)/\w64 ((BitVec.ofInt 64 n &&& BitVec.ofInt 64 255).toNat:Int)<=255:=by
 have h:(BitVec.ofInt 64 n &&& BitVec.ofInt 64 255).toNat<=255:=by
  rw[BitVec.toNat_and];exact Nat.le_trans Nat.and_le_right (by decide)
 rw[bT (by omega) (by omega)];omega
theorem Gv{c:aS}(h:bK c):∃c' x,uw c=some (c',x)/\bK c'/\0<=x/\x<=255:=by
 obtain⟨d,e⟩:=h;unfold uw;by_cases a:c.i<(c.b.length:Int)
 ·obtain⟨y,f,_⟩:=ZA d a;rw[ae a,ab,f,zA];exact⟨_,_,rfl,⟨by show 0<=w64 (c.i+1);rw[bT (by omega) (by omega)];omega,e⟩,aaK _⟩
 ·rw[ac a,aa];exact⟨_,_,rfl,⟨d,e⟩,aaK _⟩
theorem aaz{x n:Int}(a:0<=x)(b:0<n):∃r,Qe x n=some r/\0<=r/\r<n:=by
 unfold Qe;rw[if_neg (by omega)];exact⟨_,rfl,Int.tmod_nonneg _ a,Int.tmod_lt_of_pos _ b⟩
theorem gX{c:aS}(h:bK c)(n:Int):∃c' x,aU c n=some (c',x)/\bK c'/\0<=x/\(0<n->x<n):=by
 unfold aU;by_cases l:n<=0
 ·rw[ae l,ab];exact⟨c,0,rfl,h,by omega,fun hh=>by omega⟩
 rw[ac l,aa];by_cases m:n<=256
 ·rw[ae m,ab];obtain⟨c1,x,e,f,p,q⟩:=Gv h;obtain⟨r,g,i,j⟩:=aaz p (n:=n) (by omega);simp only[e,g,zA];exact⟨c1,r,rfl,f,i,fun _=>j⟩
 ·rw[ac m,aa];obtain⟨c1,a,e,f,z,A⟩:=Gv h;obtain⟨c2,b,g,o,B,C⟩:=Gv f;obtain⟨c3,d,s,t,D,E⟩:=Gv o;obtain⟨c4,k,u,v,F,G⟩:=Gv t;have w:w64 ((w64 ((w64 ((w64 (a*16777216))+(w64 (b*65536))))+(w64 (d*256))))+k)=a*16777216+b*65536+d*256+k:=by
   rw[bT (n:=a*16777216) (by omega) (by omega),bT (n:=b*65536) (by omega) (by omega),bT (n:=d*256) (by omega) (by omega),bT (n:=a*16777216+b*65536) (by omega) (by omega),bT (n:=a*16777216+b*65536+d*256) (by omega) (by omega),bT (by omega) (by omega)]
  obtain⟨r,y,i,j⟩:=aaz (x:=a*16777216+b*65536+d*256+k) (n:=n) (by omega) (by omega);simp only[e,g,s,u,w,y,zA];exact⟨c4,r,rfl,v,i,fun _=>j⟩
theorem uF{c:aS}(h:bK c)(n:Int):∃c' b,dO c n=some (c',b)/\bK c':=by
 obtain⟨c',x,e,k,_⟩:=gX h n;unfold dO;rw[e];exact⟨c',_,rfl,k⟩
theorem Kz{c:aS}(h:bK c)(xs:List Str)(a:xs≠[]):∃c' s,iY c xs=some (c',s)/\bK c'/\s∈xs:=by
 have f:0<xs.length:=List.length_pos_iff.2 a;obtain⟨c',x,e,k,p,q⟩:=gX h xs.length;obtain⟨y,b,d⟩:=ZA p (q (by omega));unfold iY;simp only[e,b,zA];exact⟨c',y,rfl,k,zG d⟩
theorem Y9{c:aS}(h:bK c)(xs:List Int)(a:xs≠[]):∃c' s,l9 c xs=some (c',s)/\bK c'/\s∈xs:=by
 have f:0<xs.length:=List.length_pos_iff.2 a;obtain⟨c',x,e,k,p,q⟩:=gX h xs.length;obtain⟨y,b,d⟩:=ZA p (q (by omega));unfold l9;simp only[e,b,zA];exact⟨c',y,rfl,k,zG d⟩
theorem ajY(a:List Int)(h:(a.length:Int)<=1048576):∃c,Uc a=some c/\bK c:=by
 unfold Uc;refine agY (fun (s:Int×Nat)=>((a,s.1,(s.2:Int)):List Int×Int×Int)) (fun n s=>n+s.2=a.length) bK (fun n s f=>?_) a.length (_,0) (by simp);by_cases e:s.2<a.length
 ·have b:=zF e;simp only[dec_lt b,ab];by_cases d:(s.2:Int)<4000
  ·simp only[ae d,ab,aQ,b,zA,y7 b (kz h)];exact .inl ⟨(_,s.2+1),n-1,by omega,by simp only;omega,rfl⟩
  ·simp only[ac d,aa];exact .inr ⟨_,rfl,by simp[bK],h⟩
 ·have:decide ((s.2:Int)<(a.length:Int))=false:=by simp;omega
  simp only[this,aa];exact .inr ⟨_,rfl,by simp[bK],h⟩
theorem Am{n:Int}(a:-1000000000<=n)(b:n<=1000000000):bQ B20 (.int .i64 n):=nX (dL a b)
theorem ajC{s:Str}(h:s.length<=1048576):bQ B20 (.str s):=FK (by omega)
theorem abW{c:aS}(h:bK c):∃c' r,ET c=some (c',r)/\bK c'/\(bQ B20 (.int .i64 r.kind)/\bQ B20 (.int .i64 r.n)/\bQ B20 (.int .i64 r.time)/\bQ B20 (.str r.text)):=by
 unfold ET;obtain⟨c1,d,e,f,s,g⟩:=gX h 3;obtain⟨c2,t,i,j,u,k⟩:=gX f 7;obtain⟨c3,a,l,m,b⟩:=Kz j [[102],[103],[104],[122]] (by simp);obtain⟨c4,v,o,p,w,q⟩:=gX m 3;simp only[e,i,l,o,zA];have:=g (by omega);have:=k (by omega);have:=q (by omega);refine⟨c4,_,rfl,p,?_,Am (by simp only;omega) (by simp only;omega),Am (by simp only;omega) (by simp only;omega),ajC ?_⟩
 ·show bQ B20 (.int .i64 (w64 (1+d)))
  rw[bT (by omega) (by omega)];exact Am (by omega) (by omega)
 ·show a.length<=1048576
  have:a.length=1:=by
   simp at b;rcases b with rfl | rfl | rfl | rfl<;>rfl
  omega
theorem ig{X ρ σ:Type}{g:X->Option (X⊕ρ)}(pk:σ->Nat->X)(n:Nat)(I:Nat->σ->Prop)(R:ρ->Prop)
  (d:∀i s,i<n->I i s->∃s',g (pk s i)=some (.inl (pk s' (i+1)))/\I (i+1) s') (hf:∀s,I n s->∃r,g (pk s n)=some (.inr r)/\R r) (s:σ) (f:I 0 s):∃r,aO g (pk s 0)=some r/\R r:=by
 have key:∀(k i:Nat) (s:σ),n=i+k->I i s->∃r,aO g (pk s i)=some r/\R r:=by
  intro k;induction k with
  | zero=>
   intro i s h a;have:i=n:=by omega
   subst this;obtain⟨r,e,b⟩:=hf s a;exact⟨r,by rw[aX,e],b⟩
  | succ k ih=>
   intro i s h a;obtain⟨s',e,c⟩:=d i s (by omega) a;obtain⟨r,e',b⟩:=ih (i+1) s' (by omega) c;exact⟨r,by rw[aX,e];exact e',b⟩
 exact key n 0 s (by omega) f
theorem cnt_lt{i n:Nat}(h:i<n):decide ((i:Int)<(n:Int))=true:=by simpa using h
theorem qH{i n:Nat}(h:i<n)(a:n<=1048576):w64 ((i:Int)+1)=((i+1:Nat):Int):=by
 rw[bT (by omega) (by omega)];omega
theorem uZ{n:Int}(h:0<=n):∃m:Nat,n=(m:Int):=⟨n.toNat,by omega⟩
theorem E8{k n t:Int}{s:Str}{v:af}(a:bQ B20 (.int .i64 k))(b:bQ B20 (.int .i64 n))(c:bQ B20 (.int .i64 t))(d:bQ B20 (.str s))(e:Fit B20 (.base .val) v):Fit B20 (.base .read) (aF.mk k n t s v):=by
 rw[tu];exact⟨a,b,c,d,e⟩
end Go.Proofs.YtjbajpfonnnfoaaGreatDoor
