import Derived.Test.YtjbajpfonnnfoaaGreatDoorVal13
import Derived.Test.YtjbajpfonnnfoaaGreatDoorEv1
import Derived.Test.YtjbajpfonnnfoaaGreatDoorPlain1
set_option linter.unusedSimpArgs false
set_option linter.unusedVariables false
/- Plain laws: expressions with few nodes and short texts: validity is alike on both sides, and gives the shape that the evaluator asks for. -/
namespace Go.Proofs.YtjbajpfonnnfoaaGreatDoor
open Go.Abs Go.Proofs
def prn(_:Str):Bool:=true
noncomputable def PN(a:Str):Int:=(fZ a).getD (-1)
theorem TG(a:Str):kZ a=gZ a:=rfl
mutual
def wtE:ak->Nat
 | ⟨_,_,t,a⟩=>(if t.length<=120 then 1 else 18446744073709551616)+wtL a
def wtL:List ak->Nat
 | []=>0
 | x::r=>wtE x+wtL r
end
theorem Ll(a b:List ak):wtL (a++b)=wtL a+wtL b:=by
 induction a with
 | nil=>simp[wtL]
 | cons x r ih=>simp only[List.cons_append,wtL,ih];omega
theorem abL{k n:Int}{t:Str}{a:List ak}(h:t.length<=120):wtE ⟨k,n,t,a⟩=1+wtL a:=by simp[wtE,h]
theorem agE(x:ak):wtL [x]=wtE x:=by simp[wtL]
theorem mP{α:Type}(c:Bool){a b a' b':α}(d:a=a')(e:b=b'):(bif c then a else b)=bif c then a' else b':=by rw[d,e]
theorem abM(a b c:Int):jC a b c=vW a b c:=rfl
theorem zu(a b c:Int):vW a b c=some (decide (a>=b)&&decide (a<=c)):=by
 unfold vW;cases decide (a>=b)<;>rfl
theorem JJ(a:Str):dU a=fZ a:=rfl
theorem ZJ(e:ak)(b:e.text.length<=34359738368)(c:∃v,gZ e.text=some v)(d:∃v,bP e.text=some v):BV e=gG e:=by
 obtain⟨v,hv⟩:=c;obtain⟨u,f⟩:=d;unfold BV gG;simp only[abM,zu,JJ,TG,pq e.text b,hv,f,zA];generalize (e.text==[])=p;generalize ((e.args.length:Int)==0)=q0;generalize ((e.args.length:Int)==2)=a;generalize (decide (e.n>=0)&&decide (e.n<=1000000000))=w1;generalize (decide (e.n>=1)&&decide (e.n<=5))=g;refine mP _ ?_ (mP _ ?_ (mP _ ?_ (mP _ rfl (mP _ rfl (mP _ ?_ (mP _ ?_ (mP _ ?_ rfl)))))))
 ·cases p<;>cases q0<;>cases w1<;>rfl
 ·cases q0<;>cases v<;>cases (e.n==0)<;>rfl
 ·cases q0<;>cases u<;>cases (e.n==0)<;>rfl
 ·cases p<;>cases a<;>cases g<;>rfl
 ·cases a<;>cases u<;>cases (e.n==0)<;>rfl
 ·cases a<;>cases u<;>cases (e.n==0)<;>rfl
theorem Ot{X ρ:Type}{f:X->Option (X⊕ρ)}{x:X}{r:ρ}{n:Nat}(a:iter f n x=some r):aN f x=some r:=by
 have hh:∃n r,iter f n x=some r:=⟨n,r,a⟩;unfold aN;rw[dif_pos hh];exact congrArg some (IL hh.choose_spec.choose_spec a)
theorem Xt{X Y ρ:Type}{f:X->Option (X⊕ρ)}{g:Y->Option (Y⊕ρ)}(P:X->Y->Prop)
  (H:∀x y,P x y->(f x=none/\g y=none)\/(∃r,f x=some (.inr r)/\g y=some (.inr r))\/(∃x' y',P x' y'/\f x=some (.inl x')/\g y=some (.inl y')))
  {x:X} {y:Y} (h:P x y):aN f x=aN g y:=by
 have hi:∀(n:Nat) (x:X) (y:Y),P x y->iter f n x=iter g n y:=by
  intro n;induction n with
  | zero=>intro x y _;rfl
  | succ n ih=>
   intro x y hp;unfold iter;rcases H x y hp with ⟨b,a⟩ | ⟨r,b,a⟩ | ⟨x',y',d,b,a⟩
   ·rw[b,a]
   ·rw[b,a]
   ·rw[b,a];exact ih x' y' d
 cases e:aN f x with
 | some r=>
  obtain⟨n,c⟩:=yB e;rw[hi n x y h]at c;exact (Ot c).symm
 | none=>
  cases a:aN g y with
  | none=>rfl
  | some r=>
   obtain⟨n,c⟩:=yB a;rw[<- hi n x y h]at c;rw[Ot c]at e;cases e
theorem Hz(m r:Int):DK m r=some (if r>m then r else m):=by
 unfold DK;by_cases h:m>r
 ·rw[aq h,if_neg (by omega)];rfl
 ·rw[ae h];by_cases a:r>m
  ·rw[if_pos a];rfl
  ·rw[if_neg a];have:r=m:=by omega
   rw[this];rfl
theorem QB:∀(n:Nat) (e:ak),pX n e=iw n e:=by
 intro n;induction n with
 | zero=>intro e;rfl
 | succ n ih=>
  intro e;show AY (pX n) e=kG (iw n) e
  unfold AY kG;refine Xt (λx y=>∃m i:Int,x=(m,e.args,(e.args.length:Int),i)/\y=(e.kind,e.n,e.text,e.args,m,i)) ?_ ⟨0,0,rfl,rfl⟩;rintro _ _ ⟨m,i,rfl,rfl⟩;simp only;cases decide (i<(e.args.length:Int))with
  | false=>exact .inr (.inl ⟨_,rfl,rfl⟩)
  | true=>
   simp only[ac];cases idx e.args i with
   | none=>exact .inl ⟨rfl,rfl⟩
   | some x=>
    simp only[zA,ih];cases iw n (aH x)with
    | none=>exact .inl ⟨rfl,rfl⟩
    | some r=>
     simp only[zA,Hz];exact .inr (.inr ⟨_,_,⟨_,_,rfl,rfl⟩,rfl,rfl⟩)
theorem acC(x:ak):aH x=x:=by cases x;rfl
theorem afG{α:Type}{xs:List α}{i:Int}{x:α}(h:idx xs i=some x):x∈xs:=by
 unfold idx at h;split at h
 ·exact zG h
 ·cases h
theorem Xp(P:ak->Prop)(hsub:∀e x,P e->x∈e.args->P x)(hnode:∀e,P e->BV e=gG e):∀(n:Nat) (e:ak),P e->sS n e=lM n e:=by
 intro n;induction n with
 | zero=>intro e _;rfl
 | succ n ih=>
  intro e a;show Eu (sS n) e=rJ (lM n) e
  unfold Eu rJ;refine Xt (λx y=>∃i:Int,x=(e.kind,e.n,e.text,e.args,e.args,(e.args.length:Int),i)/\y=(e.kind,e.n,e.text,e.args,i)) ?_ ⟨0,rfl,rfl⟩;rintro _ _ ⟨i,rfl,rfl⟩;simp only;cases decide (i<(e.args.length:Int))with
  | false=>
   have b:BV ⟨e.kind,e.n,e.text,e.args⟩=gG ⟨e.kind,e.n,e.text,e.args⟩:=by
    have:=hnode e a;cases e;exact this
   simp only[aa,b];cases gG ⟨e.kind,e.n,e.text,e.args⟩with
   | none=>exact .inl ⟨rfl,rfl⟩
   | some r=>exact .inr (.inl ⟨_,rfl,rfl⟩)
  | true=>
   simp only[ac];cases c:idx e.args i with
   | none=>exact .inl ⟨rfl,rfl⟩
   | some x=>
    simp only[zA,acC,ih x (hsub e x a (afG c))];cases lM n x with
    | none=>exact .inl ⟨rfl,rfl⟩
    | some r=>
     simp only[zA];cases r with
     | false=>exact .inr (.inl ⟨_,rfl,rfl⟩)
     | true=>exact .inr (.inr ⟨_,_,⟨_,rfl,rfl⟩,rfl,rfl⟩)
theorem aaD{x:ak}:∀ {xs:List ak},x∈xs->wtE x<=wtL xs
 | [],h=>by cases h
 | y::r,h=>by
  rcases bh.1 h with rfl | h
  ·show _<=wtE x+wtL r;omega
  ·have:=aaD h;show _<=wtE y+wtL r;omega
theorem EF(e:ak):1+wtL e.args<=wtE e:=by
 obtain⟨k,n,t,a⟩:=e;show 1+wtL a<=(if t.length<=120 then 1 else 18446744073709551616)+wtL a
 split<;>omega
theorem Tv(e:ak):1<=wtE e:=by have:=EF e;omega
theorem aaE:∀(xs:List ak),xs.length<=wtL xs
 | []=>by simp
 | x::r=>by
  have:=aaE r;have:=Tv x;show r.length+1<=wtE x+wtL r;omega
theorem uS{x e:ak}(h:x∈e.args):wtE x+1<=wtE e:=by
 have:=aaD h;have:=EF e;omega
theorem Kz{e:ak}(h:wtE e<=1048576):e.text.length<=120:=by
 obtain⟨k,n,t,a⟩:=e;have h:(if t.length<=120 then 1 else 18446744073709551616)+wtL a<=1048576:=h;show t.length<=120
 split at h
 ·assumption
 ·omega
theorem aiw{e:ak}(h:wtE e<=1048576):wtE e=1+wtL e.args:=by
 have:=Kz h;obtain⟨k,n,t,a⟩:=e;exact abL this
theorem uQ{e:ak}:e.args.length+1<=wtE e:=by
 have:=EF e;have:=aaE e.args;omega
theorem ab5{e:ak}:siz e.args<siz e:=by
 cases e;simp only[siz];rw[ak.mk.sizeOf_spec];omega
theorem adZ{x:ak}{xs:List ak}(h:x∈xs):siz x+1<=siz xs:=by
 have:=List.sizeOf_lt_of_mem h;simp only[siz];omega
theorem ng{x e:ak}(h:x∈e.args):siz x+2<=siz e:=by
 have:=adZ h;have:=ab5 (e:=e);omega
theorem V3{xs:List ak}{i:Nat}{x:ak}(h:xs[i]?=some x):wtL (xs.take (i+1))=wtL (xs.take i)+wtE x:=by
 obtain⟨hi,rfl⟩:=zC.1 h;rw[List.take_succ_eq_append_getElem hi,Ll,agE]
theorem zq(xs:List ak)(i:Nat):wtL (xs.take i)<=wtL xs:=by
 have h:wtL (xs.take i)+wtL (xs.drop i)=wtL xs:=by rw[<- Ll,List.take_append_drop]
 omega
theorem nJ{α X ρ σ:Type}{g:X->Option (X⊕ρ)}(pk:σ->Nat->X)(xs:List α)(I:Nat->σ->Prop)(R:ρ->Prop)
  (f:∀i x s,xs[i]?=some x->I i s->(∃s',g (pk s i)=some (.inl (pk s' (i+1)))/\I (i+1) s')\/∃r,g (pk s i)=some (.inr r)/\R r)
  (hf:∀s,I xs.length s->∃r,g (pk s xs.length)=some (.inr r)/\R r) (s:σ) (h:I 0 s):∃r,aN g (pk s 0)=some r/\R r:=by
 have key:∀(k i:Nat) (s:σ),xs.length=i+k->I i s->∃r,aN g (pk s i)=some r/\R r:=by
  intro k;induction k with
  | zero=>
   intro i s hi b;have:i=xs.length:=by omega
   subst this;obtain⟨r,e,a⟩:=hf s b;exact⟨r,by rw[aX,e],a⟩
  | succ k ih=>
   intro i s hi b;have c:i<xs.length:=by omega
   rcases f i _ s (zF c) b with ⟨s',e,d⟩ | ⟨r,e,a⟩
   ·obtain⟨r,e',a⟩:=ih (i+1) s' (by omega) d;exact⟨r,by rw[aX,e];exact e',a⟩
   ·exact⟨r,by rw[aX,e],a⟩
 exact key xs.length 0 s (by omega) h
theorem vM{α:Type}{xs:List α}{i:Nat}{x:α}(h:xs[i]?=some x):decide ((i:Int)<(xs.length:Int))=true:=by
 have:=(zC.1 h).1;simp;omega
theorem qN{α:Type}(xs:List α):decide ((xs.length:Int)<(xs.length:Int))=false:=by simp
theorem sV{α:Type}{xs:List α}{i:Nat}{x:α}(h:xs[i]?=some x)(a:xs.length<=34359738368):w64 ((i:Int)+1)=((i+1:Nat):Int):=by
 have:=(zC.1 h).1;rw[bQ (by omega) (by omega)];omega
theorem FW:∀(n:Nat) (e:ak),siz e<n->wtE e<=1048576->mO n e=some (wtE e:Int)
 | 0,e,h,_=>absurd h (aml _)
 | n+1,e,m,d=>by
  have ih:=FW n;have o:=uQ (e:=e);show AX (mO n) e=_
  unfold AX;have key:=nJ (λ(s:Unit) (i:Nat)=>((((1+wtL (e.args.take i):Nat):Int),e.args,(e.args.length:Int),(i:Int)):Int×(List ak)×Int×Int)) e.args (λ_ _=>True) (λr=>r=(wtE e:Int)) (g:=λ(a:Int×(List ak)×Int×Int)=>
   bif (decide (a.2.2.2<a.2.2.1))then
    (idx a.2.1 a.2.2.2).bind λf=>
    (mO n (aH f)).bind λj=>
    some (.inl (w64 (a.1+j),a.2.1,a.2.2.1,w64 (a.2.2.2+1)))
   else
    some (.inr (a.1))) (λi x s b _=>.inl ⟨(),by
   have c:=zG b
   have p:=uS c
   have k:=V3 b
   have q:=zq e.args (i+1)
   have t:=EF e
   simp only[vM b,ac,aP,b,zA,bV,ih x (by have:=ng c;omega) (by omega),sV b (by omega),k]
   rw[bQ (by omega) (by omega)]
   congr 4
   omega,trivial⟩) (λs _=>⟨_,by simp only[qN,aa];rfl,by rw[List.take_length,aiw d]⟩) () trivial
  obtain⟨r,l,rfl⟩:=key;exact l
theorem Vh:∀(n:Nat) (e:ak) (b:Int),siz e<n->wtE e<=1048576->0<=b->b<=1048576 ->
  ∃r,wu n e b=some r/\(0<=b-wtE e->r=b-wtE e)/\(b-wtE e<0->r = -1)
 | 0,e,b,h,_,_,_=>absurd h (aml _)
 | n+1,e,b,y,o,z,p=>by
  have ih:=Vh n;have A:=uQ (e:=e);have q:=aiw o;show ∃r,Ie (wu n) e b=some r/\_
  unfold Ie;rw[bQ (n:=b-1) (by omega) (by omega)];refine nJ (λ(s:Int) (i:Nat)=>((s,e.kind,e.n,e.text,e.args,(i:Int)):Int×Int×Int×Str×(List ak)×Int)) e.args
   (λi s=>(0<=b-1-wtL (e.args.take i)->s=b-1-wtL (e.args.take i))/\(b-1-wtL (e.args.take i)<0->s = -1)) _ (λi x s c g=>?_) (λs g=>?_) (b-1) ⟨λ_=>by simp[wtL],λh=>by simp[wtL]at h;omega⟩
  ·obtain⟨a,d⟩:=g;have l:=zG c;have p:=uS l;have m:=V3 c;have B:=zq e.args (i+1);by_cases j:s>=0
   ·obtain⟨r,t,u,v⟩:=ih x s (by have:=ng l;omega) (by omega) j (by
     by_cases f:0<=b-1-wtL (e.args.take i)
     ·have:=a f;omega
     ·have:=d (by omega);omega)
    have w:s=b-1-wtL (e.args.take i):=by
     by_cases f:0<=b-1-wtL (e.args.take i)
     ·exact a f
     ·have:=d (by omega);omega
    refine .inl ⟨r,?_,λk=>?_,λk=>?_⟩
    ·simp only[vM c,ac,aq j,aP,c,zA,bV,t,sV c (by omega)]
    ·rw[m]at k ⊢;rw[u (by omega)];omega
    ·rw[m]at k;exact v (by omega)
   ·refine .inr ⟨s,?_,λh=>?_,λh=>?_⟩
    ·simp only[vM c,ac,ae j,aa]
    ·have:=zq e.args i;have:=a (by omega);omega
    ·have:=a;by_cases f:0<=b-1-wtL (e.args.take i)
     ·have:=a f;omega
     ·exact d (by omega)
  ·obtain⟨a,d⟩:=g;rw[List.take_length]at a d;exact⟨s,by simp only[qN,aa],λh=>by rw[a (by omega)];omega,λh=>d (by omega)⟩
theorem NW:∀(n:Nat) (e:ak),siz e<n->wtE e<=1048576->∃r,iw n e=some r/\True
 | 0,e,h,_=>absurd h (aml _)
 | n+1,e,f,hf=>by
  have ih:=NW n;have g:=uQ (e:=e);show ∃r,kG (iw n) e=some r/\_
  unfold kG;refine nJ (λ(s:Int) (i:Nat)=>((e.kind,e.n,e.text,e.args,s,(i:Int)):Int×Int×Str×(List ak)×Int×Int)) e.args (λ_ _=>True) _ (λi x s a c=>?_) (λs c=>?_) 0 trivial
  ·have b:=zG a;obtain⟨r,d,_⟩:=ih x (by have:=ng b;omega) (by have:=uS b;omega);refine .inl ⟨if r>s then r else s,?_,trivial⟩;simp only[vM a,ac,aP,a,zA,bV,d,Hz,sV a (by omega)]
  ·exact⟨_,by simp only[qN,aa];rfl,trivial⟩
theorem JI(a:Str):∃r,fZ a=some r/\r<=4/\(0<=r->a.length<=6/\prn a=true):=by
 unfold fZ;have go:∀(w:Str) (k:Int) (z:Option Int),w.length<=6/\prn w=true->k<=4->(∃r,z=some r/\r<=4/\(0<=r->a.length<=6/\prn a=true))->∃r,(bif (a==w)then some k else z)=some r/\r<=4/\(0<=r->a.length<=6/\prn a=true):=by
  intro w k z b hk c;cases h:(a==w)with
  | true=>
   have e:=eq_of_beq h;exact⟨k,rfl,hk,λ_=>by rw[e];exact b⟩
  | false=>exact c
 repeat refine go _ _ _ (by decide) (by decide) ?_
 exact⟨-1,rfl,by decide,λh=>by omega⟩
structure JL(e:ak):Prop where
 pr:prn e.text=true
 k0:1<=e.kind
 k9:e.kind<=9
 num:e.kind=1->0<=e.n/\e.n<=1000000000
 call:e.kind=5->e.args.length<=4
 list:e.kind=4->e.args.length<=8
 op:e.kind=6->e.args.length=2/\1<=e.n/\e.n<=5
 two:e.kind=7\/e.kind=9->e.args.length=2
 three:e.kind=8->e.args.length=3
 leaf:e.kind=1\/e.kind=2\/e.kind=3->e.args=[]
 z:e.kind=1\/e.kind=4\/e.kind=6\/e.kind=8->e.text=[]
 w:e.kind≠1->e.kind≠6->e.n=0
 nm:e.kind=3\/e.kind=7\/e.kind=9->bP e.text=some true
 tx:e.kind=2->gZ e.text=some true
 cl:e.kind=5->(e.args.length:Int)=PN e.text
inductive Ji:ak->Prop
 | mk (e:ak) (h:JL e) (hs:∀x,x∈e.args->Ji x):Ji e
theorem abf(e:ak)(p:∃v,gZ e.text=some v/\(v=true->prn e.text=true))(q:∃v,bP e.text=some v/\(v=true->prn e.text=true)):∃v,gG e=some v/\(v=true->JL e):=by
 have r:=zu e.n 0 1000000000;have s:=zu e.n 1 5;obtain⟨u,d,t⟩:=p;obtain⟨w,f,j⟩:=q;have nl:(e.text==[])=true->prn e.text=true:=λh=>by rw[eq_of_beq h];rfl
 obtain⟨x,g,y,l⟩:=JI e.text;have no:∃v,(some false:Option Bool)=some v/\(v=true->JL e):=⟨false,rfl,λh=>(by cases h)⟩;have bb:∀(c:Bool) (z:Option Bool),(c=true->∃v,z=some v/\(v=true->JL e))->∃v,(bif c then z else some false)=some v/\(v=true->JL e):=by
  intro c z m;cases c with
  | true=>exact m rfl
  | false=>exact no
 have kk:∀(k:Int) (z z':Option Bool),(e.kind=k->∃v,z=some v/\(v=true->JL e))->(¬e.kind=k->∃v,z'=some v/\(v=true->JL e))->∃v,(bif (e.kind==k)then z else z')=some v/\(v=true->JL e):=by
  intro k z z' m o;cases h:(e.kind==k)with
  | true=>exact m (eq_of_beq h)
  | false=>exact o (by simpa using h)
 have nil:((e.args.length:Int)==0)=true->e.args=[]:=λh=>by
  have h:=eq_of_beq h;exact List.length_eq_zero_iff.1 (by omega)
 unfold gG;simp only[r,d,f,g,s,zA];refine kk 1 _ _ (λhk=>bb _ _ λb=>bb _ _ λa=>⟨_,rfl,λhv=>?_⟩) λA=>?_
 ·have hv:0<=e.n/\e.n<=1000000000:=by simpa using hv
  exact⟨nl a,by omega,by omega,λ_=>hv,λh=>by omega,λh=>by omega,λh=>by omega,λh=>by omega,λh=>by omega,λ_=>nil b,λh=>(by first | exact eq_of_beq b | exact eq_of_beq a | omega),λh i=>(by first | exact eq_of_beq b | exact eq_of_beq a | omega),λh=>(by first | omega | rw[f,hv]),λh=>(by first | omega | rw[d,hv]),λh=>(by first | omega | (unfold PN;rw[g];exact hv))⟩
 refine kk 2 _ _ (λhk=>bb _ _ λb=>bb _ _ λa=>⟨_,rfl,λhv=>?_⟩) λB=>?_
 ·exact⟨t hv,by omega,by omega,λh=>by omega,λh=>by omega,λh=>by omega,λh=>by omega,λh=>by omega,λh=>by omega,λ_=>nil b,λh=>(by first | exact eq_of_beq b | exact eq_of_beq a | omega),λh i=>(by first | exact eq_of_beq b | exact eq_of_beq a | omega),λh=>(by first | omega | rw[f,hv]),λh=>(by first | omega | rw[d,hv]),λh=>(by first | omega | (unfold PN;rw[g];exact hv))⟩
 refine kk 3 _ _ (λhk=>bb _ _ λb=>bb _ _ λa=>⟨_,rfl,λhv=>?_⟩) λC=>?_
 ·exact⟨j hv,by omega,by omega,λh=>by omega,λh=>by omega,λh=>by omega,λh=>by omega,λh=>by omega,λh=>by omega,λ_=>nil b,λh=>(by first | exact eq_of_beq b | exact eq_of_beq a | omega),λh i=>(by first | exact eq_of_beq b | exact eq_of_beq a | omega),λh=>(by first | omega | rw[f,hv]),λh=>(by first | omega | rw[d,hv]),λh=>(by first | omega | (unfold PN;rw[g];exact hv))⟩
 refine kk 4 _ _ (λhk=>bb _ _ λb=>bb _ _ λa=>⟨_,rfl,λhv=>?_⟩) λD=>?_
 ·have hv:=of_decide_eq_true hv;exact⟨nl a,by omega,by omega,λh=>by omega,λh=>by omega,λh=>by omega,λh=>by omega,λh=>by omega,λh=>by omega,λh=>by omega,λh=>(by first | exact eq_of_beq b | exact eq_of_beq a | omega),λh i=>(by first | exact eq_of_beq b | exact eq_of_beq a | omega),λh=>(by first | omega | rw[f,hv]),λh=>(by first | omega | rw[d,hv]),λh=>(by first | omega | (unfold PN;rw[g];exact hv))⟩
 refine kk 5 _ _ (λhk=>bb _ _ λb=>⟨_,rfl,λhv=>?_⟩) λE=>?_
 ·have hv:=eq_of_beq hv;exact⟨(l (by omega)).2,by omega,by omega,λh=>by omega,λh=>by omega,λh=>by omega,λh=>by omega,λh=>by omega,λh=>by omega,λh=>by omega,λh=>(by first | exact eq_of_beq b | exact eq_of_beq a | omega),λh i=>(by first | exact eq_of_beq b | exact eq_of_beq a | omega),λh=>(by first | omega | rw[f,hv]),λh=>(by first | omega | rw[d,hv]),λh=>(by first | omega | (unfold PN;rw[g];exact hv))⟩
 refine kk 6 _ _ (λhk=>bb _ _ λb=>bb _ _ λa=>⟨_,rfl,λhv=>?_⟩) λF=>?_
 ·have a:=eq_of_beq a;have hv:1<=e.n/\e.n<=5:=by simpa using hv
  exact⟨nl b,by omega,by omega,λh=>by omega,λh=>by omega,λh=>by omega,λ_=>⟨by omega,hv⟩,λh=>by omega,λh=>by omega,λh=>by omega,λh=>(by first | exact eq_of_beq b | exact eq_of_beq a | omega),λh i=>(by first | exact eq_of_beq b | exact eq_of_beq a | omega),λh=>(by first | omega | rw[f,hv]),λh=>(by first | omega | rw[d,hv]),λh=>(by first | omega | (unfold PN;rw[g];exact hv))⟩
 refine kk 7 _ _ (λhk=>bb _ _ λb=>bb _ _ λa=>⟨_,rfl,λhv=>?_⟩) λG=>?_
 ·have a:=eq_of_beq a;exact⟨j hv,by omega,by omega,λh=>by omega,λh=>by omega,λh=>by omega,λh=>by omega,λ_=>by omega,λh=>by omega,λh=>by omega,λh=>(by first | exact eq_of_beq b | exact eq_of_beq a | omega),λh i=>(by first | exact eq_of_beq b | exact eq_of_beq a | omega),λh=>(by first | omega | rw[f,hv]),λh=>(by first | omega | rw[d,hv]),λh=>(by first | omega | (unfold PN;rw[g];exact hv))⟩
 refine kk 9 _ _ (λhk=>bb _ _ λb=>bb _ _ λa=>⟨_,rfl,λhv=>?_⟩) λH=>?_
 ·have a:=eq_of_beq a;exact⟨j hv,by omega,by omega,λh=>by omega,λh=>by omega,λh=>by omega,λh=>by omega,λ_=>by omega,λh=>by omega,λh=>by omega,λh=>(by first | exact eq_of_beq b | exact eq_of_beq a | omega),λh i=>(by first | exact eq_of_beq b | exact eq_of_beq a | omega),λh=>(by first | omega | rw[f,hv]),λh=>(by first | omega | rw[d,hv]),λh=>(by first | omega | (unfold PN;rw[g];exact hv))⟩
 refine kk 8 _ _ (λhk=>bb _ _ λb=>bb _ _ λa=>⟨_,rfl,λhv=>?_⟩) λI=>no
 ·have hv:=eq_of_beq hv;exact⟨nl a,by omega,by omega,λh=>by omega,λh=>by omega,λh=>by omega,λh=>by omega,λh=>by omega,λ_=>by omega,λh=>by omega,λh=>(by first | exact eq_of_beq b | exact eq_of_beq a | omega),λh i=>(by first | exact eq_of_beq b | exact eq_of_beq a | omega),λh=>(by first | omega | rw[f,hv]),λh=>(by first | omega | rw[d,hv]),λh=>(by first | omega | (unfold PN;rw[g];exact hv))⟩
theorem oh(e:ak)(a:wtE e<=1048576):(∃v,gZ e.text=some v/\(v=true->prn e.text=true))/\∃v,bP e.text=some v/\(v=true->prn e.text=true):=by
 have b:=Kz a;exact⟨⟨_,EP e.text (by omega),λ_=>rfl⟩,_,MC e.text (by omega),λ_=>rfl⟩
theorem agw:∀(n:Nat) (e:ak),siz e<n->wtE e<=1048576->∃v,lM n e=some v/\(v=true->Ji e)
 | 0,e,h,_=>absurd h (aml _)
 | n+1,e,o,l=>by
  have ih:=agw n;have p:=uQ (e:=e);show ∃v,rJ (lM n) e=some v/\_
  unfold rJ;refine nJ (λ(_:Unit) (i:Nat)=>((e.kind,e.n,e.text,e.args,(i:Int)):Int×Int×Str×(List ak)×Int)) e.args (λi _=>∀j x,e.args[j]?=some x->j<i->Ji x) _ (λi x s a c=>?_) (λs c=>?_) () (λj x _ b=>absurd b (aml _))
  ·have m:=zG a;obtain⟨v,d,f⟩:=ih x (by have:=ng m;omega) (by have:=uS m;omega);simp only[vM a,ac,aP,a,zA,bV,d,sV a (by omega)];cases v with
   | false=>exact .inr ⟨false,rfl,λh=>(by cases h)⟩
   | true=>
    refine .inl ⟨(),rfl,λj y g b=>?_⟩;by_cases k:j=i
    ·subst k;rw[a]at g;cases g
     exact f rfl
    ·exact c j y g (by omega)
  ·obtain⟨v,d,f⟩:=abf e (oh e l).1 (oh e l).2;have eta:ak.mk e.kind e.n e.text e.args=e:=by cases e;rfl
   refine⟨v,by simp only[qN,aa,eta,d,zA],λhv=>.mk e (f hv) λx a=>?_⟩;obtain⟨j,b⟩:=List.mem_iff_getElem?.1 a;exact c j x b (zC.1 b).1
theorem ZI(e:ak)(a:wtE e<=1048576):Cc e=Ff e:=
 Xp (λe=>wtE e<=1048576) (λe x h b=>by have:=uS b;omega) (λe h=>ZJ e (by have:=Kz h;omega) ((oh e h).1.imp λ_ h=>h.1) ((oh e h).2.imp λ_ h=>h.1)) _ e a
theorem Jk(e:ak)(a:wtE e<=1048576):∃v,jD e=some v/\dF e=some v/\(v=true->Ji e/\wtE e<=40):=by
 have f:Eh e=some (wtE e:Int):=FW _ e (Nat.lt_succ_self _) a;obtain⟨r,d,g,i⟩:=Vh _ e 40 (Nat.lt_succ_self _) a (by omega) (by omega);have d:Fe e 40=some r:=d;obtain⟨m,b,_⟩:=NW _ e (Nat.lt_succ_self _) a;have b:xM e=some m:=b;have j:Ei e=some m:=(QB _ e).trans b;obtain⟨v,c,k⟩:=agw _ e (Nat.lt_succ_self _) a;have c:Ff e=some v:=c;have l:Cc e=some v:=(ZI e a).trans c;unfold jD dF;simp only[bV,f,d,b,j,c,l,zA];have n:decide ((wtE e:Int)<=40)=decide (r>=0):=by
  by_cases h:(wtE e:Int)<=40
  ·have:=g (by omega);rw[aq h,aq (by omega)]
  ·have:=i (by omega);rw[ae h,ae (by omega)]
 rw[<- n];by_cases h:(wtE e:Int)<=40
 ·rw[aq h];simp only[ac];cases decide (m<=8)with
  | true=>exact⟨v,rfl,rfl,λhv=>⟨k hv,by omega⟩⟩
  | false=>exact⟨false,rfl,rfl,λh=>(by cases h)⟩
 ·rw[ae h];exact⟨false,rfl,rfl,λh=>(by cases h)⟩
theorem ad2:∀(n:Nat) (e:ak),wtE e<=n->n<=1048576->Ji e->ShX n e
 | 0,e,h,_,_=>absurd (Tv e) (by omega)
 | n+1,e,h,l,.mk _ a f=>by
  have g:=Kz (e:=e) (by omega);refine .mk n e a.k0 a.k9 (λb=>?_) (λi=>?_) g ?_ (λj=>(a.op j).1) a.two a.three (λk=>?_) λx c=>ad2 n x (by have:=uS c;omega) (by omega) (f x c)
  ·have:=a.num b;unfold nB;simp;omega
  ·have:=a.tx i;rw[EP e.text (by omega)]at this;exact a7 this
  ·have m:=a.k0;have o:=a.k9;rcases (show e.kind=1\/e.kind=2\/e.kind=3\/e.kind=4\/e.kind=5\/e.kind=6\/e.kind=7\/e.kind=8\/e.kind=9 by omega)with q | q | q | q | q | q | q | q | q
   ·rw[a.leaf (.inl q)];simp
   ·rw[a.leaf (.inr (.inl q))];simp
   ·rw[a.leaf (.inr (.inr q))];simp
   ·exact a.list q
   ·have:=a.call q;omega
   ·have:=(a.op q).1;omega
   ·have:=a.two (.inl q);omega
   ·have:=a.three q;omega
   ·have:=a.two (.inr q);omega
  ·have b:=a.cl k;obtain⟨r,d,_⟩:=JI e.text;rw[JJ,d,b];unfold PN;rw[d];rfl
theorem Q9(e:ak)(b:wtE e<=1048576):∃v,jD e=some v/\dF e=some v/\(v=true->ShX 40 e):=by
 obtain⟨v,c,d,a⟩:=Jk e b;exact⟨v,c,d,λhv=>ad2 40 e (a hv).2 (by omega) (a hv).1⟩
structure Ext(m m1:aA):Prop where
 t:m1.tape=m.tape
 w:m1.w=m.w
 c:m1.cell=m.cell
 v:m1.version=m.version
 r:∃l,m1.reads=m.reads++l
theorem Ext.refl(m:aA):Ext m m:=⟨rfl,rfl,rfl,rfl,[],by simp⟩
theorem Ext.trans{a b c:aA}(h:Ext a b)(k:Ext b c):Ext a c:=by
 obtain⟨l,e⟩:=h.r;obtain⟨l',d⟩:=k.r;exact⟨k.t.trans h.t,k.w.trans h.w,k.c.trans h.c,k.v.trans h.v,l++l',by rw[d,e,ba]⟩
theorem Ext.mem{a b:aA}(h:Ext a b){x:aG}(c:x∈a.reads):x∈b.reads:=by
 obtain⟨l,d⟩:=h.r;rw[d];exact amk _ c
theorem ah3(m:aA):Ext m (ovr m):=⟨rfl,rfl,rfl,rfl,[],by simp[ovr]⟩
theorem O9(m:aA):Ext m (tick m):=⟨rfl,rfl,rfl,rfl,[],by simp[tick]⟩
theorem Pg(m:aA)(r:aG):Ext m (Df m r).1:=⟨rfl,rfl,rfl,rfl,_,rfl⟩
theorem CP{α:Type}{f:aA->α->aA×af}:∀(xs:List α) (m:aA),(∀m x,x∈xs->Ext m (f m x).1)->Ext m (evL f m xs).1
 | [],m,_=>.refl m
 | x::r,m,h=>by
  have a:=h m x aw;unfold evL;cases b:(f m x).1.over with
  | true=>exact a
  | false=>exact a.trans (CP r _ λm y c=>h m y (ar _ c))
theorem o9(p:aA×List af)(f:List af->af):(fin p f).1=p.1:=by
 unfold fin;cases p.1.over<;>rfl
theorem Le{m:aA}(p:aA×af)(k:aA->af->aA×af)(h:Ext m p.1)(hk:∀v,Ext p.1 (k p.1 v).1):Ext m (thn p k).1:=by
 unfold thn;cases p.1.over with
 | true=>exact h
 | false=>exact h.trans (hk _)
theorem SH{m:aA}(t:Str)(p:aA×List af)(h:Ext m p.1):Ext m (sW t p).1:=by
 unfold sW;cases p.1.over with
 | true=>exact h
 | false=>
  cases !Ou t with
  | true=>exact h
  | false=>
   cases t==[99,108,111,99,107]with
   | true=>exact h.trans (Pg _ _)
   | false=>
    cases (p.2.getD 0 zV).kind==6 with
    | true=>exact h
    | false=>
     cases t==[99,104,97,110,99,101]with
     | true=>
      cases (p.2.getD 0 zV).kind==1 with
      | true=>exact h.trans (Pg _ _)
      | false=>exact h
     | false=>
      cases (p.2.getD 0 zV).kind==2 with
      | true=>exact h.trans (Pg _ _)
      | false=>exact h
theorem ah4{f:aA->ak->List au->aA×af}{d:Nat}{e:ak}(b:ShX d e)(hf:∀m x c,x∈e.args->Ext m (f m x c).1)(m:aA)(c:List au):Ext m (evB f m e c).1:=by
 cases b with
 | mk d _ k0 k9 num tx tl al op two three cl A=>
 unfold evB;cases (m.over||(m.steps==200))with
 | true=>exact ah3 m
 | false=>
 have a:=O9 m;have g:∀c,Ext m (evL (λm x=>f m x c) (tick m) e.args).1:=λc=>a.trans (CP _ _ λm x b=>hf m x c b)
 simp only[aa];by_cases j:e.kind=1
 ·rw[j];exact a
 by_cases k:e.kind=2
 ·rw[k];exact a
 by_cases l:e.kind=3
 ·rw[l];exact a
 by_cases n:e.kind=4
 ·rw[n];simp only[show ((4:Int)==1)=false from rfl,show ((4:Int)==2)=false from rfl,show ((4:Int)==3)=false from rfl,beq_self_eq_true,aa,ac];rw[o9];exact g c
 by_cases o:e.kind=5
 ·rw[o];simp only[show ((5:Int)==1)=false from rfl,show ((5:Int)==2)=false from rfl,show ((5:Int)==3)=false from rfl,show ((5:Int)==4)=false from rfl,beq_self_eq_true,aa,ac];exact SH _ _ (g c)
 by_cases h:e.kind=7
 ·have p:=two (.inl h);rw[h];simp only[show ((7:Int)==1)=false from rfl,show ((7:Int)==2)=false from rfl,show ((7:Int)==3)=false from rfl,show ((7:Int)==4)=false from rfl,show ((7:Int)==5)=false from rfl,beq_self_eq_true,aa,ac];exact Le _ _ (a.trans (hf _ _ _ (dw (by omega)))) λv=>hf _ _ _ (dw (by omega))
 by_cases i:e.kind=8
 ·have B:=three i;rw[i];simp only[show ((8:Int)==1)=false from rfl,show ((8:Int)==2)=false from rfl,show ((8:Int)==3)=false from rfl,show ((8:Int)==4)=false from rfl,show ((8:Int)==5)=false from rfl,show ((8:Int)==7)=false from rfl,beq_self_eq_true,aa,ac];refine Le _ _ (a.trans (hf _ _ _ (dw (by omega)))) λv=>?_
  cases v.kind==6 with
  | true=>exact .refl _
  | false=>
   cases Hl v with
   | true=>exact hf _ _ _ (dw (by omega))
   | false=>exact hf _ _ _ (dw (by omega))
 by_cases k9':e.kind=9
 ·have p:=two (.inr k9');rw[k9'];simp only[show ((9:Int)==1)=false from rfl,show ((9:Int)==2)=false from rfl,show ((9:Int)==3)=false from rfl,show ((9:Int)==4)=false from rfl,show ((9:Int)==5)=false from rfl,show ((9:Int)==7)=false from rfl,show ((9:Int)==8)=false from rfl,beq_self_eq_true,aa,ac];refine Le _ _ (a.trans (hf _ _ _ (dw (by omega)))) λv=>?_
  cases v.kind==6 with
  | true=>exact .refl _
  | false=>
   cases v.kind != 3 with
   | true=>exact .refl _
   | false=>
    simp only[aa];rw[o9];exact CP _ _ λm x _=>hf _ _ _ (dw (by omega))
 have q:(e.kind==1)=false:=by simpa using j
 have r:(e.kind==2)=false:=by simpa using k
 have s:(e.kind==3)=false:=by simpa using l
 have t:(e.kind==4)=false:=by simpa using n
 have u:(e.kind==5)=false:=by simpa using o
 have w:(e.kind==7)=false:=by simpa using h
 have y:(e.kind==8)=false:=by simpa using i
 have z:(e.kind==9)=false:=by simpa using k9'
 simp only[q,r,s,t,u,w,y,z,aa];rw[o9];exact g c
theorem Pj:∀(d:Nat) (e:ak) (m:aA) (c:List au),ShX d e->Ext m (ev m e c).1
 | 0,e,m,c,a=>by cases a
 | d+1,e,m,c,a=>by
  rw[X9 m e c a];refine ah4 a (λm x c b=>?_) m c;cases a with
  | mk d _ k0 k9 num tx tl al op two three cl f=>exact Pj d x m c (f x b)
theorem Ob(xs:List au)(b:au)(s:Str):∀n,n<=xs.length->nI (xs++[b]) s n=nI xs s n
 | 0,_=>rfl
 | n+1,h=>by
  unfold nI;rw[amE (by omega),Ob xs b s n (by omega)]
theorem Oa(xs:List au)(x s:Str)(v:af):y7 (xs++[au.mk x v]) s=bif x==s then v else y7 xs s:=by
 unfold y7;rw[a8];show nI (xs++[au.mk x v]) s (xs.length+1)=_
 rw[nI,amD (aD _),Nat.sub_self];show (bif x==s then v else nI (xs++[au.mk x v]) s xs.length)=_
 rw[Ob xs _ s _ (aD _)]
def extN(σ:Str->Str->Prop)(x x' s s':Str):Prop:=(s=x/\s'=x')\/(s≠x/\s'≠x'/\σ s s')
def PU(σ:Str->Str->Prop)(c c':List au):Prop:=∀s s',σ s s'->y7 c' s'=y7 c s
theorem PU.bind{σ:Str->Str->Prop}{c c':List au}(h:PU σ c c')(x x':Str)(v:af):PU (extN σ x x') (c++[au.mk x v]) (c'++[au.mk x' v]):=by
 intro s s' a;rw[Oa,Oa];rcases a with ⟨rfl,rfl⟩ | ⟨b,d,e⟩
 ·simp
 ·have f:(x==s)=false:=by simpa using Ne.symm b
  have g:(x'==s')=false:=by simpa using Ne.symm d
  rw[f,g];exact h s s' e
inductive VY:(Str->Str->Prop)->ak->ak->Prop
 | mk (σ:Str->Str->Prop) (e e':ak) (hk:e'.kind=e.kind) (hn:e'.n=e.n) (hl:e'.args.length=e.args.length) (h3:e.kind=3->σ e.text e'.text) (ht:e.kind≠3->e.kind≠7->e.kind≠9->e'.text=e.text)
   (h0:e.kind≠3->e.kind≠7->e.kind≠9->∀i,i<e.args.length->VY σ (arg e i) (arg e' i)) (ha:e.kind=7\/e.kind=9->VY σ (arg e 0) (arg e' 0)) (hb:e.kind=7\/e.kind=9->VY (extN σ e.text e'.text) (arg e 1) (arg e' 1)):VY σ e e'
variable (t':List aG) (w':bT)
def sw(m:aA):aA:=aA.mk t' w' m.cell m.version m.reads m.steps m.over
def swP{α:Type}(p:aA×α):aA×α:=(sw t' w' p.1,p.2)
def Good(a b:Int)(x:aG):Prop:=(rdE t' x).getD (resV w' a b x)=x.result
def Fine(a b:Int)(m c:aA):Prop:=m.cell=a/\m.version=b/\∀x,x∈c.reads->Good t' w' a b x
variable {t' w'}
theorem Fine.back{a b:Int}{m c d:aA}(h:Fine t' w' a b m d)(e:Ext c d):Fine t' w' a b m c:=⟨h.1,h.2.1,λx f=>h.2.2 x (e.mem f)⟩
theorem Fine.on{a b:Int}{m d e:aA}(h:Fine t' w' a b m e)(f:Ext m d):Fine t' w' a b d e:=⟨f.c.trans h.1,f.v.trans h.2.1,h.2.2⟩
theorem Pq{a b:Int}{m:aA}{r:aG}(h:Fine t' w' a b m (Df m r).1):Df (sw t' w' m) r=swP t' w' (Df m r):=by
 have c:=h.2.2 (aG.mk r.kind r.n (zk m r).time r.text (Gy m r)) (by show _∈m.reads++[_];simp);have hv:Gy (sw t' w' m) r=Gy m r:=by
  have d:Gy (sw t' w' m) r=(rdE t' (aG.mk r.kind r.n (zk m r).time r.text (Gy m r))).getD (resV w' a b (aG.mk r.kind r.n (zk m r).time r.text (Gy m r))):=by
   rw[<- h.1,<- h.2.1];rfl
  rw[d];exact c
 unfold Df swP;rw[hv];rfl
theorem VL{α β:Type}{a b:Int}{f:aA->α->aA×af}{g:aA->β->aA×af}:∀(xs:List α) (ys:List β) (m:aA),ys.length=xs.length->(∀m x,x∈xs->Ext m (f m x).1) ->
  (∀(i:Nat) x y m,xs[i]?=some x->ys[i]?=some y->Fine t' w' a b m (f m x).1->g (sw t' w' m) y=swP t' w' (f m x))->Fine t' w' a b m (evL f m xs).1->evL g (sw t' w' m) ys=swP t' w' (evL f m xs)
 | [],[],m,_,_,_,_=>rfl
 | [],_::_,_,h,_,_,_=>by simp at h
 | _::_,[],_,h,_,_,_=>by simp at h
 | x::r,y::s,m,l,j,h,hf=>by
  have n:=j m x aw;have k:∀m x,x∈r->Ext m (f m x).1:=λm y o=>j m y (ar _ o)
  cases c:(f m x).1.over with
  | true=>
   have d:evL f m (x::r)=((f m x).1,[]):=by unfold evL;rw[c];rfl
   rw[d]at hf ⊢;have e:=h 0 x y m rfl rfl hf;unfold evL;rw[e];show (bif (f m x).1.over then _ else _)=_
   rw[c];rfl
  | false=>
   have d:evL f m (x::r)=((evL f (f m x).1 r).1,(f m x).2::(evL f (f m x).1 r).2):=by rw[evL,c];rfl
   rw[d]at hf ⊢;have e:=h 0 x y m rfl rfl (hf.back (CP r _ k));have p:=VL r s (f m x).1 (by simpa using l) k (λi a b m q t=>h (i+1) a b m q t) (hf.on n);rw[evL,e];show (bif (f m x).1.over then _ else ((evL g (sw t' w' (f m x).1) s).1,(f m x).2::(evL g (sw t' w' (f m x).1) s).2))=_
   rw[c,p];rfl
theorem VJ(p:aA×List af)(f:List af->af):fin (swP t' w' p) f=swP t' w' (fin p f):=by
 unfold fin;show (bif p.1.over then _ else _)=_
 cases p.1.over<;>rfl
theorem TP{a b:Int}{m:aA}(p:aA×af)(k k':aA->af->aA×af)(e:∀v,Ext p.1 (k p.1 v).1)(d:Ext m p.1)(hf:Fine t' w' a b m (thn p k).1)(h:∀v,Fine t' w' a b p.1 (k p.1 v).1->k' (sw t' w' p.1) v=swP t' w' (k p.1 v)) :
  thn (swP t' w' p) k'=swP t' w' (thn p k):=by
 unfold thn at hf ⊢;show (bif p.1.over then _ else k' (sw t' w' p.1) p.2)=_
 cases c:p.1.over with
 | true=>rfl
 | false=>
  rw[c]at hf;exact h p.2 (Fine.on hf d)
theorem ado{a b:Int}{m:aA}(t:Str)(p:aA×List af)(g:Ext m p.1)(hf:Fine t' w' a b m (sW t p).1):sW t (swP t' w' p)=swP t' w' (sW t p):=by
 have hf:=hf.on g;unfold sW at hf ⊢;show (bif p.1.over then _ else _)=_
 cases c:p.1.over with
 | true=>rfl
 | false=>
  rw[c]at hf;simp only[aa]at hf ⊢;cases h:!Ou t with
  | true=>rfl
  | false=>
   rw[h]at hf;simp only[aa]at hf ⊢;cases e:t==[99,108,111,99,107]with
   | true=>rw[e]at hf;exact Pq hf
   | false=>
    rw[e]at hf;simp only[aa]at hf ⊢;show (bif (p.2.getD 0 zV).kind==6 then _ else _)=_
    cases i:(p.2.getD 0 zV).kind==6 with
    | true=>rfl
    | false=>
     rw[i]at hf;simp only[aa]at hf ⊢;cases f:t==[99,104,97,110,99,101]with
     | true=>
      rw[f]at hf;simp only[ac]at hf ⊢;show (bif (p.2.getD 0 zV).kind==1 then _ else _)=_
      cases d:(p.2.getD 0 zV).kind==1 with
      | true=>rw[d]at hf;exact Pq hf
      | false=>rfl
     | false=>
      rw[f]at hf;simp only[aa]at hf ⊢;show (bif (p.2.getD 0 zV).kind==2 then _ else _)=_
      cases d:(p.2.getD 0 zV).kind==2 with
      | true=>rw[d]at hf;exact Pq hf
      | false=>rfl
end Go.Proofs.YtjbajpfonnnfoaaGreatDoor
/- Plain laws: the two runs of the evaluator. -/
namespace Go.Proofs.YtjbajpfonnnfoaaGreatDoor
open Go.Abs Go.Proofs
variable {t':List aG} {w':bT}
theorem Pe(p:aA×af)(k:aA->af->aA×af)(hk:∀v,Ext p.1 (k p.1 v).1):Ext p.1 (thn p k).1:=Le p k (.refl _) hk
theorem af2{a b:Int}:∀(d:Nat) (e e':ak) (m:aA) (c c':List au) (σ:Str->Str->Prop),ShX d e->ShX d e'->VY σ e e'->PU σ c c'->Fine t' w' a b m (ev m e c).1->ev (sw t' w' m) e' c'=swP t' w' (ev m e c)
 | 0,e,_,_,_,_,_,j,_,_,_,_=>by cases j
 | d+1,e,e',m,c,c',σ,j,o,M,g,hf=>by
  rw[X9 m e c j]at hf ⊢;rw[X9 _ e' c' o];cases j with
  | mk d _ k0 k9 num tx tl al op two three cl s=>
  cases o with
  | mk d _ k0' k9' num' tx' tl' al' op' two' three' cl' A=>
  cases M with
  | mk σ e e' hk E N O F t G H=>
  have sub:∀i,i<e.args.length->∀(m:aA) (c c':List au) (σ':Str->Str->Prop),VY σ' (arg e i) (arg e' i)->PU σ' c c'->Fine t' w' a b m (ev m (arg e i) c).1->ev (sw t' w' m) (arg e' i) c'=swP t' w' (ev m (arg e i) c):=
   λi hi m c c' σ' P Q R=>af2 d _ _ m c c' σ' (s _ (dw hi)) (A _ (dw (by omega))) P Q R
  have X:∀(m:aA) (c:List au) i,i<e.args.length->Ext m (ev m (arg e i) c).1:=λm c i hi=>Pj d _ m c (s _ (dw hi))
  have all:e.kind≠3->e.kind≠7->e.kind≠9->Fine t' w' a b m (evL (λm x=>ev m x c) (tick m) e.args).1->evL (λm x=>ev m x c') (sw t' w' (tick m)) e'.args=swP t' w' (evL (λm x=>ev m x c) (tick m) e.args):=λS T U hf=>
   VL e.args e'.args (tick m) N (λm x j=>Pj d x m c (s x j)) (λi x y m j u hf=>by
    have hi:=(zC.1 j).1;have V:arg e i=x:=by unfold arg;rw[zE,j];rfl
    have W:arg e' i=y:=by unfold arg;rw[zE,u];rfl
    have:=sub i hi m c c' σ (t S T U i hi) g;rw[V,W]at this;exact this hf) (hf.on (O9 m))
  unfold evB at hf ⊢;show (bif m.over||(m.steps==200)then _ else _)=_
  cases B:(m.over||(m.steps==200))with
  | true=>rfl
  | false=>
  rw[B]at hf;have h:=O9 m;simp only[aa,hk]at hf ⊢;by_cases I:e.kind=1
  ·rw[I];show (sw t' w' (tick m),mr e'.n)=_
   rw[E];rfl
  by_cases J:e.kind=2
  ·rw[J];show (sw t' w' (tick m),Dw e'.text)=_
   rw[F (by omega) (by omega) (by omega)];rfl
  by_cases w:e.kind=3
  ·rw[w];show (sw t' w' (tick m),y7 c' e'.text)=_
   rw[g _ _ (O w)];rfl
  by_cases K:e.kind=4
  ·rw[K]at hf ⊢;simp only[show ((4:Int)==1)=false from rfl,show ((4:Int)==2)=false from rfl,show ((4:Int)==3)=false from rfl,beq_self_eq_true,aa,ac]at hf ⊢;rw[o9]at hf;show fin (evL (λm x=>ev m x c') (sw t' w' (tick m)) e'.args) iM=_
   rw[all (by omega) (by omega) (by omega) hf,VJ]
  by_cases L:e.kind=5
  ·rw[L]at hf ⊢;simp only[show ((5:Int)==1)=false from rfl,show ((5:Int)==2)=false from rfl,show ((5:Int)==3)=false from rfl,show ((5:Int)==4)=false from rfl,beq_self_eq_true,aa,ac]at hf ⊢;have k:Ext (evL (λm x=>ev m x c) (tick m) e.args).1 (sW e.text (evL (λm x=>ev m x c) (tick m) e.args)).1:=SH _ _ (.refl _);show sW e'.text (evL (λm x=>ev m x c') (sw t' w' (tick m)) e'.args)=_
   rw[all (by omega) (by omega) (by omega) (hf.back k),F (by omega) (by omega) (by omega)];exact ado _ _ (h.trans (CP _ _ λm x j=>Pj d x m c (s x j))) hf
  by_cases l:e.kind=7
  ·have Y:=two (.inl l);rw[l]at hf ⊢;simp only[show ((7:Int)==1)=false from rfl,show ((7:Int)==2)=false from rfl,show ((7:Int)==3)=false from rfl,show ((7:Int)==4)=false from rfl,show ((7:Int)==5)=false from rfl,beq_self_eq_true,aa,ac]at hf ⊢;have k:=X (tick m) c 0 (by omega);have p:=Pe (ev (tick m) (arg e 0) c) (λm v=>ev m (arg e 1) (c++[au.mk e.text v])) (λv=>X _ _ 1 (by omega));show thn (ev (sw t' w' (tick m)) (arg e' 0) c') _=_
   rw[sub 0 (by omega) (tick m) c c' σ (G (.inl l)) g ((hf.back p).on h)];exact TP _ _ _ (λv=>X _ _ 1 (by omega)) (h.trans k) hf λv hv=>sub 1 (by omega) _ _ _ _ (H (.inl l)) (g.bind _ _ v) hv
  by_cases C:e.kind=8
  ·have l3:=three C;rw[C]at hf ⊢;simp only[show ((8:Int)==1)=false from rfl,show ((8:Int)==2)=false from rfl,show ((8:Int)==3)=false from rfl,show ((8:Int)==4)=false from rfl,show ((8:Int)==5)=false from rfl,show ((8:Int)==7)=false from rfl,beq_self_eq_true,aa,ac]at hf ⊢;have k:=X (tick m) c 0 (by omega);have q:∀v,Ext (ev (tick m) (arg e 0) c).1 ((λ(m:aA) (v:af)=>bif v.kind==6 then (m,v)else bif Hl v then ev m (arg e 1) c else ev m (arg e 2) c) (ev (tick m) (arg e 0) c).1 v).1:=λv=>by
    show Ext _ (bif v.kind==6 then _ else _:aA×af).1
    cases v.kind==6 with
    | true=>exact .refl _
    | false=>
     cases Hl v with
     | true=>exact X _ _ 1 (by omega)
     | false=>exact X _ _ 2 (by omega)
   have p:=Pe (ev (tick m) (arg e 0) c) (λ(m:aA) (v:af)=>bif v.kind==6 then (m,v)else bif Hl v then ev m (arg e 1) c else ev m (arg e 2) c) q;show thn (ev (sw t' w' (tick m)) (arg e' 0) c') _=_
   rw[sub 0 (by omega) (tick m) c c' σ (t (by omega) (by omega) (by omega) 0 (by omega)) g ((hf.back p).on h)];refine TP _ _ _ q (h.trans k) hf λv hv=>?_
   have hv:Fine t' w' a b _ (bif v.kind==6 then ((ev (tick m) (arg e 0) c).1,v)else bif Hl v then ev (ev (tick m) (arg e 0) c).1 (arg e 1) c else ev (ev (tick m) (arg e 0) c).1 (arg e 2) c).1:=hv;show (bif v.kind==6 then _ else _)=_
   cases D:v.kind==6 with
   | true=>rfl
   | false=>
    rw[D]at hv;simp only[aa]at hv ⊢;cases z:Hl v with
    | true=>rw[z]at hv;exact sub 1 (by omega) _ _ _ _ (t (by omega) (by omega) (by omega) 1 (by omega)) g hv
    | false=>rw[z]at hv;exact sub 2 (by omega) _ _ _ _ (t (by omega) (by omega) (by omega) 2 (by omega)) g hv
  by_cases k9:e.kind=9
  ·have Y:=two (.inr k9);rw[k9]at hf ⊢;simp only[show ((9:Int)==1)=false from rfl,show ((9:Int)==2)=false from rfl,show ((9:Int)==3)=false from rfl,show ((9:Int)==4)=false from rfl,show ((9:Int)==5)=false from rfl,show ((9:Int)==7)=false from rfl,show ((9:Int)==8)=false from rfl,beq_self_eq_true,aa,ac]at hf ⊢;have k:=X (tick m) c 0 (by omega);have r:∀v,Ext (ev (tick m) (arg e 0) c).1 ((λ(m:aA) (v:af)=>bif v.kind==6 then (m,v)else bif v.kind != 3 then (m,dM 4)else fin (evL (λm x=>ev m (arg e 1) (c++[au.mk e.text x])) m v.list) iM) (ev (tick m) (arg e 0) c).1 v).1:=λv=>by
    show Ext _ (bif v.kind==6 then _ else _:aA×af).1
    cases v.kind==6 with
    | true=>exact .refl _
    | false=>
     cases v.kind != 3 with
     | true=>exact .refl _
     | false=>
      simp only[aa];rw[o9];exact CP _ _ λm x _=>X _ _ 1 (by omega)
   have p:=Pe (ev (tick m) (arg e 0) c) (λ(m:aA) (v:af)=>bif v.kind==6 then (m,v)else bif v.kind != 3 then (m,dM 4)else fin (evL (λm x=>ev m (arg e 1) (c++[au.mk e.text x])) m v.list) iM) r;show thn (ev (sw t' w' (tick m)) (arg e' 0) c') _=_
   rw[sub 0 (by omega) (tick m) c c' σ (G (.inr k9)) g ((hf.back p).on h)];refine TP _ _ _ r (h.trans k) hf λv hv=>?_
   have hv:Fine t' w' a b _ (bif v.kind==6 then ((ev (tick m) (arg e 0) c).1,v)else bif v.kind != 3 then ((ev (tick m) (arg e 0) c).1,dM 4)else fin (evL (λm x=>ev m (arg e 1) (c++[au.mk e.text x])) (ev (tick m) (arg e 0) c).1 v.list) iM).1:=hv;show (bif v.kind==6 then _ else _)=_
   cases D:v.kind==6 with
   | true=>rfl
   | false=>
    rw[D]at hv;simp only[aa]at hv ⊢;cases z:v.kind != 3 with
    | true=>rfl
    | false=>
     rw[z]at hv;simp only[aa]at hv ⊢;rw[o9]at hv;rw[VL (f:=λm x=>ev m (arg e 1) (c++[au.mk e.text x])) v.list v.list _ rfl (λm x _=>X _ _ 1 (by omega)) (λi x y m j u hf=>?_) hv,VJ];rw[j]at u;cases u
     exact sub 1 (by omega) _ _ _ _ (H (.inr k9)) (g.bind _ _ x) hf
  have Z:(e.kind==1)=false:=by simpa using I
  have b2:(e.kind==2)=false:=by simpa using J
  have b3:(e.kind==3)=false:=by simpa using w
  have b4:(e.kind==4)=false:=by simpa using K
  have b5:(e.kind==5)=false:=by simpa using L
  have b7:(e.kind==7)=false:=by simpa using l
  have b8:(e.kind==8)=false:=by simpa using C
  have b9:(e.kind==9)=false:=by simpa using k9
  simp only[Z,b2,b3,b4,b5,b7,b8,b9,aa]at hf ⊢;rw[o9]at hf;show fin (evL (λm x=>ev m x c') (sw t' w' (tick m)) e'.args) _=_
  rw[all w l k9 hf,VJ,E]
end Go.Proofs.YtjbajpfonnnfoaaGreatDoor
/- Plain laws of merged reads and of tapes, with no program in sight. Plain laws: the functions on reads and tapes, both sides, are the plain ones. Plain laws: putting and copying of tapes, both sides. -/
namespace Go.Proofs.YtjbajpfonnnfoaaGreatDoor
open Go.Abs Go.Proofs
theorem aiC{t:Ty}:cu B20 (.list t []):=dB (by simp) λx a=>(by cases a)
theorem Ub(a b:List nY)(h:cu B20 (.list (.base .tape) a)):BF a b=some (eqd a b):=by
 have c:Fit B20 (.base .document) (jV.mk (iE.mk []) a []):=by
  rw[Gw,Gv];exact⟨aiC,h,aiC⟩
 unfold BF;rw[Fp _ _ c,zA,Pm];rfl
theorem Uc(a b:List aG)(h:cu B20 (.list (.base .read) a)):BG a b=some (eqd a b):=by
 have z:cu B20 (.int .i64 0):=.int .i64 _ (by decide);unfold BG;rw[Ub _ _ (dB (by simp) λx c=>by rw[List.mem_singleton.1 c,X0];exact⟨z,z,h⟩),zA];congr 1;rw[Bool.eq_iff_iff,kD,kD];simp
def bJ(c:aS):Prop:=0<=c.i/\(c.b.length:Int)<=1048576
theorem ahE{X ρ σ:Type}{g:X->Option (X⊕ρ)}(pk:σ->X)(I:Nat->σ->Prop)(R:ρ->Prop)
  (d:∀n s,I n s->(∃s' m,m<n/\I m s'/\g (pk s)=some (.inl (pk s')))\/∃r,g (pk s)=some (.inr r)/\R r):∀n s,I n s->∃r,aN g (pk s)=some r/\R r:=by
 intro n;induction n using Nat.strongRecOn with
 | ind n ih=>
  intro s e;rcases d n s e with ⟨s',m,f,a,b⟩ | ⟨r,b,c⟩
  ·obtain⟨r,h,c⟩:=ih m f s' a;exact⟨r,by rw[aX,b];exact h,c⟩
  ·exact⟨r,by rw[aX,b],c⟩
theorem abh(n:Int):0<=w64 ((BitVec.ofInt 64 n &&& BitVec.ofInt 64 255).toNat:Int)/\w64 ((BitVec.ofInt 64 n &&& BitVec.ofInt 64 255).toNat:Int)<=255:=by
 have h:(BitVec.ofInt 64 n &&& BitVec.ofInt 64 255).toNat<=255:=by
  rw[BitVec.toNat_and];exact amq Nat.and_le_right (by decide)
 rw[bQ (by omega) (by omega)];omega
theorem GL{c:aS}(h:bJ c):∃c' x,uj c=some (c',x)/\bJ c'/\0<=x/\x<=255:=by
 obtain⟨a,d⟩:=h;unfold uj;by_cases hi:c.i<(c.b.length:Int)
 ·obtain⟨y,e,_⟩:=Z5 a hi;rw[aq hi,ac,e,zA];exact⟨_,_,rfl,⟨by show 0<=w64 (c.i+1);rw[bQ (by omega) (by omega)];omega,d⟩,abh _⟩
 ·rw[ae hi,aa];exact⟨_,_,rfl,⟨a,d⟩,abh _⟩
theorem aa3{x n:Int}(a:0<=x)(b:0<n):∃r,Qr x n=some r/\0<=r/\r<n:=by
 unfold Qr;rw[if_neg (by omega)];exact⟨_,rfl,Int.tmod_nonneg _ a,Int.tmod_lt_of_pos _ b⟩
theorem gV{c:aS}(h:bJ c)(n:Int):∃c' x,aU c n=some (c',x)/\bJ c'/\0<=x/\(0<n->x<n):=by
 unfold aU;by_cases l:n<=0
 ·rw[aq l,ac];exact⟨c,0,rfl,h,by omega,λhh=>by omega⟩
 rw[ae l,aa];by_cases m:n<=256
 ·rw[aq m,ac];obtain⟨c1,x,e,f,p,q⟩:=GL h;obtain⟨r,g,i,j⟩:=aa3 p (n:=n) (by omega);simp only[e,g,zA];exact⟨c1,r,rfl,f,i,λ_=>j⟩
 ·rw[ae m,aa];obtain⟨c1,a,e,f,z,A⟩:=GL h;obtain⟨c2,b,g,o,B,C⟩:=GL f;obtain⟨c3,d,s,t,D,E⟩:=GL o;obtain⟨c4,k,u,v,F,G⟩:=GL t;have w:w64 ((w64 ((w64 ((w64 (a*16777216))+(w64 (b*65536))))+(w64 (d*256))))+k)=a*16777216+b*65536+d*256+k:=by
   rw[bQ (n:=a*16777216) (by omega) (by omega),bQ (n:=b*65536) (by omega) (by omega),bQ (n:=d*256) (by omega) (by omega),bQ (n:=a*16777216+b*65536) (by omega) (by omega),bQ (n:=a*16777216+b*65536+d*256) (by omega) (by omega),bQ (by omega) (by omega)]
  obtain⟨r,y,i,j⟩:=aa3 (x:=a*16777216+b*65536+d*256+k) (n:=n) (by omega) (by omega);simp only[e,g,s,u,w,y,zA];exact⟨c4,r,rfl,v,i,λ_=>j⟩
theorem uy{c:aS}(h:bJ c)(n:Int):∃c' b,dP c n=some (c',b)/\bJ c':=by
 obtain⟨c',x,e,k,_⟩:=gV h n;unfold dP;rw[e];exact⟨c',_,rfl,k⟩
theorem KL{c:aS}(h:bJ c)(xs:List Str)(a:xs≠[]):∃c' s,iT c xs=some (c',s)/\bJ c'/\s∈xs:=by
 have f:0<xs.length:=List.length_pos_iff.2 a;obtain⟨c',x,e,k,p,q⟩:=gV h xs.length;obtain⟨y,b,d⟩:=Z5 p (q (by omega));unfold iT;simp only[e,b,zA];exact⟨c',y,rfl,k,zG d⟩
theorem Zx{c:aS}(h:bJ c)(xs:List Int)(a:xs≠[]):∃c' s,l9 c xs=some (c',s)/\bJ c'/\s∈xs:=by
 have f:0<xs.length:=List.length_pos_iff.2 a;obtain⟨c',x,e,k,p,q⟩:=gV h xs.length;obtain⟨y,b,d⟩:=Z5 p (q (by omega));unfold l9;simp only[e,b,zA];exact⟨c',y,rfl,k,zG d⟩
theorem akN(a:List Int)(h:(a.length:Int)<=1048576):∃c,Uw a=some c/\bJ c:=by
 unfold Uw;refine ahE (λ(s:Int×Nat)=>((a,s.1,(s.2:Int)):List Int×Int×Int)) (λn s=>n+s.2=a.length) bJ (λn s e=>?_) a.length (_,0) (by simp);by_cases hi:s.2<a.length
 ·have b:=zF hi;simp only[dec_lt b,ac];by_cases d:(s.2:Int)<4000
  ·simp only[aq d,ac,aP,b,zA,Lp b (lN h)];exact .inl ⟨(_,s.2+1),n-1,by omega,by simp only;omega,rfl⟩
  ·simp only[ae d,aa];exact .inr ⟨_,rfl,by simp[bJ],h⟩
 ·have:decide ((s.2:Int)<(a.length:Int))=false:=by simp;omega
  simp only[this,aa];exact .inr ⟨_,rfl,by simp[bJ],h⟩
theorem AB{n:Int}(a:-1000000000<=n)(b:n<=1000000000):cu B20 (.int .i64 n):=og (dN a b)
theorem akq{s:Str}(h:s.length<=1048576):cu B20 (.str s):=FZ (by omega)
theorem acB{c:aS}(h:bJ c):∃c' r,Fa c=some (c',r)/\bJ c'/\(cu B20 (.int .i64 r.kind)/\cu B20 (.int .i64 r.n)/\cu B20 (.int .i64 r.time)/\cu B20 (.str r.text)):=by
 unfold Fa;obtain⟨c1,d,e,f,s,g⟩:=gV h 3;obtain⟨c2,t,i,j,u,k⟩:=gV f 7;obtain⟨c3,a,l,m,b⟩:=KL j [[102],[103],[104],[122]] (by simp);obtain⟨c4,v,o,p,w,q⟩:=gV m 3;simp only[e,i,l,o,zA];have:=g (by omega);have:=k (by omega);have:=q (by omega);refine⟨c4,_,rfl,p,?_,AB (by simp only;omega) (by simp only;omega),AB (by simp only;omega) (by simp only;omega),akq ?_⟩
 ·show cu B20 (.int .i64 (w64 (1+d)))
  rw[bQ (by omega) (by omega)];exact AB (by omega) (by omega)
 ·show a.length<=1048576
  have:a.length=1:=by
   simp at b;rcases b with rfl | rfl | rfl | rfl<;>rfl
  omega
theorem gY{X ρ σ:Type}{g:X->Option (X⊕ρ)}(pk:σ->Nat->X)(n:Nat)(I:Nat->σ->Prop)(R:ρ->Prop)
  (d:∀i s,i<n->I i s->∃s',g (pk s i)=some (.inl (pk s' (i+1)))/\I (i+1) s') (hf:∀s,I n s->∃r,g (pk s n)=some (.inr r)/\R r) (s:σ) (f:I 0 s):∃r,aN g (pk s 0)=some r/\R r:=by
 have key:∀(k i:Nat) (s:σ),n=i+k->I i s->∃r,aN g (pk s i)=some r/\R r:=by
  intro k;induction k with
  | zero=>
   intro i s hi a;have:i=n:=by omega
   subst this;obtain⟨r,e,b⟩:=hf s a;exact⟨r,by rw[aX,e],b⟩
  | succ k ih=>
   intro i s hi a;obtain⟨s',e,c⟩:=d i s (by omega) a;obtain⟨r,e',b⟩:=ih (i+1) s' (by omega) c;exact⟨r,by rw[aX,e];exact e',b⟩
 exact key n 0 s (by omega) f
theorem cnt_lt{i n:Nat}(h:i<n):decide ((i:Int)<(n:Int))=true:=by simpa using h
theorem qB{i n:Nat}(h:i<n)(a:n<=1048576):w64 ((i:Int)+1)=((i+1:Nat):Int):=by
 rw[bQ (by omega) (by omega)];omega
theorem vk{n:Int}(h:0<=n):∃m:Nat,n=(m:Int):=⟨n.toNat,by omega⟩
theorem Fz{k n t:Int}{s:Str}{v:af}(a:cu B20 (.int .i64 k))(b:cu B20 (.int .i64 n))(c:cu B20 (.int .i64 t))(d:cu B20 (.str s))(e:Fit B20 (.base .val) v):Fit B20 (.base .read) (aG.mk k n t s v):=by
 rw[Bg];exact⟨a,b,c,d,e⟩
