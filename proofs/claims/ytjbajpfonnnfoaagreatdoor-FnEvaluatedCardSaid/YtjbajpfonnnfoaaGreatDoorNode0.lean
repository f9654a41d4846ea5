import Derived.Test.YtjbajpfonnnfoaaGreatDoorVal13
import Derived.Test.YtjbajpfonnnfoaaGreatDoorEv1
import Derived.Test.YtjbajpfonnnfoaaGreatDoorPlain1
set_option linter.unusedSimpArgs false
set_option linter.unusedVariables false
/- Plain laws: expressions with few nodes and short texts: validity is alike on both sides, and gives the shape that the evaluator asks for. -/
namespace Go.Proofs.YtjbajpfonnnfoaaGreatDoor
open Go.Abs Go.Proofs
def prn(_:Str):Bool:=true
noncomputable def Ph(a:Str):Int:=(gm a).getD (-1)
theorem SY(a:Str):kW a=iq a:=rfl
mutual
def wtE:au->Nat
 | ⟨_,_,t,a⟩=>(if t.length<=120 then 1 else 18446744073709551616)+wtL a
def wtL:List au->Nat
 | []=>0
 | x::r=>wtE x+wtL r
end
theorem KX(a b:List au):wtL (a++b)=wtL a+wtL b:=by
 induction a with
 | nil=>simp[wtL]
 | cons x r ih=>simp only[List.cons_append,wtL,ih];omega
theorem abh{k n:Int}{t:Str}{a:List au}(h:t.length<=120):wtE ⟨k,n,t,a⟩=1+wtL a:=by simp[wtE,h]
theorem afR(x:au):wtL [x]=wtE x:=by simp[wtL]
theorem mO{α:Type}(c:Bool){a b a' b':α}(d:a=a')(e:b=b'):(bif c then a else b)=bif c then a' else b':=by rw[d,e]
theorem abj(a b c:Int):jB a b c=vM a b c:=rfl
theorem yU(a b c:Int):vM a b c=some (decide (a>=b)&&decide (a<=c)):=by
 unfold vM;cases decide (a>=b)<;>rfl
theorem JA(a:Str):dR a=gm a:=rfl
theorem Zo(e:au)(b:e.text.length<=34359738368)(c:∃v,iq e.text=some v)(d:∃v,eY e.text=some v):BF e=mY e:=by
 obtain⟨v,f⟩:=c;obtain⟨u,g⟩:=d;unfold BF mY;simp only[abj,yU,JA,SY,Ja e.text b,f,g,zA];generalize (e.text==[])=p;generalize ((e.args.length:Int)==0)=q0;generalize ((e.args.length:Int)==2)=a;generalize (decide (e.n>=0)&&decide (e.n<=1000000000))=w1;generalize (decide (e.n>=1)&&decide (e.n<=5))=h;refine mO _ ?_ (mO _ ?_ (mO _ ?_ (mO _ rfl (mO _ rfl (mO _ ?_ (mO _ ?_ (mO _ ?_ rfl)))))))
 ·cases p<;>cases q0<;>cases w1<;>rfl
 ·cases q0<;>cases v<;>cases (e.n==0)<;>rfl
 ·cases q0<;>cases u<;>cases (e.n==0)<;>rfl
 ·cases p<;>cases a<;>cases h<;>rfl
 ·cases a<;>cases u<;>cases (e.n==0)<;>rfl
 ·cases a<;>cases u<;>cases (e.n==0)<;>rfl
theorem N8{X ρ:Type}{f:X->Option (X⊕ρ)}{x:X}{r:ρ}{n:Nat}(a:iter f n x=some r):aO f x=some r:=by
 have hh:∃n r,iter f n x=some r:=⟨n,r,a⟩;unfold aO;rw[dif_pos hh];exact congrArg some (Iw hh.choose_spec.choose_spec a)
theorem Xf{X Y ρ:Type}{f:X->Option (X⊕ρ)}{g:Y->Option (Y⊕ρ)}(P:X->Y->Prop)
  (H:∀x y,P x y->(f x=none/\g y=none)\/(∃r,f x=some (.inr r)/\g y=some (.inr r))\/(∃x' y',P x' y'/\f x=some (.inl x')/\g y=some (.inl y')))
  {x:X} {y:Y} (h:P x y):aO f x=aO g y:=by
 have i:∀(n:Nat) (x:X) (y:Y),P x y->iter f n x=iter g n y:=by
  intro n;induction n with
  | zero=>intro x y _;rfl
  | succ n ih=>
   intro x y hp;unfold iter;rcases H x y hp with ⟨b,a⟩ | ⟨r,b,a⟩ | ⟨x',y',d,b,a⟩
   ·rw[b,a]
   ·rw[b,a]
   ·rw[b,a];exact ih x' y' d
 cases e:aO f x with
 | some r=>
  obtain⟨n,c⟩:=xX e;rw[i n x y h]at c;exact (N8 c).symm
 | none=>
  cases a:aO g y with
  | none=>rfl
  | some r=>
   obtain⟨n,c⟩:=xX a;rw[<- i n x y h]at c;rw[N8 c]at e;cases e
theorem QX(m r:Int):Dq m r=some (if r>m then r else m):=by
 unfold Dq;by_cases h:m>r
 ·rw[ae h,if_neg (by omega)];rfl
 ·rw[ac h];by_cases a:r>m
  ·rw[if_pos a];rfl
  ·rw[if_neg a];have:r=m:=by omega
   rw[this];rfl
theorem Qm:∀(n:Nat) (e:au),qc n e=jy n e:=by
 intro n;induction n with
 | zero=>intro e;rfl
 | succ n ih=>
  intro e;show Aq (qc n) e=pq (jy n) e
  unfold Aq pq;refine Xf (λx y=>∃m i:Int,x=(m,e.args,(e.args.length:Int),i)/\y=(e.kind,e.n,e.text,e.args,m,i)) ?_ ⟨0,0,rfl,rfl⟩;rintro _ _ ⟨m,i,rfl,rfl⟩;simp only;cases decide (i<(e.args.length:Int))with
  | false=>exact .inr (.inl ⟨_,rfl,rfl⟩)
  | true=>
   simp only[ab];cases idx e.args i with
   | none=>exact .inl ⟨rfl,rfl⟩
   | some x=>
    simp only[zA,ih];cases jy n (aN x)with
    | none=>exact .inl ⟨rfl,rfl⟩
    | some r=>
     simp only[zA,QX];exact .inr (.inr ⟨_,_,⟨_,_,rfl,rfl⟩,rfl,rfl⟩)
theorem ab3(x:au):aN x=x:=by cases x;rfl
theorem aeV{α:Type}{xs:List α}{i:Int}{x:α}(h:idx xs i=some x):x∈xs:=by
 unfold idx at h;split at h
 ·exact zG h
 ·cases h
theorem Xc(P:au->Prop)(hsub:∀e x,P e->x∈e.args->P x)(hnode:∀e,P e->BF e=mY e):∀(n:Nat) (e:au),P e->sS n e=pF n e:=by
 intro n;induction n with
 | zero=>intro e _;rfl
 | succ n ih=>
  intro e a;show Ea (sS n) e=zM (pF n) e
  unfold Ea zM;refine Xf (λx y=>∃i:Int,x=(e.kind,e.n,e.text,e.args,e.args,(e.args.length:Int),i)/\y=(e.kind,e.n,e.text,e.args,i)) ?_ ⟨0,rfl,rfl⟩;rintro _ _ ⟨i,rfl,rfl⟩;simp only;cases decide (i<(e.args.length:Int))with
  | false=>
   have b:BF ⟨e.kind,e.n,e.text,e.args⟩=mY ⟨e.kind,e.n,e.text,e.args⟩:=by
    have:=hnode e a;cases e;exact this
   simp only[aa,b];cases mY ⟨e.kind,e.n,e.text,e.args⟩with
   | none=>exact .inl ⟨rfl,rfl⟩
   | some r=>exact .inr (.inl ⟨_,rfl,rfl⟩)
  | true=>
   simp only[ab];cases c:idx e.args i with
   | none=>exact .inl ⟨rfl,rfl⟩
   | some x=>
    simp only[zA,ab3,ih x (hsub e x a (aeV c))];cases pF n x with
    | none=>exact .inl ⟨rfl,rfl⟩
    | some r=>
     simp only[zA];cases r with
     | false=>exact .inr (.inl ⟨_,rfl,rfl⟩)
     | true=>exact .inr (.inr ⟨_,_,⟨_,rfl,rfl⟩,rfl,rfl⟩)
theorem aaj{x:au}:∀ {xs:List au},x∈xs->wtE x<=wtL xs
 | [],h=>by cases h
 | y::r,h=>by
  rcases ba.1 h with rfl | h
  ·show _<=wtE x+wtL r;omega
  ·have:=aaj h;show _<=wtE y+wtL r;omega
theorem AQ(e:au):1+wtL e.args<=wtE e:=by
 obtain⟨k,n,t,a⟩:=e;show 1+wtL a<=(if t.length<=120 then 1 else 18446744073709551616)+wtL a
 split<;>omega
theorem SL(e:au):1<=wtE e:=by have:=AQ e;omega
theorem aak:∀(xs:List au),xs.length<=wtL xs
 | []=>by simp
 | x::r=>by
  have:=aak r;have:=SL x;show r.length+1<=wtE x+wtL r;omega
theorem CX{x e:au}(h:x∈e.args):wtE x+1<=wtE e:=by
 have:=aaj h;have:=AQ e;omega
theorem J7{e:au}(h:wtE e<=1048576):e.text.length<=120:=by
 obtain⟨k,n,t,a⟩:=e;have h:(if t.length<=120 then 1 else 18446744073709551616)+wtL a<=1048576:=h;show t.length<=120
 split at h
 ·assumption
 ·omega
theorem ahN{e:au}(h:wtE e<=1048576):wtE e=1+wtL e.args:=by
 have:=J7 h;obtain⟨k,n,t,a⟩:=e;exact abh this
theorem GN{e:au}:e.args.length+1<=wtE e:=by
 have:=AQ e;have:=aak e.args;omega
theorem abB{e:au}:siz e.args<siz e:=by
 cases e;simp only[siz];rw[au.mk.sizeOf_spec];omega
theorem adv{x:au}{xs:List au}(h:x∈xs):siz x+1<=siz xs:=by
 have:=List.sizeOf_lt_of_mem h;simp only[siz];omega
theorem yZ{x e:au}(h:x∈e.args):siz x+2<=siz e:=by
 have:=adv h;have:=abB (e:=e);omega
theorem KW{xs:List au}{i:Nat}{x:au}(h:xs[i]?=some x):wtL (xs.take (i+1))=wtL (xs.take i)+wtE x:=by
 obtain⟨a,rfl⟩:=zC.1 h;rw[List.take_succ_eq_append_getElem a,KX,afR]
theorem tN(xs:List au)(i:Nat):wtL (xs.take i)<=wtL xs:=by
 have h:wtL (xs.take i)+wtL (xs.drop i)=wtL xs:=by rw[<- KX,List.take_append_drop]
 omega
theorem pX{α X ρ σ:Type}{g:X->Option (X⊕ρ)}(pk:σ->Nat->X)(xs:List α)(I:Nat->σ->Prop)(R:ρ->Prop)
  (f:∀i x s,xs[i]?=some x->I i s->(∃s',g (pk s i)=some (.inl (pk s' (i+1)))/\I (i+1) s')\/∃r,g (pk s i)=some (.inr r)/\R r)
  (hf:∀s,I xs.length s->∃r,g (pk s xs.length)=some (.inr r)/\R r) (s:σ) (h:I 0 s):∃r,aO g (pk s 0)=some r/\R r:=by
 have key:∀(k i:Nat) (s:σ),xs.length=i+k->I i s->∃r,aO g (pk s i)=some r/\R r:=by
  intro k;induction k with
  | zero=>
   intro i s j b;have:i=xs.length:=by omega
   subst this;obtain⟨r,e,a⟩:=hf s b;exact⟨r,by rw[aX,e],a⟩
  | succ k ih=>
   intro i s j b;have c:i<xs.length:=by omega
   rcases f i _ s (zF c) b with ⟨s',e,d⟩ | ⟨r,e,a⟩
   ·obtain⟨r,e',a⟩:=ih (i+1) s' (by omega) d;exact⟨r,by rw[aX,e];exact e',a⟩
   ·exact⟨r,by rw[aX,e],a⟩
 exact key xs.length 0 s (by omega) h
theorem yE{α:Type}{xs:List α}{i:Nat}{x:α}(h:xs[i]?=some x):decide ((i:Int)<(xs.length:Int))=true:=by
 have:=(zC.1 h).1;simp;omega
theorem uI{α:Type}(xs:List α):decide ((xs.length:Int)<(xs.length:Int))=false:=by simp
theorem yD{α:Type}{xs:List α}{i:Nat}{x:α}(h:xs[i]?=some x)(a:xs.length<=34359738368):w64 ((i:Int)+1)=((i+1:Nat):Int):=by
 have:=(zC.1 h).1;rw[bQ (by omega) (by omega)];omega
theorem Fq:∀(n:Nat) (e:au),siz e<n->wtE e<=1048576->mM n e=some (wtE e:Int)
 | 0,e,h,_=>absurd h (Nat.not_lt_zero _)
 | n+1,e,m,d=>by
  have ih:=Fq n;have o:=GN (e:=e);show Ap (mM n) e=_
  unfold Ap;have key:=pX (λ(s:Unit) (i:Nat)=>((((1+wtL (e.args.take i):Nat):Int),e.args,(e.args.length:Int),(i:Int)):Int×(List au)×Int×Int)) e.args (λ_ _=>True) (λr=>r=(wtE e:Int)) (g:=λ(a:Int×(List au)×Int×Int)=>
   bif (decide (a.2.2.2<a.2.2.1))then
    (idx a.2.1 a.2.2.2).bind λf=>
    (mM n (aN f)).bind λj=>
    some (.inl (w64 (a.1+j),a.2.1,a.2.2.1,w64 (a.2.2.2+1)))
   else
    some (.inr (a.1))) (λi x s b _=>.inl ⟨(),by
   have c:=zG b
   have p:=CX c
   have k:=KW b
   have q:=tN e.args (i+1)
   have t:=AQ e
   simp only[yE b,ab,aQ,b,zA,dA,ih x (by have:=yZ c;omega) (by omega),yD b (by omega),k]
   rw[bQ (by omega) (by omega)]
   congr 4
   omega,trivial⟩) (λs _=>⟨_,by simp only[uI,aa];rfl,by rw[List.take_length,ahN d]⟩) () trivial
  obtain⟨r,l,rfl⟩:=key;exact l
theorem aaN:∀(n:Nat) (e:au) (b:Int),siz e<n->wtE e<=1048576->0<=b->b<=1048576 ->
  ∃r,vV n e b=some r/\(0<=b-wtE e->r=b-wtE e)/\(b-wtE e<0->r = -1)
 | 0,e,b,h,_,_,_=>absurd h (Nat.not_lt_zero _)
 | n+1,e,b,y,o,z,p=>by
  have ih:=aaN n;have A:=GN (e:=e);have q:=ahN o;show ∃r,Ht (vV n) e b=some r/\_
  unfold Ht;rw[bQ (n:=b-1) (by omega) (by omega)];refine pX (λ(s:Int) (i:Nat)=>((s,e.kind,e.n,e.text,e.args,(i:Int)):Int×Int×Int×Str×(List au)×Int)) e.args
   (λi s=>(0<=b-1-wtL (e.args.take i)->s=b-1-wtL (e.args.take i))/\(b-1-wtL (e.args.take i)<0->s = -1)) _ (λi x s c g=>?_) (λs g=>?_) (b-1) ⟨λ_=>by simp[wtL],λh=>by simp[wtL]at h;omega⟩
  ·obtain⟨a,d⟩:=g;have l:=zG c;have p:=CX l;have m:=KW c;have B:=tN e.args (i+1);by_cases j:s>=0
   ·obtain⟨r,t,u,v⟩:=ih x s (by have:=yZ l;omega) (by omega) j (by
     by_cases f:0<=b-1-wtL (e.args.take i)
     ·have:=a f;omega
     ·have:=d (by omega);omega)
    have w:s=b-1-wtL (e.args.take i):=by
     by_cases f:0<=b-1-wtL (e.args.take i)
     ·exact a f
     ·have:=d (by omega);omega
    refine .inl ⟨r,?_,λk=>?_,λk=>?_⟩
    ·simp only[yE c,ab,ae j,aQ,c,zA,dA,t,yD c (by omega)]
    ·rw[m]at k ⊢;rw[u (by omega)];omega
    ·rw[m]at k;exact v (by omega)
   ·refine .inr ⟨s,?_,λh=>?_,λh=>?_⟩
    ·simp only[yE c,ab,ac j,aa]
    ·have:=tN e.args i;have:=a (by omega);omega
    ·have:=a;by_cases f:0<=b-1-wtL (e.args.take i)
     ·have:=a f;omega
     ·exact d (by omega)
  ·obtain⟨a,d⟩:=g;rw[List.take_length]at a d;exact⟨s,by simp only[uI,aa],λh=>by rw[a (by omega)];omega,λh=>d (by omega)⟩
theorem NG:∀(n:Nat) (e:au),siz e<n->wtE e<=1048576->∃r,jy n e=some r/\True
 | 0,e,h,_=>absurd h (Nat.not_lt_zero _)
 | n+1,e,f,hf=>by
  have ih:=NG n;have g:=GN (e:=e);show ∃r,pq (jy n) e=some r/\_
  unfold pq;refine pX (λ(s:Int) (i:Nat)=>((e.kind,e.n,e.text,e.args,s,(i:Int)):Int×Int×Str×(List au)×Int×Int)) e.args (λ_ _=>True) _ (λi x s a c=>?_) (λs c=>?_) 0 trivial
  ·have b:=zG a;obtain⟨r,d,_⟩:=ih x (by have:=yZ b;omega) (by have:=CX b;omega);refine .inl ⟨if r>s then r else s,?_,trivial⟩;simp only[yE a,ab,aQ,a,zA,dA,d,QX,yD a (by omega)]
  ·exact⟨_,by simp only[uI,aa];rfl,trivial⟩
theorem Jz(a:Str):∃r,gm a=some r/\r<=4/\(0<=r->a.length<=6/\prn a=true):=by
 unfold gm;have go:∀(w:Str) (k:Int) (z:Option Int),w.length<=6/\prn w=true->k<=4->(∃r,z=some r/\r<=4/\(0<=r->a.length<=6/\prn a=true))->∃r,(bif (a==w)then some k else z)=some r/\r<=4/\(0<=r->a.length<=6/\prn a=true):=by
  intro w k z b hk c;cases h:(a==w)with
  | true=>
   have e:=eq_of_beq h;exact⟨k,rfl,hk,λ_=>by rw[e];exact b⟩
  | false=>exact c
 repeat refine go _ _ _ (by decide) (by decide) ?_
 exact⟨-1,rfl,by decide,λh=>by omega⟩
structure JC(e:au):Prop where
 pr:prn e.text=true
 k0:1<=e.kind
 k9:e.kind<=9
 num:e.kind=1->0<=e.n/\e.n<=1000000000
 call:e.kind=5->e.args.length<=4
 list:e.kind=4->e.args.length<=8
 op:e.kind=6->e.args.length=2/\1<=e.n/\e.n<=5
 two:e.kind=7\/e.kind=9->e.args.length=2
 three:e.kind=8->e.args.length=3
 leaf:e.kind=1\/e.kind=2\/e.kind=3->e.args=[]
 z:e.kind=1\/e.kind=4\/e.kind=6\/e.kind=8->e.text=[]
 w:e.kind≠1->e.kind≠6->e.n=0
 nm:e.kind=3\/e.kind=7\/e.kind=9->eY e.text=some true
 tx:e.kind=2->iq e.text=some true
 cl:e.kind=5->(e.args.length:Int)=Ph e.text
inductive I8:au->Prop
 | mk (e:au) (h:JC e) (hs:∀x,x∈e.args->I8 x):I8 e
theorem agT(e:au)(q:∃v,iq e.text=some v/\(v=true->prn e.text=true))(r:∃v,eY e.text=some v/\(v=true->prn e.text=true)):∃v,mY e=some v/\(v=true->JC e):=by
 have s:=yU e.n 0 1000000000;have t:=yU e.n 1 5;obtain⟨w,f,u⟩:=q;obtain⟨x,g,l⟩:=r;have nl:(e.text==[])=true->prn e.text=true:=λh=>by rw[eq_of_beq h];rfl
 obtain⟨y,i,A,m⟩:=Jz e.text;have no:∃v,(some false:Option Bool)=some v/\(v=true->JC e):=⟨false,rfl,λh=>(by cases h)⟩;have bb:∀(c:Bool) (z:Option Bool),(c=true->∃v,z=some v/\(v=true->JC e))->∃v,(bif c then z else some false)=some v/\(v=true->JC e):=by
  intro c z o;cases c with
  | true=>exact o rfl
  | false=>exact no
 have kk:∀(k:Int) (z z':Option Bool),(e.kind=k->∃v,z=some v/\(v=true->JC e))->(¬e.kind=k->∃v,z'=some v/\(v=true->JC e))->∃v,(bif (e.kind==k)then z else z')=some v/\(v=true->JC e):=by
  intro k z z' o p;cases h:(e.kind==k)with
  | true=>exact o (eq_of_beq h)
  | false=>exact p (by simpa using h)
 have nil:((e.args.length:Int)==0)=true->e.args=[]:=λh=>by
  have h:=eq_of_beq h;exact List.length_eq_zero_iff.1 (by omega)
 unfold mY;simp only[s,f,g,i,t,zA];refine kk 1 _ _ (λhk=>bb _ _ λd=>bb _ _ λb=>⟨_,rfl,λa=>?_⟩) λB=>?_
 ·have a:0<=e.n/\e.n<=1000000000:=by simpa using a
  exact⟨nl b,by omega,by omega,λ_=>a,λh=>by omega,λh=>by omega,λh=>by omega,λh=>by omega,λh=>by omega,λ_=>nil d,λh=>(by first | exact eq_of_beq d | exact eq_of_beq b | omega),λh j=>(by first | exact eq_of_beq d | exact eq_of_beq b | omega),λh=>(by first | omega | rw[g,a]),λh=>(by first | omega | rw[f,a]),λh=>(by first | omega | (unfold Ph;rw[i];exact a))⟩
 refine kk 2 _ _ (λhk=>bb _ _ λd=>bb _ _ λb=>⟨_,rfl,λa=>?_⟩) λC=>?_
 ·exact⟨u a,by omega,by omega,λh=>by omega,λh=>by omega,λh=>by omega,λh=>by omega,λh=>by omega,λh=>by omega,λ_=>nil d,λh=>(by first | exact eq_of_beq d | exact eq_of_beq b | omega),λh j=>(by first | exact eq_of_beq d | exact eq_of_beq b | omega),λh=>(by first | omega | rw[g,a]),λh=>(by first | omega | rw[f,a]),λh=>(by first | omega | (unfold Ph;rw[i];exact a))⟩
 refine kk 3 _ _ (λhk=>bb _ _ λd=>bb _ _ λb=>⟨_,rfl,λa=>?_⟩) λD=>?_
 ·exact⟨l a,by omega,by omega,λh=>by omega,λh=>by omega,λh=>by omega,λh=>by omega,λh=>by omega,λh=>by omega,λ_=>nil d,λh=>(by first | exact eq_of_beq d | exact eq_of_beq b | omega),λh j=>(by first | exact eq_of_beq d | exact eq_of_beq b | omega),λh=>(by first | omega | rw[g,a]),λh=>(by first | omega | rw[f,a]),λh=>(by first | omega | (unfold Ph;rw[i];exact a))⟩
 refine kk 4 _ _ (λhk=>bb _ _ λd=>bb _ _ λb=>⟨_,rfl,λa=>?_⟩) λE=>?_
 ·have a:=of_decide_eq_true a;exact⟨nl b,by omega,by omega,λh=>by omega,λh=>by omega,λh=>by omega,λh=>by omega,λh=>by omega,λh=>by omega,λh=>by omega,λh=>(by first | exact eq_of_beq d | exact eq_of_beq b | omega),λh j=>(by first | exact eq_of_beq d | exact eq_of_beq b | omega),λh=>(by first | omega | rw[g,a]),λh=>(by first | omega | rw[f,a]),λh=>(by first | omega | (unfold Ph;rw[i];exact a))⟩
 refine kk 5 _ _ (λhk=>bb _ _ λd=>⟨_,rfl,λa=>?_⟩) λF=>?_
 ·have a:=eq_of_beq a;exact⟨(m (by omega)).2,by omega,by omega,λh=>by omega,λh=>by omega,λh=>by omega,λh=>by omega,λh=>by omega,λh=>by omega,λh=>by omega,λh=>(by first | exact eq_of_beq d | exact eq_of_beq b | omega),λh j=>(by first | exact eq_of_beq d | exact eq_of_beq b | omega),λh=>(by first | omega | rw[g,a]),λh=>(by first | omega | rw[f,a]),λh=>(by first | omega | (unfold Ph;rw[i];exact a))⟩
 refine kk 6 _ _ (λhk=>bb _ _ λd=>bb _ _ λb=>⟨_,rfl,λa=>?_⟩) λG=>?_
 ·have b:=eq_of_beq b;have a:1<=e.n/\e.n<=5:=by simpa using a
  exact⟨nl d,by omega,by omega,λh=>by omega,λh=>by omega,λh=>by omega,λ_=>⟨by omega,a⟩,λh=>by omega,λh=>by omega,λh=>by omega,λh=>(by first | exact eq_of_beq d | exact eq_of_beq b | omega),λh j=>(by first | exact eq_of_beq d | exact eq_of_beq b | omega),λh=>(by first | omega | rw[g,a]),λh=>(by first | omega | rw[f,a]),λh=>(by first | omega | (unfold Ph;rw[i];exact a))⟩
 refine kk 7 _ _ (λhk=>bb _ _ λd=>bb _ _ λb=>⟨_,rfl,λa=>?_⟩) λH=>?_
 ·have b:=eq_of_beq b;exact⟨l a,by omega,by omega,λh=>by omega,λh=>by omega,λh=>by omega,λh=>by omega,λ_=>by omega,λh=>by omega,λh=>by omega,λh=>(by first | exact eq_of_beq d | exact eq_of_beq b | omega),λh j=>(by first | exact eq_of_beq d | exact eq_of_beq b | omega),λh=>(by first | omega | rw[g,a]),λh=>(by first | omega | rw[f,a]),λh=>(by first | omega | (unfold Ph;rw[i];exact a))⟩
 refine kk 9 _ _ (λhk=>bb _ _ λd=>bb _ _ λb=>⟨_,rfl,λa=>?_⟩) λI=>?_
 ·have b:=eq_of_beq b;exact⟨l a,by omega,by omega,λh=>by omega,λh=>by omega,λh=>by omega,λh=>by omega,λ_=>by omega,λh=>by omega,λh=>by omega,λh=>(by first | exact eq_of_beq d | exact eq_of_beq b | omega),λh j=>(by first | exact eq_of_beq d | exact eq_of_beq b | omega),λh=>(by first | omega | rw[g,a]),λh=>(by first | omega | rw[f,a]),λh=>(by first | omega | (unfold Ph;rw[i];exact a))⟩
 refine kk 8 _ _ (λhk=>bb _ _ λd=>bb _ _ λb=>⟨_,rfl,λa=>?_⟩) λJ=>no
 ·have a:=eq_of_beq a;exact⟨nl b,by omega,by omega,λh=>by omega,λh=>by omega,λh=>by omega,λh=>by omega,λh=>by omega,λ_=>by omega,λh=>by omega,λh=>(by first | exact eq_of_beq d | exact eq_of_beq b | omega),λh j=>(by first | exact eq_of_beq d | exact eq_of_beq b | omega),λh=>(by first | omega | rw[g,a]),λh=>(by first | omega | rw[f,a]),λh=>(by first | omega | (unfold Ph;rw[i];exact a))⟩
theorem xu(e:au)(a:wtE e<=1048576):(∃v,iq e.text=some v/\(v=true->prn e.text=true))/\∃v,eY e.text=some v/\(v=true->prn e.text=true):=by
 have b:=J7 a;exact⟨⟨_,EC e.text (by omega),λ_=>rfl⟩,_,LW e.text (by omega),λ_=>rfl⟩
theorem afJ:∀(n:Nat) (e:au),siz e<n->wtE e<=1048576->∃v,pF n e=some v/\(v=true->I8 e)
 | 0,e,h,_=>absurd h (Nat.not_lt_zero _)
 | n+1,e,p,l=>by
  have ih:=afJ n;have q:=GN (e:=e);show ∃v,zM (pF n) e=some v/\_
  unfold zM;refine pX (λ(_:Unit) (i:Nat)=>((e.kind,e.n,e.text,e.args,(i:Int)):Int×Int×Str×(List au)×Int)) e.args (λi _=>∀j x,e.args[j]?=some x->j<i->I8 x) _ (λi x s a c=>?_) (λs c=>?_) () (λj x _ b=>absurd b (Nat.not_lt_zero _))
  ·have m:=zG a;obtain⟨v,d,f⟩:=ih x (by have:=yZ m;omega) (by have:=CX m;omega);simp only[yE a,ab,aQ,a,zA,dA,d,yD a (by omega)];cases v with
   | false=>exact .inr ⟨false,rfl,λh=>(by cases h)⟩
   | true=>
    refine .inl ⟨(),rfl,λj y g b=>?_⟩;by_cases k:j=i
    ·subst k;rw[a]at g;cases g
     exact f rfl
    ·exact c j y g (by omega)
  ·obtain⟨v,d,f⟩:=agT e (xu e l).1 (xu e l).2;have eta:au.mk e.kind e.n e.text e.args=e:=by cases e;rfl
   refine⟨v,by simp only[uI,aa,eta,d,zA],λo=>.mk e (f o) λx a=>?_⟩;obtain⟨j,b⟩:=List.mem_iff_getElem?.1 a;exact c j x b (zC.1 b).1
theorem Zn(e:au)(a:wtE e<=1048576):BH e=Kt e:=
 Xc (λe=>wtE e<=1048576) (λe x h b=>by have:=CX b;omega) (λe h=>Zo e (by have:=J7 h;omega) ((xu e h).1.imp λ_ h=>h.1) ((xu e h).2.imp λ_ h=>h.1)) _ e a
theorem I9(e:au)(a:wtE e<=1048576):∃v,kX e=some v/\eF e=some v/\(v=true->I8 e/\wtE e<=40):=by
 have f:DZ e=some (wtE e:Int):=Fq _ e (Nat.lt_succ_self _) a;obtain⟨r,d,g,i⟩:=aaN _ e 40 (Nat.lt_succ_self _) a (by omega) (by omega);have d:ML e 40=some r:=d;obtain⟨m,b,_⟩:=NG _ e (Nat.lt_succ_self _) a;have b:Di e=some m:=b;have j:D5 e=some m:=(Qm _ e).trans b;obtain⟨v,c,k⟩:=afJ _ e (Nat.lt_succ_self _) a;have c:Kt e=some v:=c;have l:BH e=some v:=(Zn e a).trans c;unfold kX eF;simp only[dA,f,d,b,j,c,l,zA];have n:decide ((wtE e:Int)<=40)=decide (r>=0):=by
  by_cases h:(wtE e:Int)<=40
  ·have:=g (by omega);rw[ae h,ae (by omega)]
  ·have:=i (by omega);rw[ac h,ac (by omega)]
 rw[<- n];by_cases h:(wtE e:Int)<=40
 ·rw[ae h];simp only[ab];cases decide (m<=8)with
  | true=>exact⟨v,rfl,rfl,λo=>⟨k o,by omega⟩⟩
  | false=>exact⟨false,rfl,rfl,λh=>(by cases h)⟩
 ·rw[ac h];exact⟨false,rfl,rfl,λh=>(by cases h)⟩
theorem adx:∀(n:Nat) (e:au),wtE e<=n->n<=1048576->I8 e->ShX n e
 | 0,e,h,_,_=>absurd (SL e) (by omega)
 | n+1,e,h,l,.mk _ a f=>by
  have g:=J7 (e:=e) (by omega);refine .mk n e a.k0 a.k9 (λb=>?_) (λi=>?_) g ?_ (λj=>(a.op j).1) a.two a.three (λk=>?_) λx c=>adx n x (by have:=CX c;omega) (by omega) (f x c)
  ·have:=a.num b;unfold nB;simp;omega
  ·have:=a.tx i;rw[EC e.text (by omega)]at this;exact aR this
  ·have m:=a.k0;have o:=a.k9;rcases (show e.kind=1\/e.kind=2\/e.kind=3\/e.kind=4\/e.kind=5\/e.kind=6\/e.kind=7\/e.kind=8\/e.kind=9 by omega)with q | q | q | q | q | q | q | q | q
   ·rw[a.leaf (.inl q)];simp
   ·rw[a.leaf (.inr (.inl q))];simp
   ·rw[a.leaf (.inr (.inr q))];simp
   ·exact a.list q
   ·have:=a.call q;omega
   ·have:=(a.op q).1;omega
   ·have:=a.two (.inl q);omega
   ·have:=a.three q;omega
   ·have:=a.two (.inr q);omega
  ·have b:=a.cl k;obtain⟨r,d,_⟩:=Jz e.text;rw[JA,d,b];unfold Ph;rw[d];rfl
theorem abk(e:au)(c:wtE e<=1048576):∃v,kX e=some v/\eF e=some v/\(v=true->ShX 40 e):=by
 obtain⟨v,d,f,a⟩:=I9 e c;exact⟨v,d,f,λb=>adx 40 e (a b).2 (by omega) (a b).1⟩
structure Ext(m m1:aA):Prop where
 t:m1.tape=m.tape
 w:m1.w=m.w
 c:m1.cell=m.cell
 v:m1.version=m.version
 r:∃l,m1.reads=m.reads++l
theorem Ext.refl(m:aA):Ext m m:=⟨rfl,rfl,rfl,rfl,[],by simp⟩
theorem Ext.trans{a b c:aA}(h:Ext a b)(k:Ext b c):Ext a c:=by
 obtain⟨l,e⟩:=h.r;obtain⟨l',d⟩:=k.r;exact⟨k.t.trans h.t,k.w.trans h.w,k.c.trans h.c,k.v.trans h.v,l++l',by rw[d,e,a7]⟩
theorem Ext.mem{a b:aA}(h:Ext a b){x:aG}(c:x∈a.reads):x∈b.reads:=by
 obtain⟨l,d⟩:=h.r;rw[d];exact List.mem_append_left _ c
theorem ahp(m:aA):Ext m (ovr m):=⟨rfl,rfl,rfl,rfl,[],by simp[ovr]⟩
theorem OU(m:aA):Ext m (tick m):=⟨rfl,rfl,rfl,rfl,[],by simp[tick]⟩
theorem OW(m:aA)(r:aG):Ext m (Cj m r).1:=⟨rfl,rfl,rfl,rfl,_,rfl⟩
theorem BR{α:Type}{f:aA->α->aA×af}:∀(xs:List α) (m:aA),(∀m x,x∈xs->Ext m (f m x).1)->Ext m (evL f m xs).1
 | [],m,_=>.refl m
 | x::r,m,h=>by
  have a:=h m x aq;unfold evL;cases b:(f m x).1.over with
  | true=>exact a
  | false=>exact a.trans (BR r _ λm y c=>h m y (ao _ c))
theorem nN(p:aA×List af)(f:List af->af):(fin p f).1=p.1:=by
 unfold fin;cases p.1.over<;>rfl
theorem KR{m:aA}(p:aA×af)(k:aA->af->aA×af)(h:Ext m p.1)(hk:∀v,Ext p.1 (k p.1 v).1):Ext m (thn p k).1:=by
 unfold thn;cases p.1.over with
 | true=>exact h
 | false=>exact h.trans (hk _)
theorem RJ{m:aA}(t:Str)(p:aA×List af)(h:Ext m p.1):Ext m (nV t p).1:=by
 unfold nV;cases p.1.over with
 | true=>exact h
 | false=>
  cases !CQ t with
  | true=>exact h
  | false=>
   cases t==[99,108,111,99,107]with
   | true=>exact h.trans (OW _ _)
   | false=>
    cases (p.2.getD 0 zV).kind==6 with
    | true=>exact h
    | false=>
     cases t==[99,104,97,110,99,101]with
     | true=>
      cases (p.2.getD 0 zV).kind==1 with
      | true=>exact h.trans (OW _ _)
      | false=>exact h
     | false=>
      cases (p.2.getD 0 zV).kind==2 with
      | true=>exact h.trans (OW _ _)
      | false=>exact h
theorem ahq{f:aA->au->List ak->aA×af}{d:Nat}{e:au}(b:ShX d e)(hf:∀m x c,x∈e.args->Ext m (f m x c).1)(m:aA)(c:List ak):Ext m (evB f m e c).1:=by
 cases b with
 | mk d _ k0 k9 num tx tl al op two three cl A=>
 unfold evB;cases (m.over||(m.steps==200))with
 | true=>exact ahp m
 | false=>
 have a:=OU m;have g:∀c,Ext m (evL (λm x=>f m x c) (tick m) e.args).1:=λc=>a.trans (BR _ _ λm x b=>hf m x c b)
 simp only[aa];by_cases j:e.kind=1
 ·rw[j];exact a
 by_cases k:e.kind=2
 ·rw[k];exact a
 by_cases l:e.kind=3
 ·rw[l];exact a
 by_cases n:e.kind=4
 ·rw[n];simp only[show ((4:Int)==1)=false from rfl,show ((4:Int)==2)=false from rfl,show ((4:Int)==3)=false from rfl,beq_self_eq_true,aa,ab];rw[nN];exact g c
 by_cases o:e.kind=5
 ·rw[o];simp only[show ((5:Int)==1)=false from rfl,show ((5:Int)==2)=false from rfl,show ((5:Int)==3)=false from rfl,show ((5:Int)==4)=false from rfl,beq_self_eq_true,aa,ab];exact RJ _ _ (g c)
 by_cases h:e.kind=7
 ·have p:=two (.inl h);rw[h];simp only[show ((7:Int)==1)=false from rfl,show ((7:Int)==2)=false from rfl,show ((7:Int)==3)=false from rfl,show ((7:Int)==4)=false from rfl,show ((7:Int)==5)=false from rfl,beq_self_eq_true,aa,ab];exact KR _ _ (a.trans (hf _ _ _ (dJ (by omega)))) λv=>hf _ _ _ (dJ (by omega))
 by_cases i:e.kind=8
 ·have B:=three i;rw[i];simp only[show ((8:Int)==1)=false from rfl,show ((8:Int)==2)=false from rfl,show ((8:Int)==3)=false from rfl,show ((8:Int)==4)=false from rfl,show ((8:Int)==5)=false from rfl,show ((8:Int)==7)=false from rfl,beq_self_eq_true,aa,ab];refine KR _ _ (a.trans (hf _ _ _ (dJ (by omega)))) λv=>?_
  cases v.kind==6 with
  | true=>exact .refl _
  | false=>
   cases Em v with
   | true=>exact hf _ _ _ (dJ (by omega))
   | false=>exact hf _ _ _ (dJ (by omega))
 by_cases k9':e.kind=9
 ·have p:=two (.inr k9');rw[k9'];simp only[show ((9:Int)==1)=false from rfl,show ((9:Int)==2)=false from rfl,show ((9:Int)==3)=false from rfl,show ((9:Int)==4)=false from rfl,show ((9:Int)==5)=false from rfl,show ((9:Int)==7)=false from rfl,show ((9:Int)==8)=false from rfl,beq_self_eq_true,aa,ab];refine KR _ _ (a.trans (hf _ _ _ (dJ (by omega)))) λv=>?_
  cases v.kind==6 with
  | true=>exact .refl _
  | false=>
   cases v.kind != 3 with
   | true=>exact .refl _
   | false=>
    simp only[aa];rw[nN];exact BR _ _ λm x _=>hf _ _ _ (dJ (by omega))
 have q:(e.kind==1)=false:=by simpa using j
 have r:(e.kind==2)=false:=by simpa using k
 have s:(e.kind==3)=false:=by simpa using l
 have t:(e.kind==4)=false:=by simpa using n
 have u:(e.kind==5)=false:=by simpa using o
 have w:(e.kind==7)=false:=by simpa using h
 have y:(e.kind==8)=false:=by simpa using i
 have z:(e.kind==9)=false:=by simpa using k9'
 simp only[q,r,s,t,u,w,y,z,aa];rw[nN];exact g c
theorem IW:∀(d:Nat) (e:au) (m:aA) (c:List ak),ShX d e->Ext m (ev m e c).1
 | 0,e,m,c,a=>by cases a
 | d+1,e,m,c,a=>by
  rw[RN m e c a];refine ahq a (λm x c b=>?_) m c;cases a with
  | mk d _ k0 k9 num tx tl al op two three cl f=>exact IW d x m c (f x b)
theorem NP(xs:List ak)(b:ak)(s:Str):∀n,n<=xs.length->pW (xs++[b]) s n=pW xs s n
 | 0,_=>rfl
 | n+1,h=>by
  unfold pW;rw[List.getElem?_append_left (by omega),NP xs b s n (by omega)]
theorem xY(xs:List ak)(x s:Str)(v:af):nD (xs++[ak.mk x v]) s=bif x==s then v else nD xs s:=by
 unfold nD;rw[a6];show pW (xs++[ak.mk x v]) s (xs.length+1)=_
 rw[pW,List.getElem?_append_right (ar _),Nat.sub_self];show (bif x==s then v else pW (xs++[ak.mk x v]) s xs.length)=_
 rw[NP xs _ s _ (ar _)]
def extN(σ:Str->Str->Prop)(x x' s s':Str):Prop:=(s=x/\s'=x')\/(s≠x/\s'≠x'/\σ s s')
def SG(σ:Str->Str->Prop)(c c':List ak):Prop:=∀s s',σ s s'->nD c' s'=nD c s
theorem SG.bind{σ:Str->Str->Prop}{c c':List ak}(h:SG σ c c')(x x':Str)(v:af):SG (extN σ x x') (c++[ak.mk x v]) (c'++[ak.mk x' v]):=by
 intro s s' a;rw[xY,xY];rcases a with ⟨rfl,rfl⟩ | ⟨b,d,e⟩
 ·simp
 ·have f:(x==s)=false:=by simpa using Ne.symm b
  have g:(x'==s')=false:=by simpa using Ne.symm d
  rw[f,g];exact h s s' e
inductive Yr:(Str->Str->Prop)->au->au->Prop
 | mk (σ:Str->Str->Prop) (e e':au) (hk:e'.kind=e.kind) (hn:e'.n=e.n) (hl:e'.args.length=e.args.length) (h3:e.kind=3->σ e.text e'.text) (ht:e.kind≠3->e.kind≠7->e.kind≠9->e'.text=e.text)
   (h0:e.kind≠3->e.kind≠7->e.kind≠9->∀i,i<e.args.length->Yr σ (arg e i) (arg e' i)) (ha:e.kind=7\/e.kind=9->Yr σ (arg e 0) (arg e' 0)) (hb:e.kind=7\/e.kind=9->Yr (extN σ e.text e'.text) (arg e 1) (arg e' 1)):Yr σ e e'
variable (t':List aG) (w':bV)
def sw(m:aA):aA:=aA.mk t' w' m.cell m.version m.reads m.steps m.over
def swP{α:Type}(p:aA×α):aA×α:=(sw t' w' p.1,p.2)
def Good(a b:Int)(x:aG):Prop:=(rdE t' x).getD (resV w' a b x)=x.result
def Fine(a b:Int)(m c:aA):Prop:=m.cell=a/\m.version=b/\∀x,x∈c.reads->Good t' w' a b x
variable {t' w'}
theorem Fine.back{a b:Int}{m c d:aA}(h:Fine t' w' a b m d)(e:Ext c d):Fine t' w' a b m c:=⟨h.1,h.2.1,λx f=>h.2.2 x (e.mem f)⟩
theorem Fine.on{a b:Int}{m d e:aA}(h:Fine t' w' a b m e)(f:Ext m d):Fine t' w' a b d e:=⟨f.c.trans h.1,f.v.trans h.2.1,h.2.2⟩
theorem O1{a b:Int}{m:aA}{r:aG}(h:Fine t' w' a b m (Cj m r).1):Cj (sw t' w' m) r=swP t' w' (Cj m r):=by
 have c:=h.2.2 (aG.mk r.kind r.n (qF m r).time r.text (Ci m r)) (by show _∈m.reads++[_];simp);have d:Ci (sw t' w' m) r=Ci m r:=by
  have e:Ci (sw t' w' m) r=(rdE t' (aG.mk r.kind r.n (qF m r).time r.text (Ci m r))).getD (resV w' a b (aG.mk r.kind r.n (qF m r).time r.text (Ci m r))):=by
   rw[<- h.1,<- h.2.1];rfl
  rw[e];exact c
 unfold Cj swP;rw[d];rfl
theorem Vz{α β:Type}{a b:Int}{f:aA->α->aA×af}{g:aA->β->aA×af}:∀(xs:List α) (ys:List β) (m:aA),ys.length=xs.length->(∀m x,x∈xs->Ext m (f m x).1) ->
  (∀(i:Nat) x y m,xs[i]?=some x->ys[i]?=some y->Fine t' w' a b m (f m x).1->g (sw t' w' m) y=swP t' w' (f m x))->Fine t' w' a b m (evL f m xs).1->evL g (sw t' w' m) ys=swP t' w' (evL f m xs)
 | [],[],m,_,_,_,_=>rfl
 | [],_::_,_,h,_,_,_=>by simp at h
 | _::_,[],_,h,_,_,_=>by simp at h
 | x::r,y::s,m,l,j,h,hf=>by
  have n:=j m x aq;have k:∀m x,x∈r->Ext m (f m x).1:=λm y o=>j m y (ao _ o)
  cases c:(f m x).1.over with
  | true=>
   have d:evL f m (x::r)=((f m x).1,[]):=by unfold evL;rw[c];rfl
   rw[d]at hf ⊢;have e:=h 0 x y m rfl rfl hf;unfold evL;rw[e];show (bif (f m x).1.over then _ else _)=_
   rw[c];rfl
  | false=>
   have d:evL f m (x::r)=((evL f (f m x).1 r).1,(f m x).2::(evL f (f m x).1 r).2):=by rw[evL,c];rfl
   rw[d]at hf ⊢;have e:=h 0 x y m rfl rfl (hf.back (BR r _ k));have p:=Vz r s (f m x).1 (by simpa using l) k (λi a b m q t=>h (i+1) a b m q t) (hf.on n);rw[evL,e];show (bif (f m x).1.over then _ else ((evL g (sw t' w' (f m x).1) s).1,(f m x).2::(evL g (sw t' w' (f m x).1) s).2))=_
   rw[c,p];rfl
theorem Vw(p:aA×List af)(f:List af->af):fin (swP t' w' p) f=swP t' w' (fin p f):=by
 unfold fin;show (bif p.1.over then _ else _)=_
 cases p.1.over<;>rfl
theorem Tq{a b:Int}{m:aA}(p:aA×af)(k k':aA->af->aA×af)(e:∀v,Ext p.1 (k p.1 v).1)(d:Ext m p.1)(hf:Fine t' w' a b m (thn p k).1)(h:∀v,Fine t' w' a b p.1 (k p.1 v).1->k' (sw t' w' p.1) v=swP t' w' (k p.1 v)) :
  thn (swP t' w' p) k'=swP t' w' (thn p k):=by
 unfold thn at hf ⊢;show (bif p.1.over then _ else k' (sw t' w' p.1) p.2)=_
 cases c:p.1.over with
 | true=>rfl
 | false=>
  rw[c]at hf;exact h p.2 (Fine.on hf d)
theorem acU{a b:Int}{m:aA}(t:Str)(p:aA×List af)(g:Ext m p.1)(hf:Fine t' w' a b m (nV t p).1):nV t (swP t' w' p)=swP t' w' (nV t p):=by
 have hf:=hf.on g;unfold nV at hf ⊢;show (bif p.1.over then _ else _)=_
 cases c:p.1.over with
 | true=>rfl
 | false=>
  rw[c]at hf;simp only[aa]at hf ⊢;cases h:!CQ t with
  | true=>rfl
  | false=>
   rw[h]at hf;simp only[aa]at hf ⊢;cases e:t==[99,108,111,99,107]with
   | true=>rw[e]at hf;exact O1 hf
   | false=>
    rw[e]at hf;simp only[aa]at hf ⊢;show (bif (p.2.getD 0 zV).kind==6 then _ else _)=_
    cases i:(p.2.getD 0 zV).kind==6 with
    | true=>rfl
    | false=>
     rw[i]at hf;simp only[aa]at hf ⊢;cases f:t==[99,104,97,110,99,101]with
     | true=>
      rw[f]at hf;simp only[ab]at hf ⊢;show (bif (p.2.getD 0 zV).kind==1 then _ else _)=_
      cases d:(p.2.getD 0 zV).kind==1 with
      | true=>rw[d]at hf;exact O1 hf
      | false=>rfl
     | false=>
      rw[f]at hf;simp only[aa]at hf ⊢;show (bif (p.2.getD 0 zV).kind==2 then _ else _)=_
      cases d:(p.2.getD 0 zV).kind==2 with
      | true=>rw[d]at hf;exact O1 hf
      | false=>rfl
end Go.Proofs.YtjbajpfonnnfoaaGreatDoor
/- Plain laws: the two runs of the evaluator. -/
namespace Go.Proofs.YtjbajpfonnnfoaaGreatDoor
open Go.Abs Go.Proofs
variable {t':List aG} {w':bV}
theorem OV(p:aA×af)(k:aA->af->aA×af)(hk:∀v,Ext p.1 (k p.1 v).1):Ext p.1 (thn p k).1:=KR p k (.refl _) hk
theorem afh{a b:Int}:∀(d:Nat) (e e':au) (m:aA) (c c':List ak) (σ:Str->Str->Prop),ShX d e->ShX d e'->Yr σ e e'->SG σ c c'->Fine t' w' a b m (ev m e c).1->ev (sw t' w' m) e' c'=swP t' w' (ev m e c)
 | 0,e,_,_,_,_,_,k,_,_,_,_=>by cases k
 | d+1,e,e',m,c,c',σ,k,q,O,g,hf=>by
  rw[RN m e c k]at hf ⊢;rw[RN _ e' c' q];cases k with
  | mk d _ k0 k9 num tx tl al op two three cl u=>
  cases q with
  | mk d _ k0' k9' num' tx' tl' al' op' two' three' cl' C=>
  cases O with
  | mk σ e e' hk G P Q H w I J=>
  have sub:∀i,i<e.args.length->∀(m:aA) (c c':List ak) (σ':Str->Str->Prop),Yr σ' (arg e i) (arg e' i)->SG σ' c c'->Fine t' w' a b m (ev m (arg e i) c).1->ev (sw t' w' m) (arg e' i) c'=swP t' w' (ev m (arg e i) c):=
   λi o m c c' σ' R S T=>afh d _ _ m c c' σ' (u _ (dJ o)) (C _ (dJ (by omega))) R S T
  have X:∀(m:aA) (c:List ak) i,i<e.args.length->Ext m (ev m (arg e i) c).1:=λm c i o=>IW d _ m c (u _ (dJ o))
  have all:e.kind≠3->e.kind≠7->e.kind≠9->Fine t' w' a b m (evL (λm x=>ev m x c) (tick m) e.args).1->evL (λm x=>ev m x c') (sw t' w' (tick m)) e'.args=swP t' w' (evL (λm x=>ev m x c) (tick m) e.args):=λU V W hf=>
   Vz e.args e'.args (tick m) P (λm x k=>IW d x m c (u x k)) (λi x y m k z hf=>by
    have o:=(zC.1 k).1;have Y:arg e i=x:=by unfold arg;rw[zE,k];rfl
    have Z:arg e' i=y:=by unfold arg;rw[zE,z];rfl
    have:=sub i o m c c' σ (w U V W i o) g;rw[Y,Z]at this;exact this hf) (hf.on (OU m))
  unfold evB at hf ⊢;show (bif m.over||(m.steps==200)then _ else _)=_
  cases D:(m.over||(m.steps==200))with
  | true=>rfl
  | false=>
  rw[D]at hf;have j:=OU m;simp only[aa,hk]at hf ⊢;by_cases K:e.kind=1
  ·rw[K];show (sw t' w' (tick m),lX e'.n)=_
   rw[G];rfl
  by_cases L:e.kind=2
  ·rw[L];show (sw t' w' (tick m),C9 e'.text)=_
   rw[H (by omega) (by omega) (by omega)];rfl
  by_cases A:e.kind=3
  ·rw[A];show (sw t' w' (tick m),nD c' e'.text)=_
   rw[g _ _ (Q A)];rfl
  by_cases M:e.kind=4
  ·rw[M]at hf ⊢;simp only[show ((4:Int)==1)=false from rfl,show ((4:Int)==2)=false from rfl,show ((4:Int)==3)=false from rfl,beq_self_eq_true,aa,ab]at hf ⊢;rw[nN]at hf;show fin (evL (λm x=>ev m x c') (sw t' w' (tick m)) e'.args) gX=_
   rw[all (by omega) (by omega) (by omega) hf,Vw]
  by_cases N:e.kind=5
  ·rw[N]at hf ⊢;simp only[show ((5:Int)==1)=false from rfl,show ((5:Int)==2)=false from rfl,show ((5:Int)==3)=false from rfl,show ((5:Int)==4)=false from rfl,beq_self_eq_true,aa,ab]at hf ⊢;have l:Ext (evL (λm x=>ev m x c) (tick m) e.args).1 (nV e.text (evL (λm x=>ev m x c) (tick m) e.args)).1:=RJ _ _ (.refl _);show nV e'.text (evL (λm x=>ev m x c') (sw t' w' (tick m)) e'.args)=_
   rw[all (by omega) (by omega) (by omega) (hf.back l),H (by omega) (by omega) (by omega)];exact acU _ _ (j.trans (BR _ _ λm x k=>IW d x m c (u x k))) hf
  by_cases p:e.kind=7
  ·have l2:=two (.inl p);rw[p]at hf ⊢;simp only[show ((7:Int)==1)=false from rfl,show ((7:Int)==2)=false from rfl,show ((7:Int)==3)=false from rfl,show ((7:Int)==4)=false from rfl,show ((7:Int)==5)=false from rfl,beq_self_eq_true,aa,ab]at hf ⊢;have l:=X (tick m) c 0 (by omega);have r:=OV (ev (tick m) (arg e 0) c) (λm v=>ev m (arg e 1) (c++[ak.mk e.text v])) (λv=>X _ _ 1 (by omega));show thn (ev (sw t' w' (tick m)) (arg e' 0) c') _=_
   rw[sub 0 (by omega) (tick m) c c' σ (I (.inl p)) g ((hf.back r).on j)];exact Tq _ _ _ (λv=>X _ _ 1 (by omega)) (j.trans l) hf λv h=>sub 1 (by omega) _ _ _ _ (J (.inl p)) (g.bind _ _ v) h
  by_cases E:e.kind=8
  ·have l3:=three E;rw[E]at hf ⊢;simp only[show ((8:Int)==1)=false from rfl,show ((8:Int)==2)=false from rfl,show ((8:Int)==3)=false from rfl,show ((8:Int)==4)=false from rfl,show ((8:Int)==5)=false from rfl,show ((8:Int)==7)=false from rfl,beq_self_eq_true,aa,ab]at hf ⊢;have l:=X (tick m) c 0 (by omega);have s:∀v,Ext (ev (tick m) (arg e 0) c).1 ((λ(m:aA) (v:af)=>bif v.kind==6 then (m,v)else bif Em v then ev m (arg e 1) c else ev m (arg e 2) c) (ev (tick m) (arg e 0) c).1 v).1:=λv=>by
    show Ext _ (bif v.kind==6 then _ else _:aA×af).1
    cases v.kind==6 with
    | true=>exact .refl _
    | false=>
     cases Em v with
     | true=>exact X _ _ 1 (by omega)
     | false=>exact X _ _ 2 (by omega)
   have r:=OV (ev (tick m) (arg e 0) c) (λ(m:aA) (v:af)=>bif v.kind==6 then (m,v)else bif Em v then ev m (arg e 1) c else ev m (arg e 2) c) s;show thn (ev (sw t' w' (tick m)) (arg e' 0) c') _=_
   rw[sub 0 (by omega) (tick m) c c' σ (w (by omega) (by omega) (by omega) 0 (by omega)) g ((hf.back r).on j)];refine Tq _ _ _ s (j.trans l) hf λv h=>?_
   have h:Fine t' w' a b _ (bif v.kind==6 then ((ev (tick m) (arg e 0) c).1,v)else bif Em v then ev (ev (tick m) (arg e 0) c).1 (arg e 1) c else ev (ev (tick m) (arg e 0) c).1 (arg e 2) c).1:=h;show (bif v.kind==6 then _ else _)=_
   cases F:v.kind==6 with
   | true=>rfl
   | false=>
    rw[F]at h;simp only[aa]at h ⊢;cases B:Em v with
    | true=>rw[B]at h;exact sub 1 (by omega) _ _ _ _ (w (by omega) (by omega) (by omega) 1 (by omega)) g h
    | false=>rw[B]at h;exact sub 2 (by omega) _ _ _ _ (w (by omega) (by omega) (by omega) 2 (by omega)) g h
  by_cases k9:e.kind=9
  ·have l2:=two (.inr k9);rw[k9]at hf ⊢;simp only[show ((9:Int)==1)=false from rfl,show ((9:Int)==2)=false from rfl,show ((9:Int)==3)=false from rfl,show ((9:Int)==4)=false from rfl,show ((9:Int)==5)=false from rfl,show ((9:Int)==7)=false from rfl,show ((9:Int)==8)=false from rfl,beq_self_eq_true,aa,ab]at hf ⊢;have l:=X (tick m) c 0 (by omega);have t:∀v,Ext (ev (tick m) (arg e 0) c).1 ((λ(m:aA) (v:af)=>bif v.kind==6 then (m,v)else bif v.kind != 3 then (m,dI 4)else fin (evL (λm x=>ev m (arg e 1) (c++[ak.mk e.text x])) m v.list) gX) (ev (tick m) (arg e 0) c).1 v).1:=λv=>by
    show Ext _ (bif v.kind==6 then _ else _:aA×af).1
    cases v.kind==6 with
    | true=>exact .refl _
    | false=>
     cases v.kind != 3 with
     | true=>exact .refl _
     | false=>
      simp only[aa];rw[nN];exact BR _ _ λm x _=>X _ _ 1 (by omega)
   have r:=OV (ev (tick m) (arg e 0) c) (λ(m:aA) (v:af)=>bif v.kind==6 then (m,v)else bif v.kind != 3 then (m,dI 4)else fin (evL (λm x=>ev m (arg e 1) (c++[ak.mk e.text x])) m v.list) gX) t;show thn (ev (sw t' w' (tick m)) (arg e' 0) c') _=_
   rw[sub 0 (by omega) (tick m) c c' σ (I (.inr k9)) g ((hf.back r).on j)];refine Tq _ _ _ t (j.trans l) hf λv h=>?_
   have h:Fine t' w' a b _ (bif v.kind==6 then ((ev (tick m) (arg e 0) c).1,v)else bif v.kind != 3 then ((ev (tick m) (arg e 0) c).1,dI 4)else fin (evL (λm x=>ev m (arg e 1) (c++[ak.mk e.text x])) (ev (tick m) (arg e 0) c).1 v.list) gX).1:=h;show (bif v.kind==6 then _ else _)=_
   cases F:v.kind==6 with
   | true=>rfl
   | false=>
    rw[F]at h;simp only[aa]at h ⊢;cases B:v.kind != 3 with
    | true=>rfl
    | false=>
     rw[B]at h;simp only[aa]at h ⊢;rw[nN]at h;rw[Vz (f:=λm x=>ev m (arg e 1) (c++[ak.mk e.text x])) v.list v.list _ rfl (λm x _=>X _ _ 1 (by omega)) (λi x y m k z hf=>?_) h,Vw];rw[k]at z;cases z
     exact sub 1 (by omega) _ _ _ _ (J (.inr k9)) (g.bind _ _ x) hf
  have b1:(e.kind==1)=false:=by simpa using K
  have b2:(e.kind==2)=false:=by simpa using L
  have b3:(e.kind==3)=false:=by simpa using A
  have b4:(e.kind==4)=false:=by simpa using M
  have b5:(e.kind==5)=false:=by simpa using N
  have b7:(e.kind==7)=false:=by simpa using p
  have b8:(e.kind==8)=false:=by simpa using E
  have b9:(e.kind==9)=false:=by simpa using k9
  simp only[b1,b2,b3,b4,b5,b7,b8,b9,aa]at hf ⊢;rw[nN]at hf;show fin (evL (λm x=>ev m x c') (sw t' w' (tick m)) e'.args) _=_
  rw[all A p k9 hf,Vw,G]
end Go.Proofs.YtjbajpfonnnfoaaGreatDoor
/- Plain laws of merged reads and of tapes, with no program in sight. Plain laws: the functions on reads and tapes, both sides, are the plain ones. Plain laws: putting and copying of tapes, both sides. -/
namespace Go.Proofs.YtjbajpfonnnfoaaGreatDoor
open Go.Abs Go.Proofs
theorem ahV{t:Ty}:bZ B20 (.list t []):=dh (by simp) λx a=>(by cases a)
theorem TI(a b:List nS)(h:bZ B20 (.list (.base .tape) a)):A8 a b=some (eqd a b):=by
 have c:Fit B20 (.base .document) (jT.mk (iH.mk []) a []):=by
  rw[Gf,F9];exact⟨ahV,h,ahV⟩
 unfold A8;rw[ET _ _ c,zA,OY];rfl
theorem TJ(a b:List aG)(h:bZ B20 (.list (.base .read) a)):Ba a b=some (eqd a b):=by
 have z:bZ B20 (.int .i64 0):=.int .i64 _ (by decide);unfold Ba;rw[TI _ _ (dh (by simp) λx c=>by rw[List.mem_singleton.1 c,XK];exact⟨z,z,h⟩),zA];congr 1;rw[Bool.eq_iff_iff,ku,ku];simp
def bM(c:aS):Prop:=0<=c.i/\(c.b.length:Int)<=1048576
theorem agZ{X ρ σ:Type}{g:X->Option (X⊕ρ)}(pk:σ->X)(I:Nat->σ->Prop)(R:ρ->Prop)
  (d:∀n s,I n s->(∃s' m,m<n/\I m s'/\g (pk s)=some (.inl (pk s')))\/∃r,g (pk s)=some (.inr r)/\R r):∀n s,I n s->∃r,aO g (pk s)=some r/\R r:=by
 intro n;induction n using Nat.strongRecOn with
 | ind n ih=>
  intro s e;rcases d n s e with ⟨s',m,f,a,b⟩ | ⟨r,b,c⟩
  ·obtain⟨r,h,c⟩:=ih m f s' a;exact⟨r,by rw[aX,b];exact h,c⟩
  ·exact⟨r,by rw[aX,b],c⟩
theorem aaO(n:Int):0<=w64 ((BitVec.ofInt 64 n &&& BitVec.ofInt 64 255).toNat:Int)/\w64 ((BitVec.ofInt 64 n &&& BitVec.ofInt 64 255).toNat:Int)<=255:=by
 have h:(BitVec.ofInt 64 n &&& BitVec.ofInt 64 255).toNat<=255:=by
  rw[BitVec.toNat_and];exact Nat.le_trans Nat.and_le_right (by decide)
 rw[bQ (by omega) (by omega)];omega
theorem Gs{c:aS}(h:bM c):∃c' x,uh c=some (c',x)/\bM c'/\0<=x/\x<=255:=by
 obtain⟨d,e⟩:=h;unfold uh;by_cases a:c.i<(c.b.length:Int)
 ·obtain⟨y,f,_⟩:=ZG d a;rw[ae a,ab,f,zA];exact⟨_,_,rfl,⟨by show 0<=w64 (c.i+1);rw[bQ (by omega) (by omega)];omega,e⟩,aaO _⟩
 ·rw[ac a,aa];exact⟨_,_,rfl,⟨d,e⟩,aaO _⟩
theorem aaD{x n:Int}(a:0<=x)(b:0<n):∃r,Qb x n=some r/\0<=r/\r<n:=by
 unfold Qb;rw[if_neg (by omega)];exact⟨_,rfl,Int.tmod_nonneg _ a,Int.tmod_lt_of_pos _ b⟩
theorem gW{c:aS}(h:bM c)(n:Int):∃c' x,aU c n=some (c',x)/\bM c'/\0<=x/\(0<n->x<n):=by
 unfold aU;by_cases l:n<=0
 ·rw[ae l,ab];exact⟨c,0,rfl,h,by omega,λhh=>by omega⟩
 rw[ac l,aa];by_cases m:n<=256
 ·rw[ae m,ab];obtain⟨c1,x,e,f,p,q⟩:=Gs h;obtain⟨r,g,i,j⟩:=aaD p (n:=n) (by omega);simp only[e,g,zA];exact⟨c1,r,rfl,f,i,λ_=>j⟩
 ·rw[ac m,aa];obtain⟨c1,a,e,f,z,A⟩:=Gs h;obtain⟨c2,b,g,o,B,C⟩:=Gs f;obtain⟨c3,d,s,t,D,E⟩:=Gs o;obtain⟨c4,k,u,v,F,G⟩:=Gs t;have w:w64 ((w64 ((w64 ((w64 (a*16777216))+(w64 (b*65536))))+(w64 (d*256))))+k)=a*16777216+b*65536+d*256+k:=by
   rw[bQ (n:=a*16777216) (by omega) (by omega),bQ (n:=b*65536) (by omega) (by omega),bQ (n:=d*256) (by omega) (by omega),bQ (n:=a*16777216+b*65536) (by omega) (by omega),bQ (n:=a*16777216+b*65536+d*256) (by omega) (by omega),bQ (by omega) (by omega)]
  obtain⟨r,y,i,j⟩:=aaD (x:=a*16777216+b*65536+d*256+k) (n:=n) (by omega) (by omega);simp only[e,g,s,u,w,y,zA];exact⟨c4,r,rfl,v,i,λ_=>j⟩
theorem uq{c:aS}(h:bM c)(n:Int):∃c' b,dO c n=some (c',b)/\bM c':=by
 obtain⟨c',x,e,k,_⟩:=gW h n;unfold dO;rw[e];exact⟨c',_,rfl,k⟩
theorem Kz{c:aS}(h:bM c)(xs:List Str)(a:xs≠[]):∃c' s,iY c xs=some (c',s)/\bM c'/\s∈xs:=by
 have f:0<xs.length:=List.length_pos_iff.2 a;obtain⟨c',x,e,k,p,q⟩:=gW h xs.length;obtain⟨y,b,d⟩:=ZG p (q (by omega));unfold iY;simp only[e,b,zA];exact⟨c',y,rfl,k,zG d⟩
theorem Zf{c:aS}(h:bM c)(xs:List Int)(a:xs≠[]):∃c' s,lW c xs=some (c',s)/\bM c'/\s∈xs:=by
 have f:0<xs.length:=List.length_pos_iff.2 a;obtain⟨c',x,e,k,p,q⟩:=gW h xs.length;obtain⟨y,b,d⟩:=ZG p (q (by omega));unfold lW;simp only[e,b,zA];exact⟨c',y,rfl,k,zG d⟩
theorem aj7(a:List Int)(h:(a.length:Int)<=1048576):∃c,Uf a=some c/\bM c:=by
 unfold Uf;refine agZ (λ(s:Int×Nat)=>((a,s.1,(s.2:Int)):List Int×Int×Int)) (λn s=>n+s.2=a.length) bM (λn s f=>?_) a.length (_,0) (by simp);by_cases e:s.2<a.length
 ·have b:=zF e;simp only[dec_lt b,ab];by_cases d:(s.2:Int)<4000
  ·simp only[ae d,ab,aQ,b,zA,KZ b (lI h)];exact .inl ⟨(_,s.2+1),n-1,by omega,by simp only;omega,rfl⟩
  ·simp only[ac d,aa];exact .inr ⟨_,rfl,by simp[bM],h⟩
 ·have:decide ((s.2:Int)<(a.length:Int))=false:=by simp;omega
  simp only[this,aa];exact .inr ⟨_,rfl,by simp[bM],h⟩
theorem Ai{n:Int}(a:-1000000000<=n)(b:n<=1000000000):bZ B20 (.int .i64 n):=nU (dL a b)
theorem ajI{s:Str}(h:s.length<=1048576):bZ B20 (.str s):=Fz (by omega)
theorem ab2{c:aS}(h:bM c):∃c' r,EP c=some (c',r)/\bM c'/\(bZ B20 (.int .i64 r.kind)/\bZ B20 (.int .i64 r.n)/\bZ B20 (.int .i64 r.time)/\bZ B20 (.str r.text)):=by
 unfold EP;obtain⟨c1,d,e,f,s,g⟩:=gW h 3;obtain⟨c2,t,i,j,u,k⟩:=gW f 7;obtain⟨c3,a,l,m,b⟩:=Kz j [[102],[103],[104],[122]] (by simp);obtain⟨c4,v,o,p,w,q⟩:=gW m 3;simp only[e,i,l,o,zA];have:=g (by omega);have:=k (by omega);have:=q (by omega);refine⟨c4,_,rfl,p,?_,Ai (by simp only;omega) (by simp only;omega),Ai (by simp only;omega) (by simp only;omega),ajI ?_⟩
 ·show bZ B20 (.int .i64 (w64 (1+d)))
  rw[bQ (by omega) (by omega)];exact Ai (by omega) (by omega)
 ·show a.length<=1048576
  have:a.length=1:=by
   simp at b;rcases b with rfl | rfl | rfl | rfl<;>rfl
  omega
theorem ig{X ρ σ:Type}{g:X->Option (X⊕ρ)}(pk:σ->Nat->X)(n:Nat)(I:Nat->σ->Prop)(R:ρ->Prop)
  (d:∀i s,i<n->I i s->∃s',g (pk s i)=some (.inl (pk s' (i+1)))/\I (i+1) s') (hf:∀s,I n s->∃r,g (pk s n)=some (.inr r)/\R r) (s:σ) (f:I 0 s):∃r,aO g (pk s 0)=some r/\R r:=by
 have key:∀(k i:Nat) (s:σ),n=i+k->I i s->∃r,aO g (pk s i)=some r/\R r:=by
  intro k;induction k with
  | zero=>
   intro i s h a;have:i=n:=by omega
   subst this;obtain⟨r,e,b⟩:=hf s a;exact⟨r,by rw[aX,e],b⟩
  | succ k ih=>
   intro i s h a;obtain⟨s',e,c⟩:=d i s (by omega) a;obtain⟨r,e',b⟩:=ih (i+1) s' (by omega) c;exact⟨r,by rw[aX,e];exact e',b⟩
 exact key n 0 s (by omega) f
theorem cnt_lt{i n:Nat}(h:i<n):decide ((i:Int)<(n:Int))=true:=by simpa using h
theorem qG{i n:Nat}(h:i<n)(a:n<=1048576):w64 ((i:Int)+1)=((i+1:Nat):Int):=by
 rw[bQ (by omega) (by omega)];omega
theorem uT{n:Int}(h:0<=n):∃m:Nat,n=(m:Int):=⟨n.toNat,by omega⟩
theorem EW{k n t:Int}{s:Str}{v:af}(a:bZ B20 (.int .i64 k))(b:bZ B20 (.int .i64 n))(c:bZ B20 (.int .i64 t))(d:bZ B20 (.str s))(e:Fit B20 (.base .val) v):Fit B20 (.base .read) (aG.mk k n t s v):=by
 rw[AA];exact⟨a,b,c,d,e⟩
