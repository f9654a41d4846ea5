import Derived.Test.YtngjomkjlonfpaaGreatDoorRenV2
import Derived.Test.YtngjomkjlonfpaaGreatDoorLawsD
set_option linter.unusedSimpArgs false
set_option linter.unusedVariables false
/- Plain laws: ReplayOp is alike on both sides. -/
namespace Go.Proofs.YtngjomkjlonfpaaGreatDoor
open Go.Abs Go.Proofs
def PtS{X:Type}(o p:Option (X⊕(ak×Int))):Prop:=o=p\/(o=none/\∃n c,p=some (.inr (n,c))/\c≠0)
def Pt(o p:Option (ak×Int)):Prop:=o=p\/(o=none/\∃n c,p=some (n,c)/\c≠0)
theorem ak2(o:Option (ak×Int)):Pt o o:=.inl rfl
theorem ak3(n:ak)(c:Int)(h:c≠0):Pt none (some (n,c)):=.inr ⟨rfl,n,c,rfl,h⟩
theorem ao6{q:Bool}{o p o' p':Option (ak×Int)}(h:Pt o p)(a:Pt o' p'):Pt (bif q then o else o') (bif q then p else p'):=by cases q<;>assumption
theorem ak5{α:Type}(x:Option α){f g:α->Option (ak×Int)}(h:∀a,Pt (f a) (g a)):Pt (x.bind f) (x.bind g):=by
 cases x with
 | none=>exact .inl rfl
 | some a=>exact h a
theorem aiK{X:Type}(o:Option (X⊕(ak×Int))):PtS o o:=.inl rfl
theorem aiL{X:Type}(n:ak)(c:Int)(h:c≠0):PtS (X:=X) none (some (.inr (n,c))):=.inr ⟨rfl,n,c,rfl,h⟩
theorem ak1{X:Type}{q:Bool}{o p o' p':Option (X⊕(ak×Int))}(h:PtS o p)(a:PtS o' p'):PtS (bif q then o else o') (bif q then p else p'):=by cases q<;>assumption
theorem aiM{α X:Type}(x:Option α){f g:α->Option (X⊕(ak×Int))}(h:∀a,PtS (f a) (g a)):PtS (x.bind f) (x.bind g):=by
 cases x with
 | none=>exact .inl rfl
 | some a=>exact h a
theorem ao5{X:Type}{o p:Option (ak×Int)}(h:Pt o p):PtS (X:=X) (o.bind fun r=>some (.inr r)) (p.bind fun r=>some (.inr r)):=by
 rcases h with rfl | ⟨rfl,n,c,rfl,a⟩
 ·exact .inl rfl
 ·exact .inr ⟨rfl,n,c,rfl,a⟩
theorem ak4{X:Type}{f g:X->Option (X⊕(ak×Int))}(h:∀x,PtS (f x) (g x))(x:X):Pt (aA f x) (aA g x):=by
 cases d:aA g x with
 | none=>
  left;cases i:aA f x with
  | none=>rfl
  | some r=>
   obtain⟨n,a⟩:=qJ i;have key:∀(n:Nat) (x:X) (r:ak×Int),iter f n x=some r->aA g x=some r:=by
    intro n;induction n with
    | zero=>intro x r h;cases h
    | succ n ih=>
     intro x r a;unfold iter at a;rcases h x with e | ⟨e,_⟩
     ·rw[aH,<- e];cases b:f x with
      | none=>rw[b]at a;cases a
      | some y=>
       rw[b]at a;cases y with
       | inl y=>exact ih y r a
       | inr y=>exact a
     ·rw[e]at a;cases a
   rw[key n x r a]at d;cases d
 | some r=>
  obtain⟨n,a⟩:=qJ d;have key:∀(n:Nat) (x:X) (r:ak×Int),iter g n x=some r->Pt (aA f x) (some r):=by
   intro n;induction n with
   | zero=>intro x r h;cases h
   | succ n ih=>
    intro x r a;unfold iter at a;rcases h x with e | ⟨e,m,c,j,k⟩
    ·rw[aH,e];cases b:g x with
     | none=>rw[b]at a;cases a
     | some y=>
      rw[b]at a;cases y with
      | inl y=>exact ih y r a
      | inr y=>exact .inl a
    ·rw[j]at a;cases a
     rw[aH,e];exact .inr ⟨rfl,m,c,rfl,k⟩
  exact key n x r a
theorem adG(a:ak)(b c:Str)(d:Bool):Pt (oK a b c d) (qN a b c d):=by
 unfold oK qN;repeat' first
  | with_reducible exact ak2 _
  | with_reducible exact aiK _
  | exact ak3 _ _ (by decide)
  | exact aiL _ _ (by decide)
  | refine ao6 ?_ ?_
  | refine ak1 ?_ ?_
  | refine ak5 _ fun _=>?_
  | refine ao5 ?_
  | refine aiM _ fun _=>?_
  | refine ak4 (fun _=>?_) _
theorem adH{cs:List ah}{b c:Str}{d:Bool}{r:ak×Int}(h:qN ⟨cs⟩ b c d=some r):(r.2=0->oK ⟨cs⟩ b c d=some r)/\(r.2≠0->oK ⟨cs⟩ b c d=none\/oK ⟨cs⟩ b c d=some r):=by
 rcases adG ⟨cs⟩ b c d with e | ⟨e,n,k,a,f⟩
 ·rw[e,h];exact⟨fun _=>rfl,fun _=>.inr rfl⟩
 ·rw[h]at a;cases a
  exact⟨fun g=>absurd g f,fun _=>.inl e⟩
theorem uQ{X ρ:Type}{g:X->Option (X⊕ρ)}(pk:List ah->Nat->X)(cs:List ah)(F:Nat->ah->ah)(R:ρ->Prop)
  (j:∀i c s,cs[i]?=some c->s[i]?=some c->s.length=cs.length->g (pk s i)=some (.inl (pk (s.set i (F i c)) (i+1))))
  (l:∀s,s.length=cs.length->(∀k,s[k]?=(cs[k]?).map (F k))->∃r,g (pk s cs.length)=some (.inr r)/\R r):∃r,aA g (pk cs 0)=some r/\R r:=by
 refine dK pk cs (fun i s=>s.length=cs.length/\(∀k,k<i->s[k]?=(cs[k]?).map (F k))/\∀k,i<=k->s[k]?=cs[k]?) R (fun i c s a d=>.inl ?_) (fun s d=>?_) cs ⟨rfl,fun k b=>by omega,fun k _=>rfl⟩
 ·obtain⟨h1,h2,f⟩:=d;have hi:=(zC.1 a).1;have h:s[i]?=some c:=by rw[f i (az _),a]
  refine⟨_,j i c s a h h1,by simp[h1],fun k b=>?_,fun k b=>?_⟩
  ·by_cases e:k=i
   ·subst e;rw[List.getElem?_set_self (by omega),a];rfl
   ·rw[List.getElem?_set_ne (by omega)];exact h2 k (by omega)
  ·rw[List.getElem?_set_ne (by omega)];exact f k (by omega)
 ·obtain⟨h1,h2,f⟩:=d;refine l s h1 fun k=>?_
  by_cases b:k<cs.length
  ·exact h2 k b
  ·rw[zJ (by omega),zJ (by omega)];rfl
theorem ZI{X ρ:Type}{g:X->Option (X⊕ρ)}(pk:List ah->Nat->X)(cs:List ah)(F:Nat->ah->ah)
  (f:∀i c s,cs[i]?=some c->s[i]?=some c->s.length=cs.length->g (pk s i)=some (.inl (pk (s.set i (F i c)) (i+1))))
  (h:∀s,s.length=cs.length->(∀k,s[k]?=(cs[k]?).map (F k))->g (pk s cs.length)=none):aA g (pk cs 0)=none:=by
 have key:∀(m i:Nat) (s:List ah),cs.length=i+m->s.length=cs.length->(∀k,k<i->s[k]?=(cs[k]?).map (F k))->(∀k,i<=k->s[k]?=cs[k]?)->aA g (pk s i)=none:=by
  intro m;induction m with
  | zero=>
   intro i s hi h1 h2 b;have:i=cs.length:=by omega
   subst this;rw[aH,h s h1 fun k=>?_];by_cases a:k<cs.length
   ·exact h2 k a
   ·rw[zJ (by omega),zJ (by omega)];rfl
  | succ m ih=>
   intro i s hi h1 h2 b;obtain⟨c,d⟩:∃c,cs[i]?=some c:=⟨_,zF (by omega)⟩;rw[aH,f i c s d (by rw[b i (az _),d]) h1];refine ih (i+1) _ (by omega) (by simp[h1]) (fun k a=>?_) (fun k a=>?_)
   ·by_cases e:k=i
    ·subst e;rw[List.getElem?_set_self (by omega),d];rfl
    ·rw[List.getElem?_set_ne (by omega)];exact h2 k (by omega)
   ·rw[List.getElem?_set_ne (by omega)];exact b k (by omega)
 exact key cs.length 0 cs (by omega) rfl (fun k a=>by omega) fun k _=>rfl
def gQ(x:ah):ah:=⟨x.id,1,x.kind,x.name,x.code,x.n⟩
def BH(y x:ah):ah:=⟨x.id,y.version,x.kind,x.name,x.code,x.n⟩
def o9(cs o:List ah):List ah:=List.zipWith BH cs o
theorem aeM{cs o o':List ah}(h:o.map bare=o'.map bare):o9 cs o=o9 cs o':=by
 have e:∀o:List ah,o9 cs o=List.zipWith BH cs (o.map bare):=fun o=>by
  unfold o9;rw[List.zipWith_map_right];rfl
 rw[e o,e o',h]
theorem MC{cs o:List ah}(b:o.length<=cs.length)(k:Nat):(o9 cs o)[k]?=(o[k]?).map fun x=>BH ((cs[k]?).getD x) x:=by
 unfold o9;rw[List.getElem?_zipWith];cases a:o[k]? with
 | none=>cases cs[k]?<;>rfl
 | some x=>
  have c:=(zC.1 a).1;rw[zF (show k<cs.length by omega)];rfl
noncomputable def kept(cs:List ah)(b c:Str):List ah:=o9 cs (qG (cs.map gQ) b c false).1.cells
theorem KP{cs:List ah}(h:∀x,x∈cs->lJ x):∀x,x∈cs.map gQ->lJ x:=by
 intro x b;obtain⟨y,a,rfl⟩:=List.mem_map.1 b;exact⟨(h y a).1,(h y a).2⟩
theorem alg{cs:List ah}:∀x,x∈cs.map gQ->x.version=1:=by
 intro x a;obtain⟨y,b,rfl⟩:=List.mem_map.1 a;rfl
theorem alD(cs:List ah)(b c:Str)(u:cs.length<=1048576)(h:∀x,x∈cs->lJ x)(H:b.length<=34359738368)(I:c.length<=34359738368) :
  ((qG (cs.map gQ) b c false).2=0->kV ⟨cs⟩ b c=some (⟨kept cs b c⟩,true)/\qp ⟨cs⟩ b c=some (⟨kept cs b c⟩,true)) /\
  ((qG (cs.map gQ) b c false).2≠0->kV ⟨cs⟩ b c=none/\pM ⟨cs⟩ b c=some (⟨cs⟩,false)/\∃z,qp ⟨cs⟩ b c=some (z,false)):=by
 have v:(cs.map gQ).length<=1048576:=by simpa using u
 have J:=YL (cs.map gQ) b c false v (KP h) H I;have L:=acJ (cs.map gQ) b c v (KP h) H I;obtain⟨t1,M⟩:=aiB (cs.map gQ) b c alg;have hlen1:=QF (cs.map gQ) b c false;have hlen2:=QF (cs.map gQ) b c true;rw[List.length_map]at hlen1 hlen2;have K:=adH J;have B:kept cs b c=o9 cs (qG (cs.map gQ) b c true).1.cells:=(aeM M).symm;have C:kept cs b c=o9 cs (qG (cs.map gQ) b c false).1.cells:=rfl;generalize qG (cs.map gQ) b c false=P at *;generalize qG (cs.map gQ) b c true=Q at *;have one:∀s:List ah,(∀k,s[k]?=(cs[k]?).map gQ)->s=cs.map gQ:=fun s m=>List.ext_getElem? fun k=>by rw[m k,List.getElem?_map]
 have bk:∀(o s:List ah),o.length<=cs.length->(∀k,s[k]?=(o[k]?).map fun x=>BH ((cs[k]?).getD x) x)->s=o9 cs o:=fun o s N m=>List.ext_getElem? fun k=>by rw[m k,MC N]
 have A:∃r,qp ⟨cs⟩ b c=some r/\r=(⟨o9 cs Q.1.cells⟩,Q.2==0):=by
  unfold qp;rw[aiw cs u,zA];refine uQ (fun (s:List ah) (i:Nat)=>((b,c,cs,[],s,(i:Int)):Str×Str×(List ah)×(List ah)×(List ah)×Int)) cs (fun _ x=>gQ x) _ (fun i x s g d f=>?_) (fun s f m=>?_)
  ·simp only[dw d,ac,au,d,aD,zA,dn d (by omega)];rfl
  ·have j:=one s m;subst j;simp only[<- f,bG,aa,L,zA];suffices hh:∃r,aA (fun (a:(List ah)×(List ah)×(List ah)×Int×Int)=>
     bif (decide (a.2.2.2.2<(a.2.2.1.length:Int)))then
      (idx a.1 a.2.2.2.2).bind fun D=>
      (idx a.2.2.1 a.2.2.2.2).bind fun _=>
      (a.2.2.1[a.2.2.2.2.toNat]?).bind fun p=>
      some (.inl (a.1,a.2.1,a.2.2.1.set a.2.2.2.2.toNat (ah.mk p.id D.version p.kind p.name p.code p.n),a.2.2.2.1,w64 (a.2.2.2.2+1)))
     else
      some (.inr (ak.mk a.2.2.1,(a.2.2.2.1==0)))) (cs,[],Q.1.cells,Q.2,0)=some r/\r=(⟨o9 cs Q.1.cells⟩,Q.2==0) by
    obtain⟨r,e,E⟩:=hh;exact⟨r,by rw[e];rfl,E⟩
   refine uQ (fun (s:List ah) (i:Nat)=>((cs,[],s,Q.2,(i:Int)):(List ah)×(List ah)×(List ah)×Int×Int)) Q.1.cells (fun k x=>BH ((cs[k]?).getD x) x) _ (fun i x s g d l=>?_) (fun s l t=>?_)
   ·have hi:=(zC.1 g).1;obtain⟨y,F⟩:∃y,cs[i]?=some y:=⟨_,zF (by omega)⟩;simp only[dw d,ac,au,d,F,aD,zA,dn d (by omega)];rfl
   ·have:=bk _ s hlen2 t;subst this;simp only[<- l,bG,aa];exact⟨_,rfl,rfl⟩
 obtain⟨rs,A,rfl⟩:=A;have O:P.2=0->∃r,kV ⟨cs⟩ b c=some r/\r=(⟨o9 cs P.1.cells⟩,true):=fun q=>by
  have G:=K.1 q;unfold kV;rw[Y8 cs u,zA];refine uQ (fun (s:List ah) (i:Nat)=>((b,c,cs,[],s,(cs.length:Int),(i:Int)):Str×Str×(List ah)×(List ah)×(List ah)×Int×Int)) cs (fun _ x=>gQ x) _ (fun i x s g d f=>?_) (fun s f m=>?_)
  ·simp only[dw g,ac,au,d,aD,zA,dn g (by omega)];rfl
  ·have j:=one s m;subst j;simp only[bG,aa,G,zA,q,bne_self_eq_false];suffices hh:∃r,aA (fun (a:(List ah)×(List ah)×(List ah)×Int×Int)=>
     bif (decide (a.2.2.2.2<a.2.2.2.1))then
      (idx a.1 a.2.2.2.2).bind fun D=>
      (idx a.2.2.1 a.2.2.2.2).bind fun _=>
      (a.2.2.1[a.2.2.2.2.toNat]?).bind fun p=>
      some (.inl (a.1,a.2.1,a.2.2.1.set a.2.2.2.2.toNat (ah.mk p.id D.version p.kind p.name p.code p.n),a.2.2.2.1,w64 (a.2.2.2.2+1)))
     else
      some (.inr (ak.mk a.2.2.1,true))) (cs,[],P.1.cells,(P.1.cells.length:Int),0)=some r/\r=(⟨o9 cs P.1.cells⟩,true) by
    obtain⟨r,e,E⟩:=hh;exact⟨r,by rw[e];rfl,E⟩
   refine uQ (fun (s:List ah) (i:Nat)=>((cs,[],s,(P.1.cells.length:Int),(i:Int)):(List ah)×(List ah)×(List ah)×Int×Int)) P.1.cells (fun k x=>BH ((cs[k]?).getD x) x) _ (fun i x s g d l=>?_) (fun s l t=>?_)
   ·have hi:=(zC.1 g).1;obtain⟨y,F⟩:∃y,cs[i]?=some y:=⟨_,zF (by omega)⟩;simp only[dw g,ac,au,d,F,aD,zA,dn g (by omega)];rfl
   ·have:=bk _ s hlen1 t;subst this;simp only[bG,aa];exact⟨_,rfl,rfl⟩
 refine⟨fun q=>?_,fun q=>?_⟩
 ·obtain⟨r,e,rfl⟩:=O q;refine⟨by rw[e,C],?_⟩;rw[A,B,t1,q];rfl
 ·have w:(P.2 != 0)=true:=by simpa using q
  refine⟨?_,?_,⟨o9 cs Q.1.cells⟩,?_⟩
  ·unfold kV;rw[Y8 cs u,zA];refine ZI (fun (s:List ah) (i:Nat)=>((b,c,cs,[],s,(cs.length:Int),(i:Int)):Str×Str×(List ah)×(List ah)×(List ah)×Int×Int)) cs (fun _ x=>gQ x) (fun i x s g d f=>?_) (fun s f m=>?_)
   ·simp only[dw g,ac,au,d,aD,zA,dn g (by omega)];rfl
   ·have j:=one s m;subst j;rcases K.2 q with e | e
    ·simp only[bG,aa,e,Option.bind_none]
    ·simp only[bG,aa,e,zA,w,ac,Option.bind_none]
  ·suffices hh:∃r,pM ⟨cs⟩ b c=some r/\r=(⟨cs⟩,false) by
    obtain⟨r,e,rfl⟩:=hh;exact e
   unfold pM;rw[Y8 cs u,zA];refine uQ (fun (s:List ah) (i:Nat)=>((b,c,cs,[],s,(cs.length:Int),(i:Int)):Str×Str×(List ah)×(List ah)×(List ah)×Int×Int)) cs (fun _ x=>gQ x) _ (fun i x s g d f=>?_) (fun s f m=>?_)
   ·simp only[dw g,ac,au,d,aD,zA,dn g (by omega)];rfl
   ·have j:=one s m;subst j;simp only[bG,aa,J,zA,w,ac];exact⟨_,rfl,rfl⟩
  ·rw[A,t1];have:(P.2==0)=false:=by simpa using q
   rw[this]
end Go.Proofs.YtngjomkjlonfpaaGreatDoor
/- Plain laws: expressions of the reference: sizes, validity, text; every function is total. Plain laws: the text of numbers and of expressions of the reference: total, and short. -/
namespace Go.Proofs.YtngjomkjlonfpaaGreatDoor
open Go.Abs Go.Proofs
theorem aj7{α:Type}(xs:List α)(i:Nat)(h:i<=xs.length):cutAt xs (i:Int)=some i:=by
 unfold cutAt;rw[if_pos ⟨by omega,by omega⟩,aD]
theorem VW{e:af}:siz e.args<siz e:=by
 cases e;simp only[siz];rw[af.mk.sizeOf_spec];omega
theorem ZF{x:af}{xs:List af}(h:x∈xs):siz x+1<=siz xs:=by
 have:=List.sizeOf_lt_of_mem h;simp only[siz];omega
theorem kZ{x e:af}(h:x∈e.args):siz x+2<=siz e:=by
 have:=ZF h;have:=VW (e:=e);omega
theorem afP{l:List af}(h:aW B20 (.list (.base .expr) l)){x:af}(a:x∈l):aW B20 (.list (.base .expr) x.args)/\(x.text.length:Int)<=1048576:=by
 have:=h.bQ x a;rw[JH]at this;exact⟨this.2.2.2,AY this.2.2.1⟩
theorem tu{α X ρ σ:Type}{g:X->Option (X⊕ρ)}(pk:σ->Nat->X)(xs:List α)(I:Nat->σ->Prop)(R:ρ->Prop)
  (f:∀i x s,xs[i]?=some x->I i s->(∃s',g (pk s i)=some (.inl (pk s' (i+1)))/\I (i+1) s')\/∃r,g (pk s i)=some (.inr r)/\R r)
  (h:∀s,I xs.length s->∃r,g (pk s xs.length)=some (.inr r)/\R r) (s:σ) (j:I 0 s):∃r,aA g (pk s 0)=some r/\R r:=by
 have key:∀(k i:Nat) (s:σ),xs.length=i+k->I i s->∃r,aA g (pk s i)=some r/\R r:=by
  intro k;induction k with
  | zero=>
   intro i s hi b;have:i=xs.length:=by omega
   subst this;obtain⟨r,e,a⟩:=h s b;exact⟨r,by rw[aH,e],a⟩
  | succ k ih=>
   intro i s hi b;have c:i<xs.length:=by omega
   rcases f i _ s (zF c) b with ⟨s',e,d⟩ | ⟨r,e,a⟩
   ·obtain⟨r,e',a⟩:=ih (i+1) s' (by omega) d;exact⟨r,by rw[aH,e];exact e',a⟩
   ·exact⟨r,by rw[aH,e],a⟩
 exact key xs.length 0 s (by omega) j
theorem ajV(x:af):af.mk x.kind x.n x.text x.args=x:=by cases x;rfl
theorem Pz{α:Type}(f:α->Nat){xs:List α}{i:Nat}{x:α}(h:xs[i]?=some x):((xs.take (i+1)).map f).sum=((xs.take i).map f).sum+f x:=by
 obtain⟨hi,rfl⟩:=zC.1 h;rw[List.take_succ_eq_append_getElem hi,List.map_append,List.sum_append];simp
theorem agz(a b:Int):∃r,pF a b=some r:=by
 unfold pF;cases decide (a>b)<;>exact⟨_,rfl⟩
theorem Iw:∀(n:Nat) (e:af) (b:Int),siz e<n->aW B20 (.list (.base .expr) e.args)->0<=b->b<=1048576 ->
  ∃r,qy n e b=some r/\-1<=r/\r<=b-1/\(0<=r->3*r+(eH e:Int)<=3*b)
 | 0,e,b,h,_,_,_=>absurd h (Nat.not_lt_zero _)
 | n+1,e,b,u,k,v,h1=>by
  have ih:=Iw n;have m:=dX (dh k);show ∃r,yj (qy n) e b=some r/\_
  unfold yj;rw[bK (n:=b-1) (by omega) (by omega)];refine tu (fun (s:Int) (i:Nat)=>((s,e.kind,e.n,e.text,e.args,(i:Int)):Int×Int×Int×Str×(List af)×Int)) e.args
   (fun i s=>-1<=s/\s<=b-1/\(0<=s->3*s+3+(((e.args.take i).map eH).sum:Int)<=3*b)) _ (fun i x s a d=>?_) (fun s d=>?_) (b-1) ⟨by omega,by omega,fun _=>by simp;omega⟩
  ·obtain⟨f,g,j⟩:=d;have l:=zG a;by_cases c:s>=0
   ·obtain⟨r,o,p,w,q⟩:=ih x s (by have:=kZ l;omega) (afP k l).1 c (by omega);refine .inl ⟨r,?_,p,by omega,fun t=>?_⟩
    ·simp only[dec_lt a,ac,aq c,au,a,zA,aO,o,gG a m]
    ·have:=j c;have:=q t;rw[Pz eH a];omega
   ·refine .inr ⟨s,?_,f,g,fun h=>absurd h c⟩;simp only[dec_lt a,ac,ae c,aa]
  ·obtain⟨f,g,j⟩:=d;refine⟨s,by simp only[aT,aa],f,g,fun h=>?_⟩;have:=j h;rw[List.take_length]at this;rw[D7,jS];omega
theorem aal(e:af)(b:Int)(a:aW B20 (.list (.base .expr) e.args))(c:0<=b)(h1:b<=1048576) :
  ∃r,Iy e b=some r/\-1<=r/\r<=b-1/\(0<=r->3*r+(eH e:Int)<=3*b):=Iw _ e b (Nat.lt_succ_self _) a c h1
theorem BR:∀(n:Nat) (e:af),siz e<n->aW B20 (.list (.base .expr) e.args)->∃r,jg n e=some r/\True
 | 0,e,h,_=>absurd h (Nat.not_lt_zero _)
 | n+1,e,k,b=>by
  have ih:=BR n;have d:=dX (dh b);show ∃r,lN (jg n) e=some r/\_
  unfold lN;refine tu (fun (s:Int) (i:Nat)=>((e.kind,e.n,e.text,e.args,s,(i:Int)):Int×Int×Str×(List af)×Int×Int)) e.args (fun _ _=>True) _ (fun i x s a f=>?_) (fun s f=>?_) 0 trivial
  ·have c:=zG a;obtain⟨r,g,_⟩:=ih x (by have:=kZ c;omega) (afP b c).1;obtain⟨m,j⟩:=agz s r;refine .inl ⟨m,?_,trivial⟩;simp only[dec_lt a,ac,au,a,zA,aO,g,j,gG a d]
  ·exact⟨_,by simp only[aT,aa];rfl,trivial⟩
theorem Ur(e:af)(a:aW B20 (.list (.base .expr) e.args)):∃r,zK e=some r:=by
 obtain⟨r,h,_⟩:=BR _ e (Nat.lt_succ_self _) a;exact⟨r,h⟩
theorem Og(a:Str)(h:a.length<lim):∃v,fG a=some v/\(v=true->a.length<=20):=by
 unfold fG;refine tu (fun (_:Unit) (i:Nat)=>((a,(i:Int)):Str×Int)) a (fun _ _=>True) _ (fun i x s b c=>?_) (fun s c=>?_) () trivial
 ·simp only[dec_lt b,ac,au,b,zA,gG b h];cases decide ((x.toNat:Int)<32)with
  | true=>exact .inr ⟨false,rfl,fun h=>(by cases h)⟩
  | false=>
   cases decide ((x.toNat:Int)>126)with
   | true=>exact .inr ⟨false,rfl,fun h=>(by cases h)⟩
   | false=>
    cases ((x.toNat:Int)==34)with
    | true=>exact .inr ⟨false,rfl,fun h=>(by cases h)⟩
    | false=>exact .inl ⟨(),rfl,trivial⟩
 ·refine⟨_,by simp only[aT,aa];rfl,fun h=>?_⟩;simp at h;omega
theorem Qw(a:Str):∃v,ji a=some v:=by
 unfold ji oV;rw[zA,V5 _ _ (by decide)];exact⟨_,rfl⟩
theorem Uk(a:Str)(h:a.length<lim):∃v,bM a=some v/\(v=true->a.length<=8/\1<=a.length):=by
 obtain⟨b,e⟩:=Qw a;unfold bM;rw[MS a h,e];cases iw okc a 0 with
 | false=>exact⟨false,rfl,fun h=>(by cases h)⟩
 | true=>
  by_cases c:(a.length:Int)>0
  ·by_cases d:(a.length:Int)<=8
   ·rw[aq c,aq d];cases b with
    | true=>exact⟨false,rfl,fun h=>(by cases h)⟩
    | false=>exact⟨true,rfl,fun _=>⟨by omega,by omega⟩⟩
   ·rw[aq c,ae d];exact⟨false,rfl,fun h=>(by cases h)⟩
  ·rw[ae c];exact⟨false,rfl,fun h=>(by cases h)⟩
theorem IJ(a:Str):∃r,dP a=some r/\r<=4/\(0<=r->a.length<=6):=by
 unfold dP;have go:∀(w:Str) (k:Int) (z:Option Int),w.length<=6->k<=4->(∃r,z=some r/\r<=4/\(0<=r->a.length<=6))->∃r,(bif (a==w)then some k else z)=some r/\r<=4/\(0<=r->a.length<=6):=by
  intro w k z b c d;cases h:(a==w)with
  | true=>
   have e:=eq_of_beq h;exact⟨k,rfl,c,fun _=>by rw[e];exact b⟩
  | false=>exact d
 repeat refine go _ _ _ (by decide) (by decide) ?_
 exact⟨-1,rfl,by decide,fun h=>by omega⟩
structure Ob(e:af):Prop where
 k0:1<=e.kind
 k9:e.kind<=9
 num:e.kind=1->0<=e.n/\e.n<=1000000000
 text:e.text.length<=20
 call:e.kind=5->e.args.length<=4
 list:e.kind=4->e.args.length<=8
 op:e.kind=6->e.args.length=2/\1<=e.n/\e.n<=5
 two:e.kind=7\/e.kind=9->e.args.length=2
 three:e.kind=8->e.args.length=3
inductive AX:af->Prop
 | mk (e:af) (h:Ob e) (hs:∀x,x∈e.args->AX x):AX e
theorem aad(a b c:Int):∃v,lS a b c=some v/\(v=true->b<=a/\a<=c):=⟨_,fO a b c,fun h=>by simpa using h⟩
theorem aaj(e:af)(l:e.text.length<lim)(t:(e.args.length:Int)<=1048576):∃v,lT e=some v/\(v=true->Ob e):=by
 obtain⟨u,m,h1⟩:=aad e.n 0 1000000000;obtain⟨w,o,h2⟩:=Og e.text l;obtain⟨v3,p,f⟩:=Uk e.text l;obtain⟨x,q,y,g⟩:=IJ e.text;obtain⟨A,r,s⟩:=aad e.n 1 5;have no:∃v,(some false:Option Bool)=some v/\(v=true->Ob e):=⟨false,rfl,fun h=>(by cases h)⟩;have bb:∀(c:Bool) (z:Option Bool),(c=true->∃v,z=some v/\(v=true->Ob e))->∃v,(bif c then z else some false)=some v/\(v=true->Ob e):=by
  intro c z i;cases c with
  | true=>exact i rfl
  | false=>exact no
 have kk:∀(k:Int) (z z':Option Bool),(e.kind=k->∃v,z=some v/\(v=true->Ob e))->(¬e.kind=k->∃v,z'=some v/\(v=true->Ob e))->∃v,(bif (e.kind==k)then z else z')=some v/\(v=true->Ob e):=by
  intro k z z' i j;cases h:(e.kind==k)with
  | true=>exact i (eq_of_beq h)
  | false=>exact j (by simpa using h)
 unfold lT;simp only[m,o,p,q,r,zA];refine kk 1 _ _ (fun d=>bb _ _ fun b=>bb _ _ fun a=>⟨_,rfl,fun hv=>?_⟩) fun B=>?_
 ·have:=h1 hv;have a:=eq_of_beq a;exact⟨by omega,by omega,fun _=>this,by rw[a];simp,fun h=>by omega,fun h=>by omega,fun h=>by omega,fun h=>by omega,fun h=>by omega⟩
 refine kk 2 _ _ (fun d=>bb _ _ fun b=>bb _ _ fun a=>⟨_,rfl,fun hv=>?_⟩) fun C=>?_
 ·exact⟨by omega,by omega,fun h=>by omega,h2 hv,fun h=>by omega,fun h=>by omega,fun h=>by omega,fun h=>by omega,fun h=>by omega⟩
 refine kk 3 _ _ (fun d=>bb _ _ fun b=>bb _ _ fun a=>⟨_,rfl,fun hv=>?_⟩) fun D=>?_
 ·have:=f hv;exact⟨by omega,by omega,fun h=>by omega,by omega,fun h=>by omega,fun h=>by omega,fun h=>by omega,fun h=>by omega,fun h=>by omega⟩
 refine kk 4 _ _ (fun d=>bb _ _ fun b=>bb _ _ fun a=>⟨_,rfl,fun hv=>?_⟩) fun E=>?_
 ·have a:=eq_of_beq a;have hv:=of_decide_eq_true hv;exact⟨by omega,by omega,fun h=>by omega,by rw[a];simp,fun h=>by omega,fun h=>by omega,fun h=>by omega,fun h=>by omega,fun h=>by omega⟩
 refine kk 5 _ _ (fun d=>bb _ _ fun b=>⟨_,rfl,fun hv=>?_⟩) fun F=>?_
 ·have hv:=eq_of_beq hv;have:=g (by omega);exact⟨by omega,by omega,fun h=>by omega,by omega,fun h=>by omega,fun h=>by omega,fun h=>by omega,fun h=>by omega,fun h=>by omega⟩
 refine kk 6 _ _ (fun d=>bb _ _ fun b=>bb _ _ fun a=>⟨_,rfl,fun hv=>?_⟩) fun G=>?_
 ·have b:=eq_of_beq b;have a:=eq_of_beq a;have:=s hv;exact⟨by omega,by omega,fun h=>by omega,by rw[b];simp,fun h=>by omega,fun h=>by omega,fun _=>⟨by omega,this⟩,fun h=>by omega,fun h=>by omega⟩
 refine kk 7 _ _ (fun d=>bb _ _ fun b=>bb _ _ fun a=>⟨_,rfl,fun hv=>?_⟩) fun H=>?_
 ·have a:=eq_of_beq a;have:=f hv;exact⟨by omega,by omega,fun h=>by omega,by omega,fun h=>by omega,fun h=>by omega,fun h=>by omega,fun _=>by omega,fun h=>by omega⟩
 refine kk 9 _ _ (fun d=>bb _ _ fun b=>bb _ _ fun a=>⟨_,rfl,fun hv=>?_⟩) fun n9=>?_
 ·have a:=eq_of_beq a;have:=f hv;exact⟨by omega,by omega,fun h=>by omega,by omega,fun h=>by omega,fun h=>by omega,fun h=>by omega,fun _=>by omega,fun h=>by omega⟩
 refine kk 8 _ _ (fun d=>bb _ _ fun b=>bb _ _ fun a=>⟨_,rfl,fun hv=>?_⟩) fun I=>no
 ·have a:=eq_of_beq a;have hv:=eq_of_beq hv;exact⟨by omega,by omega,fun h=>by omega,by rw[a];simp,fun h=>by omega,fun h=>by omega,fun h=>by omega,fun h=>by omega,fun _=>by omega⟩
theorem Nr:∀(n:Nat) (e:af),siz e<n->Fit B20 (.base .expr) e->∃v,nP n e=some v/\(v=true->AX e)
 | 0,e,h,_=>absurd h (Nat.not_lt_zero _)
 | n+1,e,p,m=>by
  have ih:=Nr n;have a:=m;rw[JH]at a;have o:=dX (dh a.2.2.2);show ∃v,vk (nP n) e=some v/\_
  unfold vk;refine tu (fun (_:Unit) (i:Nat)=>((e.kind,e.n,e.text,e.args,(i:Int)):Int×Int×Str×(List af)×Int)) e.args (fun i _=>∀j x,e.args[j]?=some x->j<i->AX x) _ (fun i x s b d=>?_) (fun s d=>?_) () (fun j x _ c=>absurd c (Nat.not_lt_zero _))
  ·have l:=zG b;obtain⟨v,f,h1⟩:=ih x (by have:=kZ l;omega) (a.2.2.2.bQ x l);simp only[dec_lt b,ac,au,b,zA,aO,f,gG b o];cases v with
   | false=>exact .inr ⟨false,rfl,fun h=>(by cases h)⟩
   | true=>
    refine .inl ⟨(),rfl,fun j y g c=>?_⟩;by_cases k:j=i
    ·subst k;rw[b]at g;cases g
     exact h1 rfl
    ·exact d j y g (by omega)
  ·obtain⟨v,f,h1⟩:=aaj e (dX (AY a.2.2.1)) (dh a.2.2.2);refine⟨v,by simp only[aT,aa,ajV,f,zA],fun hv=>.mk e (h1 hv) fun x b=>?_⟩;obtain⟨j,c⟩:=List.mem_iff_getElem?.1 b;exact d j x c (zC.1 c).1
theorem adB(e:af)(a:Fit B20 (.base .expr) e):∃v,Iz e=some v/\(v=true->AX e):=Nr _ e (Nat.lt_succ_self _) a
theorem Oh(e:af)(c:Fit B20 (.base .expr) e):∃v,gU e=some v/\(v=true->AX e/\eH e<=120):=by
 have a:=c;rw[JH]at a;obtain⟨d,f,h1,h2,g⟩:=aal e 40 a.2.2.2 (by omega) (by omega);obtain⟨i,j⟩:=Ur e a.2.2.2;obtain⟨v,k,l⟩:=adB e c;unfold gU;simp only[aO,f,j,k,zA];by_cases b:d>=0
 ·rw[aq b,ac];cases decide (i<=8)with
  | true=>exact⟨v,rfl,fun hv=>⟨l hv,by have:=g b;omega⟩⟩
  | false=>exact⟨false,rfl,fun h=>(by cases h)⟩
 ·rw[ae b];exact⟨false,rfl,fun h=>(by cases h)⟩
theorem xB(a:Int)(g:0<=a)(h1:a<9223372036854775808):∃s,eF a=some s/\s.length<=19/\1<=s.length:=by
 unfold eF;by_cases d:a=0
 ·subst d;exact⟨_,rfl,by simp,by simp⟩
 have i:(a==0)=false:=by simpa using d
 have en:decide (a<0)=false:=by simp;omega
 rw[i,aa,en];have key:∀(n:Nat) (k:Int) (s:Str),0<=k->k<9223372036854775808->k<10 ^ n->s.length+n<=19->(k=0->1<=s.length)->∃t,aA (fun (b:Int×Bool×Str)=>
  bif (b.1 != 0)then
   bif (decide ((b.1.tmod 10)<0))then
    (gd ((bytesOf [w8 (w64 (48+(w64 (0-(b.1.tmod 10)))))]).length+b.2.2.length)).bind fun _=>
    some (.inl (w64 (b.1.tdiv 10),b.2.1,(bytesOf [w8 (w64 (48+(w64 (0-(b.1.tmod 10)))))])++b.2.2))
   else
    (gd ((bytesOf [w8 (w64 (48+(b.1.tmod 10)))]).length+b.2.2.length)).bind fun _=>
    some (.inl (w64 (b.1.tdiv 10),b.2.1,(bytesOf [w8 (w64 (48+(b.1.tmod 10)))])++b.2.2))
  else
   (
    bif b.2.1 then
     (gd ([45].length+b.2.2.length)).bind fun _=>
     some ([45]++b.2.2)
    else
     some (b.2.2)
   ).bind fun r=>some (.inr r)) (k,false,s)=some t/\t.length<=19/\1<=t.length:=by
  intro n
  induction n with
  | zero=>
   intro k s c _ e j h1
   have f:k=0:=by simp at e;omega
   subst f
   rw[aH]
   exact⟨s,rfl,by omega,h1 rfl⟩
  | succ n ih=>
   intro k s c l e j hpos
   rw[aH]
   by_cases d:k=0
   ·subst d;exact⟨s,rfl,by omega,hpos rfl⟩
   ·have m:(k != 0)=true:=by simpa using d
    have o:decide (k.tmod 10<0)=false:=by
     have:=Int.tmod_nonneg 10 c;simp;omega
    have q:gd ((bytesOf [w8 (w64 (48+(k.tmod 10)))]).length+s.length)=some ():=bZ (by simp[bytesOf];omega);have u:k.tdiv 10=k / 10:=by rw[Int.tdiv_eq_ediv_of_nonneg c]
    have v:w64 (k.tdiv 10)=k / 10:=by rw[u];exact bK (by omega) (by omega)
    simp only[m,o,ac,aa,q,zA,v];refine ih (k / 10) _ (by omega) (by omega) ?_ (by simp[bytesOf];omega) (fun _=>by simp[bytesOf]);have:(10:Int) ^ (n+1)=10 ^ n*10:=Int.pow_succ 10 n;rw[this]at e;generalize (10:Int) ^ n=p at e ⊢;omega
 exact key 19 a [] g h1 (by rw[show (10:Int) ^ 19=10000000000000000000 from rfl];omega) (by simp) (fun h=>absurd h d)
theorem vJ(s:Str):(kU s).length=s.length:=by unfold kU;rw[List.length_map]
theorem ab8(xs:List Int):(bytesOf xs).length=xs.length:=by unfold bytesOf;rw[List.length_map]
def lens(xs:List Str):Nat:=(xs.map List.length).sum
theorem Wq(xs:List Str)(x:Str):lens (xs++[x])=lens xs+x.length:=by simp[lens]
theorem aan(xs:List Str)(b:Str)(g:xs.length<lim)(k:lens xs+xs.length*b.length<=1000000):∃s,IA xs b=some s/\s.length<=lens xs+xs.length*b.length:=by
 unfold IA;refine tu (fun (s:List Int) (i:Nat)=>((xs,b,s,(i:Int)):(List Str)×Str×(List Int)×Int)) xs (fun i s=>s.length<=lens (xs.take i)+i*b.length) _ (fun i x s a c=>.inl ?_) (fun s c=>?_) [] (by simp)
 ·have hi:=(zC.1 a).1;have l:lens (xs.take (i+1))=lens (xs.take i)+x.length:=Pz List.length a;have h:lens (xs.take (i+1))<=lens xs:=akK _ (List.take_sublist _ _);have m:(i+1)*b.length<=xs.length*b.length:=Nat.mul_le_mul_right _ hi;have j:(i+1)*b.length=i*b.length+b.length:=Nat.succ_mul _ _;have d:gd (s.length+(kU b).length)=some ():=bZ (by rw[vJ];omega);have e:gd ((s++kU b).length+(kU x).length)=some ():=bZ (by rw[a7,vJ,vJ];omega);have f:gd (s.length+(kU x).length)=some ():=bZ (by rw[vJ];omega);simp only[dec_lt a,ac,au,a,zA,d,e,f,gG a g];cases decide ((i:Int)>0)with
  | true=>exact⟨_,rfl,by rw[a7,a7,vJ,vJ];omega⟩
  | false=>exact⟨_,rfl,by rw[a7,vJ];omega⟩
 ·rw[List.take_length]at c;exact⟨_,by simp only[aT,aa];rfl,by rw[ab8];exact c⟩
theorem MO(e:af):∃r,rH e=some r/\0<=r/\r<=4:=by
 have go:∀(c:Bool) (x y:Option Int),(∃r,x=some r/\0<=r/\r<=4)->(∃r,y=some r/\0<=r/\r<=4)->∃r,(bif c then x else y)=some r/\0<=r/\r<=4:=by
  intro c x y g i;cases c with
  | true=>exact g
  | false=>exact i
 have v:∀k:Int,0<=k->k<=4->∃r,(some k:Option Int)=some r/\0<=r/\r<=4:=fun k h j=>⟨k,rfl,h,j⟩
 have a:=v 0 (by decide) (by decide);have b:=v 1 (by decide) (by decide);have d:=v 2 (by decide) (by decide);have l:=v 3 (by decide) (by decide);have f:=v 4 (by decide) (by decide);unfold rH;exact go _ _ _ a (go _ _ _ a (go _ _ _ a (go _ _ _ (go _ _ _ b (go _ _ _ b (go _ _ _ d (go _ _ _ d (go _ _ _ l f))))) f)))
theorem XH(n:Int)(a:1<=n)(h1:n<=5):∃s,uh n=some s/\s.length<=2:=by
 unfold uh;have:n=1\/n=2\/n=3\/n=4\/n=5:=by omega
 rw[fO,aq a,aq h1];rcases this with rfl | rfl | rfl | rfl | rfl<;>exact⟨_,rfl,by decide⟩
theorem Jl{α:Type}{xs:List α}{n:Nat}(h:n<xs.length):∃x,idx xs ((n:Nat):Int)=some x/\x∈xs/\xs[n]?=some x:=by
 refine⟨xs[n],?_,List.getElem_mem h,zF h⟩;rw[au];exact zF h
theorem Pm{e:af}(h:e.args.length=2):∃a b,e.args=[a,b]:=by
 cases h1:e.args with
 | nil=>rw[h1]at h;cases h
 | cons a r=>cases r with
  | nil=>rw[h1]at h;cases h
  | cons b r=>cases r with
   | nil=>exact⟨a,b,rfl⟩
   | cons c r=>rw[h1]at h;simp at h
theorem acA{e:af}(h:e.args.length=3):∃a b c,e.args=[a,b,c]:=by
 cases h1:e.args with
 | nil=>rw[h1]at h;cases h
 | cons a r=>cases r with
  | nil=>rw[h1]at h;cases h
  | cons b r=>cases r with
   | nil=>rw[h1]at h;cases h
   | cons c r=>cases r with
    | nil=>exact⟨a,b,c,rfl⟩
    | cons d r=>rw[h1]at h;simp at h
theorem alp{α:Type}(f:α->Nat){xs:List α}{x:α}(h:x∈xs):f x<=(xs.map f).sum:=by
 induction xs with
 | nil=>cases h
 | cons y ys ih=>
  simp only[List.map_cons,List.sum_cons];rcases bc.1 h with rfl | h
  ·omega
  ·have:=ih h;omega
theorem aj8(e:af):3<=eH e:=by rw[D7];omega
theorem Io:∀(n:Nat),
  (∀e:af,siz e<n->AX e->eH e<=120->∃s,(bJ n).1 e=some s/\s.length+4<=22*eH e) /\
  (∀xs:List af,siz xs<n->(∀x,x∈xs->AX x)->nY xs<=120->∃s,(bJ n).2.1 xs=some s/\s.length<=22*nY xs) /\
  (∀(e:af) (b:Int),siz e+1<n->AX e->eH e<=120->∃s,(bJ n).2.2 e b=some s/\s.length+2<=22*eH e)
 | 0=>⟨fun _ h=>absurd h (Nat.not_lt_zero _),fun _ h=>absurd h (Nat.not_lt_zero _),fun _ _ h=>absurd h (Nat.not_lt_zero _)⟩
 | n+1=>by
  obtain⟨ihT,ihL,ihA⟩:=Io n;refine⟨fun e z hv y=>?_,fun xs z hv y=>?_,fun e b z hv y=>?_⟩
  ·show ∃s,yc (bJ n).1 (bJ n).2.1 (bJ n).2.2 e=some s/\_
   cases hv with
   | mk _ k g=>
   have K:=D7 e;have W:=k.text;have hargs:=VW (e:=e);unfold yc;cases G:(e.kind==1)with
   | true=>
    have:=k.num (eq_of_beq G);obtain⟨s,f,j,_⟩:=xB e.n (by omega) (by omega);exact⟨s,by simp only[ac,f,zA],by omega⟩
   | false=>
   cases L:(e.kind==2)with
   | true=>
    simp only[ac,aa];rw[bZ (by simp;omega),zA,bZ (by simp;omega),zA];exact⟨_,rfl,by simp;omega⟩
   | false=>
   cases M:(e.kind==3)with
   | true=>exact⟨e.text,rfl,by omega⟩
   | false=>
   cases k4:(e.kind==4)with
   | true=>
    obtain⟨s,f,j⟩:=ihL e.args (by omega) g (by omega);simp only[ac,aa,f,zA];rw[bZ (by simp;omega),zA,bZ (by simp;omega),zA];exact⟨_,rfl,by simp;omega⟩
   | false=>
   cases N:(e.kind==5)with
   | true=>
    obtain⟨s,f,j⟩:=ihL e.args (by omega) g (by omega);simp only[ac,aa,f,zA];rw[bZ (by simp;omega),zA,bZ (by simp;omega),zA,bZ (by simp;omega),zA];exact⟨_,rfl,by simp;omega⟩
   | false=>
   cases H:(e.kind==7)with
   | true=>
    obtain⟨a,b,d⟩:=Pm (k.two (.inl (eq_of_beq H)));have l:nY e.args=eH a+eH b:=by rw[d,jS];simp
    obtain⟨s,f,j⟩:=ihT a (by have:=kZ (x:=a) (e:=e) (by rw[d];simp);omega) (g a (by rw[d];simp)) (by omega);obtain⟨t,m,A⟩:=ihT b (by have:=kZ (x:=b) (e:=e) (by rw[d];simp);omega) (g b (by rw[d];simp)) (by omega);have p:idx e.args 0=some a:=by rw[d];rfl
    have q:idx e.args 1=some b:=by rw[d];rfl
    simp only[ac,aa,p,q,aO,f,m,zA];rw[bZ (by simp;omega),zA,bZ (by simp;omega),zA,bZ (by simp;omega),zA,bZ (by simp;omega),zA,bZ (by simp;omega),zA];exact⟨_,rfl,by simp;omega⟩
   | false=>
   cases k9:(e.kind==9)with
   | true=>
    obtain⟨a,b,d⟩:=Pm (k.two (.inr (eq_of_beq k9)));have l:nY e.args=eH a+eH b:=by rw[d,jS];simp
    obtain⟨s,f,j⟩:=ihT a (by have:=kZ (x:=a) (e:=e) (by rw[d];simp);omega) (g a (by rw[d];simp)) (by omega);obtain⟨t,m,A⟩:=ihT b (by have:=kZ (x:=b) (e:=e) (by rw[d];simp);omega) (g b (by rw[d];simp)) (by omega);have p:idx e.args 0=some a:=by rw[d];rfl
    have q:idx e.args 1=some b:=by rw[d];rfl
    simp only[ac,aa,p,q,aO,f,m,zA];rw[bZ (by simp;omega),zA,bZ (by simp;omega),zA,bZ (by simp;omega),zA,bZ (by simp;omega),zA,bZ (by simp;omega),zA];exact⟨_,rfl,by simp;omega⟩
   | false=>
   cases I:(e.kind==8)with
   | true=>
    obtain⟨a,b,c,d⟩:=acA (k.three (eq_of_beq I));have l:nY e.args=eH a+(eH b+eH c):=by rw[d,jS];simp
    obtain⟨s,f,j⟩:=ihT a (by have:=kZ (x:=a) (e:=e) (by rw[d];simp);omega) (g a (by rw[d];simp)) (by omega);obtain⟨t,m,A⟩:=ihT b (by have:=kZ (x:=b) (e:=e) (by rw[d];simp);omega) (g b (by rw[d];simp)) (by omega);obtain⟨u,B,O⟩:=ihT c (by have:=kZ (x:=c) (e:=e) (by rw[d];simp);omega) (g c (by rw[d];simp)) (by omega);have p:idx e.args 0=some a:=by rw[d];rfl
    have q:idx e.args 1=some b:=by rw[d];rfl
    have P:idx e.args 2=some c:=by rw[d];rfl
    simp only[ac,aa,p,q,P,aO,f,m,B,zA];rw[bZ (by simp;omega),zA,bZ (by simp;omega),zA,bZ (by simp;omega),zA,bZ (by simp;omega),zA,bZ (by simp;omega),zA];exact⟨_,rfl,by simp;omega⟩
   | false=>
    have Q:e.kind=6:=by
     have X:=k.k0;have Y:=k.k9;have Z:¬e.kind=1:=by simpa using G
     have n2:¬e.kind=2:=by simpa using L
     have n3:¬e.kind=3:=by simpa using M
     have n4:¬e.kind=4:=by simpa using k4
     have n5:¬e.kind=5:=by simpa using N
     have n7:¬e.kind=7:=by simpa using H
     have n8:¬e.kind=8:=by simpa using I
     have n9:¬e.kind=9:=by simpa using k9
     omega
    obtain⟨R,C,D⟩:=k.op Q;obtain⟨a,b,d⟩:=Pm R;have l:nY e.args=eH a+eH b:=by rw[d,jS];simp
    have za:=kZ (x:=a) (e:=e) (by rw[d];simp);have zb:=kZ (x:=b) (e:=e) (by rw[d];simp);obtain⟨r,E,S,T⟩:=MO e;obtain⟨s,f,j⟩:=ihA a 2 (by omega) (g a (by rw[d];simp)) (by omega);obtain⟨s',e1',l1'⟩:=ihA a r (by omega) (g a (by rw[d];simp)) (by omega);obtain⟨t,m,A⟩:=ihA b (w64 (r+1)) (by omega) (g b (by rw[d];simp)) (by omega);obtain⟨o,B,O⟩:=XH e.n C D;have p:idx e.args 0=some a:=by rw[d];rfl
    have q:idx e.args 1=some b:=by rw[d];rfl
    simp only[aa,p,q,aO,E,f,e1',m,B,zA];cases (r==1)with
    | true=>
     simp only[ac];rw[bZ (by simp;omega),zA,bZ (by simp;omega),zA,bZ (by simp;omega),zA,bZ (by simp;omega),zA];exact⟨_,rfl,by simp;omega⟩
    | false=>
     simp only[aa];rw[bZ (by simp;omega),zA,bZ (by simp;omega),zA,bZ (by simp;omega),zA,bZ (by simp;omega),zA];exact⟨_,rfl,by simp;omega⟩
  ·show ∃s,yg (bJ n).1 (bJ n).2.1 (bJ n).2.2 xs=some s/\_
   unfold yg;have U:3*xs.length<=nY xs:=by
    rw[jS];clear z hv y ihT ihL ihA;induction xs with
    | nil=>simp
    | cons x xs ih=>have:=aj8 x;simp only[List.map_cons,List.sum_cons,List.length_cons];omega
   have J:xs.length<lim:=by show xs.length<4611686018427387904;omega
   refine tu (fun (s:List Str) (i:Nat)=>((xs,s,(i:Int)):(List af)×(List Str)×Int)) xs (fun i s=>s.length=i/\lens s+4*i<=22*((xs.take i).map eH).sum) _ (fun i x s w v=>.inl ?_) (fun s v=>?_) [] ⟨rfl,by simp[lens]⟩
   ·have hi:=(zC.1 w).1;have F:=zG w;have V:eH x<=nY xs:=by
     rw[jS];exact alp eH F
    obtain⟨t,f,j⟩:=ihT x (by have:=ZF F;omega) (hv x F) (by omega);refine⟨s++[t],?_,by simp[v.1],?_⟩
    ·simp only[dec_lt w,ac,au,w,zA,aO,f,bZ (show s.length+([t]:List Str).length<=34359738368 by simp;omega),gG w J]
    ·have:=v.2;rw[Wq,Pz eH w];omega
   ·have h2:=v.2;rw[List.take_length,<- jS]at h2;obtain⟨t,f,j⟩:=aan s [44,32] (by rw[v.1];exact J) (by simp only[List.length_cons,List.length_nil];rw[v.1];omega);refine⟨t,by simp only[aT,aa,f,zA],?_⟩;simp only[List.length_cons,List.length_nil]at j;rw[v.1]at j;omega
  ·show ∃s,Iq (bJ n).1 (bJ n).2.1 (bJ n).2.2 e b=some s/\_
   unfold Iq;obtain⟨s,f,j⟩:=ihT e (by omega) hv y;obtain⟨r,E,S,T⟩:=MO e;simp only[aO,f,E,zA];cases decide (r<b)with
   | true=>
    simp only[ac];rw[bZ (by simp;omega),zA,bZ (by simp;omega),zA];exact⟨_,rfl,by simp;omega⟩
   | false=>exact⟨s,rfl,by omega⟩
theorem Qy(e:af)(a:Fit B20 (.base .expr) e):∃s,ig e=some s/\s.length<=2640:=by
 obtain⟨v,b,h1⟩:=Oh e a;unfold ig;rw[aO,b,zA];cases v with
 | false=>exact⟨_,rfl,by simp⟩
 | true=>
  obtain⟨hv,c⟩:=h1 rfl;obtain⟨s,d,f⟩:=(Io (siz e+1)).1 e (Nat.lt_succ_self _) hv c;refine⟨s,?_,by omega⟩;have:Ip e=some s:=d;simp only[aM,aa,this,zA]
end Go.Proofs.YtngjomkjlonfpaaGreatDoor
/- Plain laws: what is drawn is drawn, and is small. -/
namespace Go.Proofs.YtngjomkjlonfpaaGreatDoor
open Go.Abs Go.Proofs
def dM(c:bW):Prop:=0<=c.i/\(c.b.length:Int)<=1048576
theorem alu{X ρ σ:Type}{g:X->Option (X⊕ρ)}(pk:σ->X)(I:Nat->σ->Prop)(R:ρ->Prop)
  (d:∀n s,I n s->(∃s' m,m<n/\I m s'/\g (pk s)=some (.inl (pk s')))\/∃r,g (pk s)=some (.inr r)/\R r):∀n s,I n s->∃r,aA g (pk s)=some r/\R r:=by
 intro n;induction n using Nat.strongRecOn with
 | ind n ih=>
  intro s e;rcases d n s e with ⟨s',m,f,a,b⟩ | ⟨r,b,c⟩
  ·obtain⟨r,h,c⟩:=ih m f s' a;exact⟨r,by rw[aH,b];exact h,c⟩
  ·exact⟨r,by rw[aH,b],c⟩
theorem afz(n:Int):0<=w64 ((BitVec.ofInt 64 n &&& BitVec.ofInt 64 255).toNat:Int)/\w64 ((BitVec.ofInt 64 n &&& BitVec.ofInt 64 255).toNat:Int)<=255:=by
 have h:(BitVec.ofInt 64 n &&& BitVec.ofInt 64 255).toNat<=255:=by
  rw[BitVec.toNat_and];exact Nat.le_trans Nat.and_le_right (by decide)
 rw[bK (by omega) (by omega)];omega
theorem JQ{c:bW}(h:dM c):∃c' x,wL c=some (c',x)/\dM c'/\0<=x/\x<=255:=by
 obtain⟨h1,h2⟩:=h;unfold wL;by_cases hi:c.i<(c.b.length:Int)
 ·obtain⟨y,a,_⟩:=RX h1 hi;rw[aq hi,ac,a,zA];exact⟨_,_,rfl,⟨by show 0<=w64 (c.i+1);rw[bK (by omega) (by omega)];omega,h2⟩,afz _⟩
 ·rw[ae hi,aa];exact⟨_,_,rfl,⟨h1,h2⟩,afz _⟩
theorem afg{x n:Int}(a:0<=x)(b:0<n):∃r,agO x n=some r/\0<=r/\r<n:=by
 unfold agO;rw[if_neg (by omega)];exact⟨_,rfl,Int.tmod_nonneg _ a,Int.tmod_lt_of_pos _ b⟩
theorem jA{c:bW}(h:dM c)(n:Int):∃c' x,aY c n=some (c',x)/\dM c'/\0<=x/\(0<n->x<n):=by
 unfold aY;by_cases l:n<=0
 ·rw[aq l,ac];exact⟨c,0,rfl,h,by omega,fun hh=>by omega⟩
 rw[ae l,aa];by_cases h1:n<=256
 ·rw[aq h1,ac];obtain⟨m,x,e,f,p,q⟩:=JQ h;obtain⟨r,g,i,j⟩:=afg p (n:=n) (by omega);simp only[e,g,zA];exact⟨m,r,rfl,f,i,fun _=>j⟩
 ·rw[ae h1,aa];obtain⟨m,a,e,f,z,A⟩:=JQ h;obtain⟨B,b,g,o,C,D⟩:=JQ f;obtain⟨E,d,s,t,F,G⟩:=JQ o;obtain⟨u,k,v,k4,H,I⟩:=JQ t;have w:w64 ((w64 ((w64 ((w64 (a*16777216))+(w64 (b*65536))))+(w64 (d*256))))+k)=a*16777216+b*65536+d*256+k:=by
   rw[bK (n:=a*16777216) (by omega) (by omega),bK (n:=b*65536) (by omega) (by omega),bK (n:=d*256) (by omega) (by omega),bK (n:=a*16777216+b*65536) (by omega) (by omega),bK (n:=a*16777216+b*65536+d*256) (by omega) (by omega),bK (by omega) (by omega)]
  obtain⟨r,y,i,j⟩:=afg (x:=a*16777216+b*65536+d*256+k) (n:=n) (by omega) (by omega);simp only[e,g,s,v,w,y,zA];exact⟨u,r,rfl,k4,i,fun _=>j⟩
theorem zY{c:bW}(h:dM c)(n:Int):∃c' b,lF c n=some (c',b)/\dM c':=by
 obtain⟨c',x,e,k,_⟩:=jA h n;unfold lF;rw[e];exact⟨c',_,rfl,k⟩
theorem afk{c:bW}(h:dM c)(xs:List Str)(a:xs≠[]):∃c' s,dI c xs=some (c',s)/\dM c'/\s∈xs:=by
 have f:0<xs.length:=List.length_pos_iff.2 a;obtain⟨c',x,e,k,p,q⟩:=jA h xs.length;obtain⟨y,b,d⟩:=RX p (q (by omega));unfold dI;simp only[e,b,zA];exact⟨c',y,rfl,k,zG d⟩
theorem adJ{c:bW}(h:dM c)(xs:List Int)(a:xs≠[]):∃c' s,kR c xs=some (c',s)/\dM c'/\s∈xs:=by
 have f:0<xs.length:=List.length_pos_iff.2 a;obtain⟨c',x,e,k,p,q⟩:=jA h xs.length;obtain⟨y,b,d⟩:=RX p (q (by omega));unfold kR;simp only[e,b,zA];exact⟨c',y,rfl,k,zG d⟩
theorem ajd(a:List Int)(h:(a.length:Int)<=1048576):∃c,P9 a=some c/\dM c:=by
 unfold P9;refine alu (fun (s:Int×Nat)=>((a,s.1,(s.2:Int)):List Int×Int×Int)) (fun n s=>n+s.2=a.length) dM (fun n s e=>?_) a.length (_,0) (by simp);by_cases hi:s.2<a.length
 ·have b:=zF hi;simp only[dec_lt b,ac];by_cases d:(s.2:Int)<4000
  ·simp only[aq d,ac,au,b,zA,gG b (dX h)];exact .inl ⟨(_,s.2+1),n-1,by omega,by simp only;omega,rfl⟩
  ·simp only[ae d,aa];exact .inr ⟨_,rfl,by simp[dM],h⟩
 ·have:decide ((s.2:Int)<(a.length:Int))=false:=by simp;omega
  simp only[this,aa];exact .inr ⟨_,rfl,by simp[dM],h⟩
theorem nS{n:Int}(a:-1000000000<=n)(h1:n<=1000000000):aW B20 (.int .i64 n):=int0 (ahT a h1)
theorem PI{s:Str}(h:s.length<=1048576):aW B20 (.str s):=Ad (by omega)
theorem ajb{t:Ty}:aW B20 (.list t []):=gu (by simp) fun x a=>by cases a
theorem af2{k n:Int}(a:aW B20 (.int .i64 k))(b:aW B20 (.int .i64 n)):Fit B20 (.base .val) (aQ.mk k n 0 [] [] [] []):=by
 rw[JG];exact⟨a,b,nS (n:=0) (by omega) (by omega),adV,ajb,ajb,ajb⟩
theorem agP{c:bW}(h:dM c):∃c' r,CB c=some (c',r)/\dM c'/\(aW B20 (.int .i64 r.kind)/\aW B20 (.int .i64 r.n)/\aW B20 (.int .i64 r.time)/\aW B20 (.str r.text)):=by
 unfold CB;obtain⟨s,d,e,f,t,g⟩:=jA h 3;obtain⟨u,v,i,j,w,k⟩:=jA f 7;obtain⟨x,a,l,m,b⟩:=afk j [[102],[103],[104],[122]] (by simp);obtain⟨o,y,p,k4,z,q⟩:=jA m 3;simp only[e,i,l,p,zA];have:=g (by omega);have:=k (by omega);have:=q (by omega);refine⟨o,_,rfl,k4,?_,nS (by simp only;omega) (by simp only;omega),nS (by simp only;omega) (by simp only;omega),PI ?_⟩
 ·show aW B20 (.int .i64 (w64 (1+d)))
  rw[bK (by omega) (by omega)];exact nS (by omega) (by omega)
 ·show a.length<=1048576
  have:a.length=1:=by
   simp at b;rcases b with rfl | rfl | rfl | rfl<;>rfl
  omega
theorem pX{X ρ σ:Type}{g:X->Option (X⊕ρ)}(pk:σ->Nat->X)(n:Nat)(I:Nat->σ->Prop)(R:ρ->Prop)
  (d:∀i s,i<n->I i s->∃s',g (pk s i)=some (.inl (pk s' (i+1)))/\I (i+1) s') (f:∀s,I n s->∃r,g (pk s n)=some (.inr r)/\R r) (s:σ) (h:I 0 s):∃r,aA g (pk s 0)=some r/\R r:=by
 have key:∀(k i:Nat) (s:σ),n=i+k->I i s->∃r,aA g (pk s i)=some r/\R r:=by
  intro k;induction k with
  | zero=>
   intro i s hi a;have:i=n:=by omega
   subst this;obtain⟨r,e,b⟩:=f s a;exact⟨r,by rw[aH,e],b⟩
  | succ k ih=>
   intro i s hi a;obtain⟨s',e,c⟩:=d i s (by omega) a;obtain⟨r,e',b⟩:=ih (i+1) s' (by omega) c;exact⟨r,by rw[aH,e];exact e',b⟩
 exact key n 0 s (by omega) h
theorem cnt_lt{i n:Nat}(h:i<n):decide ((i:Int)<(n:Int))=true:=by simpa using h
theorem NV{i n:Nat}(h:i<n)(a:n<=1048576):w64 ((i:Int)+1)=((i+1:Nat):Int):=by
 rw[bK (by omega) (by omega)];omega
theorem Gx{n:Int}(h:0<=n):∃m:Nat,n=(m:Int):=⟨n.toNat,by omega⟩
theorem IQ{k n t:Int}{s:Str}{v:aQ}(h1:aW B20 (.int .i64 k))(h2:aW B20 (.int .i64 n))(a:aW B20 (.int .i64 t))(b:aW B20 (.str s))(c:Fit B20 (.base .val) v):Fit B20 (.base .read) (aN.mk k n t s v):=by
 rw[vV];exact⟨h1,h2,a,b,c⟩
theorem ah8{t:Ty}{xs:List t.den}{x:t.den}(h:aW B20 (.list t xs))(b:Fit B20 t x)(c:(xs.length:Int)+1<=1048576):aW B20 (.list t (xs++[x])):=
 gu (by rw[a7,List.length_singleton];omega) fun y a=>by
  rcases List.mem_append.1 a with a | a
  ·exact h.bQ y a
  ·rw[List.mem_singleton.1 a];exact b
theorem aga{c:bW}(h:dM c):∃c' l,Cj c=some (c',l)/\dM c'/\aW B20 (.list (.base .read) l)/\l.length<=3:=by
 obtain⟨B,n,C,D,E,F⟩:=jA h 4;have K:=F (by omega);obtain⟨m,rfl⟩:=Gx E;unfold Cj;simp only[C,zA];have:=pX (g:=fun (d:(List Int)×Int×Int×(List aN)×Int×Int)=>
  bif (decide (d.2.2.2.2.2<d.2.2.2.2.1))then
   (CB (bW.mk d.1 d.2.1 d.2.2.1)).bind fun a=>
   bif (a.2.kind != 2)then
    bif (a.2.kind != 3)then
     (fU (w64 (50+d.2.2.2.2.2))).bind fun q=>
     (gd (d.2.2.2.1.length+([aN.mk a.2.kind 0 a.2.time [] (dG q)]).length)).bind fun _=>
     some (.inl (a.1.b,a.1.i,a.1.h,d.2.2.2.1++([aN.mk a.2.kind 0 a.2.time [] (dG q)]),d.2.2.2.2.1,w64 (d.2.2.2.2.2+1)))
    else
     (fU (w64 (50+d.2.2.2.2.2))).bind fun t=>
     (gd (d.2.2.2.1.length+[aN.mk a.2.kind 0 a.2.time a.2.text (dG t)].length)).bind fun _=>
     some (.inl (a.1.b,a.1.i,a.1.h,d.2.2.2.1++[aN.mk a.2.kind 0 a.2.time a.2.text (dG t)],d.2.2.2.2.1,w64 (d.2.2.2.2.2+1)))
   else
    bif (a.2.kind != 3)then
     (fU (w64 (50+d.2.2.2.2.2))).bind fun u=>
     (gd (d.2.2.2.1.length+([aN.mk a.2.kind a.2.n a.2.time [] (dG u)]).length)).bind fun _=>
     some (.inl (a.1.b,a.1.i,a.1.h,d.2.2.2.1++([aN.mk a.2.kind a.2.n a.2.time [] (dG u)]),d.2.2.2.2.1,w64 (d.2.2.2.2.2+1)))
    else
     (fU (w64 (50+d.2.2.2.2.2))).bind fun v=>
     (gd (d.2.2.2.1.length+[aN.mk a.2.kind a.2.n a.2.time a.2.text (dG v)].length)).bind fun _=>
     some (.inl (a.1.b,a.1.i,a.1.h,d.2.2.2.1++[aN.mk a.2.kind a.2.n a.2.time a.2.text (dG v)],d.2.2.2.2.1,w64 (d.2.2.2.2.2+1)))
  else
   some (.inr (bW.mk d.1 d.2.1 d.2.2.1,d.2.2.2.1))) (fun (s:bW×List aN) (i:Nat)=>(s.1.b,s.1.i,s.1.h,s.2,(m:Int),(i:Int))) m
  (fun i s=>dM s.1/\aW B20 (.list (.base .read) s.2)/\s.2.length=i) (fun r=>dM r.1/\aW B20 (.list (.base .read) r.2)/\r.2.length<=3) (fun i s hi k=>?_) (fun s k=>?_) (B,[]) ⟨D,ajb,rfl⟩
 ·obtain⟨⟨c',l⟩,e,h1,h2,G⟩:=this;exact⟨c',l,e,h1,h2,G⟩
 ·obtain⟨o,p,w⟩:=k;obtain⟨c',r,e,kc,f,y,j,A⟩:=agP o;have hv:Fit B20 (.base .val) (aQ.mk 1 (50+(i:Int)) 0 [] [] [] []):=af2 (nS (by omega) (by omega)) (nS (by omega) (by omega));have H:w64 (50+(i:Int))=50+(i:Int):=bK (by omega) (by omega);have I:∀x:aN,gd (s.2.length+[x].length)=some ():=fun x=>bZ (by simp;omega)
  have z:aW B20 (.int .i64 0):=nS (by omega) (by omega);simp only[cnt_lt hi,ac,e,zA,fU,H,jr,I,NV hi (show m<=1048576 by omega)];have go:∀x:aN,Fit B20 (.base .read) x->∃s':bW×List aN,(some (.inl (c'.b,c'.i,c'.h,s.2++[x],(m:Int),((i+1:Nat):Int))):Option (((List Int)×Int×Int×(List aN)×Int×Int)⊕(bW×List aN)))=some (.inl (s'.1.b,s'.1.i,s'.1.h,s'.2,(m:Int),((i+1:Nat):Int)))/\dM s'.1/\aW B20 (.list (.base .read) s'.2)/\s'.2.length=i+1:=fun x J=>
   ⟨(c',s.2++[x]),rfl,kc,ah8 p J (by omega),by simp[w]⟩
  cases (r.kind != 2)<;>cases (r.kind != 3)
  ·exact go _ (IQ f y j A hv)
  ·exact go _ (IQ f y j adV hv)
  ·exact go _ (IQ f z j A hv)
  ·exact go _ (IQ f z j adV hv)
 ·obtain⟨o,p,w⟩:=k;refine⟨(s.1,s.2),by simp only[aT,aa],o,p,by show s.2.length<=3;omega⟩
end Go.Proofs.YtngjomkjlonfpaaGreatDoor
