import Derived.Test.YtbbmkcioplbhbaaGreatDoorBasic
import Derived.Test.YtbbmkcioplbhbaaGreatDoorComp1
import Derived.Test.YtbbmkcioplbhbaaGreatDoorFree1
set_option linter.unusedSimpArgs false
set_option linter.unusedVariables false
/- Plain laws of marks, by genmark.py. -/
namespace Go.Proofs.YtbbmkcioplbhbaaGreatDoor
noncomputable section
open Go.Abs Go.Proofs
def ZA(xs:List Int):Prop:=xs.length<4611686018427387904
def LD(xs:List Str):Prop:=xs.length<4611686018427387904
theorem oh(a:Bool):(!(a==a))=false:=by simp
theorem MX(xs:List Int)(b:xs.length<4611686018427387904):Vk xQ Dt xs (qB xs):=by
 refine kF (mk:=xQ) (hd:=Dt) (fun _ _=>rfl) (fun _ _=>rfl) (fun _=>1) (fun _=>True) (fun xs i x k c f b g h=>?_) (fun xs k=>?_) (fun xs k=>?_) xs (fun _ _=>trivial) b
 ·have d:w64 (k+1)=k+1:=aT (by omega) (by omega);refine⟨k,?_,fun ys e a=>?_⟩
  ·simp only[dec_lt c,ac,aA,aD,c,zA,d,eF c b];rfl
  ·simp only[dec_lt a,ac,aA,a,zA,d,eF a e,jf,jr,aa];rfl
 ·simp only[Int.lt_irrefl,decide_false,aa]
 ·simp only[Int.lt_irrefl,decide_false,aa]
theorem aaP{xs:List Int}(h:aW B24 (.list (.base .int) xs)):ZA xs/\qB xs<=16777216:=by
 have a:=uI h;refine⟨by unfold ZA;omega,?_⟩;have:=Pm (fun _=>1) xs 1 (fun _ _=>az 1);unfold qB;omega
theorem CB(xs:List Str)(b:xs.length<4611686018427387904):Vk oq oG xs (gy xs):=by
 refine kF (mk:=oq) (hd:=oG) (fun _ _=>rfl) (fun _ _=>rfl) (fun _=>1) (fun _=>True) (fun xs i x k c h b j l=>?_) (fun xs k=>?_) (fun xs k=>?_) xs (fun _ _=>trivial) b
 ·have d:w64 (k+1)=k+1:=aT (by omega) (by omega);obtain⟨f,e⟩:=iQ k (by omega) (by omega);refine⟨f,?_,fun ys g a=>?_⟩
  ·simp only[dec_lt c,ac,aA,aD,c,zA,d,eF c b,e];rfl
  ·simp only[dec_lt a,ac,aA,a,zA,d,eF a g,jf,jr,aa,e];rfl
 ·simp only[Int.lt_irrefl,decide_false,aa]
 ·simp only[Int.lt_irrefl,decide_false,aa]
theorem MO{xs:List Str}(h:aW B24 (.list (.base .str) xs)):LD xs/\gy xs<=16777216:=by
 have a:=uI h;refine⟨by unfold LD;omega,?_⟩;have:=Pm (fun _=>1) xs 1 (fun _ _=>az 1);unfold gy;omega
def LH(x:bQ):Prop:=True
def LG(xs:List bQ):Prop:=(∀x,x∈xs->LH x)/\xs.length<4611686018427387904
theorem QN(xs:List bQ)(h:LG xs):Vk vS vY xs (uX xs):=by
 refine kF (mk:=vS) (hd:=vY) (fun _ _=>rfl) (fun _ _=>rfl) lM LH (fun xs i x k b n e o f=>?_) (fun xs k=>?_) (fun xs k=>?_) xs h.1 h.2
 ·unfold lM at f;obtain⟨k0,g⟩:∃m:Int,m=k+1:=⟨_,rfl⟩;have w0:w64 (k+1)=k0:=by rw[g];exact aT (by omega) (by omega)
  obtain⟨c,j⟩:∃m:Int,m=k0+1:=⟨_,rfl⟩;have d:w64 (k0+1)=c:=by rw[j];exact aT (by omega) (by omega)
  have hsum:c=k+(lM x:Nat):=by unfold lM;omega
  refine⟨bQ.mk k k0,?_,fun ys l a=>?_⟩
  ·simp only[dec_lt b,ac,aA,aD,b,yV b,List.set_set,zA,eF b e,w0,d,dn,aS,eH,jo];rw[hsum]
  ·simp only[dec_lt a,ac,aA,a,zA,eF a l,jf,jr,oh,aa,w0,d,dn,aS,eH,jo];rw[hsum]
 ·simp only[Int.lt_irrefl,decide_false,aa]
 ·simp only[Int.lt_irrefl,decide_false,aa]
theorem adQ{xs:List bQ}(h:aW B24 (.list (.base .origin) xs)):LG xs:=by
 have a:=uI h;refine⟨fun x b=>?_,by omega⟩;unfold LH;trivial
def Zz(x:bD):Prop:=ZA x.cells/\LG x.orig
def ae0(xs:List bD):Prop:=(∀x,x∈xs->Zz x)/\xs.length<4611686018427387904
theorem MW(xs:List bD)(h:ae0 xs):Vk xP yD xs (qA xs):=by
 refine kF (mk:=xP) (hd:=yD) (fun _ _=>rfl) (fun _ _=>rfl) sO Zz (fun xs i x k b g l y n=>?_) (fun xs k=>?_) (fun xs k=>?_) xs h.1 h.2
 ·unfold sO at n;unfold Zz at g;obtain⟨o,p⟩:=g;obtain⟨q,c,d⟩:=MX x.cells o k (by omega) (by omega);obtain⟨k0,r⟩:∃m:Int,m=k+(qB x.cells:Nat):=⟨_,rfl⟩;rw[<- r]at c d;have s:decide (k0<0)=false:=ae (by omega);obtain⟨t,e,f⟩:=QN x.orig p k0 (by omega) (by omega);obtain⟨j,u⟩:∃m:Int,m=k0+(uX x.orig:Nat):=⟨_,rfl⟩;rw[<- u]at e f;have v:decide (j<0)=false:=ae (by omega);have hsum:j=k+(sO x:Nat):=by unfold sO;omega
  refine⟨bD.mk q t,?_,fun ys w a=>?_⟩
  ·simp only[dec_lt b,ac,aA,aD,b,yV b,List.set_set,zA,eF b l,c,d,e,f,dn,aS,eH,jo];rw[hsum]
  ·simp only[dec_lt a,ac,aA,a,zA,eF a w,jf,jr,oh,aa,c,d,e,f,s,v,dn,aS,eH,jo];rw[hsum]
 ·simp only[Int.lt_irrefl,decide_false,aa]
 ·simp only[Int.lt_irrefl,decide_false,aa]
theorem afC{xs:List bD}(h:aW B24 (.list (.base .row) xs)):ae0 xs:=by
 have b:=uI h;refine⟨fun x a=>?_,by omega⟩;unfold Zz;have f:=h.bW x a;rw[EL]at f;obtain⟨f_0,f_1⟩:=f;exact⟨aaP f_0 |>.1,adQ f_1⟩
def dV(x:aF):Nat:=aF.rec (motive_1:=fun _=>Nat) (motive_2:=fun _=>Nat) (fun _ _ _ _ _ _ _ ih=>ih+1) 0 (fun _ _ a b=>max a b) x
def dVs(xs:List aF):Nat:=aF.rec_1 (motive_1:=fun _=>Nat) (motive_2:=fun _=>Nat) (fun _ _ _ _ _ _ _ ih=>ih+1) 0 (fun _ _ a b=>max a b) xs
theorem acd(x:aF):dV x=dVs x.list+1:=by cases x;rfl
theorem ab9(x:aF)(xs:List aF):dVs (x::xs)=max (dV x) (dVs xs):=rfl
theorem akD{d:Nat}:∀ {xs:List aF},(∀x,x∈xs->dV x<=d)->dVs xs<=d
 | [],_=>Nat.zero_le _
 | x::xs,h=>Nat.max_le.2 ⟨h x aw,akD fun y a=>h y (ar _ a)⟩
theorem Zo{d:Nat}:∀ {xs:List aF},dVs xs<=d->∀x,x∈xs->dV x<=d
 | [],_,x,a=>by cases a
 | y::ys,h,x,a=>by
  have b:max (dV y) (dVs ys)<=d:=h;have h2:=Nat.max_le.1 b;rcases bc.1 a with rfl | a
  ·exact h2.1
  ·exact Zo h2.2 x a
theorem Wu:∀ {xs ys:List aF},ys.length=xs.length->(∀(i:Nat) (x y:aF),xs[i]?=some x->ys[i]?=some y->dV y=dV x)->dVs ys=dVs xs
 | [],[],_,_=>rfl
 | x::xs,y::ys,c,h=>by
  rw[ab9,ab9,h 0 x y rfl rfl,Wu (by simpa using c) fun i a b d e=>h (i+1) a b (by simpa using d) (by simpa using e)]
theorem Zn:∀n (xs:List aF),siz xs<n->dVs xs<=siz xs
 | 0,xs,h=>absurd h (Nat.not_lt_zero _)
 | n+1,xs,h=>akD fun x a=>by
   have h1:=D6 a;have h2:=wS (v:=x);have b:=Zn n x.list (by omega);rw[acd];omega
def TG(xs:List aF):Prop:=aW B24 (.list (.base .val) xs)
theorem Uw:∀(d:Nat) (xs:List aF),dVs xs<=d->TG xs->∀k:Int,0<=k->k+fJ xs<=4611686018427387904 ->
  ∃ys,dVs ys=dVs xs/\∀j:Nat×Nat,(d<j.1/\d<j.2)->kE j.1 xs k=some (ys,k+(fJ xs:Nat))/\lK j.2 ys k=some (k+(fJ xs:Nat)):=by
 intro d;induction d with
 | zero=>
  intro xs hd v k F A;have q:xs=[]:=by
   cases xs with
   | nil=>rfl
   | cons x xs=>have:=Zo hd x aw;rw[acd]at this;omega
  subst q;refine⟨[],rfl,fun j t=>?_⟩;obtain⟨a,b⟩:=j;obtain⟨h1,h2⟩:=t;match a,b,h1,h2 with
  | a+1,b+1,_,_=>
   have e:k+(fJ []:Nat)=k:=by show k+((0:Nat):Int)=k;omega
   rw[e];constructor
   ·show Cm (kE a) [] k=_
    unfold Cm;rw[aC];rfl
   ·show Dq (lK b) [] k=_
    unfold Dq;rw[aC];rfl
 | succ d ih=>
  intro xs hd v k F A;have O:=uI v;rw[Am]at A ⊢;have M:=ahc (ι:=Nat×Nat) (J:=fun j=>d+1<j.1/\d+1<j.2) (mk:=fun j=>kE j.1) (hd:=fun j=>lK j.2)
   (g:=fun j=>(fun (x:List aF×Int×Int)=>
     bif (decide (x.2.1<(x.1.length:Int)))then
      (idx x.1 x.2.1).bind fun _=>
      (x.1[x.2.1.toNat]?).bind fun u=>
      (some (x.1.set x.2.1.toNat (aF.mk x.2.2 u.n u.step u.text u.list u.columns u.rows))).bind fun G=>
      (idx G x.2.1).bind fun _=>
      (G[x.2.1.toNat]?).bind fun m=>
      (some (G.set x.2.1.toNat (aF.mk m.kind (w64 (x.2.2+1)) m.step m.text m.list m.columns m.rows))).bind fun H=>
      (idx H x.2.1).bind fun _=>
      (H[x.2.1.toNat]?).bind fun p=>
      (some (H.set x.2.1.toNat (aF.mk p.kind p.n (w64 ((w64 (x.2.2+1))+1)) p.text p.list p.columns p.rows))).bind fun I=>
      (dS (w64 ((w64 ((w64 (x.2.2+1))+1))+1))).bind fun V=>
      (idx I x.2.1).bind fun _=>
      (I[x.2.1.toNat]?).bind fun z=>
      (some (I.set x.2.1.toNat (aF.mk z.kind z.n z.step V z.list z.columns z.rows))).bind fun E=>
      (idx E x.2.1).bind fun _=>
      (E[x.2.1.toNat]?).bind fun W=>
      (E[x.2.1.toNat]?).bind fun f=>
      ((kE (j.1-1)) f.list (w64 ((w64 ((w64 ((w64 (x.2.2+1))+1))+1))+1))).bind fun o=>
      (some (E.set x.2.1.toNat (aF.mk f.kind f.n f.step f.text o.1 f.columns f.rows))).bind fun r=>
      (idx r x.2.1).bind fun _=>
      (r[x.2.1.toNat]?).bind fun X=>
      (r[x.2.1.toNat]?).bind fun h=>
      (oq h.columns o.2).bind fun B=>
      (some (r.set x.2.1.toNat (aF.mk h.kind h.n h.step h.text h.list B.1 h.rows))).bind fun s=>
      (idx s x.2.1).bind fun _=>
      (s[x.2.1.toNat]?).bind fun Y=>
      (s[x.2.1.toNat]?).bind fun l=>
      (xP l.rows B.2).bind fun C=>
      (some (s.set x.2.1.toNat (aF.mk l.kind l.n l.step l.text l.list l.columns C.1))).bind fun K=>
      some (.inl (K,w64 (x.2.1+1),C.2))
     else
      some (.inr (x.1,x.2.2))
    )) (g':=fun j=>(fun (c:(List aF)×Int×Int)=>
     bif (decide (c.2.2<(c.1.length:Int)))then
      (idx c.1 c.2.2).bind fun L=>
      bif (L.kind != c.2.1)then
       some (.inr ((-1)))
      else
      (idx c.1 c.2.2).bind fun m=>
      bif (m.n != (w64 (c.2.1+1)))then
       some (.inr ((-1)))
      else
      (idx c.1 c.2.2).bind fun Z=>
      bif (Z.step != (w64 ((w64 (c.2.1+1))+1)))then
       some (.inr ((-1)))
      else
      (idx c.1 c.2.2).bind fun p=>
      (dS (w64 ((w64 ((w64 (c.2.1+1))+1))+1))).bind fun r6=>
      bif (!(p.text==r6))then
       some (.inr ((-1)))
      else
      (idx c.1 c.2.2).bind fun e7=>
      ((lK (j.2-1)) e7.list (w64 ((w64 ((w64 ((w64 (c.2.1+1))+1))+1))+1))).bind fun P=>
      bif (decide (P<0))then
       some (.inr ((-1)))
      else
      (idx c.1 c.2.2).bind fun e9=>
      (oG e9.columns P).bind fun D=>
      bif (decide (D<0))then
       some (.inr ((-1)))
      else
       (idx c.1 c.2.2).bind fun f=>
       (yD f.rows D).bind fun o=>
       bif (decide (o<0))then
        some (.inr ((-1)))
       else
        some (.inl (c.1,o,w64 (c.2.2+1)))
     else
      some (.inr (c.2.1))
    )) (fun j t xs k=>?_) (fun j t xs k=>?_) qg (fun x=>dV x<=d+1/\Fit B24 (.base .val) x) (fun x y=>dV y=dV x)
   (fun xs i x k q hP O F A=>?_) (fun j t xs k=>?_) (fun j t xs k=>?_) xs (fun x q=>⟨Zo hd x q,v.bW x q⟩) (by omega) k F A
  ·obtain⟨ys,u,eQ,L⟩:=M;exact⟨ys,Wu u eQ,L⟩
  ·obtain⟨a,b⟩:=j;match a,t with
   | a+1,_=>rfl
  ·obtain⟨a,b⟩:=j;match b,t with
   | b+1,_=>rfl
  ·obtain⟨N,Q⟩:=hP;rw[acd]at N;rw[Ag]at Q;obtain⟨c0,c1,c2,c3,c4,c5,c6⟩:=Q;rw[Ap]at A ⊢;obtain⟨t3,m⟩:=iQ (k+1+1+1) (by omega) (by omega);obtain⟨R,d4,f4⟩:=ih x.list (by omega) c4 (k+1+1+1+1) (by omega) (by omega);obtain⟨y5,p,f5⟩:=CB x.columns (MO c5).1 (k+1+1+1+1+(fJ x.list:Nat)) (by omega) (by omega);obtain⟨y6,e6,f6⟩:=MW x.rows (afC c6) (k+1+1+1+1+(fJ x.list:Nat)+(gy x.columns:Nat)) (by omega) (by omega);have w0:w64 (k+1)=k+1:=aT (by omega) (by omega);have S:w64 (k+1+1)=k+1+1:=aT (by omega) (by omega);have T:w64 (k+1+1+1)=k+1+1+1:=aT (by omega) (by omega);have U:w64 (k+1+1+1+1)=k+1+1+1+1:=aT (by omega) (by omega);have n4:decide (k+1+1+1+1+(fJ x.list:Nat)<0)=false:=ae (by omega);have n5:decide (k+1+1+1+1+(fJ x.list:Nat)+(gy x.columns:Nat)<0)=false:=ae (by omega);have n6:decide (k+1+1+1+1+(fJ x.list:Nat)+(gy x.columns:Nat)+(qA x.rows:Nat)<0)=false:=ae (by omega);have hsum:k+1+1+1+1+(fJ x.list:Nat)+(gy x.columns:Nat)+(qA x.rows:Nat)=k+((1+1+1+1+fJ x.list+gy x.columns+qA x.rows:Nat):Int):=by omega
   refine⟨aF.mk k (k+1) (k+1+1) t3 R y5 y6,by rw[acd,acd];show dVs R+1=_;omega,fun j t=>?_⟩;have ej:=f4 (j.1-1,j.2-1) ⟨by show d<j.1-1;omega,by show d<j.2-1;omega⟩;refine⟨?_,fun ys hy w=>?_⟩
   ·simp only[dec_lt q,ac,aA,aD,q,yV q,List.set_set,zA,eF q O,w0,S,T,U,m,ej.1,p,e6,dn];rw[hsum]
   ·simp only[dec_lt w,ac,aA,w,zA,eF w hy,jf,jr,aa,w0,S,T,U,m,ej.2,f5,f6,n4,n5,n6,dn];rw[hsum]
  ·simp only[Int.lt_irrefl,decide_false,aa]
  ·simp only[Int.lt_irrefl,decide_false,aa]
theorem Uu(xs:List aF)(h:TG xs):Vk zL G7 xs (fJ xs):=by
 intro k a b;obtain⟨ys,d,c⟩:=Uw (dVs xs) xs (az _) h k a b;have h1:=Zn (siz xs+1) xs (Nat.lt_succ_self _);have h2:=Zn (siz ys+1) ys (Nat.lt_succ_self _);have:=c (siz xs+1,siz ys+1) ⟨by show dVs xs<siz xs+1;omega,by show dVs xs<siz ys+1;omega⟩;exact⟨ys,this.1,this.2⟩
def OC(x:aO):Prop:=TG x.result.list/\LD x.result.columns/\ae0 x.result.rows
def OB(xs:List aO):Prop:=(∀x,x∈xs->OC x)/\xs.length<4611686018427387904
set_option maxHeartbeats 1000000 in
theorem IK(xs:List aO)(h:OB xs):Vk tq yE xs (fK xs):=by
 refine kF (mk:=tq) (hd:=yE) (fun _ _=>rfl) (fun _ _=>rfl) mZ OC (fun xs i x k e z J h0 K=>?_) (fun xs k=>?_) (fun xs k=>?_) xs h.1 h.2
 ·unfold mZ at K;unfold OC at z;obtain⟨L,M,N⟩:=z;obtain⟨k0,O⟩:∃m:Int,m=k+1:=⟨_,rfl⟩;have w0:w64 (k+1)=k0:=by rw[O];exact aT (by omega) (by omega)
  obtain⟨f,P⟩:∃m:Int,m=k0+1:=⟨_,rfl⟩;have A:w64 (k0+1)=f:=by rw[P];exact aT (by omega) (by omega)
  obtain⟨g,Q⟩:∃m:Int,m=f+1:=⟨_,rfl⟩;have B:w64 (f+1)=g:=by rw[Q];exact aT (by omega) (by omega)
  obtain⟨R,C⟩:=iQ g (by omega) (by omega);obtain⟨j,S⟩:∃m:Int,m=g+1:=⟨_,rfl⟩;have D:w64 (g+1)=j:=by rw[S];exact aT (by omega) (by omega)
  obtain⟨l,T⟩:∃m:Int,m=j+1:=⟨_,rfl⟩;have E:w64 (j+1)=l:=by rw[T];exact aT (by omega) (by omega)
  obtain⟨n,U⟩:∃m:Int,m=l+1:=⟨_,rfl⟩;have F:w64 (l+1)=n:=by rw[U];exact aT (by omega) (by omega)
  obtain⟨o,V⟩:∃m:Int,m=n+1:=⟨_,rfl⟩;have G:w64 (n+1)=o:=by rw[V];exact aT (by omega) (by omega)
  obtain⟨W,H⟩:=iQ o (by omega) (by omega);obtain⟨p,X⟩:∃m:Int,m=o+1:=⟨_,rfl⟩;have I:w64 (o+1)=p:=by rw[X];exact aT (by omega) (by omega)
  obtain⟨Y,q,r⟩:=Uu x.result.list L p (by omega) (by omega);obtain⟨s,Z⟩:∃m:Int,m=p+(fJ x.result.list:Nat):=⟨_,rfl⟩;rw[<- Z]at q r;have n8:decide (s<0)=false:=ae (by omega);obtain⟨y9,t,u⟩:=CB x.result.columns M s (by omega) (by omega);obtain⟨k9,g9⟩:∃m:Int,m=s+(gy x.result.columns:Nat):=⟨_,rfl⟩;rw[<- g9]at t u;have n9:decide (k9<0)=false:=ae (by omega);obtain⟨v,a,b⟩:=MW x.result.rows N k9 (by omega) (by omega);obtain⟨d,w⟩:∃m:Int,m=k9+(qA x.result.rows:Nat):=⟨_,rfl⟩;rw[<- w]at a b;have y:decide (d<0)=false:=ae (by omega);have hsum:d=k+(mZ x:Nat):=by unfold mZ;omega
  refine⟨aO.mk k k0 f R (aF.mk j l n W Y y9 v),?_,fun ys hy c=>?_⟩
  ·simp only[dec_lt e,ac,aA,aD,e,yV e,List.set_set,zA,eF e J,w0,A,B,D,E,F,G,I,C,H,q,r,t,u,a,b,dn,aS,eH,jo];rw[hsum]
  ·simp only[dec_lt c,ac,aA,c,zA,eF c hy,jf,jr,oh,aa,w0,A,B,D,E,F,G,I,C,H,q,r,t,u,a,b,n8,n9,y,dn,aS,eH,jo];rw[hsum]
 ·simp only[Int.lt_irrefl,decide_false,aa]
 ·simp only[Int.lt_irrefl,decide_false,aa]
theorem aaN{xs:List aO}(h:aW B24 (.list (.base .read) xs)):OB xs:=by
 have b:=uI h;refine⟨fun x a=>?_,by omega⟩;unfold OC;have f:=h.bW x a;rw[qZ]at f;obtain⟨f_0,f_1,f_2,f_3,f_4⟩:=f;rw[Ag]at f_4;obtain⟨f_4_0,f_4_1,f_4_2,f_4_3,f_4_4,f_4_5,f_4_6⟩:=f_4;exact⟨f_4_4,MO f_4_5 |>.1,afC f_4_6⟩
def Jw(x:ah):Prop:=True
def OD(xs:List ah):Prop:=(∀x,x∈xs->Jw x)/\xs.length<4611686018427387904
theorem Yt(xs:List ah)(h:OD xs):Vk En EK xs (yL xs):=by
 refine kF (mk:=En) (hd:=EK) (fun _ _=>rfl) (fun _ _=>rfl) kS Jw (fun xs i x k b E s F t=>?_) (fun xs k=>?_) (fun xs k=>?_) xs h.1 h.2
 ·unfold kS at t;obtain⟨k0,u⟩:∃m:Int,m=k+1:=⟨_,rfl⟩;have w0:w64 (k+1)=k0:=by rw[u];exact aT (by omega) (by omega)
  obtain⟨c,v⟩:∃m:Int,m=k0+1:=⟨_,rfl⟩;have g:w64 (k0+1)=c:=by rw[v];exact aT (by omega) (by omega)
  obtain⟨d,w⟩:∃m:Int,m=c+1:=⟨_,rfl⟩;have j:w64 (c+1)=d:=by rw[w];exact aT (by omega) (by omega)
  obtain⟨y,l⟩:=iQ d (by omega) (by omega);obtain⟨e,z⟩:∃m:Int,m=d+1:=⟨_,rfl⟩;have n:w64 (d+1)=e:=by rw[z];exact aT (by omega) (by omega)
  obtain⟨A,o⟩:=iQ e (by omega) (by omega);obtain⟨f,B⟩:∃m:Int,m=e+1:=⟨_,rfl⟩;have p:w64 (e+1)=f:=by rw[B];exact aT (by omega) (by omega)
  obtain⟨q,C⟩:∃m:Int,m=f+1:=⟨_,rfl⟩;have r:w64 (f+1)=q:=by rw[C];exact aT (by omega) (by omega)
  have hsum:q=k+(kS x:Nat):=by unfold kS;omega
  refine⟨ah.mk k k0 c y A f,?_,fun ys D a=>?_⟩
  ·simp only[dec_lt b,ac,aA,aD,b,yV b,List.set_set,zA,eF b s,w0,g,j,n,p,r,l,o,dn,aS,eH,jo];rw[hsum]
  ·simp only[dec_lt a,ac,aA,a,zA,eF a D,jf,jr,oh,aa,w0,g,j,n,p,r,l,o,dn,aS,eH,jo];rw[hsum]
 ·simp only[Int.lt_irrefl,decide_false,aa]
 ·simp only[Int.lt_irrefl,decide_false,aa]
theorem ajD{xs:List ah}(h:aW B24 (.list (.base .cell) xs)):OD xs:=by
 have a:=uI h;refine⟨fun x b=>?_,by omega⟩;unfold Jw;trivial
theorem ag6{xs:List ah}(h:aW B24 (.list (.base .cell) xs)):OD xs/\yL xs<=100663296:=by
 have b:=uI h;have key:∀x,x∈xs->Jw x/\kS x<=6:=by
  intro x a;unfold Jw kS;exact⟨trivial,by omega⟩
 refine⟨⟨fun x a=>(key x a).1,by omega⟩,?_⟩;have h1:=Pm kS xs 6 fun x a=>(key x a).2
 have h2:xs.length*6<=16777216*6:=Nat.mul_le_mul_right _ (by omega);unfold yL;omega
def OA(x:aJ):Prop:=OB x.reads
def Zy(xs:List aJ):Prop:=(∀x,x∈xs->OA x)/\xs.length<4611686018427387904
theorem Yr(xs:List aJ)(h:Zy xs):Vk Ej EJ xs (gu xs):=by
 refine kF (mk:=Ej) (hd:=EJ) (fun _ _=>rfl) (fun _ _=>rfl) oW OA (fun xs i x k b f l v n=>?_) (fun xs k=>?_) (fun xs k=>?_) xs h.1 h.2
 ·unfold oW at n;unfold OA at f;have o:=f;obtain⟨k0,p⟩:∃m:Int,m=k+1:=⟨_,rfl⟩;have w0:w64 (k+1)=k0:=by rw[p];exact aT (by omega) (by omega)
  obtain⟨c,q⟩:∃m:Int,m=k0+1:=⟨_,rfl⟩;have g:w64 (k0+1)=c:=by rw[q];exact aT (by omega) (by omega)
  obtain⟨r,d,e⟩:=IK x.reads o c (by omega) (by omega);obtain⟨j,s⟩:∃m:Int,m=c+(fK x.reads:Nat):=⟨_,rfl⟩;rw[<- s]at d e;have t:decide (j<0)=false:=ae (by omega);have hsum:j=k+(oW x:Nat):=by unfold oW;omega
  refine⟨aJ.mk k k0 r,?_,fun ys u a=>?_⟩
  ·simp only[dec_lt b,ac,aA,aD,b,yV b,List.set_set,zA,eF b l,w0,g,d,e,dn,aS,eH,jo];rw[hsum]
  ·simp only[dec_lt a,ac,aA,a,zA,eF a u,jf,jr,oh,aa,w0,g,d,e,t,dn,aS,eH,jo];rw[hsum]
 ·simp only[Int.lt_irrefl,decide_false,aa]
 ·simp only[Int.lt_irrefl,decide_false,aa]
theorem ajB{xs:List aJ}(h:aW B24 (.list (.base .tape) xs)):Zy xs:=by
 have b:=uI h;refine⟨fun x a=>?_,by omega⟩;unfold OA;have f:=h.bW x a;rw[Dv]at f;obtain⟨f_0,f_1,f_2⟩:=f;exact aaN f_2
def af7(x:GOp):Prop:=ZA x.seen/\OB x.reads
def ak7(xs:List GOp):Prop:=(∀x,x∈xs->af7 x)/\xs.length<4611686018427387904
set_option maxHeartbeats 1000000 in
theorem QO(xs:List GOp)(h:ak7 xs):Vk Em Ot xs (qh xs):=by
 refine kF (mk:=Em) (hd:=Ot) (fun _ _=>rfl) (fun _ _=>rfl) rG af7 (fun xs i x k y V hl h0 hk=>?_) (fun xs k=>?_) (fun xs k=>?_) xs h.1 h.2
 ·unfold rG at hk;unfold af7 at V;obtain⟨q0,q1⟩:=V;obtain⟨k0,g0⟩:∃m:Int,m=k+1:=⟨_,rfl⟩;have w0:w64 (k+1)=k0:=by rw[g0];exact aT (by omega) (by omega)
  obtain⟨z,g1⟩:∃m:Int,m=k0+1:=⟨_,rfl⟩;have W:w64 (k0+1)=z:=by rw[g1];exact aT (by omega) (by omega)
  obtain⟨G,g2⟩:∃m:Int,m=z+1:=⟨_,rfl⟩;have X:w64 (z+1)=G:=by rw[g2];exact aT (by omega) (by omega)
  obtain⟨y3,H,I⟩:=MX x.seen q0 G (by omega) (by omega);obtain⟨A,g3⟩:∃m:Int,m=G+(qB x.seen:Nat):=⟨_,rfl⟩;rw[<- g3]at H I;have n3:decide (A<0)=false:=ae (by omega);obtain⟨B,g4⟩:∃m:Int,m=A+1:=⟨_,rfl⟩;have Y:w64 (A+1)=B:=by rw[g4];exact aT (by omega) (by omega)
  obtain⟨C,g5⟩:∃m:Int,m=B+1:=⟨_,rfl⟩;have Z:w64 (B+1)=C:=by rw[g5];exact aT (by omega) (by omega)
  obtain⟨D,g6⟩:∃m:Int,m=C+1:=⟨_,rfl⟩;have w6:w64 (C+1)=D:=by rw[g6];exact aT (by omega) (by omega)
  obtain⟨E,g7⟩:∃m:Int,m=D+1:=⟨_,rfl⟩;have w7:w64 (D+1)=E:=by rw[g7];exact aT (by omega) (by omega)
  obtain⟨F,g8⟩:∃m:Int,m=E+1:=⟨_,rfl⟩;have w8:w64 (E+1)=F:=by rw[g8];exact aT (by omega) (by omega)
  obtain⟨t9,e9⟩:=iQ F (by omega) (by omega);obtain⟨k9,g9⟩:∃m:Int,m=F+1:=⟨_,rfl⟩;have w9:w64 (F+1)=k9:=by rw[g9];exact aT (by omega) (by omega)
  obtain⟨J,n⟩:=iQ k9 (by omega) (by omega);obtain⟨a,K⟩:∃m:Int,m=k9+1:=⟨_,rfl⟩;have o:w64 (k9+1)=a:=by rw[K];exact aT (by omega) (by omega)
  obtain⟨b,L⟩:∃m:Int,m=a+1:=⟨_,rfl⟩;have p:w64 (a+1)=b:=by rw[L];exact aT (by omega) (by omega)
  obtain⟨M,q⟩:=iQ b (by omega) (by omega);obtain⟨c,N⟩:∃m:Int,m=b+1:=⟨_,rfl⟩;have r:w64 (b+1)=c:=by rw[N];exact aT (by omega) (by omega)
  obtain⟨O,s⟩:=iQ c (by omega) (by omega);obtain⟨d,P⟩:∃m:Int,m=c+1:=⟨_,rfl⟩;have t:w64 (c+1)=d:=by rw[P];exact aT (by omega) (by omega)
  obtain⟨e,Q⟩:∃m:Int,m=d+1:=⟨_,rfl⟩;have u:w64 (d+1)=e:=by rw[Q];exact aT (by omega) (by omega)
  obtain⟨f,R⟩:∃m:Int,m=e+1:=⟨_,rfl⟩;have v:w64 (e+1)=f:=by rw[R];exact aT (by omega) (by omega)
  obtain⟨S,g,j⟩:=IK x.reads q1 f (by omega) (by omega);obtain⟨w,T⟩:∃m:Int,m=f+(fK x.reads:Nat):=⟨_,rfl⟩;rw[<- T]at g j;have U:decide (w<0)=false:=ae (by omega);have hsum:w=k+(rG x:Nat):=by unfold rG;omega
  refine⟨GOp.mk k k0 z y3 (dP.mk A B (ah.mk C D E t9 J a)) M O d e S,?_,fun ys hy l=>?_⟩
  ·simp only[dec_lt y,ac,aA,aD,y,yV y,List.set_set,zA,eF y hl,w0,W,X,Y,Z,w6,w7,w8,w9,o,p,r,t,u,v,H,I,e9,n,q,s,g,j,dn,aS,eH,jo];rw[hsum]
  ·simp only[dec_lt l,ac,aA,l,zA,eF l hy,jf,jr,oh,aa,w0,W,X,Y,Z,w6,w7,w8,w9,o,p,r,t,u,v,H,I,e9,n,q,s,g,j,n3,U,dn,aS,eH,jo];rw[hsum]
 ·simp only[Int.lt_irrefl,decide_false,aa]
 ·simp only[Int.lt_irrefl,decide_false,aa]
theorem ajC{xs:List GOp}(h:aW B24 (.list (.base .op) xs)):ak7 xs:=by
 have b:=uI h;refine⟨fun x a=>?_,by omega⟩;unfold af7;have f:=h.bW x a;rw[uQ]at f;obtain⟨f_0,f_1,f_2,f_3,f_4,f_5,f_6,f_7,f_8,f_9⟩:=f;exact⟨aaP f_3 |>.1,aaN f_9⟩
def dX(x:ak):Nat:=yL x.cells
def nV(x:ak):Prop:=OD x.cells
theorem NK(x:ak)(h:nV x)(k:Int)(g:0<=k)(c:k+dX x<=4611686018427387904):∃y,rX x k=some (y,k+(dX x:Nat))/\sH y k=some (k+(dX x:Nat)):=by
 unfold dX at c;unfold nV at h;have d:=h;obtain⟨e,a,b⟩:=Yt x.cells d (k) (by omega) (by omega);have f:decide (k+(yL x.cells:Nat)<0)=false:=ae (by omega);have hsum:k+(yL x.cells:Nat)=k+(dX x:Nat):=by unfold dX;omega
 refine⟨ak.mk e,?_,?_⟩
 ·unfold rX;simp only[zA,a,b];rw[hsum]
 ·unfold sH;simp only[zA,aa,a,b,f];rw[hsum]
theorem aaO{x:ak}(h:Fit B24 (.base .notebook) x):nV x:=by
 rw[gq]at h;have a:=h;unfold nV;exact ajD a
theorem Yd{x:ak}(h:Fit B24 (.base .notebook) x):nV x/\dX x<=100663296:=by
 rw[gq]at h;have a:=h;unfold nV dX;obtain⟨b,c⟩:=ag6 a;exact⟨b,by omega⟩
def kK(x:aN):Nat:=dX x.notebook+gu x.tapes+qh x.renames
def Au(x:aN):Prop:=nV x.notebook/\Zy x.tapes/\ak7 x.renames
theorem NP(x:aN)(h:Au x)(k:Int)(s:0<=k)(g:k+kK x<=4611686018427387904):∃y,lV x k=some (y,k+(kK x:Nat))/\kP y k=some (k+(kK x:Nat)):=by
 unfold kK at g;unfold Au at h;obtain⟨i,j,l⟩:=h;obtain⟨m,a,b⟩:=NK x.notebook i (k) (by omega) (by omega);have n:decide (k+(dX x.notebook:Nat)<0)=false:=ae (by omega);obtain⟨o,c,d⟩:=Yr x.tapes j (k+(dX x.notebook:Nat)) (by omega) (by omega);have p:decide (k+(dX x.notebook:Nat)+(gu x.tapes:Nat)<0)=false:=ae (by omega);obtain⟨q,e,f⟩:=QO x.renames l (k+(dX x.notebook:Nat)+(gu x.tapes:Nat)) (by omega) (by omega);have r:decide (k+(dX x.notebook:Nat)+(gu x.tapes:Nat)+(qh x.renames:Nat)<0)=false:=ae (by omega);have hsum:k+(dX x.notebook:Nat)+(gu x.tapes:Nat)+(qh x.renames:Nat)=k+(kK x:Nat):=by unfold kK;omega
 refine⟨aN.mk m o q,?_,?_⟩
 ·unfold lV;simp only[zA,a,b,c,d,e,f];rw[hsum]
 ·unfold kP;simp only[zA,aa,a,b,c,d,e,f,n,p,r];rw[hsum]
theorem aaQ{x:aN}(h:Fit B24 (.base .document) x):Au x:=by
 rw[Ah]at h;obtain⟨a,b,c⟩:=h;unfold Au;exact⟨aaO a,ajB b,ajC c⟩
end
end Go.Proofs.YtbbmkcioplbhbaaGreatDoor
/- Notebooks that fit. -/
namespace Go.Proofs.YtbbmkcioplbhbaaGreatDoor
open Go.Abs Go.Proofs
abbrev ZB(cs:List ah):Prop:=∀x,x∈cs->Fit B20 (.base .cell) x
theorem yM{cs:List ah}(h:Fit B20 (.base .notebook) ⟨cs⟩):ZB cs/\cs.length<=1048576:=by
 rw[gq]at h;have b:(cs.length:Int)<=1048576:=dY h;exact⟨fun x a=>h.bW x a,by omega⟩
theorem yH{cs:List ah}(h:ZB cs)(a:cs.length<=1048576):Fit B20 (.base .notebook) ⟨cs⟩:=by
 rw[gq];exact jv (by show (cs.length:Int)<=_;omega) h
theorem acp{cs:List ah}(h:ZB cs):∀x,x∈cs->wC x:=by
 intro x a;have:=h x a;rw[je]at this;have b:=Fa this.2.2.2.1;have c:=Fa this.2.2.2.2.1;exact⟨by omega,by omega⟩
end Go.Proofs.YtbbmkcioplbhbaaGreatDoor
/- Plain law: RenameVariable. -/
namespace Go.Proofs.YtbbmkcioplbhbaaGreatDoor
open Go.Abs Go.Proofs
theorem wfS{n:Int}(a:-1000000000<=n)(h1:n<=1000000000):(Lit.int .i64 n).wf=true:=by
 unfold Lit.wf;simp[IntKind.bits,IntKind.signed,IntKind.min,IntKind.max];omega
theorem apN{cs:List ah}(h:ZB cs)(k:Nat){y:ah}(b:Fit B20 (.base .cell) y):ZB (cs.set k y):=by
 intro x a;rcases List.mem_or_eq_of_mem_set a with a | rfl
 ·exact h x a
 ·exact b
theorem ah6{x:ah}(h:Fit B20 (.base .cell) x)(d:Bool){t:Str}(a:t.length<=120)(b:1<=x.version)(c:x.version<=999):Fit B20 (.base .cell) (ZI d t x):=by
 rw[je]at h ⊢;refine⟨h.1,.int .i64 _ (wfS ?_ ?_),h.2.2.1,h.2.2.2.1,lU (by show (t.length:Int)<=_;omega),h.2.2.2.2.2⟩
 ·show -1000000000<=(if d=true then x.version+1 else x.version)
  split<;>omega
 ·show (if d=true then x.version+1 else x.version)<=_
  split<;>omega
theorem KA(d:Bool)(b c:Str):∀(ps:List bH) (i:Nat) (cs:List ah) (full:Bool) (x:List ah×Bool),ZB cs->(∀j y,i<=j->cs[j]?=some y->1<=y.version/\y.version<=999)->mQ d b c i ps cs full=some x->ZB x.1
 | [],i,cs,full,x,a,_,h=>by cases h;exact a
 | p::r,i,cs,full,x,a,hv,h=>by
  unfold mQ at h;split at h
  ·split at h
   ·rename_i g;split at h
    ·rename_i y e;refine KA d b c r (i+1) _ _ x (apN a i (ah6 (a y (zG e)) d g (hv i y (az _) e).1 (hv i y (az _) e).2)) (fun j z k f=>?_) h;rw[List.getElem?_set_ne (by omega)]at f;exact hv j z (by omega) f
    ·cases h
   ·cases h
  ·exact KA d b c r (i+1) cs full x a (fun j y k e=>hv j y (by omega) e) h
theorem ag9{c:Str}(b:c.length<=1048576){cs:List ah}(h:ZB cs)(k:Nat):ZB (uD c cs k):=by
 unfold uD;split
 ·rename_i x a;refine apN h k ?_;have:=h x (zG a);rw[je]at this ⊢;exact⟨this.1,this.2.1,this.2.2.1,lU (by show (c.length:Int)<=_;omega),this.2.2.2.2.1,this.2.2.2.2.2⟩
 ·exact h
theorem ai5(cs:List ah)(b c:Str)(d:Bool)(h:Fit B20 (.base .notebook) ⟨cs⟩)(k:c.length<=1048576):Fit B20 (.base .notebook) (vw cs b c d).1:=by
 obtain⟨f,o⟩:=yM h;have bb:∀(x:Bool) (p q:ak×Int),(x=true->Fit B20 (.base .notebook) p.1)->(x=false->Fit B20 (.base .notebook) q.1)->Fit B20 (.base .notebook) (bif x then p else q).1:=by
  intro x p q l m;cases x
  ·exact m rfl
  ·exact l rfl
 unfold vw;refine bb _ _ _ (fun _=>h) fun hv=>?_
 have a:yN cs=true:=by simpa using hv
 refine bb _ _ _ (fun _=>h) fun _=>bb _ _ _ (fun _=>h) fun _=>bb _ _ _ (fun _=>h) fun _=>bb _ _ _ (fun _=>h) fun _=>bb _ _ _ (fun _=>h) fun _=>bb _ _ _ (fun _=>h) fun _=>?_
 have g:=Aq (acp f) a;have hver:∀x,x∈cs->1<=x.version/\x.version<=999:=fun x i=>⟨(g.2 x i).2.v0,(g.2 x i).2.v9⟩
 unfold abR;split
 ·exact h
 ·exact h
 ·rename_i out e;have h1:=KA d b c _ 0 _ _ _ (ag9 k f _) (fun j y _ n=>Kq hver y (zG n)) e;have h2:=Ep _ _ _ _ _ _ _ _ e;rw[Ei]at h2;exact yH h1 (by show out.length<=_;have r:out.length=cs.length:=h2;omega)
end Go.Proofs.YtbbmkcioplbhbaaGreatDoor
/- Plain laws: AdaptEdit is alike on both sides. -/
namespace Go.Proofs.YtbbmkcioplbhbaaGreatDoor
open Go.Abs Go.Proofs
theorem aeR(a b c:Str)(g:b.length<=34359738368)(h:c.length<=34359738368):∃s,gm a b c=some s/\kZ a b c=some s/\(s=a\/s.length<=120):=by
 obtain⟨e,p,h1,h2,i⟩:=MN a;unfold gm kZ;simp only[h1,h2,zA,aS];by_cases d:p>=0
 ·rw[aq d];exact⟨a,rfl,rfl,.inl rfl⟩
 ·rw[ae d];obtain⟨hv,u⟩:=i (by omega);obtain⟨ys,j,k,_,w,_⟩:=AY e (by omega);obtain⟨q,l,m⟩:=ahA ys b (by omega);obtain⟨x,v,n,o,y⟩:=xH e b c (by omega) g h;obtain⟨s,r,t,_⟩:=Jh x (by omega);simp only[aa,j,k,l,m,n,o,r,t,zA,Bool.not_not];cases decide (q<0)with
  | true=>exact⟨a,rfl,rfl,.inl rfl⟩
  | false=>
   simp only[aa];cases v with
   | false=>exact⟨a,rfl,rfl,.inl rfl⟩
   | true=>
    by_cases f:(s.length:Int)<=120
    ·rw[aq f,ae (by omega)];exact⟨s,rfl,rfl,.inr (by omega)⟩
    ·rw[ae f,aq (by omega)];exact⟨a,rfl,rfl,.inl rfl⟩
abbrev AdI:=Int×Int×Int×Int×Int×Str×Str×Int×Int×Int×Int×Int×Int×Str×Str×Int×(List GOp)×Int×Int
abbrev AdS:=(List GOp)×Int×Int×Int×Int×Int×Str×Str×Int×Int×Int×Int×Int×Int×Str×Str×Int×Int
noncomputable def aqi:AdI->Option (AdI⊕dP):=(fun (a:Int×Int×Int×Int×Int×Str×Str×Int×Int×Int×Int×Int×Int×Str×Str×Int×(List GOp)×Int×Int)=>
      bif (decide (a.2.2.2.2.2.2.2.2.2.2.2.2.2.2.2.2.2.2<a.2.2.2.2.2.2.2.2.2.2.2.2.2.2.2.2.2.1))then
       (idx a.2.2.2.2.2.2.2.2.2.2.2.2.2.2.2.2.1 a.2.2.2.2.2.2.2.2.2.2.2.2.2.2.2.2.2.2).bind fun b=>
       bif (a.2.2.2.2.2.1==b.src)then
        bif (a.1==4)then
         (gm a.2.2.2.2.2.2.1 b.src b.dst).bind fun c=>
         some (.inl (a.1,a.2.1,a.2.2.1,a.2.2.2.1,a.2.2.2.2.1,b.dst,c,a.2.2.2.2.2.2.2.1,a.2.2.2.2.2.2.2.2.1,a.2.2.2.2.2.2.2.2.2.1,a.2.2.2.2.2.2.2.2.2.2.1,a.2.2.2.2.2.2.2.2.2.2.2.1,a.2.2.2.2.2.2.2.2.2.2.2.2.1,a.2.2.2.2.2.2.2.2.2.2.2.2.2.1,a.2.2.2.2.2.2.2.2.2.2.2.2.2.2.1,a.2.2.2.2.2.2.2.2.2.2.2.2.2.2.2.1,a.2.2.2.2.2.2.2.2.2.2.2.2.2.2.2.2.1,a.2.2.2.2.2.2.2.2.2.2.2.2.2.2.2.2.2.1,w64 (a.2.2.2.2.2.2.2.2.2.2.2.2.2.2.2.2.2.2+1)))
        else
         bif (a.1==1)then
          bif (a.2.2.2.2.1==2)then
           (gm a.2.2.2.2.2.2.1 b.src b.dst).bind fun d=>
           some (.inl (a.1,a.2.1,a.2.2.1,a.2.2.2.1,a.2.2.2.2.1,b.dst,d,a.2.2.2.2.2.2.2.1,a.2.2.2.2.2.2.2.2.1,a.2.2.2.2.2.2.2.2.2.1,a.2.2.2.2.2.2.2.2.2.2.1,a.2.2.2.2.2.2.2.2.2.2.2.1,a.2.2.2.2.2.2.2.2.2.2.2.2.1,a.2.2.2.2.2.2.2.2.2.2.2.2.2.1,a.2.2.2.2.2.2.2.2.2.2.2.2.2.2.1,a.2.2.2.2.2.2.2.2.2.2.2.2.2.2.2.1,a.2.2.2.2.2.2.2.2.2.2.2.2.2.2.2.2.1,a.2.2.2.2.2.2.2.2.2.2.2.2.2.2.2.2.2.1,w64 (a.2.2.2.2.2.2.2.2.2.2.2.2.2.2.2.2.2.2+1)))
          else
           some (.inl (a.1,a.2.1,a.2.2.1,a.2.2.2.1,a.2.2.2.2.1,b.dst,a.2.2.2.2.2.2.1,a.2.2.2.2.2.2.2.1,a.2.2.2.2.2.2.2.2.1,a.2.2.2.2.2.2.2.2.2.1,a.2.2.2.2.2.2.2.2.2.2.1,a.2.2.2.2.2.2.2.2.2.2.2.1,a.2.2.2.2.2.2.2.2.2.2.2.2.1,a.2.2.2.2.2.2.2.2.2.2.2.2.2.1,a.2.2.2.2.2.2.2.2.2.2.2.2.2.2.1,a.2.2.2.2.2.2.2.2.2.2.2.2.2.2.2.1,a.2.2.2.2.2.2.2.2.2.2.2.2.2.2.2.2.1,a.2.2.2.2.2.2.2.2.2.2.2.2.2.2.2.2.2.1,w64 (a.2.2.2.2.2.2.2.2.2.2.2.2.2.2.2.2.2.2+1)))
         else
          some (.inl (a.1,a.2.1,a.2.2.1,a.2.2.2.1,a.2.2.2.2.1,b.dst,a.2.2.2.2.2.2.1,a.2.2.2.2.2.2.2.1,a.2.2.2.2.2.2.2.2.1,a.2.2.2.2.2.2.2.2.2.1,a.2.2.2.2.2.2.2.2.2.2.1,a.2.2.2.2.2.2.2.2.2.2.2.1,a.2.2.2.2.2.2.2.2.2.2.2.2.1,a.2.2.2.2.2.2.2.2.2.2.2.2.2.1,a.2.2.2.2.2.2.2.2.2.2.2.2.2.2.1,a.2.2.2.2.2.2.2.2.2.2.2.2.2.2.2.1,a.2.2.2.2.2.2.2.2.2.2.2.2.2.2.2.2.1,a.2.2.2.2.2.2.2.2.2.2.2.2.2.2.2.2.2.1,w64 (a.2.2.2.2.2.2.2.2.2.2.2.2.2.2.2.2.2.2+1)))
       else
       bif (a.1==4)then
        (gm a.2.2.2.2.2.2.1 b.src b.dst).bind fun e=>
        some (.inl (a.1,a.2.1,a.2.2.1,a.2.2.2.1,a.2.2.2.2.1,a.2.2.2.2.2.1,e,a.2.2.2.2.2.2.2.1,a.2.2.2.2.2.2.2.2.1,a.2.2.2.2.2.2.2.2.2.1,a.2.2.2.2.2.2.2.2.2.2.1,a.2.2.2.2.2.2.2.2.2.2.2.1,a.2.2.2.2.2.2.2.2.2.2.2.2.1,a.2.2.2.2.2.2.2.2.2.2.2.2.2.1,a.2.2.2.2.2.2.2.2.2.2.2.2.2.2.1,a.2.2.2.2.2.2.2.2.2.2.2.2.2.2.2.1,a.2.2.2.2.2.2.2.2.2.2.2.2.2.2.2.2.1,a.2.2.2.2.2.2.2.2.2.2.2.2.2.2.2.2.2.1,w64 (a.2.2.2.2.2.2.2.2.2.2.2.2.2.2.2.2.2.2+1)))
       else
        bif (a.1==1)then
         bif (a.2.2.2.2.1==2)then
          (gm a.2.2.2.2.2.2.1 b.src b.dst).bind fun f=>
          some (.inl (a.1,a.2.1,a.2.2.1,a.2.2.2.1,a.2.2.2.2.1,a.2.2.2.2.2.1,f,a.2.2.2.2.2.2.2.1,a.2.2.2.2.2.2.2.2.1,a.2.2.2.2.2.2.2.2.2.1,a.2.2.2.2.2.2.2.2.2.2.1,a.2.2.2.2.2.2.2.2.2.2.2.1,a.2.2.2.2.2.2.2.2.2.2.2.2.1,a.2.2.2.2.2.2.2.2.2.2.2.2.2.1,a.2.2.2.2.2.2.2.2.2.2.2.2.2.2.1,a.2.2.2.2.2.2.2.2.2.2.2.2.2.2.2.1,a.2.2.2.2.2.2.2.2.2.2.2.2.2.2.2.2.1,a.2.2.2.2.2.2.2.2.2.2.2.2.2.2.2.2.2.1,w64 (a.2.2.2.2.2.2.2.2.2.2.2.2.2.2.2.2.2.2+1)))
         else
          some (.inl (a.1,a.2.1,a.2.2.1,a.2.2.2.1,a.2.2.2.2.1,a.2.2.2.2.2.1,a.2.2.2.2.2.2.1,a.2.2.2.2.2.2.2.1,a.2.2.2.2.2.2.2.2.1,a.2.2.2.2.2.2.2.2.2.1,a.2.2.2.2.2.2.2.2.2.2.1,a.2.2.2.2.2.2.2.2.2.2.2.1,a.2.2.2.2.2.2.2.2.2.2.2.2.1,a.2.2.2.2.2.2.2.2.2.2.2.2.2.1,a.2.2.2.2.2.2.2.2.2.2.2.2.2.2.1,a.2.2.2.2.2.2.2.2.2.2.2.2.2.2.2.1,a.2.2.2.2.2.2.2.2.2.2.2.2.2.2.2.2.1,a.2.2.2.2.2.2.2.2.2.2.2.2.2.2.2.2.2.1,w64 (a.2.2.2.2.2.2.2.2.2.2.2.2.2.2.2.2.2.2+1)))
        else
         some (.inl (a.1,a.2.1,a.2.2.1,a.2.2.2.1,a.2.2.2.2.1,a.2.2.2.2.2.1,a.2.2.2.2.2.2.1,a.2.2.2.2.2.2.2.1,a.2.2.2.2.2.2.2.2.1,a.2.2.2.2.2.2.2.2.2.1,a.2.2.2.2.2.2.2.2.2.2.1,a.2.2.2.2.2.2.2.2.2.2.2.1,a.2.2.2.2.2.2.2.2.2.2.2.2.1,a.2.2.2.2.2.2.2.2.2.2.2.2.2.1,a.2.2.2.2.2.2.2.2.2.2.2.2.2.2.1,a.2.2.2.2.2.2.2.2.2.2.2.2.2.2.2.1,a.2.2.2.2.2.2.2.2.2.2.2.2.2.2.2.2.1,a.2.2.2.2.2.2.2.2.2.2.2.2.2.2.2.2.2.1,w64 (a.2.2.2.2.2.2.2.2.2.2.2.2.2.2.2.2.2.2+1)))
      else
       some (.inr (dP.mk a.1 a.2.1 (ah.mk a.2.2.1 a.2.2.2.1 a.2.2.2.2.1 a.2.2.2.2.2.1 a.2.2.2.2.2.2.1 a.2.2.2.2.2.2.2.1)))
  )
noncomputable def aqh:AdS->Option (AdS⊕dP):=(fun (a:(List GOp)×Int×Int×Int×Int×Int×Str×Str×Int×Int×Int×Int×Int×Int×Str×Str×Int×Int)=>
      bif (decide (a.2.2.2.2.2.2.2.2.2.2.2.2.2.2.2.2.2<(a.1.length:Int)))then
       (idx a.1 a.2.2.2.2.2.2.2.2.2.2.2.2.2.2.2.2.2).bind fun b=>
       bif (a.2.2.2.2.2.2.1==b.src)then
        bif (a.2.1==4)then
         (kZ a.2.2.2.2.2.2.2.1 b.src b.dst).bind fun c=>
         some (.inl (a.1,a.2.1,a.2.2.1,a.2.2.2.1,a.2.2.2.2.1,a.2.2.2.2.2.1,b.dst,c,a.2.2.2.2.2.2.2.2.1,a.2.2.2.2.2.2.2.2.2.1,a.2.2.2.2.2.2.2.2.2.2.1,a.2.2.2.2.2.2.2.2.2.2.2.1,a.2.2.2.2.2.2.2.2.2.2.2.2.1,a.2.2.2.2.2.2.2.2.2.2.2.2.2.1,a.2.2.2.2.2.2.2.2.2.2.2.2.2.2.1,a.2.2.2.2.2.2.2.2.2.2.2.2.2.2.2.1,a.2.2.2.2.2.2.2.2.2.2.2.2.2.2.2.2.1,w64 (a.2.2.2.2.2.2.2.2.2.2.2.2.2.2.2.2.2+1)))
        else
         bif (a.2.1==1)then
          bif (a.2.2.2.2.2.1==2)then
           (kZ a.2.2.2.2.2.2.2.1 b.src b.dst).bind fun d=>
           some (.inl (a.1,a.2.1,a.2.2.1,a.2.2.2.1,a.2.2.2.2.1,a.2.2.2.2.2.1,b.dst,d,a.2.2.2.2.2.2.2.2.1,a.2.2.2.2.2.2.2.2.2.1,a.2.2.2.2.2.2.2.2.2.2.1,a.2.2.2.2.2.2.2.2.2.2.2.1,a.2.2.2.2.2.2.2.2.2.2.2.2.1,a.2.2.2.2.2.2.2.2.2.2.2.2.2.1,a.2.2.2.2.2.2.2.2.2.2.2.2.2.2.1,a.2.2.2.2.2.2.2.2.2.2.2.2.2.2.2.1,a.2.2.2.2.2.2.2.2.2.2.2.2.2.2.2.2.1,w64 (a.2.2.2.2.2.2.2.2.2.2.2.2.2.2.2.2.2+1)))
          else
           some (.inl (a.1,a.2.1,a.2.2.1,a.2.2.2.1,a.2.2.2.2.1,a.2.2.2.2.2.1,b.dst,a.2.2.2.2.2.2.2.1,a.2.2.2.2.2.2.2.2.1,a.2.2.2.2.2.2.2.2.2.1,a.2.2.2.2.2.2.2.2.2.2.1,a.2.2.2.2.2.2.2.2.2.2.2.1,a.2.2.2.2.2.2.2.2.2.2.2.2.1,a.2.2.2.2.2.2.2.2.2.2.2.2.2.1,a.2.2.2.2.2.2.2.2.2.2.2.2.2.2.1,a.2.2.2.2.2.2.2.2.2.2.2.2.2.2.2.1,a.2.2.2.2.2.2.2.2.2.2.2.2.2.2.2.2.1,w64 (a.2.2.2.2.2.2.2.2.2.2.2.2.2.2.2.2.2+1)))
         else
          some (.inl (a.1,a.2.1,a.2.2.1,a.2.2.2.1,a.2.2.2.2.1,a.2.2.2.2.2.1,b.dst,a.2.2.2.2.2.2.2.1,a.2.2.2.2.2.2.2.2.1,a.2.2.2.2.2.2.2.2.2.1,a.2.2.2.2.2.2.2.2.2.2.1,a.2.2.2.2.2.2.2.2.2.2.2.1,a.2.2.2.2.2.2.2.2.2.2.2.2.1,a.2.2.2.2.2.2.2.2.2.2.2.2.2.1,a.2.2.2.2.2.2.2.2.2.2.2.2.2.2.1,a.2.2.2.2.2.2.2.2.2.2.2.2.2.2.2.1,a.2.2.2.2.2.2.2.2.2.2.2.2.2.2.2.2.1,w64 (a.2.2.2.2.2.2.2.2.2.2.2.2.2.2.2.2.2+1)))
       else
       bif (a.2.1==4)then
        (kZ a.2.2.2.2.2.2.2.1 b.src b.dst).bind fun e=>
        some (.inl (a.1,a.2.1,a.2.2.1,a.2.2.2.1,a.2.2.2.2.1,a.2.2.2.2.2.1,a.2.2.2.2.2.2.1,e,a.2.2.2.2.2.2.2.2.1,a.2.2.2.2.2.2.2.2.2.1,a.2.2.2.2.2.2.2.2.2.2.1,a.2.2.2.2.2.2.2.2.2.2.2.1,a.2.2.2.2.2.2.2.2.2.2.2.2.1,a.2.2.2.2.2.2.2.2.2.2.2.2.2.1,a.2.2.2.2.2.2.2.2.2.2.2.2.2.2.1,a.2.2.2.2.2.2.2.2.2.2.2.2.2.2.2.1,a.2.2.2.2.2.2.2.2.2.2.2.2.2.2.2.2.1,w64 (a.2.2.2.2.2.2.2.2.2.2.2.2.2.2.2.2.2+1)))
       else
        bif (a.2.1==1)then
         bif (a.2.2.2.2.2.1==2)then
          (kZ a.2.2.2.2.2.2.2.1 b.src b.dst).bind fun f=>
          some (.inl (a.1,a.2.1,a.2.2.1,a.2.2.2.1,a.2.2.2.2.1,a.2.2.2.2.2.1,a.2.2.2.2.2.2.1,f,a.2.2.2.2.2.2.2.2.1,a.2.2.2.2.2.2.2.2.2.1,a.2.2.2.2.2.2.2.2.2.2.1,a.2.2.2.2.2.2.2.2.2.2.2.1,a.2.2.2.2.2.2.2.2.2.2.2.2.1,a.2.2.2.2.2.2.2.2.2.2.2.2.2.1,a.2.2.2.2.2.2.2.2.2.2.2.2.2.2.1,a.2.2.2.2.2.2.2.2.2.2.2.2.2.2.2.1,a.2.2.2.2.2.2.2.2.2.2.2.2.2.2.2.2.1,w64 (a.2.2.2.2.2.2.2.2.2.2.2.2.2.2.2.2.2+1)))
         else
          some (.inl (a.1,a.2.1,a.2.2.1,a.2.2.2.1,a.2.2.2.2.1,a.2.2.2.2.2.1,a.2.2.2.2.2.2.1,a.2.2.2.2.2.2.2.1,a.2.2.2.2.2.2.2.2.1,a.2.2.2.2.2.2.2.2.2.1,a.2.2.2.2.2.2.2.2.2.2.1,a.2.2.2.2.2.2.2.2.2.2.2.1,a.2.2.2.2.2.2.2.2.2.2.2.2.1,a.2.2.2.2.2.2.2.2.2.2.2.2.2.1,a.2.2.2.2.2.2.2.2.2.2.2.2.2.2.1,a.2.2.2.2.2.2.2.2.2.2.2.2.2.2.2.1,a.2.2.2.2.2.2.2.2.2.2.2.2.2.2.2.2.1,w64 (a.2.2.2.2.2.2.2.2.2.2.2.2.2.2.2.2.2+1)))
        else
         some (.inl (a.1,a.2.1,a.2.2.1,a.2.2.2.1,a.2.2.2.2.1,a.2.2.2.2.2.1,a.2.2.2.2.2.2.1,a.2.2.2.2.2.2.2.1,a.2.2.2.2.2.2.2.2.1,a.2.2.2.2.2.2.2.2.2.1,a.2.2.2.2.2.2.2.2.2.2.1,a.2.2.2.2.2.2.2.2.2.2.2.1,a.2.2.2.2.2.2.2.2.2.2.2.2.1,a.2.2.2.2.2.2.2.2.2.2.2.2.2.1,a.2.2.2.2.2.2.2.2.2.2.2.2.2.2.1,a.2.2.2.2.2.2.2.2.2.2.2.2.2.2.2.1,a.2.2.2.2.2.2.2.2.2.2.2.2.2.2.2.2.1,w64 (a.2.2.2.2.2.2.2.2.2.2.2.2.2.2.2.2.2+1)))
      else
       some (.inr (dP.mk a.2.1 a.2.2.1 (ah.mk a.2.2.2.1 a.2.2.2.2.1 a.2.2.2.2.2.1 a.2.2.2.2.2.2.1 a.2.2.2.2.2.2.2.1 a.2.2.2.2.2.2.2.2.1)))
  )
structure WQ(a e:dP):Prop where
 kind:e.kind=a.kind
 pos:e.pos=a.pos
 id:e.cell.id=a.cell.id
 version:e.cell.version=a.cell.version
 ckind:e.cell.kind=a.cell.kind
 n:e.cell.n=a.cell.n
 name:e.cell.name.length<=1048576
 code:e.cell.code.length<=1048576
theorem acH(a:dP)(b:List GOp)(q:b.length<=1048576)(j:a.cell.name.length<=1048576)(k:a.cell.code.length<=1048576)(l:∀o,o∈b->o.src.length<=1048576/\o.dst.length<=1048576):∃e,zZ a b=some e/\Gg a b=some e/\WQ a e:=by
 refine Xb (f:=aqi) (g:=aqh) (fun (s:Str×Str) (i:Nat)=>((a.kind,a.pos,a.cell.id,a.cell.version,a.cell.kind,s.1,s.2,a.cell.n,0,0,0,0,0,[],[],0,b,(b.length:Int),(i:Int)):AdI)) (fun (s:Str×Str) (i:Nat)=>((b,a.kind,a.pos,a.cell.id,a.cell.version,a.cell.kind,s.1,s.2,a.cell.n,0,0,0,0,0,[],[],0,(i:Int)):AdS)) b (fun _ s=>s.1.length<=1048576/\s.2.length<=1048576) (WQ a) (fun i o s c d=>.inl ?_) (fun s d=>?_) (a.cell.name,a.cell.code) ⟨j,k⟩
 ·obtain⟨h1,h2⟩:=l o (zG c);obtain⟨t,m,p,h⟩:=aeR s.2 o.src o.dst (by omega) (by omega);refine⟨(if (s.1==o.src)=true then o.dst else s.1,if ((a.kind==4)||((a.kind==1)&&(a.cell.kind==2)))=true then t else s.2),?_,?_,?_,?_⟩
  ·simp only[aqi,bZ c,ac,aA,c,zA,m,bY c (by omega)];cases (s.1==o.src)<;>cases (a.kind==4)<;>cases (a.kind==1)<;>cases (a.cell.kind==2)<;>rfl
  ·simp only[aqh,bZ c,ac,aA,c,zA,p,bY c (by omega)];cases (s.1==o.src)<;>cases (a.kind==4)<;>cases (a.kind==1)<;>cases (a.cell.kind==2)<;>rfl
  ·show (if (s.1==o.src)=true then o.dst else s.1).length<=1048576
   split
   ·exact h2
   ·exact d.1
  ·show (if ((a.kind==4)||((a.kind==1)&&(a.cell.kind==2)))=true then t else s.2).length<=1048576
   split
   ·rcases h with rfl | h
    ·exact d.2
    ·omega
   ·exact d.2
 ·refine⟨⟨a.kind,a.pos,⟨a.cell.id,a.cell.version,a.cell.kind,s.1,s.2,a.cell.n⟩⟩,?_,?_,⟨rfl,rfl,rfl,rfl,rfl,rfl,d.1,d.2⟩⟩
  ·simp only[aqi,bG,aa]
  ·simp only[aqh,bG,aa]
end Go.Proofs.YtbbmkcioplbhbaaGreatDoor
/- Plain law: IsValidOp. -/
namespace Go.Proofs.YtbbmkcioplbhbaaGreatDoor
open Go.Abs Go.Proofs
theorem OJ(a:GOp)(h:Fit B20 (.base .op) a):∃v,pK a=some v/\uM a=some v:=by
 rw[uQ]at h;have e:=jb (dY h.2.2.2.1);unfold pK uM;simp only[mP,zQ,zA,aah _ e];cases (decide (1<=a.time)&&decide (a.time<=300))with
 | false=>exact⟨false,rfl,rfl⟩
 | true=>
 cases (decide (0<=a.by_)&&decide (a.by_<=2))with
 | false=>exact⟨false,rfl,rfl⟩
 | true=>
 simp only[aM,aa];have j:((a.seen.length:Int) != 3) = !((a.seen.length:Int)==3):=rfl;rw[j];cases ((a.seen.length:Int)==3)with
 | false=>exact⟨false,by simp,rfl⟩
 | true=>
 simp only[aM,aa,Bool.and_true];rw[ac0 (fun i:Nat=>(a.time,a.by_,a.kind,a.seen,a.edit.kind,a.edit.pos,a.edit.cell.id,a.edit.cell.version,a.edit.cell.kind,a.edit.cell.name,a.edit.cell.code,a.edit.cell.n,a.src,a.dst,a.cell,a.version,a.reads,a.seen,(a.seen.length:Int),(i:Int))) (a.time,a.by_,a.kind,a.seen,a.edit.kind,a.edit.pos,a.edit.cell.id,a.edit.cell.version,a.edit.cell.kind,a.edit.cell.name,a.edit.cell.code,a.edit.cell.n,a.src,a.dst,a.cell,a.version,a.reads,a.seen,(a.seen.length:Int),0) rfl a.seen (fun n=>decide (0<=n)&&decide (n<=60)) false _ (fun i x f=>by
  obtain⟨b,rfl⟩:=zC.1 f;simp only[gJ b,ac,aA,f,zA,iV b e];cases (decide (0<=a.seen[i])&&decide (a.seen[i]<=60))<;>rfl) (by
  simp only[dR,aa];rfl)]
 unfold amJ;rw[WL (fun n=>decide (0<=n)&&decide (n<=60))];cases (a.seen.all fun n=>decide (0<=n)&&decide (n<=60))with
 | false=>exact⟨false,rfl,rfl⟩
 | true=>
 simp only[aM,aa,ac];generalize ((a.edit.kind==0)&&((a.edit.pos==0)&&((a.edit.cell.id==0)&&((a.edit.cell.version==0)&&((a.edit.cell.kind==0)&&((a.edit.cell.name==[])&&((a.edit.cell.code==[])&&(a.edit.cell.n==0))))))))=E;generalize (a.src==[])=s;generalize (a.dst==[])=d;generalize (a.cell==0)=c;generalize (a.version==0)=v;generalize ((a.reads.length:Int)==0)=r;have k:(decide (1<=a.kind)&&decide (a.kind<=3))=((a.kind==1)||(a.kind==2)||(a.kind==3)):=by
  by_cases h1:a.kind=1
  ·rw[h1];rfl
  by_cases h2:a.kind=2
  ·rw[h2];rfl
  by_cases g:a.kind=3
  ·rw[g];rfl
  rw[beq_eq_false_iff_ne.2 h1,beq_eq_false_iff_ne.2 h2,beq_eq_false_iff_ne.2 g];by_cases l:1<=a.kind
  ·rw[ae (show ¬a.kind<=3 by omega)];simp
  ·rw[ae l];rfl
 rw[k];generalize (a.kind==1)=m;generalize (a.kind==2)=o;generalize (a.kind==3)=p;cases m<;>cases o<;>cases p<;>cases s<;>cases d<;>cases c<;>cases v<;>cases r<;>cases E<;>first | exact⟨true,rfl,rfl⟩ | exact⟨false,rfl,rfl⟩
end Go.Proofs.YtbbmkcioplbhbaaGreatDoor
/- Plain laws: equality of lists, values, reads, operations; valid logs and replicas; HasSeen. -/
namespace Go.Proofs.YtbbmkcioplbhbaaGreatDoor
open Go.Abs Go.Proofs
section eqs
noncomputable def eqd{α:Type}(a b:α):Bool:=@decide (a=b) (Classical.propDecidable _)
theorem amj{α:Type}{a b:α}:eqd a b=true↔a=b:=by unfold eqd;exact @decide_eq_true_iff _ (Classical.propDecidable _)
theorem Js{α:Type}[BEq α][LawfulBEq α](a b:α):(a==b)=eqd a b:=by
 rw[Bool.eq_iff_iff,amj];exact beq_iff_eq
theorem Xx(x y:aO):BM x y=some (eqd x.kind y.kind&&(eqd x.n y.n&&(eqd x.text y.text&&eqd x.time y.time))):=by
 unfold BM;simp only[Js];cases eqd x.kind y.kind<;>cases eqd x.n y.n<;>cases eqd x.text y.text<;>rfl
theorem UH(x y:aO):yc x y=some (eqd x.kind y.kind&&(eqd x.n y.n&&(eqd x.text y.text&&eqd x.time y.time))):=by
 unfold yc;simp only[Js];cases eqd x.kind y.kind<;>cases eqd x.n y.n<;>cases eqd x.text y.text<;>rfl
end eqs
end Go.Proofs.YtbbmkcioplbhbaaGreatDoor
/- Plain laws: names, cells and notebooks that are valid; both sides alike. Plain laws: valid cells, notebooks and histories; both sides alike. -/
namespace Go.Proofs.YtbbmkcioplbhbaaGreatDoor
open Go.Abs Go.Proofs
def printable(a:Str):Bool:=kT (fun c _=>!(decide ((c.toNat:Int)<32))&&!(decide ((c.toNat:Int)>126))) a 0&&decide ((a.length:Int)<=120)
theorem AL(a:Str)(h:a.length<lim):kL a=some (printable a):=by
 refine mM (fun i=>((a,(i:Int)):Str×Int)) a _ _ (fun i x c=>?_) ?_
 ·obtain⟨b,rfl⟩:=zC.1 c;simp only[gJ b,ac,aA,c,zA,iV b h];cases decide ((a[i].toNat:Int)<32)<;>cases decide ((a[i].toNat:Int)>126)<;>rfl
 ·simp only[dR,aa]
theorem NW(a:Str)(h:a.length<lim):oQ a=some (printable a):=AL a h
def okc(c:UInt8)(i:Nat):Bool:=(decide ((c.toNat:Int)>=97)&&decide ((c.toNat:Int)<=122))||(!((i:Int)==0)&&decide ((c.toNat:Int)>=48)&&decide ((c.toNat:Int)<=57))
theorem aal(a:Str)(h:a.length<lim):BJ a=some (kT okc a 0&&decide ((a.length:Int)>0)):=by
 refine mM (fun i=>((a,(i:Int)):Str×Int)) a _ _ (fun i x c=>?_) ?_
 ·obtain⟨b,rfl⟩:=zC.1 c;simp only[gJ b,ac,aA,c,zA,iV b h,okc];cases decide ((a[i].toNat:Int)>=97)<;>cases decide ((a[i].toNat:Int)<=122)<;>cases decide ((a[i].toNat:Int)>=48)<;>cases decide ((a[i].toNat:Int)<=57)<;>cases ((i:Int)==0)<;>rfl
 ·simp only[dR,aa]
theorem aep(a:Str)(h:a.length<lim):I8 a=some (kT okc a 0&&(decide (1<=(a.length:Int))&&decide ((a.length:Int)<=8))):=by
 refine mM (fun i=>((a,(i:Int)):Str×Int)) a _ _ (fun i x c=>?_) ?_
 ·obtain⟨b,rfl⟩:=zC.1 c;simp only[gJ b,ac,aA,c,zA,iV b h,okc,dnlt,dngt];cases decide ((a[i].toNat:Int)>=97)<;>cases decide ((a[i].toNat:Int)<=122)<;>cases decide ((a[i].toNat:Int)>=48)<;>cases decide ((a[i].toNat:Int)<=57)<;>cases ((i:Int)==0)<;>rfl
 ·simp only[dR,aa,zQ,zA]
def ahB:List Str->Str->Bool
 | [],_=>false
 | x::r,a=>x==a||ahB r a
theorem agN(xs:List Str)(a:Str)(h:xs.length<lim):kV xs a=some (ahB xs a):=by
 have key:∀(n i:Nat),xs.length=i+n->au (fun (c:(List Str)×Str×Int)=>
  bif (decide (c.2.2<(c.1.length:Int)))then
   (idx c.1 c.2.2).bind fun d=>
   bif (d==c.2.1)then
    some (.inr (true))
   else
    some (.inl (c.1,c.2.1,w64 (c.2.2+1)))
  else
   some (.inr (false))) (xs,a,(i:Int))=some (ahB (xs.drop i) a):=by
  intro n
  induction n with
  | zero=>
   intro i hi
   have:i=xs.length:=by omega
   subst this
   rw[aC]
   simp only[dR,aa,List.drop_length]
   rfl
  | succ n ih=>
   intro i hi
   have b:i<xs.length:=by omega
   rw[List.drop_eq_getElem_cons b,aC]
   simp only[gJ b,ac,aA,zF b,zA,iV b h,ahB]
   cases xs[i]==a with
   | true=>rfl
   | false=>exact ih (i+1) (by omega)
 exact key xs.length 0 (by omega)
theorem aaA(a:Str):∃b,oC a=some b/\kC a=some b:=by
 have y:kC a=some (ahB [[108,101,116],[105,110],[105,102],[116,104,101,110],[101,108,115,101],[102,111,114],[100,111],[108,101,110],[115,117,109],[116,97,107,101],[115,107,105,112],[114,97,110,103,101],[110,116,104],[119,104,101,114,101],[107,101,101,112],[97,100,100],[103,114,111,117,112],[106,111,105,110],[99,111,108,117,109,110],[114,111,119,115],[99,108,111,99,107],[99,104,97,110,99,101],[102,105,108,101],[116,97,98,108,101]] a):=by
  unfold kC qL;rw[zA,agN _ _ (by decide)];rfl
 refine⟨_,?_,y⟩;unfold oC fC;simp only[ahB,akP _ a];rcases Bool.eq_false_or_eq_true (a==[108,101,116])with q | q
 ·rw[eq_of_beq q];rfl
 rcases Bool.eq_false_or_eq_true (a==[105,110])with h1 | h1
 ·rw[eq_of_beq h1];rfl
 rcases Bool.eq_false_or_eq_true (a==[105,102])with h2 | h2
 ·rw[eq_of_beq h2];rfl
 rcases Bool.eq_false_or_eq_true (a==[116,104,101,110])with r | r
 ·rw[eq_of_beq r];rfl
 rcases Bool.eq_false_or_eq_true (a==[101,108,115,101])with s | s
 ·rw[eq_of_beq s];rfl
 rcases Bool.eq_false_or_eq_true (a==[102,111,114])with t | t
 ·rw[eq_of_beq t];rfl
 rcases Bool.eq_false_or_eq_true (a==[100,111])with u | u
 ·rw[eq_of_beq u];rfl
 rcases Bool.eq_false_or_eq_true (a==[108,101,110])with v | v
 ·rw[eq_of_beq v];rfl
 rcases Bool.eq_false_or_eq_true (a==[115,117,109])with w | w
 ·rw[eq_of_beq w];rfl
 rcases Bool.eq_false_or_eq_true (a==[116,97,107,101])with x | x
 ·rw[eq_of_beq x];rfl
 rcases Bool.eq_false_or_eq_true (a==[115,107,105,112])with c | c
 ·rw[eq_of_beq c];rfl
 rcases Bool.eq_false_or_eq_true (a==[114,97,110,103,101])with d | d
 ·rw[eq_of_beq d];rfl
 rcases Bool.eq_false_or_eq_true (a==[110,116,104])with e | e
 ·rw[eq_of_beq e];rfl
 rcases Bool.eq_false_or_eq_true (a==[119,104,101,114,101])with f | f
 ·rw[eq_of_beq f];rfl
 rcases Bool.eq_false_or_eq_true (a==[107,101,101,112])with g | g
 ·rw[eq_of_beq g];rfl
 rcases Bool.eq_false_or_eq_true (a==[97,100,100])with h | h
 ·rw[eq_of_beq h];rfl
 rcases Bool.eq_false_or_eq_true (a==[103,114,111,117,112])with i | i
 ·rw[eq_of_beq i];rfl
 rcases Bool.eq_false_or_eq_true (a==[106,111,105,110])with j | j
 ·rw[eq_of_beq j];rfl
 rcases Bool.eq_false_or_eq_true (a==[99,111,108,117,109,110])with k | k
 ·rw[eq_of_beq k];rfl
 rcases Bool.eq_false_or_eq_true (a==[114,111,119,115])with l | l
 ·rw[eq_of_beq l];rfl
 rcases Bool.eq_false_or_eq_true (a==[99,108,111,99,107])with m | m
 ·rw[eq_of_beq m];rfl
 rcases Bool.eq_false_or_eq_true (a==[99,104,97,110,99,101])with n | n
 ·rw[eq_of_beq n];rfl
 rcases Bool.eq_false_or_eq_true (a==[102,105,108,101])with o | o
 ·rw[eq_of_beq o];rfl
 rcases Bool.eq_false_or_eq_true (a==[116,97,98,108,101])with p | p
 ·rw[eq_of_beq p];rfl
 simp only[q,h1,h2,r,s,t,u,v,w,x,c,d,e,f,g,h,i,j,k,l,m,n,o,p];rfl
theorem WX(a:Str)(h:a.length<lim):∃b,bI a=some b/\bM a=some b:=by
 obtain⟨b,d,c⟩:=aaA a;unfold bI bM;rw[aep a h,aal a h,d,c];have e:decide (1<=(a.length:Int))=decide ((a.length:Int)>0):=rfl;rw[e];cases kT okc a 0<;>cases decide ((a.length:Int)>0)<;>cases decide ((a.length:Int)<=8)<;>exact⟨_,rfl,rfl⟩
theorem jq(c:ah)(h:Fit B20 (.base .cell) c):∃b,cZ c=some b/\dm c=some b:=by
 rw[je]at h;obtain⟨b,d,a⟩:=WX c.name (jb (Fa h.2.2.2.1));have h2:=jb (Fa h.2.2.2.2.1);unfold cZ dm;rw[NW _ h2,AL _ h2];simp only[zQ,mP,d,a,zA];refine amh ?_;repeat' first | exact⟨_,rfl⟩ | apply ap5
theorem kU(a:ak)(b:Int)(h:a.cells.length<lim):jG a b=some (dM (fun c=>c.id==b) a.cells 0):=by
 refine uf (fun i=>((b,a.cells,(i:Int)):Int×List ah×Int)) a.cells (fun c=>c.id==b) (fun i x e=>?_) ?_
 ·obtain⟨d,rfl⟩:=zC.1 e;simp only[gJ d,ac,aA,e,zA,iV d h]
 ·simp only[dR,aa]
theorem wO(a:ak)(b:Int)(h:a.cells.length<lim):gU a b=some (dM (fun c=>c.id==b) a.cells 0):=by
 refine uf (fun i=>((b,a.cells,(a.cells.length:Int),(i:Int)):Int×List ah×Int×Int)) a.cells (fun c=>c.id==b) (fun i x e=>?_) ?_
 ·obtain⟨d,rfl⟩:=zC.1 e;simp only[gJ d,ac,aA,e,zA,iV d h]
 ·simp only[dR,aa]
open Classical in
noncomputable def FQ(c:ah):Bool:=(dm c).getD false
theorem o5(n:ak)(f:Fit B20 (.base .notebook) n):∃b,fH n=some b/\eU n=some b:=by
 rw[gq]at f;have h:n.cells.length<lim/\∀x∈n.cells,Fit B20 (.base .cell) x:=⟨jb (dY f),f.bW⟩;refine⟨kT (fun c i=>FQ c&&!(dM (fun d=>d.id==c.id) n.cells 0 != (i:Int))) n.cells 0&&decide ((n.cells.length:Int)<=8),?_,?_⟩
 ·refine mM (fun i=>((n.cells,n.cells,(n.cells.length:Int),(i:Int)):List ah×List ah×Int×Int)) n.cells _ _ (fun i x e=>?_) ?_
  ·obtain⟨a,rfl⟩:=zC.1 e;obtain⟨b,h1,h2⟩:=jq _ (h.2 _ (List.getElem_mem a));have g:FQ n.cells[i]=b:=by unfold FQ;rw[h2];rfl
   simp only[gJ a,ac,aA,e,zA,iV a h.1,h1,g,wO ⟨n.cells⟩ _ h.1];cases b<;>cases (dM (fun d=>d.id==n.cells[i].id) n.cells 0 != (i:Int))<;>rfl
  ·simp only[dR,aa]
 ·refine mM (fun i=>((n.cells,(i:Int)):List ah×Int)) n.cells _ _ (fun i x e=>?_) ?_
  ·obtain⟨a,rfl⟩:=zC.1 e;obtain⟨b,h1,h2⟩:=jq _ (h.2 _ (List.getElem_mem a));have g:FQ n.cells[i]=b:=by unfold FQ;rw[h2];rfl
   simp only[gJ a,ac,aA,e,zA,iV a h.1,h2,g,kU ⟨n.cells⟩ _ h.1];cases b<;>cases (dM (fun d=>d.id==n.cells[i].id) n.cells 0 != (i:Int))<;>rfl
  ·simp only[dR,aa]
end Go.Proofs.YtbbmkcioplbhbaaGreatDoor
/- The plain law of IsValidHistory. -/
namespace Go.Proofs.YtbbmkcioplbhbaaGreatDoor
open Go.Abs Go.Proofs
end Go.Proofs.YtbbmkcioplbhbaaGreatDoor
/- Plain laws: HasSeen, valid logs and replicas, equality of documents. -/
namespace Go.Proofs.YtbbmkcioplbhbaaGreatDoor
open Go.Abs Go.Proofs
theorem aj8{α:Type}{xs:List α}{n:Int}(b:0<=n)(h1:n<xs.length):∃x,idx xs n=some x/\xs[n.toNat]?=some x:=by
 have a:n.toNat<xs.length:=by omega
 exact⟨xs[n.toNat],by unfold idx;rw[if_pos b];simp[a],by simp[a]⟩
theorem akF{α:Type}{xs:List α}{n:Int}(a:0<=n)(h1:n<=xs.length):eff.cutL xs none (some n)=some (xs.take n.toNat):=by
 unfold eff.cutL;simp[a,h1]
theorem ae4{n:Nat}(h:n<lim):w64 ((n:Int)-1)=(n:Int)-1:=by
 have a:(n:Int)<4611686018427387904:=Int.ofNat_lt.2 h;exact aT (by omega) (by omega)
theorem aeB(a:GOp)(b:List GOp)(c:Int)(g:a.seen.length<lim)(h:b.length<lim):∃v,xB a b c=some v/\Dl a b c=some v:=by
 unfold xB Dl;rw[mP,ae4 h];by_cases d:c<0
 ·refine⟨false,?_,?_⟩
  ·rw[ae (show ¬0<=c by omega)];rfl
  ·rw[aq d];rfl
 rw[aq (show 0<=c by omega),ae d];by_cases h1:c>=b.length
 ·refine⟨false,?_,?_⟩
  ·rw[ae (show ¬c<=(b.length:Int)-1 by omega)];rfl
  ·rw[aq h1];rfl
 rw[aq (show c<=(b.length:Int)-1 by omega),ae h1];obtain⟨e,i,_⟩:=aj8 (xs:=b) (n:=c) (by omega) (by omega);simp only[Bool.and_self,zA,aM,aa,i,mP,ae4 g];by_cases h2:e.by_<0
 ·refine⟨false,?_,?_⟩
  ·rw[ae (show ¬0<=e.by_ by omega)];rfl
  ·rw[aq h2];rfl
 rw[aq (show 0<=e.by_ by omega),ae h2];by_cases f:e.by_>=a.seen.length
 ·refine⟨false,?_,?_⟩
  ·rw[ae (show ¬e.by_<=(a.seen.length:Int)-1 by omega)];rfl
  ·rw[aq f];rfl
 rw[aq (show e.by_<=(a.seen.length:Int)-1 by omega),ae f];obtain⟨s,j,_⟩:=aj8 (xs:=a.seen) (n:=e.by_) (by omega) (by omega);obtain⟨v,k,l⟩:=aeQ (b.take c.toNat) e.by_ (by rw[ba];omega);simp only[Bool.and_self,aM,aa,akF (show 0<=c by omega) (show c<=(b.length:Int) by omega),zA,k,l,j];exact⟨_,rfl,rfl⟩
theorem YP(a b:GOp):KO a b=wX a b:=rfl
theorem Ie(a b:GOp):wX a b=some (decide (a.time<b.time)||((a.time==b.time)&&decide (a.by_<b.by_))):=by
 unfold wX;cases decide (a.time<b.time)<;>cases (a.time==b.time)<;>rfl
noncomputable def opB(a:GOp):Bool:=(pK a).getD false
theorem Uc(a:GOp)(h:Fit B20 (.base .op) a):pK a=some (opB a):=by
 obtain⟨v,b,_⟩:=OJ a h;rw[b];unfold opB;rw[b];rfl
theorem UR(a:GOp)(h:Fit B20 (.base .op) a):uM a=some (opB a):=by
 obtain⟨v,b,c⟩:=OJ a h;rw[c];unfold opB;rw[b];rfl
noncomputable def Fq(a:List GOp)(x:GOp)(i:Nat):Bool:=
 opB x&&(!decide ((i:Int)>0)||(match a[i-1]? with
  | some y=>decide (y.time<x.time)||((y.time==x.time)&&decide (y.by_<x.by_))
  | none=>false))
theorem Vp{i n:Nat}(h:i<n)(a:n<lim)(c:(i:Int)>0):w64 ((i:Int)-1)=((i-1:Nat):Int):=by
 have d:(i:Int)<(n:Int):=Int.ofNat_lt.2 h;have b:(n:Int)<4611686018427387904:=Int.ofNat_lt.2 a;rw[aT (by omega) (by omega)];omega
theorem WY(a:List GOp)(h:aW B20 (.list (.base .op) a)):BX a=some (kT (Fq a) a 0&&decide ((a.length:Int)<=60))/\Di a=some (kT (Fq a) a 0&&decide ((a.length:Int)<=60)):=by
 have e:=jb (dY h);refine⟨?_,?_⟩
 ·refine mM (fun i=>((a,(i:Int)):List GOp×Int)) a _ _ (fun i x d=>?_) ?_
  ·obtain⟨b,rfl⟩:=zC.1 d;have f:=h.bW a[i] (List.getElem_mem b);simp only[gJ b,ac,aA,d,zA,iV b e,Uc _ f,Fq];cases opB a[i]with
   | false=>rfl
   | true=>
    by_cases c:(i:Int)>0
    ·have g:a[i-1]?=some (a[i-1]'(by omega)):=zF (by omega);rw[Vp b e c];simp only[aq c,ac,aA,g,zA,Ie,aM,aa,Bool.true_and,Bool.false_or];cases (decide ((a[i-1]'(by omega)).time<a[i].time)||(((a[i-1]'(by omega)).time==a[i].time)&&decide ((a[i-1]'(by omega)).by_<a[i].by_)))<;>rfl
    ·simp only[ae c];rfl
  ·simp only[dR,aa]
 ·refine mM (fun i=>((a,a,(a.length:Int),(i:Int)):List GOp×List GOp×Int×Int)) a _ _ (fun i x d=>?_) ?_
  ·obtain⟨b,rfl⟩:=zC.1 d;have f:=h.bW a[i] (List.getElem_mem b);simp only[gJ b,ac,aA,d,zA,iV b e,UR _ f,Fq,YP];cases opB a[i]with
   | false=>rfl
   | true=>
    by_cases c:(i:Int)>0
    ·have g:a[i-1]?=some (a[i-1]'(by omega)):=zF (by omega);rw[Vp b e c];simp only[aq c,ac,aA,g,zA,Ie,aM,aa,Bool.true_and,Bool.false_or];cases (decide ((a[i-1]'(by omega)).time<a[i].time)||(((a[i-1]'(by omega)).time==a[i].time)&&decide ((a[i-1]'(by omega)).by_<a[i].by_)))<;>rfl
    ·simp only[ae c];rfl
  ·simp only[dR,aa]
end Go.Proofs.YtbbmkcioplbhbaaGreatDoor
