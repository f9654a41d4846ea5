import Derived.Test.YtbbmkcioplbhbaaGreatDoorBasic
import Derived.Test.YtbbmkcioplbhbaaGreatDoorComp1
import Derived.Test.YtbbmkcioplbhbaaGreatDoorFree1
set_option linter.unusedSimpArgs false
set_option linter.unusedVariables false
/- Plain laws of marks, by genmark.py. -/
namespace Go.Proofs.YtbbmkcioplbhbaaGreatDoor
noncomputable section
open Go.Abs Go.Proofs
def Tv(xs:List Int):Prop:=xs.length<4611686018427387904
def Lu(xs:List Str):Prop:=xs.length<4611686018427387904
theorem oh(a:Bool):(!(a==a))=false:=by simp
theorem Ci(xs:List Int)(b:xs.length<4611686018427387904):Vd xO Dj xs (jI xs):=by
 refine kD (mk:=xO) (hd:=Dj) (fun _ _=>rfl) (fun _ _=>rfl) (fun _=>1) (fun _=>True) (fun xs i x k c f b g h=>?_) (fun xs k=>?_) (fun xs k=>?_) xs (fun _ _=>trivial) b
 ·have d:w64 (k+1)=k+1:=aT (by omega) (by omega);refine⟨k,?_,fun ys e a=>?_⟩
  ·simp only[dec_lt c,ac,aA,az,c,zA,d,eu c b];rfl
  ·simp only[dec_lt a,ac,aA,a,zA,d,eu a e,jc,jm,aa];rfl
 ·simp only[Int.lt_irrefl,decide_false,aa]
 ·simp only[Int.lt_irrefl,decide_false,aa]
theorem Qx{xs:List Int}(h:aV B24 (.list (.base .int) xs)):Tv xs/\jI xs<=16777216:=by
 have a:=uH h;refine⟨by unfold Tv;omega,?_⟩;have:=O8 (fun _=>1) xs 1 (fun _ _=>aw 1);unfold jI;omega
theorem Cf(xs:List Str)(b:xs.length<4611686018427387904):Vd oq oD xs (gy xs):=by
 refine kD (mk:=oq) (hd:=oD) (fun _ _=>rfl) (fun _ _=>rfl) (fun _=>1) (fun _=>True) (fun xs i x k c h b j l=>?_) (fun xs k=>?_) (fun xs k=>?_) xs (fun _ _=>trivial) b
 ·have d:w64 (k+1)=k+1:=aT (by omega) (by omega);obtain⟨f,e⟩:=iP k (by omega) (by omega);refine⟨f,?_,fun ys g a=>?_⟩
  ·simp only[dec_lt c,ac,aA,az,c,zA,d,eu c b,e];rfl
  ·simp only[dec_lt a,ac,aA,a,zA,d,eu a g,jc,jm,aa,e];rfl
 ·simp only[Int.lt_irrefl,decide_false,aa]
 ·simp only[Int.lt_irrefl,decide_false,aa]
theorem ML{xs:List Str}(h:aV B24 (.list (.base .str) xs)):Lu xs/\gy xs<=16777216:=by
 have a:=uH h;refine⟨by unfold Lu;omega,?_⟩;have:=O8 (fun _=>1) xs 1 (fun _ _=>aw 1);unfold gy;omega
def LD(x:bQ):Prop:=True
def LC(xs:List bQ):Prop:=(∀x,x∈xs->LD x)/\xs.length<4611686018427387904
theorem QH(xs:List bQ)(h:LC xs):Vd vO vW xs (uS xs):=by
 refine kD (mk:=vO) (hd:=vW) (fun _ _=>rfl) (fun _ _=>rfl) lK LD (fun xs i x k b n e o f=>?_) (fun xs k=>?_) (fun xs k=>?_) xs h.1 h.2
 ·unfold lK at f;obtain⟨k0,g⟩:∃m:Int,m=k+1:=⟨_,rfl⟩;have w0:w64 (k+1)=k0:=by rw[g];exact aT (by omega) (by omega)
  obtain⟨c,j⟩:∃m:Int,m=k0+1:=⟨_,rfl⟩;have d:w64 (k0+1)=c:=by rw[j];exact aT (by omega) (by omega)
  have hsum:c=k+(lK x:Nat):=by unfold lK;omega
  refine⟨bQ.mk k k0,?_,fun ys l a=>?_⟩
  ·simp only[dec_lt b,ac,aA,az,b,yS b,List.set_set,zA,eu b e,w0,d,dn,aS,eG,jk];rw[hsum]
  ·simp only[dec_lt a,ac,aA,a,zA,eu a l,jc,jm,oh,aa,w0,d,dn,aS,eG,jk];rw[hsum]
 ·simp only[Int.lt_irrefl,decide_false,aa]
 ·simp only[Int.lt_irrefl,decide_false,aa]
theorem adu{xs:List bQ}(h:aV B24 (.list (.base .origin) xs)):LC xs:=by
 have a:=uH h;refine⟨fun x b=>?_,by omega⟩;unfold LD;trivial
def Zm(x:bD):Prop:=Tv x.cells/\LC x.orig
def aeA(xs:List bD):Prop:=(∀x,x∈xs->Zm x)/\xs.length<4611686018427387904
theorem MV(xs:List bD)(h:aeA xs):Vd xN yB xs (qy xs):=by
 refine kD (mk:=xN) (hd:=yB) (fun _ _=>rfl) (fun _ _=>rfl) sO Zm (fun xs i x k b g l y n=>?_) (fun xs k=>?_) (fun xs k=>?_) xs h.1 h.2
 ·unfold sO at n;unfold Zm at g;obtain⟨o,p⟩:=g;obtain⟨q,c,d⟩:=Ci x.cells o k (by omega) (by omega);obtain⟨k0,r⟩:∃m:Int,m=k+(jI x.cells:Nat):=⟨_,rfl⟩;rw[<- r]at c d;have s:decide (k0<0)=false:=ae (by omega);obtain⟨t,e,f⟩:=QH x.orig p k0 (by omega) (by omega);obtain⟨j,u⟩:∃m:Int,m=k0+(uS x.orig:Nat):=⟨_,rfl⟩;rw[<- u]at e f;have v:decide (j<0)=false:=ae (by omega);have hsum:j=k+(sO x:Nat):=by unfold sO;omega
  refine⟨bD.mk q t,?_,fun ys w a=>?_⟩
  ·simp only[dec_lt b,ac,aA,az,b,yS b,List.set_set,zA,eu b l,c,d,e,f,dn,aS,eG,jk];rw[hsum]
  ·simp only[dec_lt a,ac,aA,a,zA,eu a w,jc,jm,oh,aa,c,d,e,f,s,v,dn,aS,eG,jk];rw[hsum]
 ·simp only[Int.lt_irrefl,decide_false,aa]
 ·simp only[Int.lt_irrefl,decide_false,aa]
theorem ae7{xs:List bD}(h:aV B24 (.list (.base .row) xs)):aeA xs:=by
 have b:=uH h;refine⟨fun x a=>?_,by omega⟩;unfold Zm;have f:=h.cu x a;rw[EF]at f;obtain⟨f_0,f_1⟩:=f;exact⟨Qx f_0 |>.1,adu f_1⟩
def dV(x:aC):Nat:=aC.rec (motive_1:=fun _=>Nat) (motive_2:=fun _=>Nat) (fun _ _ _ _ _ _ _ ih=>ih+1) 0 (fun _ _ a b=>max a b) x
def dVs(xs:List aC):Nat:=aC.rec_1 (motive_1:=fun _=>Nat) (motive_2:=fun _=>Nat) (fun _ _ _ _ _ _ _ ih=>ih+1) 0 (fun _ _ a b=>max a b) xs
theorem abT(x:aC):dV x=dVs x.list+1:=by cases x;rfl
theorem abS(x:aC)(xs:List aC):dVs (x::xs)=max (dV x) (dVs xs):=rfl
theorem ajX{d:Nat}:∀ {xs:List aC},(∀x,x∈xs->dV x<=d)->dVs xs<=d
 | [],_=>Nat.zero_le _
 | x::xs,h=>Nat.max_le.2 ⟨h x ar,ajX fun y a=>h y (aq _ a)⟩
theorem Zc{d:Nat}:∀ {xs:List aC},dVs xs<=d->∀x,x∈xs->dV x<=d
 | [],_,x,a=>by cases a
 | y::ys,h,x,a=>by
  have b:max (dV y) (dVs ys)<=d:=h;have h2:=Nat.max_le.1 b;rcases ba.1 a with rfl | a
  ·exact h2.1
  ·exact Zc h2.2 x a
theorem Wi:∀ {xs ys:List aC},ys.length=xs.length->(∀(i:Nat) (x y:aC),xs[i]?=some x->ys[i]?=some y->dV y=dV x)->dVs ys=dVs xs
 | [],[],_,_=>rfl
 | x::xs,y::ys,c,h=>by
  rw[abS,abS,h 0 x y rfl rfl,Wi (by simpa using c) fun i a b d e=>h (i+1) a b (by simpa using d) (by simpa using e)]
theorem Zb:∀n (xs:List aC),siz xs<n->dVs xs<=siz xs
 | 0,xs,h=>absurd h (Nat.not_lt_zero _)
 | n+1,xs,h=>ajX fun x a=>by
   have h1:=DW a;have h2:=wR (v:=x);have b:=Zb n x.list (by omega);rw[abT];omega
def Tt(xs:List aC):Prop:=aV B24 (.list (.base .val) xs)
theorem Ur:∀(d:Nat) (xs:List aC),dVs xs<=d->Tt xs->∀k:Int,0<=k->k+fM xs<=4611686018427387904 ->
  ∃ys,dVs ys=dVs xs/\∀j:Nat×Nat,(d<j.1/\d<j.2)->kC j.1 xs k=some (ys,k+(fM xs:Nat))/\lH j.2 ys k=some (k+(fM xs:Nat)):=by
 intro d;induction d with
 | zero=>
  intro xs hd v k F A;have q:xs=[]:=by
   cases xs with
   | nil=>rfl
   | cons x xs=>have:=Zc hd x ar;rw[abT]at this;omega
  subst q;refine⟨[],rfl,fun j t=>?_⟩;obtain⟨a,b⟩:=j;obtain⟨h1,h2⟩:=t;match a,b,h1,h2 with
  | a+1,b+1,_,_=>
   have e:k+(fM []:Nat)=k:=by show k+((0:Nat):Int)=k;omega
   rw[e];constructor
   ·show Ce (kC a) [] k=_
    unfold Ce;rw[aH];rfl
   ·show Di (lH b) [] k=_
    unfold Di;rw[aH];rfl
 | succ d ih=>
  intro xs hd v k F A;have O:=uH v;rw[Ad]at A ⊢;have M:=agI (ι:=Nat×Nat) (J:=fun j=>d+1<j.1/\d+1<j.2) (mk:=fun j=>kC j.1) (hd:=fun j=>lH j.2)
   (g:=fun j=>(fun (x:List aC×Int×Int)=>
     bif (decide (x.2.1<(x.1.length:Int)))then
      (idx x.1 x.2.1).bind fun _=>
      (x.1[x.2.1.toNat]?).bind fun u=>
      (some (x.1.set x.2.1.toNat (aC.mk x.2.2 u.n u.step u.text u.list u.columns u.rows))).bind fun G=>
      (idx G x.2.1).bind fun _=>
      (G[x.2.1.toNat]?).bind fun m=>
      (some (G.set x.2.1.toNat (aC.mk m.kind (w64 (x.2.2+1)) m.step m.text m.list m.columns m.rows))).bind fun H=>
      (idx H x.2.1).bind fun _=>
      (H[x.2.1.toNat]?).bind fun p=>
      (some (H.set x.2.1.toNat (aC.mk p.kind p.n (w64 ((w64 (x.2.2+1))+1)) p.text p.list p.columns p.rows))).bind fun I=>
      (dQ (w64 ((w64 ((w64 (x.2.2+1))+1))+1))).bind fun V=>
      (idx I x.2.1).bind fun _=>
      (I[x.2.1.toNat]?).bind fun z=>
      (some (I.set x.2.1.toNat (aC.mk z.kind z.n z.step V z.list z.columns z.rows))).bind fun E=>
      (idx E x.2.1).bind fun _=>
      (E[x.2.1.toNat]?).bind fun W=>
      (E[x.2.1.toNat]?).bind fun f=>
      ((kC (j.1-1)) f.list (w64 ((w64 ((w64 ((w64 (x.2.2+1))+1))+1))+1))).bind fun o=>
      (some (E.set x.2.1.toNat (aC.mk f.kind f.n f.step f.text o.1 f.columns f.rows))).bind fun r=>
      (idx r x.2.1).bind fun _=>
      (r[x.2.1.toNat]?).bind fun X=>
      (r[x.2.1.toNat]?).bind fun h=>
      (oq h.columns o.2).bind fun B=>
      (some (r.set x.2.1.toNat (aC.mk h.kind h.n h.step h.text h.list B.1 h.rows))).bind fun s=>
      (idx s x.2.1).bind fun _=>
      (s[x.2.1.toNat]?).bind fun Y=>
      (s[x.2.1.toNat]?).bind fun l=>
      (xN l.rows B.2).bind fun C=>
      (some (s.set x.2.1.toNat (aC.mk l.kind l.n l.step l.text l.list l.columns C.1))).bind fun K=>
      some (.inl (K,w64 (x.2.1+1),C.2))
     else
      some (.inr (x.1,x.2.2))
    )) (g':=fun j=>(fun (c:(List aC)×Int×Int)=>
     bif (decide (c.2.2<(c.1.length:Int)))then
      (idx c.1 c.2.2).bind fun L=>
      bif (L.kind != c.2.1)then
       some (.inr ((-1)))
      else
      (idx c.1 c.2.2).bind fun m=>
      bif (m.n != (w64 (c.2.1+1)))then
       some (.inr ((-1)))
      else
      (idx c.1 c.2.2).bind fun Z=>
      bif (Z.step != (w64 ((w64 (c.2.1+1))+1)))then
       some (.inr ((-1)))
      else
      (idx c.1 c.2.2).bind fun p=>
      (dQ (w64 ((w64 ((w64 (c.2.1+1))+1))+1))).bind fun r6=>
      bif (!(p.text==r6))then
       some (.inr ((-1)))
      else
      (idx c.1 c.2.2).bind fun e7=>
      ((lH (j.2-1)) e7.list (w64 ((w64 ((w64 ((w64 (c.2.1+1))+1))+1))+1))).bind fun P=>
      bif (decide (P<0))then
       some (.inr ((-1)))
      else
      (idx c.1 c.2.2).bind fun e9=>
      (oD e9.columns P).bind fun D=>
      bif (decide (D<0))then
       some (.inr ((-1)))
      else
       (idx c.1 c.2.2).bind fun f=>
       (yB f.rows D).bind fun o=>
       bif (decide (o<0))then
        some (.inr ((-1)))
       else
        some (.inl (c.1,o,w64 (c.2.2+1)))
     else
      some (.inr (c.2.1))
    )) (fun j t xs k=>?_) (fun j t xs k=>?_) qf (fun x=>dV x<=d+1/\Fit B24 (.base .val) x) (fun x y=>dV y=dV x)
   (fun xs i x k q hP O F A=>?_) (fun j t xs k=>?_) (fun j t xs k=>?_) xs (fun x q=>⟨Zc hd x q,v.cu x q⟩) (by omega) k F A
  ·obtain⟨ys,u,eQ,L⟩:=M;exact⟨ys,Wi u eQ,L⟩
  ·obtain⟨a,b⟩:=j;match a,t with
   | a+1,_=>rfl
  ·obtain⟨a,b⟩:=j;match b,t with
   | b+1,_=>rfl
  ·obtain⟨N,Q⟩:=hP;rw[abT]at N;rw[zZ]at Q;obtain⟨c0,c1,c2,c3,c4,c5,c6⟩:=Q;rw[Ae]at A ⊢;obtain⟨t3,m⟩:=iP (k+1+1+1) (by omega) (by omega);obtain⟨R,d4,f4⟩:=ih x.list (by omega) c4 (k+1+1+1+1) (by omega) (by omega);obtain⟨y5,p,f5⟩:=Cf x.columns (ML c5).1 (k+1+1+1+1+(fM x.list:Nat)) (by omega) (by omega);obtain⟨y6,e6,f6⟩:=MV x.rows (ae7 c6) (k+1+1+1+1+(fM x.list:Nat)+(gy x.columns:Nat)) (by omega) (by omega);have w0:w64 (k+1)=k+1:=aT (by omega) (by omega);have S:w64 (k+1+1)=k+1+1:=aT (by omega) (by omega);have T:w64 (k+1+1+1)=k+1+1+1:=aT (by omega) (by omega);have U:w64 (k+1+1+1+1)=k+1+1+1+1:=aT (by omega) (by omega);have n4:decide (k+1+1+1+1+(fM x.list:Nat)<0)=false:=ae (by omega);have n5:decide (k+1+1+1+1+(fM x.list:Nat)+(gy x.columns:Nat)<0)=false:=ae (by omega);have n6:decide (k+1+1+1+1+(fM x.list:Nat)+(gy x.columns:Nat)+(qy x.rows:Nat)<0)=false:=ae (by omega);have hsum:k+1+1+1+1+(fM x.list:Nat)+(gy x.columns:Nat)+(qy x.rows:Nat)=k+((1+1+1+1+fM x.list+gy x.columns+qy x.rows:Nat):Int):=by omega
   refine⟨aC.mk k (k+1) (k+1+1) t3 R y5 y6,by rw[abT,abT];show dVs R+1=_;omega,fun j t=>?_⟩;have ej:=f4 (j.1-1,j.2-1) ⟨by show d<j.1-1;omega,by show d<j.2-1;omega⟩;refine⟨?_,fun ys hy w=>?_⟩
   ·simp only[dec_lt q,ac,aA,az,q,yS q,List.set_set,zA,eu q O,w0,S,T,U,m,ej.1,p,e6,dn];rw[hsum]
   ·simp only[dec_lt w,ac,aA,w,zA,eu w hy,jc,jm,aa,w0,S,T,U,m,ej.2,f5,f6,n4,n5,n6,dn];rw[hsum]
  ·simp only[Int.lt_irrefl,decide_false,aa]
  ·simp only[Int.lt_irrefl,decide_false,aa]
theorem Uo(xs:List aC)(h:Tt xs):Vd zx GZ xs (fM xs):=by
 intro k a b;obtain⟨ys,d,c⟩:=Ur (dVs xs) xs (aw _) h k a b;have h1:=Zb (siz xs+1) xs (Nat.lt_succ_self _);have h2:=Zb (siz ys+1) ys (Nat.lt_succ_self _);have:=c (siz xs+1,siz ys+1) ⟨by show dVs xs<siz xs+1;omega,by show dVs xs<siz ys+1;omega⟩;exact⟨ys,this.1,this.2⟩
def Oz(x:aN):Prop:=Tt x.result.list/\Lu x.result.columns/\aeA x.result.rows
def Js(xs:List aN):Prop:=(∀x,x∈xs->Oz x)/\xs.length<4611686018427387904
set_option maxHeartbeats 1000000 in
theorem zy(xs:List aN)(h:Js xs):Vd tu yC xs (fB xs):=by
 refine kD (mk:=tu) (hd:=yC) (fun _ _=>rfl) (fun _ _=>rfl) mX Oz (fun xs i x k e z J h0 K=>?_) (fun xs k=>?_) (fun xs k=>?_) xs h.1 h.2
 ·unfold mX at K;unfold Oz at z;obtain⟨L,M,N⟩:=z;obtain⟨k0,O⟩:∃m:Int,m=k+1:=⟨_,rfl⟩;have w0:w64 (k+1)=k0:=by rw[O];exact aT (by omega) (by omega)
  obtain⟨f,P⟩:∃m:Int,m=k0+1:=⟨_,rfl⟩;have A:w64 (k0+1)=f:=by rw[P];exact aT (by omega) (by omega)
  obtain⟨g,Q⟩:∃m:Int,m=f+1:=⟨_,rfl⟩;have B:w64 (f+1)=g:=by rw[Q];exact aT (by omega) (by omega)
  obtain⟨R,C⟩:=iP g (by omega) (by omega);obtain⟨j,S⟩:∃m:Int,m=g+1:=⟨_,rfl⟩;have D:w64 (g+1)=j:=by rw[S];exact aT (by omega) (by omega)
  obtain⟨l,T⟩:∃m:Int,m=j+1:=⟨_,rfl⟩;have E:w64 (j+1)=l:=by rw[T];exact aT (by omega) (by omega)
  obtain⟨n,U⟩:∃m:Int,m=l+1:=⟨_,rfl⟩;have F:w64 (l+1)=n:=by rw[U];exact aT (by omega) (by omega)
  obtain⟨o,V⟩:∃m:Int,m=n+1:=⟨_,rfl⟩;have G:w64 (n+1)=o:=by rw[V];exact aT (by omega) (by omega)
  obtain⟨W,H⟩:=iP o (by omega) (by omega);obtain⟨p,X⟩:∃m:Int,m=o+1:=⟨_,rfl⟩;have I:w64 (o+1)=p:=by rw[X];exact aT (by omega) (by omega)
  obtain⟨Y,q,r⟩:=Uo x.result.list L p (by omega) (by omega);obtain⟨s,Z⟩:∃m:Int,m=p+(fM x.result.list:Nat):=⟨_,rfl⟩;rw[<- Z]at q r;have n8:decide (s<0)=false:=ae (by omega);obtain⟨y9,t,u⟩:=Cf x.result.columns M s (by omega) (by omega);obtain⟨k9,g9⟩:∃m:Int,m=s+(gy x.result.columns:Nat):=⟨_,rfl⟩;rw[<- g9]at t u;have n9:decide (k9<0)=false:=ae (by omega);obtain⟨v,a,b⟩:=MV x.result.rows N k9 (by omega) (by omega);obtain⟨d,w⟩:∃m:Int,m=k9+(qy x.result.rows:Nat):=⟨_,rfl⟩;rw[<- w]at a b;have y:decide (d<0)=false:=ae (by omega);have hsum:d=k+(mX x:Nat):=by unfold mX;omega
  refine⟨aN.mk k k0 f R (aC.mk j l n W Y y9 v),?_,fun ys hy c=>?_⟩
  ·simp only[dec_lt e,ac,aA,az,e,yS e,List.set_set,zA,eu e J,w0,A,B,D,E,F,G,I,C,H,q,r,t,u,a,b,dn,aS,eG,jk];rw[hsum]
  ·simp only[dec_lt c,ac,aA,c,zA,eu c hy,jc,jm,oh,aa,w0,A,B,D,E,F,G,I,C,H,q,r,t,u,a,b,n8,n9,y,dn,aS,eG,jk];rw[hsum]
 ·simp only[Int.lt_irrefl,decide_false,aa]
 ·simp only[Int.lt_irrefl,decide_false,aa]
theorem Qw{xs:List aN}(h:aV B24 (.list (.base .read) xs)):Js xs:=by
 have b:=uH h;refine⟨fun x a=>?_,by omega⟩;unfold Oz;have f:=h.cu x a;rw[qY]at f;obtain⟨f_0,f_1,f_2,f_3,f_4⟩:=f;rw[zZ]at f_4;obtain⟨f_4_0,f_4_1,f_4_2,f_4_3,f_4_4,f_4_5,f_4_6⟩:=f_4;exact⟨f_4_4,ML f_4_5 |>.1,ae7 f_4_6⟩
def Jt(x:ah):Prop:=True
def OA(xs:List ah):Prop:=(∀x,x∈xs->Jt x)/\xs.length<4611686018427387904
theorem Yi(xs:List ah)(h:OA xs):Vd Ef ED xs (mY xs):=by
 refine kD (mk:=Ef) (hd:=ED) (fun _ _=>rfl) (fun _ _=>rfl) jW Jt (fun xs i x k b E s F t=>?_) (fun xs k=>?_) (fun xs k=>?_) xs h.1 h.2
 ·unfold jW at t;obtain⟨k0,u⟩:∃m:Int,m=k+1:=⟨_,rfl⟩;have w0:w64 (k+1)=k0:=by rw[u];exact aT (by omega) (by omega)
  obtain⟨c,v⟩:∃m:Int,m=k0+1:=⟨_,rfl⟩;have g:w64 (k0+1)=c:=by rw[v];exact aT (by omega) (by omega)
  obtain⟨d,w⟩:∃m:Int,m=c+1:=⟨_,rfl⟩;have j:w64 (c+1)=d:=by rw[w];exact aT (by omega) (by omega)
  obtain⟨y,l⟩:=iP d (by omega) (by omega);obtain⟨e,z⟩:∃m:Int,m=d+1:=⟨_,rfl⟩;have n:w64 (d+1)=e:=by rw[z];exact aT (by omega) (by omega)
  obtain⟨A,o⟩:=iP e (by omega) (by omega);obtain⟨f,B⟩:∃m:Int,m=e+1:=⟨_,rfl⟩;have p:w64 (e+1)=f:=by rw[B];exact aT (by omega) (by omega)
  obtain⟨q,C⟩:∃m:Int,m=f+1:=⟨_,rfl⟩;have r:w64 (f+1)=q:=by rw[C];exact aT (by omega) (by omega)
  have hsum:q=k+(jW x:Nat):=by unfold jW;omega
  refine⟨ah.mk k k0 c y A f,?_,fun ys D a=>?_⟩
  ·simp only[dec_lt b,ac,aA,az,b,yS b,List.set_set,zA,eu b s,w0,g,j,n,p,r,l,o,dn,aS,eG,jk];rw[hsum]
  ·simp only[dec_lt a,ac,aA,a,zA,eu a D,jc,jm,oh,aa,w0,g,j,n,p,r,l,o,dn,aS,eG,jk];rw[hsum]
 ·simp only[Int.lt_irrefl,decide_false,aa]
 ·simp only[Int.lt_irrefl,decide_false,aa]
theorem ai2{xs:List ah}(h:aV B24 (.list (.base .cell) xs)):OA xs:=by
 have a:=uH h;refine⟨fun x b=>?_,by omega⟩;unfold Jt;trivial
theorem agB{xs:List ah}(h:aV B24 (.list (.base .cell) xs)):OA xs/\mY xs<=100663296:=by
 have b:=uH h;have key:∀x,x∈xs->Jt x/\jW x<=6:=by
  intro x a;unfold Jt jW;exact⟨trivial,by omega⟩
 refine⟨⟨fun x a=>(key x a).1,by omega⟩,?_⟩;have h1:=O8 jW xs 6 fun x a=>(key x a).2
 have h2:xs.length*6<=16777216*6:=Nat.mul_le_mul_right _ (by omega);unfold mY;omega
def Oy(x:aK):Prop:=Js x.reads
def Zl(xs:List aK):Prop:=(∀x,x∈xs->Oy x)/\xs.length<4611686018427387904
theorem Yg(xs:List aK)(h:Zl xs):Vd Ee EC xs (fA xs):=by
 refine kD (mk:=Ee) (hd:=EC) (fun _ _=>rfl) (fun _ _=>rfl) lJ Oy (fun xs i x k b f l v n=>?_) (fun xs k=>?_) (fun xs k=>?_) xs h.1 h.2
 ·unfold lJ at n;unfold Oy at f;have o:=f;obtain⟨k0,p⟩:∃m:Int,m=k+1:=⟨_,rfl⟩;have w0:w64 (k+1)=k0:=by rw[p];exact aT (by omega) (by omega)
  obtain⟨c,q⟩:∃m:Int,m=k0+1:=⟨_,rfl⟩;have g:w64 (k0+1)=c:=by rw[q];exact aT (by omega) (by omega)
  obtain⟨r,d,e⟩:=zy x.reads o c (by omega) (by omega);obtain⟨j,s⟩:∃m:Int,m=c+(fB x.reads:Nat):=⟨_,rfl⟩;rw[<- s]at d e;have t:decide (j<0)=false:=ae (by omega);have hsum:j=k+(lJ x:Nat):=by unfold lJ;omega
  refine⟨aK.mk k k0 r,?_,fun ys u a=>?_⟩
  ·simp only[dec_lt b,ac,aA,az,b,yS b,List.set_set,zA,eu b l,w0,g,d,e,dn,aS,eG,jk];rw[hsum]
  ·simp only[dec_lt a,ac,aA,a,zA,eu a u,jc,jm,oh,aa,w0,g,d,e,t,dn,aS,eG,jk];rw[hsum]
 ·simp only[Int.lt_irrefl,decide_false,aa]
 ·simp only[Int.lt_irrefl,decide_false,aa]
theorem ai0{xs:List aK}(h:aV B24 (.list (.base .tape) xs)):Zl xs:=by
 have b:=uH h;refine⟨fun x a=>?_,by omega⟩;unfold Oy;have f:=h.cu x a;rw[qX]at f;obtain⟨f_0,f_1,f_2⟩:=f;exact Qw f_2
def afA(x:GOp):Prop:=Tv x.seen/\Js x.reads
def aks(xs:List GOp):Prop:=(∀x,x∈xs->afA x)/\xs.length<4611686018427387904
set_option maxHeartbeats 1000000 in
theorem QI(xs:List GOp)(h:aks xs):Vd IE Oo xs (qg xs):=by
 refine kD (mk:=IE) (hd:=Oo) (fun _ _=>rfl) (fun _ _=>rfl) uT afA (fun xs i x k y V hl h0 hk=>?_) (fun xs k=>?_) (fun xs k=>?_) xs h.1 h.2
 ·unfold uT at hk;unfold afA at V;obtain⟨q0,q1⟩:=V;obtain⟨k0,g0⟩:∃m:Int,m=k+1:=⟨_,rfl⟩;have w0:w64 (k+1)=k0:=by rw[g0];exact aT (by omega) (by omega)
  obtain⟨z,g1⟩:∃m:Int,m=k0+1:=⟨_,rfl⟩;have W:w64 (k0+1)=z:=by rw[g1];exact aT (by omega) (by omega)
  obtain⟨G,g2⟩:∃m:Int,m=z+1:=⟨_,rfl⟩;have X:w64 (z+1)=G:=by rw[g2];exact aT (by omega) (by omega)
  obtain⟨y3,H,I⟩:=Ci x.seen q0 G (by omega) (by omega);obtain⟨A,g3⟩:∃m:Int,m=G+(jI x.seen:Nat):=⟨_,rfl⟩;rw[<- g3]at H I;have n3:decide (A<0)=false:=ae (by omega);obtain⟨B,g4⟩:∃m:Int,m=A+1:=⟨_,rfl⟩;have Y:w64 (A+1)=B:=by rw[g4];exact aT (by omega) (by omega)
  obtain⟨C,g5⟩:∃m:Int,m=B+1:=⟨_,rfl⟩;have Z:w64 (B+1)=C:=by rw[g5];exact aT (by omega) (by omega)
  obtain⟨D,g6⟩:∃m:Int,m=C+1:=⟨_,rfl⟩;have w6:w64 (C+1)=D:=by rw[g6];exact aT (by omega) (by omega)
  obtain⟨E,g7⟩:∃m:Int,m=D+1:=⟨_,rfl⟩;have w7:w64 (D+1)=E:=by rw[g7];exact aT (by omega) (by omega)
  obtain⟨F,g8⟩:∃m:Int,m=E+1:=⟨_,rfl⟩;have w8:w64 (E+1)=F:=by rw[g8];exact aT (by omega) (by omega)
  obtain⟨t9,e9⟩:=iP F (by omega) (by omega);obtain⟨k9,g9⟩:∃m:Int,m=F+1:=⟨_,rfl⟩;have w9:w64 (F+1)=k9:=by rw[g9];exact aT (by omega) (by omega)
  obtain⟨J,n⟩:=iP k9 (by omega) (by omega);obtain⟨a,K⟩:∃m:Int,m=k9+1:=⟨_,rfl⟩;have o:w64 (k9+1)=a:=by rw[K];exact aT (by omega) (by omega)
  obtain⟨b,L⟩:∃m:Int,m=a+1:=⟨_,rfl⟩;have p:w64 (a+1)=b:=by rw[L];exact aT (by omega) (by omega)
  obtain⟨M,q⟩:=iP b (by omega) (by omega);obtain⟨c,N⟩:∃m:Int,m=b+1:=⟨_,rfl⟩;have r:w64 (b+1)=c:=by rw[N];exact aT (by omega) (by omega)
  obtain⟨O,s⟩:=iP c (by omega) (by omega);obtain⟨d,P⟩:∃m:Int,m=c+1:=⟨_,rfl⟩;have t:w64 (c+1)=d:=by rw[P];exact aT (by omega) (by omega)
  obtain⟨e,Q⟩:∃m:Int,m=d+1:=⟨_,rfl⟩;have u:w64 (d+1)=e:=by rw[Q];exact aT (by omega) (by omega)
  obtain⟨f,R⟩:∃m:Int,m=e+1:=⟨_,rfl⟩;have v:w64 (e+1)=f:=by rw[R];exact aT (by omega) (by omega)
  obtain⟨S,g,j⟩:=zy x.reads q1 f (by omega) (by omega);obtain⟨w,T⟩:∃m:Int,m=f+(fB x.reads:Nat):=⟨_,rfl⟩;rw[<- T]at g j;have U:decide (w<0)=false:=ae (by omega);have hsum:w=k+(uT x:Nat):=by unfold uT;omega
  refine⟨GOp.mk k k0 z y3 (dZ.mk A B (ah.mk C D E t9 J a)) M O d e S,?_,fun ys hy l=>?_⟩
  ·simp only[dec_lt y,ac,aA,az,y,yS y,List.set_set,zA,eu y hl,w0,W,X,Y,Z,w6,w7,w8,w9,o,p,r,t,u,v,H,I,e9,n,q,s,g,j,dn,aS,eG,jk];rw[hsum]
  ·simp only[dec_lt l,ac,aA,l,zA,eu l hy,jc,jm,oh,aa,w0,W,X,Y,Z,w6,w7,w8,w9,o,p,r,t,u,v,H,I,e9,n,q,s,g,j,n3,U,dn,aS,eG,jk];rw[hsum]
 ·simp only[Int.lt_irrefl,decide_false,aa]
 ·simp only[Int.lt_irrefl,decide_false,aa]
theorem ai1{xs:List GOp}(h:aV B24 (.list (.base .op) xs)):aks xs:=by
 have b:=uH h;refine⟨fun x a=>?_,by omega⟩;unfold afA;have f:=h.cu x a;rw[wM]at f;obtain⟨f_0,f_1,f_2,f_3,f_4,f_5,f_6,f_7,f_8,f_9⟩:=f;exact⟨Qx f_3 |>.1,Qw f_9⟩
def dM(x:ak):Nat:=mY x.cells
def nV(x:ak):Prop:=OA x.cells
theorem NJ(x:ak)(h:nV x)(k:Int)(g:0<=k)(c:k+dM x<=4611686018427387904):∃y,rX x k=some (y,k+(dM x:Nat))/\sH y k=some (k+(dM x:Nat)):=by
 unfold dM at c;unfold nV at h;have d:=h;obtain⟨e,a,b⟩:=Yi x.cells d (k) (by omega) (by omega);have f:decide (k+(mY x.cells:Nat)<0)=false:=ae (by omega);have hsum:k+(mY x.cells:Nat)=k+(dM x:Nat):=by unfold dM;omega
 refine⟨ak.mk e,?_,?_⟩
 ·unfold rX;simp only[zA,a,b];rw[hsum]
 ·unfold sH;simp only[zA,aa,a,b,f];rw[hsum]
theorem aaz{x:ak}(h:Fit B24 (.base .notebook) x):nV x:=by
 rw[eY]at h;have a:=h;unfold nV;exact ai2 a
theorem Iq{x:ak}(h:Fit B24 (.base .notebook) x):nV x/\dM x<=100663296:=by
 rw[eY]at h;have a:=h;unfold nV dM;obtain⟨b,c⟩:=agB a;exact⟨b,by omega⟩
def Nu(x:GOp):Nat:=jI x.seen+fB x.reads
def OkOp(x:GOp):Prop:=Tv x.seen/\Js x.reads
theorem agG(x:GOp)(h:OkOp x)(k:Int)(l:0<=k)(a:k+Nu x<=4611686018427387904):∃y,Yh x k=some (y,k+(Nu x:Nat))/\y.time=x.time/\y.by_=x.by_/\y.kind=x.kind/\y.edit=x.edit/\y.src=x.src/\y.dst=x.dst/\y.cell=x.cell/\y.version=x.version:=by
 unfold Nu at a;unfold OkOp at h;obtain⟨b,c⟩:=h;obtain⟨d,e,f⟩:=Ci x.seen b (k) (by omega) (by omega);have m:decide (k+(jI x.seen:Nat)<0)=false:=ae (by omega);obtain⟨g,i,j⟩:=zy x.reads c (k+(jI x.seen:Nat)) (by omega) (by omega);have n:decide (k+(jI x.seen:Nat)+(fB x.reads:Nat)<0)=false:=ae (by omega);have hsum:k+(jI x.seen:Nat)+(fB x.reads:Nat)=k+(Nu x:Nat):=by unfold Nu;omega
 refine⟨GOp.mk x.time x.by_ x.kind d x.edit x.src x.dst x.cell x.version g,?_,rfl,rfl,rfl,rfl,rfl,rfl,rfl,rfl⟩
 ·unfold Yh;simp only[zA,e,f,i,j];rw[hsum]
theorem apu{x:GOp}(h:Fit B24 (.base .op) x):OkOp x:=by
 rw[wM]at h;obtain⟨c,d,e,a,f,g,i,j,k,b⟩:=h;unfold OkOp;exact⟨(Qx a).1,Qw b⟩
def gG(x:aO):Nat:=dM x.notebook+fA x.tapes+qg x.renames
def Ai(x:aO):Prop:=nV x.notebook/\Zl x.tapes/\aks x.renames
theorem Aw(x:aO)(h:Ai x)(k:Int)(s:0<=k)(g:k+gG x<=4611686018427387904):∃y,oN x k=some (y,k+(gG x:Nat))/\oW y k=some (k+(gG x:Nat)):=by
 unfold gG at g;unfold Ai at h;obtain⟨i,j,l⟩:=h;obtain⟨m,a,b⟩:=NJ x.notebook i (k) (by omega) (by omega);have n:decide (k+(dM x.notebook:Nat)<0)=false:=ae (by omega);obtain⟨o,c,d⟩:=Yg x.tapes j (k+(dM x.notebook:Nat)) (by omega) (by omega);have p:decide (k+(dM x.notebook:Nat)+(fA x.tapes:Nat)<0)=false:=ae (by omega);obtain⟨q,e,f⟩:=QI x.renames l (k+(dM x.notebook:Nat)+(fA x.tapes:Nat)) (by omega) (by omega);have r:decide (k+(dM x.notebook:Nat)+(fA x.tapes:Nat)+(qg x.renames:Nat)<0)=false:=ae (by omega);have hsum:k+(dM x.notebook:Nat)+(fA x.tapes:Nat)+(qg x.renames:Nat)=k+(gG x:Nat):=by unfold gG;omega
 refine⟨aO.mk m o q,?_,?_⟩
 ·unfold oN;simp only[zA,a,b,c,d,e,f];rw[hsum]
 ·unfold oW;simp only[zA,aa,a,b,c,d,e,f,n,p,r];rw[hsum]
theorem MN{x:aO}(h:Fit B24 (.base .document) x):Ai x:=by
 rw[kL]at h;obtain⟨a,b,c⟩:=h;unfold Ai;exact⟨aaz a,ai0 b,ai1 c⟩
end
end Go.Proofs.YtbbmkcioplbhbaaGreatDoor
/- Notebooks that fit. -/
namespace Go.Proofs.YtbbmkcioplbhbaaGreatDoor
open Go.Abs Go.Proofs
abbrev Zn(cs:List ah):Prop:=∀x,x∈cs->Fit B20 (.base .cell) x
theorem yH{cs:List ah}(h:Fit B20 (.base .notebook) ⟨cs⟩):Zn cs/\cs.length<=1048576:=by
 rw[eY]at h;have b:(cs.length:Int)<=1048576:=eU h;exact⟨fun x a=>h.cu x a,by omega⟩
theorem EG{cs:List ah}(h:Zn cs)(a:cs.length<=1048576):Fit B20 (.base .notebook) ⟨cs⟩:=by
 rw[eY];exact lu (by show (cs.length:Int)<=_;omega) h
theorem ab2{cs:List ah}(h:Zn cs):∀x,x∈cs->wz x:=by
 intro x a;have:=h x a;rw[jb]at this;have b:=EY this.2.2.2.1;have c:=EY this.2.2.2.2.1;exact⟨by omega,by omega⟩
end Go.Proofs.YtbbmkcioplbhbaaGreatDoor
/- Plain law: RenameVariable. -/
namespace Go.Proofs.YtbbmkcioplbhbaaGreatDoor
open Go.Abs Go.Proofs
theorem wfS{n:Int}(a:-1000000000<=n)(h1:n<=1000000000):(Lit.int .i64 n).wf=true:=by
 unfold Lit.wf;simp[IntKind.bits,IntKind.signed,IntKind.min,IntKind.max];omega
theorem aoM{cs:List ah}(h:Zn cs)(k:Nat){y:ah}(b:Fit B20 (.base .cell) y):Zn (cs.set k y):=by
 intro x a;rcases List.mem_or_eq_of_mem_set a with a | rfl
 ·exact h x a
 ·exact b
theorem ahC{x:ah}(h:Fit B20 (.base .cell) x)(d:Bool){t:Str}(a:t.length<=120)(b:1<=x.version)(c:x.version<=999):Fit B20 (.base .cell) (Zu d t x):=by
 rw[jb]at h ⊢;refine⟨h.1,.int .i64 _ (wfS ?_ ?_),h.2.2.1,h.2.2.2.1,lV (by show (t.length:Int)<=_;omega),h.2.2.2.2.2⟩
 ·show -1000000000<=(if d=true then x.version+1 else x.version)
  split<;>omega
 ·show (if d=true then x.version+1 else x.version)<=_
  split<;>omega
theorem Ky(d:Bool)(b c:Str):∀(ps:List bG) (i:Nat) (cs:List ah) (full:Bool) (x:List ah×Bool),Zn cs->(∀j y,i<=j->cs[j]?=some y->1<=y.version/\y.version<=999)->mO d b c i ps cs full=some x->Zn x.1
 | [],i,cs,full,x,a,_,h=>by cases h;exact a
 | p::r,i,cs,full,x,a,hv,h=>by
  unfold mO at h;split at h
  ·split at h
   ·rename_i g;split at h
    ·rename_i y e;refine Ky d b c r (i+1) _ _ x (aoM a i (ahC (a y (zG e)) d g (hv i y (aw _) e).1 (hv i y (aw _) e).2)) (fun j z k f=>?_) h;rw[List.getElem?_set_ne (by omega)]at f;exact hv j z (by omega) f
    ·cases h
   ·cases h
  ·exact Ky d b c r (i+1) cs full x a (fun j y k e=>hv j y (by omega) e) h
theorem agE{c:Str}(b:c.length<=1048576){cs:List ah}(h:Zn cs)(k:Nat):Zn (uz c cs k):=by
 unfold uz;split
 ·rename_i x a;refine aoM h k ?_;have:=h x (zG a);rw[jb]at this ⊢;exact⟨this.1,this.2.1,this.2.2.1,lV (by show (c.length:Int)<=_;omega),this.2.2.2.2.1,this.2.2.2.2.2⟩
 ·exact h
theorem aiv(cs:List ah)(b c:Str)(d:Bool)(h:Fit B20 (.base .notebook) ⟨cs⟩)(k:c.length<=1048576):Fit B20 (.base .notebook) (vg cs b c d).1:=by
 obtain⟨f,o⟩:=yH h;have bb:∀(x:Bool) (p q:ak×Int),(x=true->Fit B20 (.base .notebook) p.1)->(x=false->Fit B20 (.base .notebook) q.1)->Fit B20 (.base .notebook) (bif x then p else q).1:=by
  intro x p q l m;cases x
  ·exact m rfl
  ·exact l rfl
 unfold vg;refine bb _ _ _ (fun _=>h) fun hv=>?_
 have a:yI cs=true:=by simpa using hv
 refine bb _ _ _ (fun _=>h) fun _=>bb _ _ _ (fun _=>h) fun _=>bb _ _ _ (fun _=>h) fun _=>bb _ _ _ (fun _=>h) fun _=>bb _ _ _ (fun _=>h) fun _=>bb _ _ _ (fun _=>h) fun _=>?_
 have g:=Ag (ab2 f) a;have hver:∀x,x∈cs->1<=x.version/\x.version<=999:=fun x i=>⟨(g.2 x i).2.v0,(g.2 x i).2.v9⟩
 unfold abz;split
 ·exact h
 ·exact h
 ·rename_i out e;have h1:=Ky d b c _ 0 _ _ _ (agE k f _) (fun j y _ n=>J9 hver y (zG n)) e;have h2:=Eh _ _ _ _ _ _ _ _ e;rw[Ed]at h2;exact EG h1 (by show out.length<=_;have r:out.length=cs.length:=h2;omega)
end Go.Proofs.YtbbmkcioplbhbaaGreatDoor
/- Plain laws: AdaptEdit is alike on both sides. -/
namespace Go.Proofs.YtbbmkcioplbhbaaGreatDoor
open Go.Abs Go.Proofs
theorem aep(a b c:Str)(g:b.length<=34359738368)(h:c.length<=34359738368):∃s,gu a b c=some s/\kV a b c=some s/\(s=a\/s.length<=120):=by
 obtain⟨e,p,h1,h2,i⟩:=MK a;unfold gu kV;simp only[h1,h2,zA,aS];by_cases d:p>=0
 ·rw[al d];exact⟨a,rfl,rfl,.inl rfl⟩
 ·rw[ae d];obtain⟨hv,u⟩:=i (by omega);obtain⟨ys,j,k,_,w,_⟩:=AB e (by omega);obtain⟨q,l,m⟩:=ag4 ys b (by omega);obtain⟨x,v,n,o,y⟩:=xC e b c (by omega) g h;obtain⟨s,r,t,_⟩:=Jc x (by omega);simp only[aa,j,k,l,m,n,o,r,t,zA,Bool.not_not];cases decide (q<0)with
  | true=>exact⟨a,rfl,rfl,.inl rfl⟩
  | false=>
   simp only[aa];cases v with
   | false=>exact⟨a,rfl,rfl,.inl rfl⟩
   | true=>
    by_cases f:(s.length:Int)<=120
    ·rw[al f,ae (by omega)];exact⟨s,rfl,rfl,.inr (by omega)⟩
    ·rw[ae f,al (by omega)];exact⟨a,rfl,rfl,.inl rfl⟩
abbrev AdI:=Int×Int×Int×Int×Int×Str×Str×Int×Int×Int×Int×Int×Int×Str×Str×Int×(List GOp)×Int×Int
abbrev AdS:=(List GOp)×Int×Int×Int×Int×Int×Str×Str×Int×Int×Int×Int×Int×Int×Str×Str×Int×Int
noncomputable def apg:AdI->Option (AdI⊕dZ):=(fun (a:Int×Int×Int×Int×Int×Str×Str×Int×Int×Int×Int×Int×Int×Str×Str×Int×(List GOp)×Int×Int)=>
      bif (decide (a.2.2.2.2.2.2.2.2.2.2.2.2.2.2.2.2.2.2<a.2.2.2.2.2.2.2.2.2.2.2.2.2.2.2.2.2.1))then
       (idx a.2.2.2.2.2.2.2.2.2.2.2.2.2.2.2.2.1 a.2.2.2.2.2.2.2.2.2.2.2.2.2.2.2.2.2.2).bind fun b=>
       bif (a.2.2.2.2.2.1==b.src)then
        bif (a.1==4)then
         (gu a.2.2.2.2.2.2.1 b.src b.dst).bind fun c=>
         some (.inl (a.1,a.2.1,a.2.2.1,a.2.2.2.1,a.2.2.2.2.1,b.dst,c,a.2.2.2.2.2.2.2.1,a.2.2.2.2.2.2.2.2.1,a.2.2.2.2.2.2.2.2.2.1,a.2.2.2.2.2.2.2.2.2.2.1,a.2.2.2.2.2.2.2.2.2.2.2.1,a.2.2.2.2.2.2.2.2.2.2.2.2.1,a.2.2.2.2.2.2.2.2.2.2.2.2.2.1,a.2.2.2.2.2.2.2.2.2.2.2.2.2.2.1,a.2.2.2.2.2.2.2.2.2.2.2.2.2.2.2.1,a.2.2.2.2.2.2.2.2.2.2.2.2.2.2.2.2.1,a.2.2.2.2.2.2.2.2.2.2.2.2.2.2.2.2.2.1,w64 (a.2.2.2.2.2.2.2.2.2.2.2.2.2.2.2.2.2.2+1)))
        else
         bif (a.1==1)then
          bif (a.2.2.2.2.1==2)then
           (gu a.2.2.2.2.2.2.1 b.src b.dst).bind fun d=>
           some (.inl (a.1,a.2.1,a.2.2.1,a.2.2.2.1,a.2.2.2.2.1,b.dst,d,a.2.2.2.2.2.2.2.1,a.2.2.2.2.2.2.2.2.1,a.2.2.2.2.2.2.2.2.2.1,a.2.2.2.2.2.2.2.2.2.2.1,a.2.2.2.2.2.2.2.2.2.2.2.1,a.2.2.2.2.2.2.2.2.2.2.2.2.1,a.2.2.2.2.2.2.2.2.2.2.2.2.2.1,a.2.2.2.2.2.2.2.2.2.2.2.2.2.2.1,a.2.2.2.2.2.2.2.2.2.2.2.2.2.2.2.1,a.2.2.2.2.2.2.2.2.2.2.2.2.2.2.2.2.1,a.2.2.2.2.2.2.2.2.2.2.2.2.2.2.2.2.2.1,w64 (a.2.2.2.2.2.2.2.2.2.2.2.2.2.2.2.2.2.2+1)))
          else
           some (.inl (a.1,a.2.1,a.2.2.1,a.2.2.2.1,a.2.2.2.2.1,b.dst,a.2.2.2.2.2.2.1,a.2.2.2.2.2.2.2.1,a.2.2.2.2.2.2.2.2.1,a.2.2.2.2.2.2.2.2.2.1,a.2.2.2.2.2.2.2.2.2.2.1,a.2.2.2.2.2.2.2.2.2.2.2.1,a.2.2.2.2.2.2.2.2.2.2.2.2.1,a.2.2.2.2.2.2.2.2.2.2.2.2.2.1,a.2.2.2.2.2.2.2.2.2.2.2.2.2.2.1,a.2.2.2.2.2.2.2.2.2.2.2.2.2.2.2.1,a.2.2.2.2.2.2.2.2.2.2.2.2.2.2.2.2.1,a.2.2.2.2.2.2.2.2.2.2.2.2.2.2.2.2.2.1,w64 (a.2.2.2.2.2.2.2.2.2.2.2.2.2.2.2.2.2.2+1)))
         else
          some (.inl (a.1,a.2.1,a.2.2.1,a.2.2.2.1,a.2.2.2.2.1,b.dst,a.2.2.2.2.2.2.1,a.2.2.2.2.2.2.2.1,a.2.2.2.2.2.2.2.2.1,a.2.2.2.2.2.2.2.2.2.1,a.2.2.2.2.2.2.2.2.2.2.1,a.2.2.2.2.2.2.2.2.2.2.2.1,a.2.2.2.2.2.2.2.2.2.2.2.2.1,a.2.2.2.2.2.2.2.2.2.2.2.2.2.1,a.2.2.2.2.2.2.2.2.2.2.2.2.2.2.1,a.2.2.2.2.2.2.2.2.2.2.2.2.2.2.2.1,a.2.2.2.2.2.2.2.2.2.2.2.2.2.2.2.2.1,a.2.2.2.2.2.2.2.2.2.2.2.2.2.2.2.2.2.1,w64 (a.2.2.2.2.2.2.2.2.2.2.2.2.2.2.2.2.2.2+1)))
       else
       bif (a.1==4)then
        (gu a.2.2.2.2.2.2.1 b.src b.dst).bind fun e=>
        some (.inl (a.1,a.2.1,a.2.2.1,a.2.2.2.1,a.2.2.2.2.1,a.2.2.2.2.2.1,e,a.2.2.2.2.2.2.2.1,a.2.2.2.2.2.2.2.2.1,a.2.2.2.2.2.2.2.2.2.1,a.2.2.2.2.2.2.2.2.2.2.1,a.2.2.2.2.2.2.2.2.2.2.2.1,a.2.2.2.2.2.2.2.2.2.2.2.2.1,a.2.2.2.2.2.2.2.2.2.2.2.2.2.1,a.2.2.2.2.2.2.2.2.2.2.2.2.2.2.1,a.2.2.2.2.2.2.2.2.2.2.2.2.2.2.2.1,a.2.2.2.2.2.2.2.2.2.2.2.2.2.2.2.2.1,a.2.2.2.2.2.2.2.2.2.2.2.2.2.2.2.2.2.1,w64 (a.2.2.2.2.2.2.2.2.2.2.2.2.2.2.2.2.2.2+1)))
       else
        bif (a.1==1)then
         bif (a.2.2.2.2.1==2)then
          (gu a.2.2.2.2.2.2.1 b.src b.dst).bind fun f=>
          some (.inl (a.1,a.2.1,a.2.2.1,a.2.2.2.1,a.2.2.2.2.1,a.2.2.2.2.2.1,f,a.2.2.2.2.2.2.2.1,a.2.2.2.2.2.2.2.2.1,a.2.2.2.2.2.2.2.2.2.1,a.2.2.2.2.2.2.2.2.2.2.1,a.2.2.2.2.2.2.2.2.2.2.2.1,a.2.2.2.2.2.2.2.2.2.2.2.2.1,a.2.2.2.2.2.2.2.2.2.2.2.2.2.1,a.2.2.2.2.2.2.2.2.2.2.2.2.2.2.1,a.2.2.2.2.2.2.2.2.2.2.2.2.2.2.2.1,a.2.2.2.2.2.2.2.2.2.2.2.2.2.2.2.2.1,a.2.2.2.2.2.2.2.2.2.2.2.2.2.2.2.2.2.1,w64 (a.2.2.2.2.2.2.2.2.2.2.2.2.2.2.2.2.2.2+1)))
         else
          some (.inl (a.1,a.2.1,a.2.2.1,a.2.2.2.1,a.2.2.2.2.1,a.2.2.2.2.2.1,a.2.2.2.2.2.2.1,a.2.2.2.2.2.2.2.1,a.2.2.2.2.2.2.2.2.1,a.2.2.2.2.2.2.2.2.2.1,a.2.2.2.2.2.2.2.2.2.2.1,a.2.2.2.2.2.2.2.2.2.2.2.1,a.2.2.2.2.2.2.2.2.2.2.2.2.1,a.2.2.2.2.2.2.2.2.2.2.2.2.2.1,a.2.2.2.2.2.2.2.2.2.2.2.2.2.2.1,a.2.2.2.2.2.2.2.2.2.2.2.2.2.2.2.1,a.2.2.2.2.2.2.2.2.2.2.2.2.2.2.2.2.1,a.2.2.2.2.2.2.2.2.2.2.2.2.2.2.2.2.2.1,w64 (a.2.2.2.2.2.2.2.2.2.2.2.2.2.2.2.2.2.2+1)))
        else
         some (.inl (a.1,a.2.1,a.2.2.1,a.2.2.2.1,a.2.2.2.2.1,a.2.2.2.2.2.1,a.2.2.2.2.2.2.1,a.2.2.2.2.2.2.2.1,a.2.2.2.2.2.2.2.2.1,a.2.2.2.2.2.2.2.2.2.1,a.2.2.2.2.2.2.2.2.2.2.1,a.2.2.2.2.2.2.2.2.2.2.2.1,a.2.2.2.2.2.2.2.2.2.2.2.2.1,a.2.2.2.2.2.2.2.2.2.2.2.2.2.1,a.2.2.2.2.2.2.2.2.2.2.2.2.2.2.1,a.2.2.2.2.2.2.2.2.2.2.2.2.2.2.2.1,a.2.2.2.2.2.2.2.2.2.2.2.2.2.2.2.2.1,a.2.2.2.2.2.2.2.2.2.2.2.2.2.2.2.2.2.1,w64 (a.2.2.2.2.2.2.2.2.2.2.2.2.2.2.2.2.2.2+1)))
      else
       some (.inr (dZ.mk a.1 a.2.1 (ah.mk a.2.2.1 a.2.2.2.1 a.2.2.2.2.1 a.2.2.2.2.2.1 a.2.2.2.2.2.2.1 a.2.2.2.2.2.2.2.1)))
  )
noncomputable def apf:AdS->Option (AdS⊕dZ):=(fun (a:(List GOp)×Int×Int×Int×Int×Int×Str×Str×Int×Int×Int×Int×Int×Int×Str×Str×Int×Int)=>
      bif (decide (a.2.2.2.2.2.2.2.2.2.2.2.2.2.2.2.2.2<(a.1.length:Int)))then
       (idx a.1 a.2.2.2.2.2.2.2.2.2.2.2.2.2.2.2.2.2).bind fun b=>
       bif (a.2.2.2.2.2.2.1==b.src)then
        bif (a.2.1==4)then
         (kV a.2.2.2.2.2.2.2.1 b.src b.dst).bind fun c=>
         some (.inl (a.1,a.2.1,a.2.2.1,a.2.2.2.1,a.2.2.2.2.1,a.2.2.2.2.2.1,b.dst,c,a.2.2.2.2.2.2.2.2.1,a.2.2.2.2.2.2.2.2.2.1,a.2.2.2.2.2.2.2.2.2.2.1,a.2.2.2.2.2.2.2.2.2.2.2.1,a.2.2.2.2.2.2.2.2.2.2.2.2.1,a.2.2.2.2.2.2.2.2.2.2.2.2.2.1,a.2.2.2.2.2.2.2.2.2.2.2.2.2.2.1,a.2.2.2.2.2.2.2.2.2.2.2.2.2.2.2.1,a.2.2.2.2.2.2.2.2.2.2.2.2.2.2.2.2.1,w64 (a.2.2.2.2.2.2.2.2.2.2.2.2.2.2.2.2.2+1)))
        else
         bif (a.2.1==1)then
          bif (a.2.2.2.2.2.1==2)then
           (kV a.2.2.2.2.2.2.2.1 b.src b.dst).bind fun d=>
           some (.inl (a.1,a.2.1,a.2.2.1,a.2.2.2.1,a.2.2.2.2.1,a.2.2.2.2.2.1,b.dst,d,a.2.2.2.2.2.2.2.2.1,a.2.2.2.2.2.2.2.2.2.1,a.2.2.2.2.2.2.2.2.2.2.1,a.2.2.2.2.2.2.2.2.2.2.2.1,a.2.2.2.2.2.2.2.2.2.2.2.2.1,a.2.2.2.2.2.2.2.2.2.2.2.2.2.1,a.2.2.2.2.2.2.2.2.2.2.2.2.2.2.1,a.2.2.2.2.2.2.2.2.2.2.2.2.2.2.2.1,a.2.2.2.2.2.2.2.2.2.2.2.2.2.2.2.2.1,w64 (a.2.2.2.2.2.2.2.2.2.2.2.2.2.2.2.2.2+1)))
          else
           some (.inl (a.1,a.2.1,a.2.2.1,a.2.2.2.1,a.2.2.2.2.1,a.2.2.2.2.2.1,b.dst,a.2.2.2.2.2.2.2.1,a.2.2.2.2.2.2.2.2.1,a.2.2.2.2.2.2.2.2.2.1,a.2.2.2.2.2.2.2.2.2.2.1,a.2.2.2.2.2.2.2.2.2.2.2.1,a.2.2.2.2.2.2.2.2.2.2.2.2.1,a.2.2.2.2.2.2.2.2.2.2.2.2.2.1,a.2.2.2.2.2.2.2.2.2.2.2.2.2.2.1,a.2.2.2.2.2.2.2.2.2.2.2.2.2.2.2.1,a.2.2.2.2.2.2.2.2.2.2.2.2.2.2.2.2.1,w64 (a.2.2.2.2.2.2.2.2.2.2.2.2.2.2.2.2.2+1)))
         else
          some (.inl (a.1,a.2.1,a.2.2.1,a.2.2.2.1,a.2.2.2.2.1,a.2.2.2.2.2.1,b.dst,a.2.2.2.2.2.2.2.1,a.2.2.2.2.2.2.2.2.1,a.2.2.2.2.2.2.2.2.2.1,a.2.2.2.2.2.2.2.2.2.2.1,a.2.2.2.2.2.2.2.2.2.2.2.1,a.2.2.2.2.2.2.2.2.2.2.2.2.1,a.2.2.2.2.2.2.2.2.2.2.2.2.2.1,a.2.2.2.2.2.2.2.2.2.2.2.2.2.2.1,a.2.2.2.2.2.2.2.2.2.2.2.2.2.2.2.1,a.2.2.2.2.2.2.2.2.2.2.2.2.2.2.2.2.1,w64 (a.2.2.2.2.2.2.2.2.2.2.2.2.2.2.2.2.2+1)))
       else
       bif (a.2.1==4)then
        (kV a.2.2.2.2.2.2.2.1 b.src b.dst).bind fun e=>
        some (.inl (a.1,a.2.1,a.2.2.1,a.2.2.2.1,a.2.2.2.2.1,a.2.2.2.2.2.1,a.2.2.2.2.2.2.1,e,a.2.2.2.2.2.2.2.2.1,a.2.2.2.2.2.2.2.2.2.1,a.2.2.2.2.2.2.2.2.2.2.1,a.2.2.2.2.2.2.2.2.2.2.2.1,a.2.2.2.2.2.2.2.2.2.2.2.2.1,a.2.2.2.2.2.2.2.2.2.2.2.2.2.1,a.2.2.2.2.2.2.2.2.2.2.2.2.2.2.1,a.2.2.2.2.2.2.2.2.2.2.2.2.2.2.2.1,a.2.2.2.2.2.2.2.2.2.2.2.2.2.2.2.2.1,w64 (a.2.2.2.2.2.2.2.2.2.2.2.2.2.2.2.2.2+1)))
       else
        bif (a.2.1==1)then
         bif (a.2.2.2.2.2.1==2)then
          (kV a.2.2.2.2.2.2.2.1 b.src b.dst).bind fun f=>
          some (.inl (a.1,a.2.1,a.2.2.1,a.2.2.2.1,a.2.2.2.2.1,a.2.2.2.2.2.1,a.2.2.2.2.2.2.1,f,a.2.2.2.2.2.2.2.2.1,a.2.2.2.2.2.2.2.2.2.1,a.2.2.2.2.2.2.2.2.2.2.1,a.2.2.2.2.2.2.2.2.2.2.2.1,a.2.2.2.2.2.2.2.2.2.2.2.2.1,a.2.2.2.2.2.2.2.2.2.2.2.2.2.1,a.2.2.2.2.2.2.2.2.2.2.2.2.2.2.1,a.2.2.2.2.2.2.2.2.2.2.2.2.2.2.2.1,a.2.2.2.2.2.2.2.2.2.2.2.2.2.2.2.2.1,w64 (a.2.2.2.2.2.2.2.2.2.2.2.2.2.2.2.2.2+1)))
         else
          some (.inl (a.1,a.2.1,a.2.2.1,a.2.2.2.1,a.2.2.2.2.1,a.2.2.2.2.2.1,a.2.2.2.2.2.2.1,a.2.2.2.2.2.2.2.1,a.2.2.2.2.2.2.2.2.1,a.2.2.2.2.2.2.2.2.2.1,a.2.2.2.2.2.2.2.2.2.2.1,a.2.2.2.2.2.2.2.2.2.2.2.1,a.2.2.2.2.2.2.2.2.2.2.2.2.1,a.2.2.2.2.2.2.2.2.2.2.2.2.2.1,a.2.2.2.2.2.2.2.2.2.2.2.2.2.2.1,a.2.2.2.2.2.2.2.2.2.2.2.2.2.2.2.1,a.2.2.2.2.2.2.2.2.2.2.2.2.2.2.2.2.1,w64 (a.2.2.2.2.2.2.2.2.2.2.2.2.2.2.2.2.2+1)))
        else
         some (.inl (a.1,a.2.1,a.2.2.1,a.2.2.2.1,a.2.2.2.2.1,a.2.2.2.2.2.1,a.2.2.2.2.2.2.1,a.2.2.2.2.2.2.2.1,a.2.2.2.2.2.2.2.2.1,a.2.2.2.2.2.2.2.2.2.1,a.2.2.2.2.2.2.2.2.2.2.1,a.2.2.2.2.2.2.2.2.2.2.2.1,a.2.2.2.2.2.2.2.2.2.2.2.2.1,a.2.2.2.2.2.2.2.2.2.2.2.2.2.1,a.2.2.2.2.2.2.2.2.2.2.2.2.2.2.1,a.2.2.2.2.2.2.2.2.2.2.2.2.2.2.2.1,a.2.2.2.2.2.2.2.2.2.2.2.2.2.2.2.2.1,w64 (a.2.2.2.2.2.2.2.2.2.2.2.2.2.2.2.2.2+1)))
      else
       some (.inr (dZ.mk a.2.1 a.2.2.1 (ah.mk a.2.2.2.1 a.2.2.2.2.1 a.2.2.2.2.2.1 a.2.2.2.2.2.2.1 a.2.2.2.2.2.2.2.1 a.2.2.2.2.2.2.2.2.1)))
  )
structure WG(a e:dZ):Prop where
 kind:e.kind=a.kind
 pos:e.pos=a.pos
 id:e.cell.id=a.cell.id
 version:e.cell.version=a.cell.version
 ckind:e.cell.kind=a.cell.kind
 n:e.cell.n=a.cell.n
 name:e.cell.name.length<=1048576
 code:e.cell.code.length<=1048576
theorem ack(a:dZ)(b:List GOp)(q:b.length<=1048576)(j:a.cell.name.length<=1048576)(k:a.cell.code.length<=1048576)(l:∀o,o∈b->o.src.length<=1048576/\o.dst.length<=1048576):∃e,zW a b=some e/\F7 a b=some e/\WG a e:=by
 refine aeE (f:=apg) (g:=apf) (fun (s:Str×Str) (i:Nat)=>((a.kind,a.pos,a.cell.id,a.cell.version,a.cell.kind,s.1,s.2,a.cell.n,0,0,0,0,0,[],[],0,b,(b.length:Int),(i:Int)):AdI)) (fun (s:Str×Str) (i:Nat)=>((b,a.kind,a.pos,a.cell.id,a.cell.version,a.cell.kind,s.1,s.2,a.cell.n,0,0,0,0,0,[],[],0,(i:Int)):AdS)) b (fun _ s=>s.1.length<=1048576/\s.2.length<=1048576) (WG a) (fun i o s c d=>.inl ?_) (fun s d=>?_) (a.cell.name,a.cell.code) ⟨j,k⟩
 ·obtain⟨h1,h2⟩:=l o (zG c);obtain⟨t,m,p,h⟩:=aep s.2 o.src o.dst (by omega) (by omega);refine⟨(if (s.1==o.src)=true then o.dst else s.1,if ((a.kind==4)||((a.kind==1)&&(a.cell.kind==2)))=true then t else s.2),?_,?_,?_,?_⟩
  ·simp only[apg,bY c,ac,aA,c,zA,m,cZ c (by omega)];cases (s.1==o.src)<;>cases (a.kind==4)<;>cases (a.kind==1)<;>cases (a.cell.kind==2)<;>rfl
  ·simp only[apf,bY c,ac,aA,c,zA,p,cZ c (by omega)];cases (s.1==o.src)<;>cases (a.kind==4)<;>cases (a.kind==1)<;>cases (a.cell.kind==2)<;>rfl
  ·show (if (s.1==o.src)=true then o.dst else s.1).length<=1048576
   split
   ·exact h2
   ·exact d.1
  ·show (if ((a.kind==4)||((a.kind==1)&&(a.cell.kind==2)))=true then t else s.2).length<=1048576
   split
   ·rcases h with rfl | h
    ·exact d.2
    ·omega
   ·exact d.2
 ·refine⟨⟨a.kind,a.pos,⟨a.cell.id,a.cell.version,a.cell.kind,s.1,s.2,a.cell.n⟩⟩,?_,?_,⟨rfl,rfl,rfl,rfl,rfl,rfl,d.1,d.2⟩⟩
  ·simp only[apg,bJ,aa]
  ·simp only[apf,bJ,aa]
end Go.Proofs.YtbbmkcioplbhbaaGreatDoor
/- Plain law: IsValidOp. -/
namespace Go.Proofs.YtbbmkcioplbhbaaGreatDoor
open Go.Abs Go.Proofs
end Go.Proofs.YtbbmkcioplbhbaaGreatDoor
/- Plain laws: equality of lists, values, reads, operations; valid logs and replicas; HasSeen. -/
namespace Go.Proofs.YtbbmkcioplbhbaaGreatDoor
open Go.Abs Go.Proofs
section eqs
noncomputable def eqd{α:Type}(a b:α):Bool:=@decide (a=b) (Classical.propDecidable _)
theorem alz{α:Type}{a b:α}:eqd a b=true↔a=b:=by unfold eqd;exact @decide_eq_true_iff _ (Classical.propDecidable _)
theorem Jo{α:Type}[BEq α][LawfulBEq α](a b:α):(a==b)=eqd a b:=by
 rw[Bool.eq_iff_iff,alz];exact beq_iff_eq
theorem Xo(x y:aN):BJ x y=some (eqd x.kind y.kind&&(eqd x.n y.n&&(eqd x.text y.text&&eqd x.time y.time))):=by
 unfold BJ;simp only[Jo];cases eqd x.kind y.kind<;>cases eqd x.n y.n<;>cases eqd x.text y.text<;>rfl
theorem UD(x y:aN):xY x y=some (eqd x.kind y.kind&&(eqd x.n y.n&&(eqd x.text y.text&&eqd x.time y.time))):=by
 unfold xY;simp only[Jo];cases eqd x.kind y.kind<;>cases eqd x.n y.n<;>cases eqd x.text y.text<;>rfl
end eqs
end Go.Proofs.YtbbmkcioplbhbaaGreatDoor
/- Plain laws: names, cells and notebooks that are valid; both sides alike. Plain laws: valid cells, notebooks and histories; both sides alike. -/
namespace Go.Proofs.YtbbmkcioplbhbaaGreatDoor
open Go.Abs Go.Proofs
def printable(a:Str):Bool:=uX (fun c _=>!(decide ((c.toNat:Int)<32))&&!(decide ((c.toNat:Int)>126))) a 0&&decide ((a.length:Int)<=120)
theorem Ap(a:Str)(h:a.length<lim):kH a=some (printable a):=by
 refine uf (fun i=>((a,(i:Int)):Str×Int)) a _ _ (fun i x c=>?_) ?_
 ·obtain⟨b,rfl⟩:=zC.1 c;simp only[lW b,ac,aA,c,zA,oI b h];cases decide ((a[i].toNat:Int)<32)<;>cases decide ((a[i].toNat:Int)>126)<;>rfl
 ·simp only[gm,aa]
theorem NU(a:Str)(h:a.length<lim):oQ a=some (printable a):=Ap a h
def okc(c:UInt8)(i:Nat):Bool:=(decide ((c.toNat:Int)>=97)&&decide ((c.toNat:Int)<=122))||(!((i:Int)==0)&&decide ((c.toNat:Int)>=48)&&decide ((c.toNat:Int)<=57))
theorem Z4(a:Str)(h:a.length<lim):BG a=some (uX okc a 0&&decide ((a.length:Int)>0)):=by
 refine uf (fun i=>((a,(i:Int)):Str×Int)) a _ _ (fun i x c=>?_) ?_
 ·obtain⟨b,rfl⟩:=zC.1 c;simp only[lW b,ac,aA,c,zA,oI b h,okc];cases decide ((a[i].toNat:Int)>=97)<;>cases decide ((a[i].toNat:Int)<=122)<;>cases decide ((a[i].toNat:Int)>=48)<;>cases decide ((a[i].toNat:Int)<=57)<;>cases ((i:Int)==0)<;>rfl
 ·simp only[gm,aa]
theorem ad3(a:Str)(h:a.length<lim):IZ a=some (uX okc a 0&&(decide (1<=(a.length:Int))&&decide ((a.length:Int)<=8))):=by
 refine uf (fun i=>((a,(i:Int)):Str×Int)) a _ _ (fun i x c=>?_) ?_
 ·obtain⟨b,rfl⟩:=zC.1 c;simp only[lW b,ac,aA,c,zA,oI b h,okc,dnlt,dngt];cases decide ((a[i].toNat:Int)>=97)<;>cases decide ((a[i].toNat:Int)<=122)<;>cases decide ((a[i].toNat:Int)>=48)<;>cases decide ((a[i].toNat:Int)<=57)<;>cases ((i:Int)==0)<;>rfl
 ·simp only[gm,aa,Gy,zA]
def ag5:List Str->Str->Bool
 | [],_=>false
 | x::r,a=>x==a||ag5 r a
theorem agh(xs:List Str)(a:Str)(h:xs.length<lim):kR xs a=some (ag5 xs a):=by
 have key:∀(n i:Nat),xs.length=i+n->au (fun (c:(List Str)×Str×Int)=>
  bif (decide (c.2.2<(c.1.length:Int)))then
   (idx c.1 c.2.2).bind fun d=>
   bif (d==c.2.1)then
    some (.inr (true))
   else
    some (.inl (c.1,c.2.1,w64 (c.2.2+1)))
  else
   some (.inr (false))) (xs,a,(i:Int))=some (ag5 (xs.drop i) a):=by
  intro n
  induction n with
  | zero=>
   intro i hi
   have:i=xs.length:=by omega
   subst this
   rw[aH]
   simp only[gm,aa,List.drop_length]
   rfl
  | succ n ih=>
   intro i hi
   have b:i<xs.length:=by omega
   rw[List.drop_eq_getElem_cons b,aH]
   simp only[lW b,ac,aA,zF b,zA,oI b h,ag5]
   cases xs[i]==a with
   | true=>rfl
   | false=>exact ih (i+1) (by omega)
 exact key xs.length 0 (by omega)
theorem aam(a:Str):∃b,oz a=some b/\ku a=some b:=by
 have y:ku a=some (ag5 [[108,101,116],[105,110],[105,102],[116,104,101,110],[101,108,115,101],[102,111,114],[100,111],[108,101,110],[115,117,109],[116,97,107,101],[115,107,105,112],[114,97,110,103,101],[110,116,104],[119,104,101,114,101],[107,101,101,112],[97,100,100],[103,114,111,117,112],[106,111,105,110],[99,111,108,117,109,110],[114,111,119,115],[99,108,111,99,107],[99,104,97,110,99,101],[102,105,108,101],[116,97,98,108,101]] a):=by
  unfold ku qJ;rw[zA,agh _ _ (by decide)];rfl
 refine⟨_,?_,y⟩;unfold oz fG;simp only[ag5,akb _ a];rcases Bool.eq_false_or_eq_true (a==[108,101,116])with q | q
 ·rw[eq_of_beq q];rfl
 rcases Bool.eq_false_or_eq_true (a==[105,110])with h1 | h1
 ·rw[eq_of_beq h1];rfl
 rcases Bool.eq_false_or_eq_true (a==[105,102])with h2 | h2
 ·rw[eq_of_beq h2];rfl
 rcases Bool.eq_false_or_eq_true (a==[116,104,101,110])with r | r
 ·rw[eq_of_beq r];rfl
 rcases Bool.eq_false_or_eq_true (a==[101,108,115,101])with s | s
 ·rw[eq_of_beq s];rfl
 rcases Bool.eq_false_or_eq_true (a==[102,111,114])with t | t
 ·rw[eq_of_beq t];rfl
 rcases Bool.eq_false_or_eq_true (a==[100,111])with u | u
 ·rw[eq_of_beq u];rfl
 rcases Bool.eq_false_or_eq_true (a==[108,101,110])with v | v
 ·rw[eq_of_beq v];rfl
 rcases Bool.eq_false_or_eq_true (a==[115,117,109])with w | w
 ·rw[eq_of_beq w];rfl
 rcases Bool.eq_false_or_eq_true (a==[116,97,107,101])with x | x
 ·rw[eq_of_beq x];rfl
 rcases Bool.eq_false_or_eq_true (a==[115,107,105,112])with c | c
 ·rw[eq_of_beq c];rfl
 rcases Bool.eq_false_or_eq_true (a==[114,97,110,103,101])with d | d
 ·rw[eq_of_beq d];rfl
 rcases Bool.eq_false_or_eq_true (a==[110,116,104])with e | e
 ·rw[eq_of_beq e];rfl
 rcases Bool.eq_false_or_eq_true (a==[119,104,101,114,101])with f | f
 ·rw[eq_of_beq f];rfl
 rcases Bool.eq_false_or_eq_true (a==[107,101,101,112])with g | g
 ·rw[eq_of_beq g];rfl
 rcases Bool.eq_false_or_eq_true (a==[97,100,100])with h | h
 ·rw[eq_of_beq h];rfl
 rcases Bool.eq_false_or_eq_true (a==[103,114,111,117,112])with i | i
 ·rw[eq_of_beq i];rfl
 rcases Bool.eq_false_or_eq_true (a==[106,111,105,110])with j | j
 ·rw[eq_of_beq j];rfl
 rcases Bool.eq_false_or_eq_true (a==[99,111,108,117,109,110])with k | k
 ·rw[eq_of_beq k];rfl
 rcases Bool.eq_false_or_eq_true (a==[114,111,119,115])with l | l
 ·rw[eq_of_beq l];rfl
 rcases Bool.eq_false_or_eq_true (a==[99,108,111,99,107])with m | m
 ·rw[eq_of_beq m];rfl
 rcases Bool.eq_false_or_eq_true (a==[99,104,97,110,99,101])with n | n
 ·rw[eq_of_beq n];rfl
 rcases Bool.eq_false_or_eq_true (a==[102,105,108,101])with o | o
 ·rw[eq_of_beq o];rfl
 rcases Bool.eq_false_or_eq_true (a==[116,97,98,108,101])with p | p
 ·rw[eq_of_beq p];rfl
 simp only[q,h1,h2,r,s,t,u,v,w,x,c,d,e,f,g,h,i,j,k,l,m,n,o,p];rfl
theorem WO(a:Str)(h:a.length<lim):∃b,bH a=some b/\bM a=some b:=by
 obtain⟨b,d,c⟩:=aam a;unfold bH bM;rw[ad3 a h,Z4 a h,d,c];have e:decide (1<=(a.length:Int))=decide ((a.length:Int)>0):=rfl;rw[e];cases uX okc a 0<;>cases decide ((a.length:Int)>0)<;>cases decide ((a.length:Int)<=8)<;>exact⟨_,rfl,rfl⟩
theorem jl(c:ah)(h:Fit B20 (.base .cell) c):∃b,cO c=some b/\dm c=some b:=by
 rw[jb]at h;obtain⟨b,d,a⟩:=WO c.name (jQ (EY h.2.2.2.1));have h2:=jQ (EY h.2.2.2.2.1);unfold cO dm;rw[NU _ h2,Ap _ h2];simp only[Gy,xg,d,a,zA];refine alx ?_;repeat' first | exact⟨_,rfl⟩ | apply ao3
theorem kQ(a:ak)(b:Int)(h:a.cells.length<lim):jD a b=some (dU (fun c=>c.id==b) a.cells 0):=by
 refine yT (fun i=>((b,a.cells,(i:Int)):Int×List ah×Int)) a.cells (fun c=>c.id==b) (fun i x e=>?_) ?_
 ·obtain⟨d,rfl⟩:=zC.1 e;simp only[lW d,ac,aA,e,zA,oI d h]
 ·simp only[gm,aa]
theorem wL(a:ak)(b:Int)(h:a.cells.length<lim):gU a b=some (dU (fun c=>c.id==b) a.cells 0):=by
 refine yT (fun i=>((b,a.cells,(a.cells.length:Int),(i:Int)):Int×List ah×Int×Int)) a.cells (fun c=>c.id==b) (fun i x e=>?_) ?_
 ·obtain⟨d,rfl⟩:=zC.1 e;simp only[lW d,ac,aA,e,zA,oI d h]
 ·simp only[gm,aa]
open Classical in
noncomputable def FM(c:ah):Bool:=(dm c).getD false
theorem o5(n:ak)(f:Fit B20 (.base .notebook) n):∃b,fK n=some b/\eP n=some b:=by
 rw[eY]at f;have h:n.cells.length<lim/\∀x∈n.cells,Fit B20 (.base .cell) x:=⟨jQ (eU f),f.cu⟩;refine⟨uX (fun c i=>FM c&&!(dU (fun d=>d.id==c.id) n.cells 0 != (i:Int))) n.cells 0&&decide ((n.cells.length:Int)<=8),?_,?_⟩
 ·refine uf (fun i=>((n.cells,n.cells,(n.cells.length:Int),(i:Int)):List ah×List ah×Int×Int)) n.cells _ _ (fun i x e=>?_) ?_
  ·obtain⟨a,rfl⟩:=zC.1 e;obtain⟨b,h1,h2⟩:=jl _ (h.2 _ (List.getElem_mem a));have g:FM n.cells[i]=b:=by unfold FM;rw[h2];rfl
   simp only[lW a,ac,aA,e,zA,oI a h.1,h1,g,wL ⟨n.cells⟩ _ h.1];cases b<;>cases (dU (fun d=>d.id==n.cells[i].id) n.cells 0 != (i:Int))<;>rfl
  ·simp only[gm,aa]
 ·refine uf (fun i=>((n.cells,(i:Int)):List ah×Int)) n.cells _ _ (fun i x e=>?_) ?_
  ·obtain⟨a,rfl⟩:=zC.1 e;obtain⟨b,h1,h2⟩:=jl _ (h.2 _ (List.getElem_mem a));have g:FM n.cells[i]=b:=by unfold FM;rw[h2];rfl
   simp only[lW a,ac,aA,e,zA,oI a h.1,h2,g,kQ ⟨n.cells⟩ _ h.1];cases b<;>cases (dU (fun d=>d.id==n.cells[i].id) n.cells 0 != (i:Int))<;>rfl
  ·simp only[gm,aa]
end Go.Proofs.YtbbmkcioplbhbaaGreatDoor
/- The plain law of IsValidHistory. -/
namespace Go.Proofs.YtbbmkcioplbhbaaGreatDoor
open Go.Abs Go.Proofs
end Go.Proofs.YtbbmkcioplbhbaaGreatDoor
/- Plain laws: HasSeen, valid logs and replicas, equality of documents. -/
namespace Go.Proofs.YtbbmkcioplbhbaaGreatDoor
open Go.Abs Go.Proofs
end Go.Proofs.YtbbmkcioplbhbaaGreatDoor
