import Derived.Test.YtapgeemjgckgaaaGreatDoorPlain1
set_option linter.unusedSimpArgs false
set_option linter.unusedVariables false
/- Plain laws of marks, by genmark.py. -/
namespace Go.Proofs.YtapgeemjgckgaaaGreatDoor
noncomputable section
open Go.Abs Go.Proofs
def Y7(xs:List Int):Prop:=xs.length<4611686018427387904
def EO(xs:List Str):Prop:=xs.length<4611686018427387904
theorem lH(a:Bool):(!(a==a))=false:=by simp
theorem MK(xs:List Int)(b:xs.length<4611686018427387904):Tc Cf Dh xs (qg xs):=by
 refine ji (mk:=Cf) (hd:=Dh) (fun _ _=>rfl) (fun _ _=>rfl) (fun _=>1) (fun _=>True) (fun xs i x k c f b g h=>?_) (fun xs k=>?_) (fun xs k=>?_) xs (fun _ _=>trivial) b
 ·have d:w64 (k+1)=k+1:=aX (by omega) (by omega);refine⟨k,?_,fun ys e a=>?_⟩
  ·simp only[dec_lt c,ac,aA,az,c,zA,d,dn c b];rfl
  ·simp only[dec_lt a,ac,aA,a,zA,d,dn a e,iZ,iP,aa];rfl
 ·simp only[Int.lt_irrefl,decide_false,aa]
 ·simp only[Int.lt_irrefl,decide_false,aa]
theorem aan{xs:List Int}(h:aT B24 (.list (.base .int) xs)):Y7 xs/\qg xs<=16777216:=by
 have a:=qN h;refine⟨by unfold Y7;omega,?_⟩;have:=JK (fun _=>1) xs 1 (fun _ _=>aw 1);unfold qg;omega
theorem uD(xs:List Str)(b:xs.length<4611686018427387904):Tc lI lT xs (eY xs):=by
 refine ji (mk:=lI) (hd:=lT) (fun _ _=>rfl) (fun _ _=>rfl) (fun _=>1) (fun _=>True) (fun xs i x k c h b j l=>?_) (fun xs k=>?_) (fun xs k=>?_) xs (fun _ _=>trivial) b
 ·have d:w64 (k+1)=k+1:=aX (by omega) (by omega);obtain⟨f,e⟩:=kC k (by omega) (by omega);refine⟨f,?_,fun ys g a=>?_⟩
  ·simp only[dec_lt c,ac,aA,az,c,zA,d,dn c b,e];rfl
  ·simp only[dec_lt a,ac,aA,a,zA,d,dn a g,iZ,iP,aa,e];rfl
 ·simp only[Int.lt_irrefl,decide_false,aa]
 ·simp only[Int.lt_irrefl,decide_false,aa]
theorem BQ{xs:List Str}(h:aT B24 (.list (.base .str) xs)):EO xs/\eY xs<=16777216:=by
 have a:=qN h;refine⟨by unfold EO;omega,?_⟩;have:=JK (fun _=>1) xs 1 (fun _ _=>aw 1);unfold eY;omega
def Lr(x:bK):Prop:=True
def Lp(xs:List bK):Prop:=(∀x,x∈xs->Lr x)/\xs.length<4611686018427387904
theorem QA(xs:List bK)(h:Lp xs):Tc vY wG xs (uZ xs):=by
 refine ji (mk:=vY) (hd:=wG) (fun _ _=>rfl) (fun _ _=>rfl) lV Lr (fun xs i x k b n e o f=>?_) (fun xs k=>?_) (fun xs k=>?_) xs h.1 h.2
 ·unfold lV at f;obtain⟨k0,g⟩:∃m:Int,m=k+1:=⟨_,rfl⟩;have w0:w64 (k+1)=k0:=by rw[g];exact aX (by omega) (by omega)
  obtain⟨c,j⟩:∃m:Int,m=k0+1:=⟨_,rfl⟩;have d:w64 (k0+1)=c:=by rw[j];exact aX (by omega) (by omega)
  have hsum:c=k+(lV x:Nat):=by unfold lV;omega
  refine⟨bK.mk k k0,?_,fun ys l a=>?_⟩
  ·simp only[dec_lt b,ac,aA,az,b,vJ b,List.set_set,zA,dn b e,w0,d,bT,aQ,dQ,dX,iy];rw[hsum]
  ·simp only[dec_lt a,ac,aA,a,zA,dn a l,iZ,iP,lH,aa,w0,d,bT,aQ,dQ,dX,iy];rw[hsum]
 ·simp only[Int.lt_irrefl,decide_false,aa]
 ·simp only[Int.lt_irrefl,decide_false,aa]
theorem adh{xs:List bK}(h:aT B24 (.list (.base .origin) xs)):Lp xs:=by
 have a:=qN h;refine⟨fun x b=>?_,by omega⟩;unfold Lr;trivial
def Y5(x:bF):Prop:=Y7 x.cells/\Lp x.orig
def Y4(xs:List bF):Prop:=(∀x,x∈xs->Y5 x)/\xs.length<4611686018427387904
theorem Ce(xs:List bF)(h:Y4 xs):Tc uF uQ xs (nC xs):=by
 refine ji (mk:=uF) (hd:=uQ) (fun _ _=>rfl) (fun _ _=>rfl) sJ Y5 (fun xs i x k b g l y n=>?_) (fun xs k=>?_) (fun xs k=>?_) xs h.1 h.2
 ·unfold sJ at n;unfold Y5 at g;obtain⟨o,p⟩:=g;obtain⟨q,c,d⟩:=MK x.cells o k (by omega) (by omega);obtain⟨k0,r⟩:∃m:Int,m=k+(qg x.cells:Nat):=⟨_,rfl⟩;rw[<- r]at c d;have s:decide (k0<0)=false:=ae (by omega);obtain⟨t,e,f⟩:=QA x.orig p k0 (by omega) (by omega);obtain⟨j,u⟩:∃m:Int,m=k0+(uZ x.orig:Nat):=⟨_,rfl⟩;rw[<- u]at e f;have v:decide (j<0)=false:=ae (by omega);have hsum:j=k+(sJ x:Nat):=by unfold sJ;omega
  refine⟨bF.mk q t,?_,fun ys w a=>?_⟩
  ·simp only[dec_lt b,ac,aA,az,b,vJ b,List.set_set,zA,dn b l,c,d,e,f,bT,aQ,dQ,dX,iy];rw[hsum]
  ·simp only[dec_lt a,ac,aA,a,zA,dn a w,iZ,iP,lH,aa,c,d,e,f,s,v,bT,aQ,dQ,dX,iy];rw[hsum]
 ·simp only[Int.lt_irrefl,decide_false,aa]
 ·simp only[Int.lt_irrefl,decide_false,aa]
theorem XG{xs:List bF}(h:aT B24 (.list (.base .row) xs)):Y4 xs:=by
 have b:=qN h;refine⟨fun x a=>?_,by omega⟩;unfold Y5;have f:=h.cO x a;rw[EF]at f;obtain⟨f_0,f_1⟩:=f;exact⟨aan f_0 |>.1,adh f_1⟩
def dV(x:aC):Nat:=aC.rec (motive_1:=fun _=>Nat) (motive_2:=fun _=>Nat) (fun _ _ _ _ _ _ _ ih=>ih+1) 0 (fun _ _ a b=>max a b) x
def dVs(xs:List aC):Nat:=aC.rec_1 (motive_1:=fun _=>Nat) (motive_2:=fun _=>Nat) (fun _ _ _ _ _ _ _ ih=>ih+1) 0 (fun _ _ a b=>max a b) xs
theorem abE(x:aC):dV x=dVs x.list+1:=by cases x;rfl
theorem abD(x:aC)(xs:List aC):dVs (x::xs)=max (dV x) (dVs xs):=rfl
theorem ajW{d:Nat}:∀ {xs:List aC},(∀x,x∈xs->dV x<=d)->dVs xs<=d
 | [],_=>Nat.zero_le _
 | x::xs,h=>Nat.max_le.2 ⟨h x ar,ajW fun y a=>h y (aq _ a)⟩
theorem YU{d:Nat}:∀ {xs:List aC},dVs xs<=d->∀x,x∈xs->dV x<=d
 | [],_,x,a=>by cases a
 | y::ys,h,x,a=>by
  have c:max (dV y) (dVs ys)<=d:=h;have b:=Nat.max_le.1 c;rcases ba.1 a with rfl | a
  ·exact b.1
  ·exact YU b.2 x a
theorem VZ:∀ {xs ys:List aC},ys.length=xs.length->(∀(i:Nat) (x y:aC),xs[i]?=some x->ys[i]?=some y->dV y=dV x)->dVs ys=dVs xs
 | [],[],_,_=>rfl
 | x::xs,y::ys,c,h=>by
  rw[abD,abD,h 0 x y rfl rfl,VZ (by simpa using c) fun i a b d e=>h (i+1) a b (by simpa using d) (by simpa using e)]
theorem YT:∀n (xs:List aC),siz xs<n->dVs xs<=siz xs
 | 0,xs,h=>absurd h (Nat.not_lt_zero _)
 | n+1,xs,h=>ajW fun x a=>by
   have b:=DK a;have c:=xw (v:=x);have d:=YT n x.list (by omega);rw[abE];omega
def Jv(xs:List aC):Prop:=aT B24 (.list (.base .val) xs)
theorem Ug:∀(d:Nat) (xs:List aC),dVs xs<=d->Jv xs->∀k:Int,0<=k->k+eP xs<=4611686018427387904 ->
  ∃ys,dVs ys=dVs xs/\∀j:Nat×Nat,(d<j.1/\d<j.2)->kz j.1 xs k=some (ys,k+(eP xs:Nat))/\lS j.2 ys k=some (k+(eP xs:Nat)):=by
 intro d;induction d with
 | zero=>
  intro xs hd v k F A;have q:xs=[]:=by
   cases xs with
   | nil=>rfl
   | cons x xs=>have:=YU hd x ar;rw[abE]at this;omega
  subst q;refine⟨[],rfl,fun j t=>?_⟩;obtain⟨a,b⟩:=j;obtain⟨V,W⟩:=t;match a,b,V,W with
  | a+1,b+1,_,_=>
   have e:k+(eP []:Nat)=k:=by show k+((0:Nat):Int)=k;omega
   rw[e];constructor
   ·show Cc (kz a) [] k=_
    unfold Cc;rw[aI];rfl
   ·show Df (lS b) [] k=_
    unfold Df;rw[aI];rfl
 | succ d ih=>
  intro xs hd v k F A;have O:=qN v;rw[Ar]at A ⊢;have M:=agI (ι:=Nat×Nat) (J:=fun j=>d+1<j.1/\d+1<j.2) (mk:=fun j=>kz j.1) (hd:=fun j=>lS j.2)
   (g:=fun j=>(fun (x:List aC×Int×Int)=>
     bif (decide (x.2.1<(x.1.length:Int)))then
      (idx x.1 x.2.1).bind fun _=>
      (x.1[x.2.1.toNat]?).bind fun u=>
      (some (x.1.set x.2.1.toNat (aC.mk x.2.2 u.n u.step u.text u.list u.columns u.rows))).bind fun G=>
      (idx G x.2.1).bind fun _=>
      (G[x.2.1.toNat]?).bind fun m=>
      (some (G.set x.2.1.toNat (aC.mk m.kind (w64 (x.2.2+1)) m.step m.text m.list m.columns m.rows))).bind fun H=>
      (idx H x.2.1).bind fun _=>
      (H[x.2.1.toNat]?).bind fun p=>
      (some (H.set x.2.1.toNat (aC.mk p.kind p.n (w64 ((w64 (x.2.2+1))+1)) p.text p.list p.columns p.rows))).bind fun I=>
      (fF (w64 ((w64 ((w64 (x.2.2+1))+1))+1))).bind fun X=>
      (idx I x.2.1).bind fun _=>
      (I[x.2.1.toNat]?).bind fun z=>
      (some (I.set x.2.1.toNat (aC.mk z.kind z.n z.step X z.list z.columns z.rows))).bind fun E=>
      (idx E x.2.1).bind fun _=>
      (E[x.2.1.toNat]?).bind fun Y=>
      (E[x.2.1.toNat]?).bind fun f=>
      ((kz (j.1-1)) f.list (w64 ((w64 ((w64 ((w64 (x.2.2+1))+1))+1))+1))).bind fun o=>
      (some (E.set x.2.1.toNat (aC.mk f.kind f.n f.step f.text o.1 f.columns f.rows))).bind fun r=>
      (idx r x.2.1).bind fun _=>
      (r[x.2.1.toNat]?).bind fun Z=>
      (r[x.2.1.toNat]?).bind fun h=>
      (lI h.columns o.2).bind fun B=>
      (some (r.set x.2.1.toNat (aC.mk h.kind h.n h.step h.text h.list B.1 h.rows))).bind fun s=>
      (idx s x.2.1).bind fun _=>
      (s[x.2.1.toNat]?).bind fun e18=>
      (s[x.2.1.toNat]?).bind fun l=>
      (uF l.rows B.2).bind fun C=>
      (some (s.set x.2.1.toNat (aC.mk l.kind l.n l.step l.text l.list l.columns C.1))).bind fun K=>
      some (.inl (K,w64 (x.2.1+1),C.2))
     else
      some (.inr (x.1,x.2.2))
    )) (g':=fun j=>(fun (c:(List aC)×Int×Int)=>
     bif (decide (c.2.2<(c.1.length:Int)))then
      (idx c.1 c.2.2).bind fun L=>
      bif (L.kind != c.2.1)then
       some (.inr ((-1)))
      else
      (idx c.1 c.2.2).bind fun m=>
      bif (m.n != (w64 (c.2.1+1)))then
       some (.inr ((-1)))
      else
      (idx c.1 c.2.2).bind fun e4=>
      bif (e4.step != (w64 ((w64 (c.2.1+1))+1)))then
       some (.inr ((-1)))
      else
      (idx c.1 c.2.2).bind fun p=>
      (fF (w64 ((w64 ((w64 (c.2.1+1))+1))+1))).bind fun r6=>
      bif (!(p.text==r6))then
       some (.inr ((-1)))
      else
      (idx c.1 c.2.2).bind fun e7=>
      ((lS (j.2-1)) e7.list (w64 ((w64 ((w64 ((w64 (c.2.1+1))+1))+1))+1))).bind fun P=>
      bif (decide (P<0))then
       some (.inr ((-1)))
      else
      (idx c.1 c.2.2).bind fun e9=>
      (lT e9.columns P).bind fun D=>
      bif (decide (D<0))then
       some (.inr ((-1)))
      else
       (idx c.1 c.2.2).bind fun f=>
       (uQ f.rows D).bind fun o=>
       bif (decide (o<0))then
        some (.inr ((-1)))
       else
        some (.inl (c.1,o,w64 (c.2.2+1)))
     else
      some (.inr (c.2.1))
    )) (fun j t xs k=>?_) (fun j t xs k=>?_) ou (fun x=>dV x<=d+1/\Fit B24 (.base .val) x) (fun x y=>dV y=dV x)
   (fun xs i x k q hP O F A=>?_) (fun j t xs k=>?_) (fun j t xs k=>?_) xs (fun x q=>⟨YU hd x q,v.cO x q⟩) (by omega) k F A
  ·obtain⟨ys,u,eQ,L⟩:=M;exact⟨ys,VZ u eQ,L⟩
  ·obtain⟨a,b⟩:=j;match a,t with
   | a+1,_=>rfl
  ·obtain⟨a,b⟩:=j;match b,t with
   | b+1,_=>rfl
  ·obtain⟨N,Q⟩:=hP;rw[abE]at N;rw[wI]at Q;obtain⟨c0,c1,c2,c3,c4,c5,c6⟩:=Q;rw[sH]at A ⊢;obtain⟨t3,m⟩:=kC (k+1+1+1) (by omega) (by omega);obtain⟨R,d4,f4⟩:=ih x.list (by omega) c4 (k+1+1+1+1) (by omega) (by omega);obtain⟨y5,p,f5⟩:=uD x.columns (BQ c5).1 (k+1+1+1+1+(eP x.list:Nat)) (by omega) (by omega);obtain⟨y6,e6,f6⟩:=Ce x.rows (XG c6) (k+1+1+1+1+(eP x.list:Nat)+(eY x.columns:Nat)) (by omega) (by omega);have w0:w64 (k+1)=k+1:=aX (by omega) (by omega);have S:w64 (k+1+1)=k+1+1:=aX (by omega) (by omega);have T:w64 (k+1+1+1)=k+1+1+1:=aX (by omega) (by omega);have U:w64 (k+1+1+1+1)=k+1+1+1+1:=aX (by omega) (by omega);have n4:decide (k+1+1+1+1+(eP x.list:Nat)<0)=false:=ae (by omega);have n5:decide (k+1+1+1+1+(eP x.list:Nat)+(eY x.columns:Nat)<0)=false:=ae (by omega);have n6:decide (k+1+1+1+1+(eP x.list:Nat)+(eY x.columns:Nat)+(nC x.rows:Nat)<0)=false:=ae (by omega);have hsum:k+1+1+1+1+(eP x.list:Nat)+(eY x.columns:Nat)+(nC x.rows:Nat)=k+((1+1+1+1+eP x.list+eY x.columns+nC x.rows:Nat):Int):=by omega
   refine⟨aC.mk k (k+1) (k+1+1) t3 R y5 y6,by rw[abE,abE];show dVs R+1=_;omega,fun j t=>?_⟩;have ej:=f4 (j.1-1,j.2-1) ⟨by show d<j.1-1;omega,by show d<j.2-1;omega⟩;refine⟨?_,fun ys hy w=>?_⟩
   ·simp only[dec_lt q,ac,aA,az,q,vJ q,List.set_set,zA,dn q O,w0,S,T,U,m,ej.1,p,e6,bT];rw[hsum]
   ·simp only[dec_lt w,ac,aA,w,zA,dn w hy,iZ,iP,aa,w0,S,T,U,m,ej.2,f5,f6,n4,n5,n6,bT];rw[hsum]
  ·simp only[Int.lt_irrefl,decide_false,aa]
  ·simp only[Int.lt_irrefl,decide_false,aa]
theorem Fg(xs:List aC)(h:Jv xs):Tc uz Aj xs (eP xs):=by
 intro k a b;obtain⟨ys,d,c⟩:=Ug (dVs xs) xs (aw _) h k a b;have e:=YT (siz xs+1) xs (Nat.lt_succ_self _);have f:=YT (siz ys+1) ys (Nat.lt_succ_self _);have:=c (siz xs+1,siz ys+1) ⟨by show dVs xs<siz xs+1;omega,by show dVs xs<siz ys+1;omega⟩;exact⟨ys,this.1,this.2⟩
def Y9(x:dh):Prop:=True
def Y8(xs:List dh):Prop:=(∀x,x∈xs->Y9 x)/\xs.length<4611686018427387904
theorem XZ(xs:List dh)(h:Y8 xs):Tc D9 EC xs (ve xs):=by
 refine ji (mk:=D9) (hd:=EC) (fun _ _=>rfl) (fun _ _=>rfl) oP Y9 (fun xs i x k b p f q g=>?_) (fun xs k=>?_) (fun xs k=>?_) xs h.1 h.2
 ·unfold oP at g;obtain⟨j,c⟩:=kC k (by omega) (by omega);obtain⟨k0,l⟩:∃m:Int,m=k+1:=⟨_,rfl⟩;have w0:w64 (k+1)=k0:=by rw[l];exact aX (by omega) (by omega)
  obtain⟨d,n⟩:∃m:Int,m=k0+1:=⟨_,rfl⟩;have e:w64 (k0+1)=d:=by rw[n];exact aX (by omega) (by omega)
  have hsum:d=k+(oP x:Nat):=by unfold oP;omega
  refine⟨dh.mk j k0,?_,fun ys o a=>?_⟩
  ·simp only[dec_lt b,ac,aA,az,b,vJ b,List.set_set,zA,dn b f,w0,e,c,bT,aQ,dQ,dX,iy];rw[hsum]
  ·simp only[dec_lt a,ac,aA,a,zA,dn a o,iZ,iP,lH,aa,w0,e,c,bT,aQ,dQ,dX,iy];rw[hsum]
 ·simp only[Int.lt_irrefl,decide_false,aa]
 ·simp only[Int.lt_irrefl,decide_false,aa]
theorem ai2{xs:List dh}(h:aT B24 (.list (.base .file) xs)):Y8 xs:=by
 have a:=qN h;refine⟨fun x b=>?_,by omega⟩;unfold Y9;trivial
def Oo(x:aN):Prop:=Jv x.result.list/\EO x.result.columns/\Y4 x.result.rows
def Y6(xs:List aN):Prop:=(∀x,x∈xs->Oo x)/\xs.length<4611686018427387904
set_option maxHeartbeats 1000000 in
theorem XY(xs:List aN)(h:Y6 xs):Tc D8 Ez xs (oO xs):=by
 refine ji (mk:=D8) (hd:=Ez) (fun _ _=>rfl) (fun _ _=>rfl) mX Oo (fun xs i x k e z J h0 K=>?_) (fun xs k=>?_) (fun xs k=>?_) xs h.1 h.2
 ·unfold mX at K;unfold Oo at z;obtain⟨L,M,N⟩:=z;obtain⟨k0,O⟩:∃m:Int,m=k+1:=⟨_,rfl⟩;have w0:w64 (k+1)=k0:=by rw[O];exact aX (by omega) (by omega)
  obtain⟨f,P⟩:∃m:Int,m=k0+1:=⟨_,rfl⟩;have A:w64 (k0+1)=f:=by rw[P];exact aX (by omega) (by omega)
  obtain⟨g,Q⟩:∃m:Int,m=f+1:=⟨_,rfl⟩;have B:w64 (f+1)=g:=by rw[Q];exact aX (by omega) (by omega)
  obtain⟨R,C⟩:=kC g (by omega) (by omega);obtain⟨j,S⟩:∃m:Int,m=g+1:=⟨_,rfl⟩;have D:w64 (g+1)=j:=by rw[S];exact aX (by omega) (by omega)
  obtain⟨l,T⟩:∃m:Int,m=j+1:=⟨_,rfl⟩;have E:w64 (j+1)=l:=by rw[T];exact aX (by omega) (by omega)
  obtain⟨n,U⟩:∃m:Int,m=l+1:=⟨_,rfl⟩;have F:w64 (l+1)=n:=by rw[U];exact aX (by omega) (by omega)
  obtain⟨o,V⟩:∃m:Int,m=n+1:=⟨_,rfl⟩;have G:w64 (n+1)=o:=by rw[V];exact aX (by omega) (by omega)
  obtain⟨W,H⟩:=kC o (by omega) (by omega);obtain⟨p,X⟩:∃m:Int,m=o+1:=⟨_,rfl⟩;have I:w64 (o+1)=p:=by rw[X];exact aX (by omega) (by omega)
  obtain⟨Y,q,r⟩:=Fg x.result.list L p (by omega) (by omega);obtain⟨s,Z⟩:∃m:Int,m=p+(eP x.result.list:Nat):=⟨_,rfl⟩;rw[<- Z]at q r;have n8:decide (s<0)=false:=ae (by omega);obtain⟨y9,t,u⟩:=uD x.result.columns M s (by omega) (by omega);obtain⟨k9,g9⟩:∃m:Int,m=s+(eY x.result.columns:Nat):=⟨_,rfl⟩;rw[<- g9]at t u;have n9:decide (k9<0)=false:=ae (by omega);obtain⟨v,a,b⟩:=Ce x.result.rows N k9 (by omega) (by omega);obtain⟨d,w⟩:∃m:Int,m=k9+(nC x.result.rows:Nat):=⟨_,rfl⟩;rw[<- w]at a b;have y:decide (d<0)=false:=ae (by omega);have hsum:d=k+(mX x:Nat):=by unfold mX;omega
  refine⟨aN.mk k k0 f R (aC.mk j l n W Y y9 v),?_,fun ys hy c=>?_⟩
  ·simp only[dec_lt e,ac,aA,az,e,vJ e,List.set_set,zA,dn e J,w0,A,B,D,E,F,G,I,C,H,q,r,t,u,a,b,bT,aQ,dQ,dX,iy];rw[hsum]
  ·simp only[dec_lt c,ac,aA,c,zA,dn c hy,iZ,iP,lH,aa,w0,A,B,D,E,F,G,I,C,H,q,r,t,u,a,b,n8,n9,y,bT,aQ,dQ,dX,iy];rw[hsum]
 ·simp only[Int.lt_irrefl,decide_false,aa]
 ·simp only[Int.lt_irrefl,decide_false,aa]
theorem ai1{xs:List aN}(h:aT B24 (.list (.base .read) xs)):Y6 xs:=by
 have b:=qN h;refine⟨fun x a=>?_,by omega⟩;unfold Oo;have f:=h.cO x a;rw[qI]at f;obtain⟨f_0,f_1,f_2,f_3,f_4⟩:=f;rw[wI]at f_4;obtain⟨f_4_0,f_4_1,f_4_2,f_4_3,f_4_4,f_4_5,f_4_6⟩:=f_4;exact⟨f_4_4,BQ f_4_5 |>.1,XG f_4_6⟩
def Jz(x:aj):Prop:=True
def Oq(xs:List aj):Prop:=(∀x,x∈xs->Jz x)/\xs.length<4611686018427387904
theorem X4(xs:List aj)(h:Oq xs):Tc Ea ED xs (yP xs):=by
 refine ji (mk:=Ea) (hd:=ED) (fun _ _=>rfl) (fun _ _=>rfl) iY Jz (fun xs i x k b E s F t=>?_) (fun xs k=>?_) (fun xs k=>?_) xs h.1 h.2
 ·unfold iY at t;obtain⟨k0,u⟩:∃m:Int,m=k+1:=⟨_,rfl⟩;have w0:w64 (k+1)=k0:=by rw[u];exact aX (by omega) (by omega)
  obtain⟨c,v⟩:∃m:Int,m=k0+1:=⟨_,rfl⟩;have g:w64 (k0+1)=c:=by rw[v];exact aX (by omega) (by omega)
  obtain⟨d,w⟩:∃m:Int,m=c+1:=⟨_,rfl⟩;have j:w64 (c+1)=d:=by rw[w];exact aX (by omega) (by omega)
  obtain⟨y,l⟩:=kC d (by omega) (by omega);obtain⟨e,z⟩:∃m:Int,m=d+1:=⟨_,rfl⟩;have n:w64 (d+1)=e:=by rw[z];exact aX (by omega) (by omega)
  obtain⟨A,o⟩:=kC e (by omega) (by omega);obtain⟨f,B⟩:∃m:Int,m=e+1:=⟨_,rfl⟩;have p:w64 (e+1)=f:=by rw[B];exact aX (by omega) (by omega)
  obtain⟨q,C⟩:∃m:Int,m=f+1:=⟨_,rfl⟩;have r:w64 (f+1)=q:=by rw[C];exact aX (by omega) (by omega)
  have hsum:q=k+(iY x:Nat):=by unfold iY;omega
  refine⟨aj.mk k k0 c y A f,?_,fun ys D a=>?_⟩
  ·simp only[dec_lt b,ac,aA,az,b,vJ b,List.set_set,zA,dn b s,w0,g,j,n,p,r,l,o,bT,aQ,dQ,dX,iy];rw[hsum]
  ·simp only[dec_lt a,ac,aA,a,zA,dn a D,iZ,iP,lH,aa,w0,g,j,n,p,r,l,o,bT,aQ,dQ,dX,iy];rw[hsum]
 ·simp only[Int.lt_irrefl,decide_false,aa]
 ·simp only[Int.lt_irrefl,decide_false,aa]
theorem ai3{xs:List aj}(h:aT B24 (.list (.base .cell) xs)):Oq xs:=by
 have a:=qN h;refine⟨fun x b=>?_,by omega⟩;unfold Jz;trivial
theorem agB{xs:List aj}(h:aT B24 (.list (.base .cell) xs)):Oq xs/\yP xs<=100663296:=by
 have b:=qN h;have key:∀x,x∈xs->Jz x/\iY x<=6:=by
  intro x a;unfold Jz iY;exact⟨trivial,by omega⟩
 refine⟨⟨fun x a=>(key x a).1,by omega⟩,?_⟩;have c:=JK iY xs 6 fun x a=>(key x a).2
 have d:xs.length*6<=16777216*6:=Nat.mul_le_mul_right _ (by omega);unfold yP;omega
def Om(x:aB):Prop:=Y6 x.reads
def Y3(xs:List aB):Prop:=(∀x,x∈xs->Om x)/\xs.length<4611686018427387904
theorem XW(xs:List aB)(h:Y3 xs):Tc D7 Ey xs (lU xs):=by
 refine ji (mk:=D7) (hd:=Ey) (fun _ _=>rfl) (fun _ _=>rfl) dF Om (fun xs i x k b f l v n=>?_) (fun xs k=>?_) (fun xs k=>?_) xs h.1 h.2
 ·unfold dF at n;unfold Om at f;have o:=f;obtain⟨k0,p⟩:∃m:Int,m=k+1:=⟨_,rfl⟩;have w0:w64 (k+1)=k0:=by rw[p];exact aX (by omega) (by omega)
  obtain⟨c,q⟩:∃m:Int,m=k0+1:=⟨_,rfl⟩;have g:w64 (k0+1)=c:=by rw[q];exact aX (by omega) (by omega)
  obtain⟨r,d,e⟩:=XY x.reads o c (by omega) (by omega);obtain⟨j,s⟩:∃m:Int,m=c+(oO x.reads:Nat):=⟨_,rfl⟩;rw[<- s]at d e;have t:decide (j<0)=false:=ae (by omega);have hsum:j=k+(dF x:Nat):=by unfold dF;omega
  refine⟨aB.mk k k0 r,?_,fun ys u a=>?_⟩
  ·simp only[dec_lt b,ac,aA,az,b,vJ b,List.set_set,zA,dn b l,w0,g,d,e,bT,aQ,dQ,dX,iy];rw[hsum]
  ·simp only[dec_lt a,ac,aA,a,zA,dn a u,iZ,iP,lH,aa,w0,g,d,e,t,bT,aQ,dQ,dX,iy];rw[hsum]
 ·simp only[Int.lt_irrefl,decide_false,aa]
 ·simp only[Int.lt_irrefl,decide_false,aa]
theorem ai0{xs:List aB}(h:aT B24 (.list (.base .tape) xs)):Y3 xs:=by
 have b:=qN h;refine⟨fun x a=>?_,by omega⟩;unfold Om;have f:=h.cO x a;rw[yK]at f;obtain⟨f_0,f_1,f_2⟩:=f;exact ai1 f_2
def Jw(x:aO):Prop:=Y7 x.inputs/\Jv x.value.list/\EO x.value.columns/\Y4 x.value.rows
def S9(xs:List aO):Prop:=(∀x,x∈xs->Jw x)/\xs.length<4611686018427387904
set_option maxHeartbeats 1000000 in
theorem Uj(xs:List aO)(h:S9 xs):Tc zV Ak xs (jg xs):=by
 refine ji (mk:=zV) (hd:=Ak) (fun _ _=>rfl) (fun _ _=>rfl) kP Jw (fun xs i x k g E M h0 N=>?_) (fun xs k=>?_) (fun xs k=>?_) xs h.1 h.2
 ·unfold kP at N;unfold Jw at E;obtain⟨O,P,Q,R⟩:=E;obtain⟨k0,S⟩:∃m:Int,m=k+1:=⟨_,rfl⟩;have w0:w64 (k+1)=k0:=by rw[S];exact aX (by omega) (by omega)
  obtain⟨j,T⟩:∃m:Int,m=k0+1:=⟨_,rfl⟩;have F:w64 (k0+1)=j:=by rw[T];exact aX (by omega) (by omega)
  obtain⟨q,U⟩:∃m:Int,m=j+1:=⟨_,rfl⟩;have G:w64 (j+1)=q:=by rw[U];exact aX (by omega) (by omega)
  obtain⟨V,r,s⟩:=MK x.inputs O q (by omega) (by omega);obtain⟨l,W⟩:∃m:Int,m=q+(qg x.inputs:Nat):=⟨_,rfl⟩;rw[<- W]at r s;have X:decide (l<0)=false:=ae (by omega);obtain⟨n,Y⟩:∃m:Int,m=l+1:=⟨_,rfl⟩;have H:w64 (l+1)=n:=by rw[Y];exact aX (by omega) (by omega)
  obtain⟨o,Z⟩:∃m:Int,m=n+1:=⟨_,rfl⟩;have I:w64 (n+1)=o:=by rw[Z];exact aX (by omega) (by omega)
  obtain⟨p,g6⟩:∃m:Int,m=o+1:=⟨_,rfl⟩;have J:w64 (o+1)=p:=by rw[g6];exact aX (by omega) (by omega)
  obtain⟨t7,K⟩:=kC p (by omega) (by omega);obtain⟨t,g7⟩:∃m:Int,m=p+1:=⟨_,rfl⟩;have L:w64 (p+1)=t:=by rw[g7];exact aX (by omega) (by omega)
  obtain⟨y8,u,v⟩:=Fg x.value.list P t (by omega) (by omega);obtain⟨w,g8⟩:∃m:Int,m=t+(eP x.value.list:Nat):=⟨_,rfl⟩;rw[<- g8]at u v;have n8:decide (w<0)=false:=ae (by omega);obtain⟨y9,y,z⟩:=uD x.value.columns Q w (by omega) (by omega);obtain⟨k9,g9⟩:∃m:Int,m=w+(eY x.value.columns:Nat):=⟨_,rfl⟩;rw[<- g9]at y z;have n9:decide (k9<0)=false:=ae (by omega);obtain⟨A,b,c⟩:=Ce x.value.rows R k9 (by omega) (by omega);obtain⟨a,B⟩:∃m:Int,m=k9+(nC x.value.rows:Nat):=⟨_,rfl⟩;rw[<- B]at b c;have C:decide (a<0)=false:=ae (by omega);obtain⟨e,D⟩:∃m:Int,m=a+1:=⟨_,rfl⟩;have f:w64 (a+1)=e:=by rw[D];exact aX (by omega) (by omega)
  have hsum:e=k+(kP x:Nat):=by unfold kP;omega
  refine⟨aO.mk k k0 j V (aC.mk l n o t7 y8 y9 A) (a.tmod 3==0),?_,fun ys hy d=>?_⟩
  ·simp only[dec_lt g,ac,aA,az,g,vJ g,List.set_set,zA,dn g M,w0,F,G,H,I,J,L,f,r,s,K,u,v,y,z,b,c,bT,aQ,dQ,dX,iy];rw[hsum]
  ·simp only[dec_lt d,ac,aA,d,zA,dn d hy,iZ,iP,lH,aa,w0,F,G,H,I,J,L,f,r,s,K,u,v,y,z,b,c,X,n8,n9,C,bT,aQ,dQ,dX,iy];rw[hsum]
 ·simp only[Int.lt_irrefl,decide_false,aa]
 ·simp only[Int.lt_irrefl,decide_false,aa]
theorem agA{xs:List aO}(h:aT B24 (.list (.base .entry) xs)):S9 xs:=by
 have b:=qN h;refine⟨fun x a=>?_,by omega⟩;unfold Jw;have f:=h.cO x a;rw[tu]at f;obtain⟨f_0,f_1,f_2,f_3,f_4,f_5⟩:=f;rw[wI]at f_4;obtain⟨f_4_0,f_4_1,f_4_2,f_4_3,f_4_4,f_4_5,f_4_6⟩:=f_4;exact⟨aan f_3 |>.1,f_4_4,BQ f_4_5 |>.1,XG f_4_6⟩
def dG(x:au):Nat:=yP x.cells
def nU(x:au):Prop:=Oq x.cells
theorem Ns(x:au)(h:nU x)(k:Int)(g:0<=k)(c:k+dG x<=4611686018427387904):∃y,rH x k=some (y,k+(dG x:Nat))/\rW y k=some (k+(dG x:Nat)):=by
 unfold dG at c;unfold nU at h;have d:=h;obtain⟨e,a,b⟩:=X4 x.cells d (k) (by omega) (by omega);have f:decide (k+(yP x.cells:Nat)<0)=false:=ae (by omega);have hsum:k+(yP x.cells:Nat)=k+(dG x:Nat):=by unfold dG;omega
 refine⟨au.mk e,?_,?_⟩
 ·unfold rH;simp only[zA,a,b];rw[hsum]
 ·unfold rW;simp only[zA,aa,a,b,f];rw[hsum]
theorem aam{x:au}(h:Fit B24 (.base .notebook) x):nU x:=by
 rw[gm]at h;have a:=h;unfold nU;exact ai3 a
theorem Iw{x:au}(h:Fit B24 (.base .notebook) x):nU x/\dG x<=100663296:=by
 rw[gm]at h;have a:=h;unfold nU dG;obtain⟨b,c⟩:=agB a;exact⟨b,by omega⟩
def iW(x:dJ):Nat:=ve x.files
def Ju(x:dJ):Prop:=Y8 x.files
theorem XU(x:dJ)(h:Ju x)(k:Int)(g:0<=k)(c:k+iW x<=4611686018427387904):∃y,D6 x k=some (y,k+(iW x:Nat))/\Ew y k=some (k+(iW x:Nat))/\y.clock=x.clock/\y.seed=x.seed:=by
 unfold iW at c;unfold Ju at h;have d:=h;obtain⟨e,a,b⟩:=XZ x.files d (k) (by omega) (by omega);have f:decide (k+(ve x.files:Nat)<0)=false:=ae (by omega);have hsum:k+(ve x.files:Nat)=k+(iW x:Nat):=by unfold iW;omega
 refine⟨dJ.mk x.clock x.seed e,?_,?_,rfl,rfl⟩
 ·unfold D6;simp only[zA,a,b];rw[hsum]
 ·unfold Ew;simp only[zA,aa,a,b,f];rw[hsum]
theorem aiZ{x:dJ}(h:Fit B24 (.base .world) x):Ju x:=by
 rw[tq]at h;obtain⟨b,c,a⟩:=h;unfold Ju;exact ai2 a
def jh(x:bM):Nat:=dG x.notebook+iW x.world+lU x.tapes+jg x.entries
def Jy(x:bM):Prop:=nU x.notebook/\Ju x.world/\Y3 x.tapes/\S9 x.entries
theorem Fj(x:bM)(h:Jy x)(k:Int)(B:0<=k)(m:k+jh x<=4611686018427387904):∃y,uG x k=some (y,k+(jh x:Nat))/\uS y k=some (k+(jh x:Nat))/\y.next=x.next/\y.limit=x.limit/\y.work=x.work/\y.world.clock=x.world.clock/\y.world.seed=x.world.seed:=by
 unfold jh at m;unfold Jy at h;obtain⟨n,o,p,q⟩:=h;obtain⟨r,c,d⟩:=Ns x.notebook n (k) (by omega) (by omega);have s:decide (k+(dG x.notebook:Nat)<0)=false:=ae (by omega);obtain⟨t,e,f,a,b⟩:=XU x.world o (k+(dG x.notebook:Nat)) (by omega) (by omega);have u:decide (k+(dG x.notebook:Nat)+(iW x.world:Nat)<0)=false:=ae (by omega);obtain⟨v,g,i⟩:=XW x.tapes p (k+(dG x.notebook:Nat)+(iW x.world:Nat)) (by omega) (by omega);have w:decide (k+(dG x.notebook:Nat)+(iW x.world:Nat)+(lU x.tapes:Nat)<0)=false:=ae (by omega);obtain⟨z,j,l⟩:=Uj x.entries q (k+(dG x.notebook:Nat)+(iW x.world:Nat)+(lU x.tapes:Nat)) (by omega) (by omega);have A:decide (k+(dG x.notebook:Nat)+(iW x.world:Nat)+(lU x.tapes:Nat)+(jg x.entries:Nat)<0)=false:=ae (by omega);have hsum:k+(dG x.notebook:Nat)+(iW x.world:Nat)+(lU x.tapes:Nat)+(jg x.entries:Nat)=k+(jh x:Nat):=by unfold jh;omega
 refine⟨bM.mk r t v z x.next x.limit x.work,?_,?_,rfl,rfl,rfl,a,b⟩
 ·unfold uG;simp only[zA,c,d,e,f,a,b,g,i,j,l];rw[hsum]
 ·unfold uS;simp only[zA,aa,c,d,e,f,a,b,g,i,j,l,s,u,w,A];rw[hsum]
theorem VA{x:bM}(h:Fit B24 (.base .engine) x):Jy x:=by
 rw[jF]at h;obtain⟨a,b,c,d,e,f,g⟩:=h;unfold Jy;exact⟨aam a,aiZ b,ai0 c,agA d⟩
end
end Go.Proofs.YtapgeemjgckgaaaGreatDoor
/- Plain laws: names, cells and notebooks that are valid; both sides alike. Plain laws: valid cells, notebooks and histories; both sides alike. -/
namespace Go.Proofs.YtapgeemjgckgaaaGreatDoor
open Go.Abs Go.Proofs
theorem Fa(a:au)(b:Int)(h:a.cells.length<lim):lu a b=some (eF (fun c=>c.id==b) a.cells 0):=by
 refine oW (fun i=>((b,a.cells,(i:Int)):Int×List aj×Int)) a.cells (fun c=>c.id==b) (fun i x e=>?_) ?_
 ·obtain⟨d,rfl⟩:=zC.1 e;simp only[Ed d,ac,aA,e,zA,G9 d h]
 ·simp only[fE,aa]
theorem FI(a:au)(b:Int)(h:a.cells.length<lim):lQ a b=some (eF (fun c=>c.id==b) a.cells 0):=by
 refine oW (fun i=>((b,a.cells,(a.cells.length:Int),(i:Int)):Int×List aj×Int×Int)) a.cells (fun c=>c.id==b) (fun i x e=>?_) ?_
 ·obtain⟨d,rfl⟩:=zC.1 e;simp only[Ed d,ac,aA,e,zA,G9 d h]
 ·simp only[fE,aa]
end Go.Proofs.YtapgeemjgckgaaaGreatDoor
/- The plain law of IsValidHistory. -/
namespace Go.Proofs.YtapgeemjgckgaaaGreatDoor
open Go.Abs Go.Proofs
end Go.Proofs.YtapgeemjgckgaaaGreatDoor
/- Plain laws: HasSeen, valid logs and replicas, equality of documents. -/
namespace Go.Proofs.YtapgeemjgckgaaaGreatDoor
open Go.Abs Go.Proofs
end Go.Proofs.YtapgeemjgckgaaaGreatDoor
/- Plain laws with marks: ChangedVersions, NewHistory, PathTo. Plain laws: one edit; both sides alike. Plain laws: batches of edits; ApplyBatch, IsNoChange. Plain laws with marks: PathTo, NewReplica. Plain laws with marks: SeenBy. Plain laws: inverse edits and batches, copies and steps of histories; both sides alike. Plain laws: UndoEdits, RedoEdits, DoEdits. Plain laws: GoTo. -/
namespace Go.Proofs.YtapgeemjgckgaaaGreatDoor
open Go.Abs Go.Proofs
theorem pG{α σ ρ X:Type}{g:X->Option (X⊕ρ)}(pk:σ->Nat->X)(xs:List α)(f:σ->α->σ)(fin:σ->ρ)(I:Nat->σ->Prop)
  (d:∀i x s,xs[i]?=some x->I i s->I (i+1) (f s x))
  (e:∀i x s,xs[i]?=some x->I i s->g (pk s i)=some (.inl (pk (f s x) (i+1))))
  (h:∀s,I xs.length s->g (pk s xs.length)=some (.inr (fin s))) (s:σ) (j:I 0 s):ak g (pk s 0)=some (fin (xs.foldl f s))/\I xs.length (xs.foldl f s):=by
 have key:∀(n i:Nat) (s:σ),xs.length=i+n->I i s->ak g (pk s i)=some (fin ((xs.drop i).foldl f s))/\I xs.length ((xs.drop i).foldl f s):=by
  intro n;induction n with
  | zero=>
   intro i s hi a;rw[List.drop_eq_nil_of_le (by omega),aI];have:i=xs.length:=by omega
   subst this;rw[h s a];exact⟨rfl,a⟩
  | succ n ih=>
   intro i s hi a;have b:i<xs.length:=by omega
   have c:=zF b;rw[List.drop_eq_getElem_cons b,aI,e i xs[i] s c a];exact ih (i+1) (f s xs[i]) (by omega) (d i xs[i] s c a)
 simpa using key xs.length 0 s (by omega) j
theorem ig{n:Nat}(h:n<=34359738368):gd n=some ():=by unfold gd;rw[if_pos h]
theorem Di{α:Type}(p:α->Bool):∀(xs:List α) (i:Nat),eF p xs i = -1\/∃(n:Nat) (x:α),eF p xs i=((i+n:Nat):Int)/\xs[n]?=some x
 | [],i=>.inl rfl
 | y::ys,i=>by
  unfold eF;cases b:p y with
  | true=>exact .inr ⟨0,y,by simp,rfl⟩
  | false=>
   rcases Di p ys (i+1)with h | ⟨n,x,h,a⟩
   ·exact .inl (by simpa using h)
   ·refine .inr ⟨n+1,x,?_,by simpa using a⟩;have:i+1+n=i+(n+1):=by omega
    rw[<- this];simpa using h
def kG(bs:List aj)(s:List Int)(c:aj):List Int:=
 bif decide (eF (fun d=>d.id==c.id) bs 0>=0)then
  match idx bs (eF (fun d=>d.id==c.id) bs 0)with
  | some d=>bif (d.version != c.version)then s++[c.id]else s
  | none=>s
 else s
theorem G6(bs:List aj)(s:List Int)(c:aj):(kG bs s c).length<=s.length+1:=by
 unfold kG;cases decide (eF (fun d=>d.id==c.id) bs 0>=0)with
 | false=>simp
 | true=>
  simp only[ac];split
  ·rename_i d _;cases (d.version != c.version)<;>simp
  ·simp
theorem EX(a b:au)(u:(a.cells.length:Int)<=1048576)(v:(b.cells.length:Int)<=1048576) :
  ∃w,jO a b=some w/\jU a b=some w/\(w.length:Int)<=1048576/\w=a.cells.foldl (kG b.cells) []:=by
 have j:b.cells.length<lim:=jk v;have l:a.cells.length<lim:=jk u;have hall:a.cells.length<4611686018427387904:=l;let w:=a.cells.foldl (kG b.cells) [];have r:=pG (g:=fun (c:(List aj)×(List aj)×(List Int)×Int)=>
  bif (decide (c.2.2.2<(c.1.length:Int)))then
   (idx c.1 c.2.2.2).bind fun f=>
   (lu (au.mk c.2.1) f.id).bind fun k=>
   bif (decide (k>=0))then
    (idx c.2.1 k).bind fun m=>
    (idx c.1 c.2.2.2).bind fun y=>
    bif (m.version != y.version)then
     (idx c.1 c.2.2.2).bind fun t=>
     (gd (c.2.2.1.length+[t.id].length)).bind fun _=>
     some (.inl (c.1,c.2.1,c.2.2.1++[t.id],w64 (c.2.2.2+1)))
    else
     some (.inl (c.1,c.2.1,c.2.2.1,w64 (c.2.2.2+1)))
   else
    some (.inl (c.1,c.2.1,c.2.2.1,w64 (c.2.2.2+1)))
  else
   some (.inr (c.2.2.1))) (fun (s:List Int) (i:Nat)=>(a.cells,b.cells,s,(i:Int))) a.cells (kG b.cells) id (fun i s=>s.length<=i)
  (fun i x s _ hi=>Nat.le_trans (G6 _ _ _) (by omega)) (fun i x s e hi=>?_) (fun s _=>by simp) [] (by simp)
 have hi:=pG (g:=fun (c:(List aj)×(List Int)×(List aj)×Int×Int)=>
  bif (decide (c.2.2.2.2<c.2.2.2.1))then
   (idx c.2.2.1 c.2.2.2.2).bind fun f=>
   (lQ (au.mk c.1) f.id).bind fun k=>
   bif (decide (k>=0))then
    (idx c.1 k).bind fun m=>
    bif (m.version != f.version)then
     (gd (c.2.1.length+[f.id].length)).bind fun _=>
     some (.inl (c.1,c.2.1++[f.id],c.2.2.1,c.2.2.2.1,w64 (c.2.2.2.2+1)))
    else
     some (.inl (c.1,c.2.1,c.2.2.1,c.2.2.2.1,w64 (c.2.2.2.2+1)))
   else
    some (.inl (c.1,c.2.1,c.2.2.1,c.2.2.2.1,w64 (c.2.2.2.2+1)))
  else
   some (.inr (c.2.1))) (fun (s:List Int) (i:Nat)=>(b.cells,s,a.cells,(a.cells.length:Int),(i:Int))) a.cells (kG b.cells) id (fun i s=>s.length<=i)
  (fun i x s _ hi=>Nat.le_trans (G6 _ _ _) (by omega)) (fun i x s e hi=>?_) (fun s _=>by simp) [] (by simp)
 ·refine⟨w,r.1,hi.1,?_,rfl⟩;have:w.length<=a.cells.length:=r.2;omega
 ·have o:=(zC.1 e).1;have p:=dn e hall;have q:gd (s.length+[x.id].length)=some ():=ig (by simp;omega);simp only[dec_lt e,ac,aA,e,zA,FI (au.mk b.cells) x.id j,p,kG,q];rcases Di (fun d:aj=>d.id==x.id) b.cells 0 with h | ⟨n,d,h,hd⟩
  ·rw[h];simp
  ·rw[h,Nat.zero_add];simp only[show decide (((n:Nat):Int)>=0)=true by simp,ac,aA,hd,zA];cases (d.version != x.version)<;>simp
 ·have o:=(zC.1 e).1;have p:=dn e hall;have q:gd (s.length+[x.id].length)=some ():=ig (by simp;omega);simp only[dec_lt e,ac,aA,e,zA,Fa (au.mk b.cells) x.id j,p,kG,q];rcases Di (fun d:aj=>d.id==x.id) b.cells 0 with h | ⟨n,d,h,hd⟩
  ·rw[h];simp
  ·rw[h,Nat.zero_add];simp only[show decide (((n:Nat):Int)>=0)=true by simp,ac,aA,hd,zA];cases (d.version != x.version)<;>simp
theorem apH(a:au)(h:(a.cells.length:Int)<=16777216):iQ a=some a:=by
 unfold iQ;rw[ig (by omega)];rfl
theorem copyS(a:au)(h:(a.cells.length:Int)<=16777216):jK a=some a:=by
 unfold jK;rw[ig (by omega)];rfl
theorem ai6{a:au}(h:Fit B20 (.base .notebook) a):(a.cells.length:Int)<=1048576:=by
 rw[gm]at h;exact dN h
end Go.Proofs.YtapgeemjgckgaaaGreatDoor
/- Plain laws: copies of values, reads, operations and replicas are the same. Plain laws: MissingOps, AddOp. -/
namespace Go.Proofs.YtapgeemjgckgaaaGreatDoor
open Go.Abs Go.Proofs
theorem take_snoc{α:Type}{xs:List α}{i:Nat}{x:α}(h:xs[i]?=some x):xs.take (i+1)=xs.take i++[x]:=by
 obtain⟨hi,rfl⟩:=zC.1 h;exact List.take_succ_eq_append_getElem hi
theorem qf{α X ρ:Type}{g:X->Option (X⊕ρ)}(pk:List α->Nat->X)(xs:List α)(fin:Option ρ)
  (c:∀i x,xs[i]?=some x->(xs.take i).length=i->g (pk (xs.take i) i)=some (.inl (pk (xs.take i++[x]) (i+1))))
  (d:g (pk xs xs.length)=fin.bind fun r=>some (.inr r)):ak g (pk [] 0)=fin:=by
 have key:∀(n i:Nat),xs.length=i+n->ak g (pk (xs.take i) i)=fin:=by
  intro n;induction n with
  | zero=>
   intro i hi;have:i=xs.length:=by omega
   subst this;rw[aI,List.take_length,d];cases fin<;>rfl
  | succ n ih=>
   intro i hi;have a:i<xs.length:=by omega
   have b:=zF a;rw[aI,c i _ b (by simp;omega)];simp only;rw[<- take_snoc b];exact ih (i+1) (by omega)
 exact key xs.length 0 (by omega)
theorem gd1{α:Type}{s:List α}{i n:Nat}{x:α}(h:s.length=i)(hi:i<n)(a:(n:Int)<=1048576):gd (s.length+[x].length)=some ():=ig (by simp;omega)
theorem aa3(x:bF)(h:Fit B20 (.base .row) x):yH x=some x:=by
 rw[EF]at h;have:=dN h.1;have:=dN h.2;unfold yH;rw[ig (by omega),zA,ig (by omega)];rfl
theorem agb(x:bF)(h:Fit B20 (.base .row) x):JU x=some x:=by
 rw[EF]at h;have:=dN h.1;have:=dN h.2;unfold JU;rw[ig (by omega),zA,ig (by omega)];rfl
theorem Dc:∀n,(∀v:aC,siz v<n->Fit B20 (.base .val) v->(dB n).1 v=some v)/\(∀xs:List aC,siz xs<n->aT B20 (.list (.base .val) xs)->(dB n).2 xs=some xs)
 | 0=>⟨fun v h=>absurd h (Nat.not_lt_zero _),fun v h=>absurd h (Nat.not_lt_zero _)⟩
 | n+1=>by
  have ih:=Dc n;refine⟨fun x e h=>?_,fun xs e h=>?_⟩
  ·rw[wI]at h;obtain⟨j,k,m,o,f,g,c⟩:=h;have p:=dN g;have d:=dN c;show qG (dB n).1 (dB n).2 x=some x
   unfold qG;rw[ih.2 x.list (by have:=xw (v:=x);omega) f,zA,ig (by omega),zA];refine qf (fun (s:List bF) (i:Nat)=>((0,0,0,[],[],[],[],x.kind,x.n,x.step,x.text,x.list,[]++x.columns,s,x.rows,(x.rows.length:Int),(i:Int)):Int×Int×Int×Str×(List aC)×(List Str)×(List bF)×Int×Int×Int×Str×(List aC)×(List Str)×(List bF)×(List bF)×Int×Int))
    x.rows (some x) (fun i y a b=>?_) ?_
   ·have hi:=(zC.1 a).1;simp only[dec_lt a,ac,aA,a,zA,aa3 y (c.cO y (zG a)),gd1 b hi d,dn a (jk d)]
   ·simp only[Int.lt_irrefl,decide_false,aa];cases x;rfl
  ·have l:=dN h;show oL (dB n).1 (dB n).2 xs=some xs
   unfold oL;refine qf (fun (s:List aC) (i:Nat)=>((s,xs,(xs.length:Int),(i:Int)):(List aC)×(List aC)×Int×Int)) xs (some xs) (fun i y a b=>?_) ?_
   ·have hi:=(zC.1 a).1;simp only[dec_lt a,ac,aA,a,bT,zA,ih.1 y (by have:=DK (zG a);omega) (h.cO y (zG a)),gd1 b hi l,dn a (jk l)]
   ·simp only[Int.lt_irrefl,decide_false,aa];rfl
theorem xh(x:aC)(h:Fit B20 (.base .val) x):lN x=some x:=(Dc (siz x+1)).1 x (Nat.lt_succ_self _) h
theorem LK:∀n,∀v:aC,siz v<n->Fit B20 (.base .val) v->xH n v=some v
 | 0=>fun v h=>absurd h (Nat.not_lt_zero _)
 | n+1=>by
  have ih:=LK n;intro x j h;rw[wI]at h;obtain⟨k,l,m,p,c,g,d⟩:=h;have e:=dN c;have q:=dN g;have f:=dN d;show BA (xH n) x=some x
  unfold BA;rw[ig (by omega),zA];refine qf (fun (s:List aC) (i:Nat)=>((x.kind,x.n,x.step,x.text,x.list,x.columns,x.rows,0,0,0,[],[],[],[],x.kind,x.n,x.step,x.text,s,[]++x.columns,[],(i:Int)):Int×Int×Int×Str×(List aC)×(List Str)×(List bF)×Int×Int×Int×Str×(List aC)×(List Str)×(List bF)×Int×Int×Int×Str×(List aC)×(List Str)×(List bF)×Int))
   x.list (some x) (fun i y a b=>?_) ?_
  ·have hi:=(zC.1 a).1;simp only[dec_lt a,ac,aA,a,bT,zA,ih y (by have:=DK (zG a);have:=xw (v:=x);omega) (c.cO y (zG a)),gd1 b hi e,dn a (jk e)]
  ·simp only[Int.lt_irrefl,decide_false,aa];refine congrArg (fun o=>Option.bind o _) (qf (fun (s:List bF) (i:Nat)=>((x.kind,x.n,x.step,x.text,x.list,x.columns,x.rows,0,0,0,[],[],[],[],x.kind,x.n,x.step,x.text,x.list,[]++x.columns,s,(i:Int)):Int×Int×Int×Str×(List aC)×(List Str)×(List bF)×Int×Int×Int×Str×(List aC)×(List Str)×(List bF)×Int×Int×Int×Str×(List aC)×(List Str)×(List bF)×Int))
    x.rows (some x) (fun i y a b=>?_) ?_)
   ·have hi:=(zC.1 a).1;simp only[dec_lt a,ac,aA,a,zA,agb y (d.cO y (zG a)),gd1 b hi f,dn a (jk f)]
   ·simp only[Int.lt_irrefl,decide_false,aa];cases x;rfl
theorem F5(x:aC)(h:Fit B20 (.base .val) x):zl x=some x:=LK (siz x+1) x (Nat.lt_succ_self _) h
theorem pY(xs:List aN)(h:aT B20 (.list (.base .read) xs)):nS xs=some xs:=by
 have l:=dN h;unfold nS;refine qf (fun (s:List aN) (i:Nat)=>((s,xs,(xs.length:Int),(i:Int)):(List aN)×(List aN)×Int×Int)) xs (some xs) (fun i y a b=>?_) ?_
 ·have hi:=(zC.1 a).1;have f:=h.cO y (zG a);rw[qI]at f;simp only[dec_lt a,ac,aA,a,bT,zA,xh y.result f.2.2.2.2,gd1 b hi l,dn a (jk l)]
 ·simp only[Int.lt_irrefl,decide_false,aa];rfl
theorem LP(x:aN)(h:Fit B20 (.base .read) x):BH x=some x:=by
 rw[qI]at h;unfold BH;rw[bT,F5 _ h.2.2.2.2,zA,bT]
theorem zo(xs:List aN)(h:aT B20 (.list (.base .read) xs)):sQ xs=some xs:=by
 have l:=dN h;unfold sQ;refine qf (fun (s:List aN) (i:Nat)=>((xs,s,(i:Int)):(List aN)×(List aN)×Int)) xs (some xs) (fun i y a b=>?_) ?_
 ·have hi:=(zC.1 a).1;simp only[dec_lt a,ac,aA,a,dQ,zA,LP y (h.cO y (zG a)),gd1 b hi l,dn a (jk l)]
 ·simp only[Int.lt_irrefl,decide_false,aa];rfl
theorem akw{α:Type}(f:α->Nat){xs ys:List α}(h:xs.Sublist ys):(xs.map f).sum<=(ys.map f).sum:=by
 induction h with
 | slnil=>exact aw _
 | cons x _ ih=>simp only[List.map_cons,List.sum_cons];omega
 | cons_cons x _ ih=>simp only[List.map_cons,List.sum_cons];omega
end Go.Proofs.YtapgeemjgckgaaaGreatDoor
/- Plain laws of merged reads and of tapes, with no program in sight. Plain laws: the functions on reads and tapes, both sides, are the plain ones. Plain laws: putting and copying of tapes, both sides. -/
namespace Go.Proofs.YtapgeemjgckgaaaGreatDoor
noncomputable section
open Go.Abs Go.Proofs
def O6(x y:aN):Bool:=eqd x.kind y.kind&&(eqd x.n y.n&&(eqd x.text y.text&&eqd x.time y.time))
def YE(l:List aN)(r:aN):Bool:=l.any fun x=>O6 x r
def MW(l:List aN)(r:aN):Option aN:=l.find? fun x=>O6 x r
def NK(l:List aN)(r:aN):List aN:=bif YE l r then l else l++[r]
def fO(a b:List aN):List aN:=b.foldl NK a
theorem ag7(l:List aN)(r:aN):(MW l r).isSome=YE l r:=by
 unfold MW YE;induction l with
 | nil=>rfl
 | cons x l ih=>
  rw[List.find?_cons,List.any_cons];cases O6 x r with
  | true=>rfl
  | false=>simpa using ih
theorem rG:∀(b a:List aN),∃t,fO a b=a++t/\t.Sublist b
 | [],a=>⟨[],by simp[fO],List.Sublist.refl _⟩
 | r::b,a=>by
  obtain⟨t,e,s⟩:=rG b (NK a r);have e':fO a (r::b)=fO (NK a r) b:=rfl;rw[e',e];unfold NK;cases YE a r with
  | true=>exact⟨t,rfl,s.cons _⟩
  | false=>exact⟨r::t,by simp,s.cons_cons _⟩
theorem agG(a b:List aN):a.length<=(fO a b).length/\(fO a b).length<=a.length+b.length:=by
 obtain⟨t,e,s⟩:=rG b a;rw[e,a6];have:=s.length_le;omega
theorem agF{a b:List aN}{x:aN}(h:x∈fO a b):x∈a\/x∈b:=by
 obtain⟨t,e,s⟩:=rG b a;rw[e,List.mem_append]at h;rcases h with h | h
 ·exact .inl h
 ·exact .inr (s.subset h)
def uJ(c v:Int)(t:aB):Bool:=eqd t.cell c&&eqd t.version v
def U5(x y:aB):Bool:=decide (x.cell<y.cell)||(eqd x.cell y.cell&&decide (x.version<y.version))
def readsOf(l:List aB)(c v:Int):List aN:=match l.find? (uJ c v)with
 | some t=>t.reads
 | none=>[]
def Rx(c v:Int)(rs:List aN):List aB->List aB
 | []=>[]
 | t::r=>bif uJ c v t then aB.mk t.cell t.version (fO t.reads rs)::r else t::Rx c v rs r
def Um(x:aB):List aB->List aB
 | []=>[x]
 | t::r=>bif U5 x t then x::t::r else t::Um x r
def Qe(l:List aB)(c v:Int)(rs:List aN):List aB:=
 bif l.any (uJ c v)then Rx c v rs l else match rs with
  | []=>l
  | _::_=>Um (aB.mk c v (fO [] rs)) l
theorem VI(c v:Int)(rs:List aN):∀l,(Rx c v rs l).length=l.length
 | []=>rfl
 | t::r=>by
  unfold Rx;cases uJ c v t with
  | true=>rfl
  | false=>simp[VI c v rs r]
theorem aaM(x:aB):∀l,(Um x l).length=l.length+1
 | []=>rfl
 | t::r=>by
  unfold Um;cases U5 x t with
  | true=>rfl
  | false=>simp[aaM x r]
theorem aiE(l:List aB)(c v:Int)(rs:List aN):l.length<=(Qe l c v rs).length/\(Qe l c v rs).length<=l.length+1:=by
 unfold Qe;cases l.any (uJ c v)with
 | true=>rw[ac,VI];omega
 | false=>
  rw[aa];cases rs with
  | nil=>simp
  | cons r rs=>simp only;rw[aaM];omega
theorem aaL{x:aB}:∀ {l:List aB} {t:aB},t∈Um x l->t=x\/t∈l
 | [],t,h=>by
  unfold Um at h;exact .inl (List.mem_singleton.1 h)
 | u::r,t,h=>by
  unfold Um at h;cases a:U5 x u with
  | true=>
   rw[a,ac]at h;exact ba.1 h
  | false=>
   rw[a,aa]at h;rcases ba.1 h with rfl | h
   ·exact .inr ar
   ·rcases aaL h with h | h
    ·exact .inl h
    ·exact .inr (aq _ h)
theorem Io(t:aB)(r:List aB)(c v:Int):readsOf (t::r) c v=bif uJ c v t then t.reads else readsOf r c v:=by
 unfold readsOf;rw[List.find?_cons];cases uJ c v t<;>rfl
theorem rF{l:List aB}{c v:Int}(h:l.any (uJ c v)=false):readsOf l c v=[]:=by
 unfold readsOf;have:l.find? (uJ c v)=none:=by
  rw[List.find?_eq_none];intro x a b;rw[List.any_eq_false]at h;exact h x a b
 rw[this]
theorem Vp{α X ρ:Type}{g:X->Option (X⊕ρ)}(pk:Nat->X)(xs:List α)(p:α->Bool)(f:α->ρ)(no:ρ)
  (b:∀i x,xs[i]?=some x->g (pk i)=bif p x then some (.inr (f x))else some (.inl (pk (i+1))))
  (c:g (pk xs.length)=some (.inr no)):ak g (pk 0)=some ((xs.find? p).elim no f):=by
 have key:∀(n i:Nat),xs.length=i+n->ak g (pk i)=some (((xs.drop i).find? p).elim no f):=by
  intro n;induction n with
  | zero=>
   intro i hi;rw[List.drop_eq_nil_of_le (by omega),aI];have:i=xs.length:=by omega
   subst this;rw[c];rfl
  | succ n ih=>
   intro i hi;have a:i<xs.length:=by omega
   rw[List.drop_eq_getElem_cons a,aI,b i xs[i] (zF a),List.find?_cons];cases p xs[i]with
   | false=>simpa using ih (i+1) (by omega)
   | true=>rfl
 simpa using key xs.length 0 (by omega)
theorem akA(x y:aN):BG x y=some (O6 x y):=WY x y
theorem akB(x y:aN):yA x y=some (O6 x y):=Us x y
theorem aad(x:aN):aN.mk x.kind x.n x.time x.text (aC.mk x.result.kind x.result.n x.result.step x.result.text x.result.list x.result.columns x.result.rows)=x:=by
 cases x with
 | mk a b c d r=>cases r;rfl
theorem Yt(a:List aN)(b:aN)(h:aT B20 (.list (.base .read) a)):Ep a b=some ((MW a b).elim (aC.mk 0 0 0 [] [] [] [],false) fun x=>(x.result,true)):=by
 have d:=jk (dN h);unfold Ep MW;refine Vp (fun i:Nat=>(b.kind,b.n,b.time,b.text,b.result.kind,b.result.n,b.result.step,b.result.text,b.result.list,b.result.columns,b.result.rows,(0:Int),(0:Int),(0:Int),([]:Str),([]:List aC),([]:List Str),([]:List bF),a,(a.length:Int),(i:Int))) a (fun x=>O6 x b) (fun x=>(x.result,true)) _ (fun i x c=>?_) ?_
 ·have f:=h.cO x (zG c);rw[qI]at f;simp only[dec_lt c,ac,aA,c,zA,dQ,bT,aad,akB,xh _ f.2.2.2.2,dn c d]
 ·simp only[fE,aa]
theorem Xt(a:List aN)(b:aN)(h:aT B20 (.list (.base .read) a)):DX a b=some ((MW a b).elim (aC.mk 0 0 0 [] [] [] [],false) fun x=>(x.result,true)):=by
 have d:=jk (dN h);unfold DX MW;refine Vp (fun i:Nat=>(a,b.kind,b.n,b.time,b.text,b.result.kind,b.result.n,b.result.step,b.result.text,b.result.list,b.result.columns,b.result.rows,(0:Int),(0:Int),(0:Int),([]:Str),([]:List aC),([]:List Str),([]:List bF),(i:Int))) a (fun x=>O6 x b) (fun x=>(x.result,true)) _ (fun i x c=>?_) ?_
 ·have f:=h.cO x (zG c);rw[qI]at f;simp only[dec_lt c,ac,aA,c,zA,dQ,bT,aad,akA,F5 _ f.2.2.2.2,dn c d]
 ·simp only[fE,aa]
theorem abj(a:List aN)(b:aN){y:aC×Bool}(c:y=(MW a b).elim (aC.mk 0 0 0 [] [] [] [],false) fun x=>(x.result,true)):y.2=YE a b:=by
 subst c;rw[<- ag7];cases MW a b<;>rfl
theorem ab4{l:List aN}{r:aN}(h:aT B20 (.list (.base .read) l))(b:Fit B20 (.base .read) r)(c:(l.length:Int)+1<=1048576):aT B20 (.list (.base .read) (NK l r)):=by
 unfold NK;cases YE l r with
 | true=>exact h
 | false=>
  refine jR (by simp;omega) fun x a=>?_
  rcases List.mem_append.1 a with a | a
  ·exact h.cO x a
  ·rw[List.mem_singleton.1 a];exact b
theorem ab3(l:List aN)(r:aN):(NK l r).length<=l.length+1:=by
 unfold NK;cases YE l r<;>simp
theorem adm{a b:List aN}(c:aT B20 (.list (.base .read) a))(d:aT B20 (.list (.base .read) b))(f:(a.length:Int)+b.length<=1048576):aT B20 (.list (.base .read) (fO a b)):=by
 have:=(agG a b).2;refine jR (by omega) fun x e=>?_
 rcases agF e with h | h
 ·exact c.cO x h
 ·exact d.cO x h
theorem CW(a b:List aN)(g:aT B20 (.list (.base .read) a))(e:aT B20 (.list (.base .read) b))(k:(a.length:Int)+b.length<=1048576):qF a b=some (fO a b):=by
 have f:=jk (dN e);unfold qF;rw[pY a g,zA];refine (pG (fun (s:List aN) (i:Nat)=>(s,b,(b.length:Int),(i:Int))) b NK id (fun i s=>aT B20 (.list (.base .read) s)/\s.length<=a.length+i) (fun i x s c d=>?_) (fun i x s c d=>?_) (fun s d=>?_) a ⟨g,by omega⟩).1
 ·have hi:=(zC.1 c).1;refine⟨ab4 d.1 (e.cO x (zG c)) (by omega),?_⟩;have:=ab3 s x;omega
 ·have hi:=(zC.1 c).1;have h:aT B20 (.list (.base .read) [x]):=jR (by simp) fun y j=>by rw[List.mem_singleton.1 j];exact e.cO x (zG c)
  simp only[dec_lt c,ac,aA,c,zA,dQ,Yt s x d.1,abj s x rfl,pY _ h,ig (show s.length+[x].length<=34359738368 by simp;omega),dn c f];unfold NK;cases YE s x<;>rfl
 ·simp only[fE,aa,id]
theorem Bv(a b:List aN)(g:aT B20 (.list (.base .read) a))(e:aT B20 (.list (.base .read) b))(h:(a.length:Int)+b.length<=1048576):qp a b=some (fO a b):=by
 have f:=jk (dN e);unfold qp;rw[zo a g,zA];refine (pG (fun (s:List aN) (i:Nat)=>(b,s,(i:Int))) b NK id (fun i s=>aT B20 (.list (.base .read) s)/\s.length<=a.length+i) (fun i x s c d=>?_) (fun i x s c d=>?_) (fun s d=>?_) a ⟨g,by omega⟩).1
 ·have hi:=(zC.1 c).1;refine⟨ab4 d.1 (e.cO x (zG c)) (by omega),?_⟩;have:=ab3 s x;omega
 ·have hi:=(zC.1 c).1;simp only[dec_lt c,ac,aA,c,zA,dQ,Xt s x d.1,abj s x rfl,LP _ (e.cO x (zG c)),ig (show s.length+[x].length<=34359738368 by simp;omega),dn c f];unfold NK;cases YE s x<;>rfl
 ·simp only[fE,aa,id]
theorem Vs(a:List aB)(b c:Int)(h:a.length<lim):Xi a b c=some (eF (uJ b c) a 0):=by
 refine oW (fun i=>((a,b,c,(i:Int)):List aB×Int×Int×Int)) a (uJ b c) (fun i x d=>?_) ?_
 ·simp only[dec_lt d,ac,aA,d,zA,dn d h,uJ,EL];cases eqd x.cell b<;>cases eqd x.version c<;>rfl
 ·simp only[fE,aa]
theorem Fv(a:List aB)(b c:Int)(h:a.length<lim):Ac a b c=some (eF (uJ b c) a 0):=by
 refine oW (fun i=>((b,c,a,(a.length:Int),(i:Int)):Int×Int×List aB×Int×Int)) a (uJ b c) (fun i x d=>?_) ?_
 ·simp only[dec_lt d,ac,aA,d,zA,dn d h,uJ,EL];cases eqd x.cell b<;>cases eqd x.version c<;>rfl
 ·simp only[fE,aa]
theorem KD(c v:Int)(rs:List aN):∀(xs:List aB) (i:Nat),(eF (uJ c v) xs i = -1/\xs.any (uJ c v)=false) \/
  ∃(n:Nat) (x:aB),eF (uJ c v) xs i=((i+n:Nat):Int)/\xs[n]?=some x/\xs.any (uJ c v)=true/\readsOf xs c v=x.reads/\Rx c v rs xs=xs.set n (aB.mk x.cell x.version (fO x.reads rs))
 | [],i=>.inl ⟨rfl,rfl⟩
 | t::r,i=>by
  cases a:uJ c v t with
  | true=>
   refine .inr ⟨0,t,?_,rfl,?_,?_,?_⟩
   ·unfold eF;rw[a];simp
   ·rw[List.any_cons,a];rfl
   ·rw[Io,a];rfl
   ·unfold Rx;rw[a];rfl
  | false=>
   rcases KD c v rs r (i+1)with ⟨b,d⟩ | ⟨n,x,b,d,e,f,g⟩
   ·refine .inl ⟨?_,?_⟩
    ·unfold eF;rw[a,aa,b]
    ·rw[List.any_cons,a,d];rfl
   ·refine .inr ⟨n+1,x,?_,by simpa using d,?_,?_,?_⟩
    ·unfold eF;rw[a,aa,b];have:i+1+n=i+(n+1):=by omega
     rw[this]
    ·rw[List.any_cons,a,e];rfl
    ·rw[Io,a,aa,f]
    ·unfold Rx;rw[a,aa,g];rfl
theorem zf{l:List aB}(h:aT B20 (.list (.base .tape) l)){t:aB}(a:t∈l):aT B20 (.int .i64 t.cell)/\aT B20 (.int .i64 t.version)/\aT B20 (.list (.base .read) t.reads):=by
 have:=h.cO t a;rw[yK]at this;exact this
theorem xk(a:List aB)(h:aT B20 (.list (.base .tape) a)):uN a=some a:=by
 have l:=dN h;refine qf (fun (s:List aB) (i:Nat)=>((s,a,(a.length:Int),(i:Int)):(List aB)×(List aB)×Int×Int)) a (some a) (fun i y b c=>?_) ?_
 ·have hi:=(zC.1 b).1;simp only[dec_lt b,ac,aA,b,zA,pY _ (zf h (zG b)).2.2,ig (show (a.take i).length+[y].length<=34359738368 by simp only[c,List.length_singleton];omega),dn b (jk l)]
 ·simp only[fE,aa];rfl
theorem BD(a:List aB)(h:aT B20 (.list (.base .tape) a)):BF a=some a:=by
 have l:=dN h;refine qf (fun (s:List aB) (i:Nat)=>((a,s,(i:Int)):(List aB)×(List aB)×Int)) a (some a) (fun i y b c=>?_) ?_
 ·have hi:=(zC.1 b).1;simp only[dec_lt b,ac,aA,b,zA,zo _ (zf h (zG b)).2.2,ig (show (a.take i).length+[y].length<=34359738368 by simp only[c,List.length_singleton];omega),dn b (jk l)]
 ·simp only[fE,aa];rfl
theorem acD(a:List aB)(b c:Int)(h:aT B20 (.list (.base .tape) a)):N9 a b c=some (readsOf a b c):=by
 unfold N9;rw[Vs a b c (jk (dN h)),zA];rcases KD b c [] a 0 with ⟨e,d⟩ | ⟨n,x,e,d,g,f,i⟩
 ·rw[e,rF d];rfl
 ·rw[e,f,Nat.zero_add];simp only[show decide (((n:Nat):Int)<0)=false by simp,aa,aA,d,zA,zo _ (zf h (zG d)).2.2]
theorem adH(a:List aB)(b c:Int)(h:aT B20 (.list (.base .tape) a)):Oc a b c=some (readsOf a b c):=by
 unfold Oc;rw[Fv a b c (jk (dN h)),zA];rcases KD b c [] a 0 with ⟨e,d⟩ | ⟨n,x,e,d,g,f,i⟩
 ·rw[e,rF d];rfl
 ·rw[e,f,Nat.zero_add];simp only[show decide (((n:Nat):Int)<0)=false by simp,aa,aA,d,zA,pY _ (zf h (zG d)).2.2]
theorem MB(a:List aB)(b c:Int):readsOf a b c=[]\/∃t,t∈a/\readsOf a b c=t.reads:=by
 rcases KD b c [] a 0 with ⟨e,d⟩ | ⟨n,x,e,d,g,f,h⟩
 ·exact .inl (rF d)
 ·exact .inr ⟨x,zG d,f⟩
theorem MC(a:List aB)(b c:Int)(h:aT B20 (.list (.base .tape) a)):aT B20 (.list (.base .read) (readsOf a b c)):=by
 rcases MB a b c with d | ⟨t,e,d⟩
 ·rw[d];exact jR (by simp) fun x f=>by cases f
 ·rw[d];exact (zf h e).2.2
theorem aon(x y:aB):zn x y=some (U5 x y):=by
 unfold zn U5;simp only[EL];cases decide (x.cell<y.cell)<;>cases eqd x.cell y.cell<;>rfl
theorem apK(x y:aB):Cm x y=some (U5 x y):=aon x y
theorem EK{α:Type}(xs:List α)(i:Nat)(h:i<=xs.length):cutAt xs (i:Int)=some i:=by
 unfold cutAt;rw[if_pos ⟨by omega,by omega⟩];rfl
theorem afb{X:Type}{g:X->Option (X⊕List aB)}(pk:Nat->X)(l:List aB)(x:aB)
  (c:∀i t,l[i]?=some t->g (pk i)=bif U5 x t then some (.inr (l.take i++[x]++l.drop i))else some (.inl (pk (i+1))))
  (d:g (pk l.length)=some (.inr (l++[x]))):ak g (pk 0)=some (Um x l):=by
 have key:∀(n i:Nat),l.length=i+n->ak g (pk i)=some (l.take i++Um x (l.drop i)):=by
  intro n;induction n with
  | zero=>
   intro i hi;have:i=l.length:=by omega
   subst this;rw[aI,d,List.drop_length,List.take_length];rfl
  | succ n ih=>
   intro i hi;have a:i<l.length:=by omega
   have b:=zF a;rw[aI,c i _ b,List.drop_eq_getElem_cons a];unfold Um;cases U5 x l[i]with
   | true=>simp only[ac,a7,List.singleton_append]
   | false=>
    simp only[aa];rw[ih (i+1) (by omega),take_snoc b,a7];rfl
 simpa using key l.length 0 (by omega)
theorem Xb(a:List aB)(b c:Int)(d:List aN)(h:aT B20 (.list (.base .tape) a))(hd:aT B20 (.list (.base .read) d))(m:(readsOf a b c).length+d.length<=1048576):Bq a b c d=some (Qe a b c d):=by
 have l:=dN h;unfold Bq;rw[BD a h,zA,Vs a b c (jk l),zA];rcases KD b c d a 0 with ⟨j,f⟩ | ⟨n,x,j,f,o,p,q⟩
 ·rw[j];simp only[show decide ((-1:Int)>=0)=false from rfl,aa];unfold Qe;rw[f,aa];cases d with
  | nil=>rfl
  | cons r rs=>
   have e:((((r::rs).length:Nat):Int)==0)=false:=by simp;omega
   rw[e,aa,Bv [] (r::rs) (jR (by simp) fun x k=>by cases k) hd (by simp only[List.length_nil];omega),zA];refine afb (fun (i:Nat)=>((a,b,c,fO [] (r::rs),(i:Int)):(List aB)×Int×Int×(List aN)×Int)) a (aB.mk b c (fO [] (r::rs))) (fun i t g=>?_) ?_
   ·have hi:=(zC.1 g).1;simp only[dec_lt g,ac,aA,g,zA,az,aon,dn g (jk l),EK a i (by omega),eq_self_iff_true,if_true];rw[ig (show 0+(a.take i).length<=34359738368 by simp;omega),zA,ig (show (([]:List aB)++a.take i).length+[aB.mk b c (fO [] (r::rs))].length<=34359738368 by simp;omega),zA,
     ig (show (([]:List aB)++a.take i++[aB.mk b c (fO [] (r::rs))]).length+(a.drop i).length<=34359738368 by simp;omega),zA,zA,List.nil_append]
    cases U5 (aB.mk b c (fO [] (r::rs))) t<;>rfl
   ·simp only[fE,aa,EK a a.length (aw _),eq_self_iff_true,if_true,zA,List.take_length,List.drop_length];rw[ig (show 0+a.length<=34359738368 by omega),zA,ig (show (([]:List aB)++a).length+[aB.mk b c (fO [] (r::rs))].length<=34359738368 by simp;omega),zA,
     ig (show (([]:List aB)++a++[aB.mk b c (fO [] (r::rs))]).length+([]:List aB).length<=34359738368 by simp;omega),zA,zA,List.append_nil,List.nil_append]
 ·rw[j,Nat.zero_add];have k:=zG f;rw[p]at m;simp only[show decide (((n:Nat):Int)>=0)=true by simp,ac,aA,f,zA,az,Bv x.reads d (zf h k).2.2 hd (by omega)];unfold Qe;rw[o,ac,q]
theorem Yh(a:List aB)(b c:Int)(d:List aN)(h:aT B20 (.list (.base .tape) a))(hd:aT B20 (.list (.base .read) d))(m:(readsOf a b c).length+d.length<=1048576):CB a b c d=some (Qe a b c d):=by
 have l:=dN h;unfold CB;rw[xk a h,zA,Fv a b c (jk l),zA];rcases KD b c d a 0 with ⟨j,f⟩ | ⟨n,x,j,f,o,p,q⟩
 ·rw[j];simp only[show decide ((-1:Int)>=0)=false from rfl,aa];unfold Qe;rw[f,aa];cases d with
  | nil=>rfl
  | cons r rs=>
   have e:((((r::rs).length:Nat):Int)==0)=false:=by simp;omega
   rw[e,aa,CW [] (r::rs) (jR (by simp) fun x k=>by cases k) hd (by simp only[List.length_nil];omega),zA];refine afb (fun (i:Nat)=>((a,(i:Int),b,c,fO [] (r::rs)):(List aB)×Int×Int×Int×(List aN))) a (aB.mk b c (fO [] (r::rs))) (fun i t g=>?_) ?_
   ·have hi:=(zC.1 g).1;simp only[dec_lt g,ac,aA,g,zA,az,apK,dn g (jk l),EK a i (by omega),eq_self_iff_true,if_true];rw[ig (show 0+(a.take i).length<=34359738368 by simp;omega),zA,ig (show (([]:List aB)++a.take i).length+[aB.mk b c (fO [] (r::rs))].length<=34359738368 by simp;omega),zA,
     ig (show (([]:List aB)++a.take i++[aB.mk b c (fO [] (r::rs))]).length+(a.drop i).length<=34359738368 by simp;omega),zA,zA,List.nil_append]
    cases U5 (aB.mk b c (fO [] (r::rs))) t<;>rfl
   ·simp only[fE,aa,EK a a.length (aw _),eq_self_iff_true,if_true,zA,List.take_length,List.drop_length];rw[ig (show 0+a.length<=34359738368 by omega),zA,ig (show (([]:List aB)++a).length+[aB.mk b c (fO [] (r::rs))].length<=34359738368 by simp;omega),zA,
     ig (show (([]:List aB)++a++[aB.mk b c (fO [] (r::rs))]).length+([]:List aB).length<=34359738368 by simp;omega),zA,zA,List.append_nil,List.nil_append]
 ·rw[j,Nat.zero_add];have k:=zG f;rw[p]at m;simp only[show decide (((n:Nat):Int)>=0)=true by simp,ac,aA,f,zA,az,CW x.reads d (zf h k).2.2 hd (by omega)];unfold Qe;rw[o,ac,q]
end
end Go.Proofs.YtapgeemjgckgaaaGreatDoor
