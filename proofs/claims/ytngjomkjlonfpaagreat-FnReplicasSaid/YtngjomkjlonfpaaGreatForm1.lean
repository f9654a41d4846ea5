import Derived.Test.YtngjomkjlonfpaaGreatTok1
import Derived.Test.YtngjomkjlonfpaaGreatNames2
import Derived.Lib.SplitLaws
set_option linter.unusedSimpArgs false
set_option linter.unusedVariables false
/- Plain laws: the text of an expression is alike on both sides. -/
namespace Go.Proofs.YtngjomkjlonfpaaGreat
open Go.Abs Go.Proofs
theorem lY(s:Str):(kP s).length=s.length:=by unfold kP;rw[List.length_map]
theorem JA(s:Str):bytesOf (kP s)=s:=by
 unfold bytesOf kP;rw[List.map_map];refine (List.map_congr_left fun c _=>?_).trans (List.map_id s);show UInt8.ofNat ((c.toNat:Int)).toNat=c
 rw[aw];exact UInt8.ofNat_toNat
theorem ML(a b:Str):kP (a++b)=kP a++kP b:=by unfold kP;rw[List.map_append]
theorem afe(xs:List Str)(b:Str){i:Nat}{x:Str}(h:xs[i]?=some x):Go.Lib.join (xs.take (i+1)) b=if i=0 then x else Go.Lib.join (xs.take i) b++b++x:=by
 cases xs with
 | nil=>simp at h
 | cons y r=>
  cases i with
  | zero=>
   simp at h;subst h;simp[Go.Lib.join_one]
  | succ i=>
   simp at h;rw[if_neg (by omega),List.take_succ_cons,List.take_succ_cons,Go.Lib.join_cons,Go.Lib.join_cons,Go.Lib.joinTail_take_succ b r i x h];simp[a6]
theorem QN(xs:List Str)(b:Str):(Go.Lib.join xs b).length<=b.length*xs.length+Go.Lib.lens xs:=by
 cases xs with
 | nil=>simp[Go.Lib.join_nil]
 | cons x r=>
  rw[Go.Lib.join_length];have:b.length*r.length<=b.length*(x::r).length:=Nat.mul_le_mul_left _ (by simp);omega
theorem Fb(xs:List Str)(b:Str)(i:Nat):(Go.Lib.join (xs.take i) b).length<=b.length*xs.length+Go.Lib.lens xs:=by
 have h:=QN (xs.take i) b;have a:=Go.Lib.lens_take_le xs i;have c:b.length*(xs.take i).length<=b.length*xs.length:=Nat.mul_le_mul_left _ (by rw[a7];omega);omega
theorem ags(xs:List Str)(b:Str)(o:xs.length<=1048576)(p:b.length*xs.length+Go.Lib.lens xs<=1000000000)(m:b.length<=1000):Ig xs b=some (Go.Lib.join xs b):=by
 unfold Ig;have key:=dL (g:=fun (a:(List Str)×Str×(List Int)×Int)=>
  bif (decide (a.2.2.2<(a.1.length:Int)))then
   bif (decide (a.2.2.2>0))then
    (gd (a.2.2.1.length+(kP a.2.1).length)).bind fun _=>
    (idx a.1 a.2.2.2).bind fun j=>
    (gd ((a.2.2.1++(kP a.2.1)).length+(kP j).length)).bind fun _=>
    some (.inl (a.1,a.2.1,(a.2.2.1++(kP a.2.1))++(kP j),w64 (a.2.2.2+1)))
   else
    (idx a.1 a.2.2.2).bind fun k=>
    (gd (a.2.2.1.length+(kP k).length)).bind fun _=>
    some (.inl (a.1,a.2.1,a.2.2.1++(kP k),w64 (a.2.2.2+1)))
  else
   some (.inr (bytesOf a.2.2.1))) (fun (s:List Int) (i:Nat)=>((xs,b,s,(i:Int)):(List Str)×Str×(List Int)×Int)) xs (fun i s=>s=kP (Go.Lib.join (xs.take i) b)) (fun r=>r=Go.Lib.join xs b) (fun i x s c d=>.inl ?_) (fun s d=>?_) [] rfl
 ·obtain⟨r,h,rfl⟩:=key;exact h
 ·subst d;have q:=Fb xs b i;have f:=Fb xs b (i+1);have l:=afe xs b c;have n:x.length<=1000000000:=by
   rw[l]at f;split at f
   ·omega
   ·rw[aR]at f;omega
  refine⟨kP (Go.Lib.join (xs.take (i+1)) b),?_,rfl⟩;simp only[dn c,ab,au,c,zA,dm c (by omega)];rw[l];by_cases hi:i=0
  ·subst hi;have e:decide (((0:Nat):Int)>0)=false:=rfl;rw[e,if_pos rfl];simp only[aa];rw[gdp (by rw[lY,lY];omega)];rfl
  ·have e:decide ((i:Int)>0)=true:=by simp;omega
   rw[e,if_neg hi];simp only[ab];rw[gdp (by rw[lY,lY];omega),zA,gdp (by rw[aR,lY,lY,lY];omega),ML,ML];rfl
 ·subst d;refine⟨_,by simp only[bP,aa];rfl,?_⟩;rw[List.take_length,JA]
theorem ahC(xs:List Str)(b:Str)(a:xs.length<=1048576)(c:b.length*xs.length+Go.Lib.lens xs<=1000000000):adM xs b=some (Go.Lib.join xs b):=by
 have d:=QN xs b;unfold adM adx;rw[gdp (by omega),zA,gdp (by omega)];rfl
theorem Jv:∀(n q:Nat),0<q->n<10 ^ q->(Go.Lib.decDigits n).length<=q:=by
 intro n;induction n using Nat.strongRecOn with
 | _ n ih=>
  intro q e a;rw[Go.Lib.decDigits];by_cases c:n<10
  ·rw[dif_pos c];simp;omega
  ·rw[dif_neg c];have d:10 ^ q=10 ^ (q-1)*10:=by rw[<- Nat.pow_succ];congr 1;omega
   have b:0<q-1:=by
    rcases Nat.lt_or_ge 1 q with h | h
    ·omega
    ·have:q=1:=by omega
     subst this;simp at a;omega
   have:=ih (n / 10) (by omega) (q-1) b (by rw[d]at a;generalize 10 ^ (q-1)=p at a ⊢;omega);simp;omega
theorem ahu(n:Int)(a:0<=n)(b:n<9223372036854775808):(Go.Lib.itoa n).length<=19:=by
 unfold Go.Lib.itoa;rw[if_neg (by omega)];exact Jv _ 19 (by omega) (by omega)
theorem amh:∀n:Nat,prn (Go.Lib.decDigits n)=true:=by
 intro n;induction n using Nat.strongRecOn with
 | _ n ih=>
  have one:∀k:Nat,k<10->prn [UInt8.ofNat (48+k)]=true:=by decide
  rw[Go.Lib.decDigits];by_cases a:n<10
  ·rw[dif_pos a];exact one n a
  ·rw[dif_neg a,iw,ih (n / 10) (by omega),one (n % 10) (by omega)];rfl
theorem ajA(n:Int)(a:0<=n):prn (Go.Lib.itoa n)=true:=by
 unfold Go.Lib.itoa;rw[if_neg (by omega)];exact amh _
theorem ajz(b:Str)(c:prn b=true):∀xs:List Str,(∀x,x∈xs->prn x=true)->prn (Go.Lib.join xs b)=true
 | [],_=>rfl
 | x::r,h=>by
  rw[Go.Lib.join_cons,iw,h x (by simp),Bool.true_and];have a:∀y,y∈r->prn y=true:=fun y d=>h y (by simp[d])
  clear h;induction r with
  | nil=>rfl
  | cons y r ih=>
   show prn ((b++y)++Go.Lib.joinTail b r)=true
   rw[iw,iw,c,a y (by simp),ih fun z e=>a z (by simp[e])];rfl
theorem TU(n:Int)(a:-9223372036854775808<=n)(b:n<9223372036854775808):Gi n=some (Go.Lib.itoa n):=by
 unfold Gi ady;rw[if_pos ⟨a,by omega⟩];rfl
theorem Zf(e:af):QZ e=rG e:=rfl
theorem Ze(e:af):∃r,rG e=some r/\0<=r/\r<=4:=by
 have go:∀(c:Bool) (x y:Option Int),(∃r,x=some r/\0<=r/\r<=4)->(∃r,y=some r/\0<=r/\r<=4)->∃r,(bif c then x else y)=some r/\0<=r/\r<=4:=by
  intro c x y i b;cases c with
  | true=>exact b |> fun _=>i
  | false=>exact b
 have v:∀k:Int,0<=k->k<=4->∃r,(some k:Option Int)=some r/\0<=r/\r<=4:=fun k h j=>⟨k,rfl,h,j⟩
 have a:=v 0 (by decide) (by decide);have d:=v 1 (by decide) (by decide);have f:=v 2 (by decide) (by decide);have l:=v 3 (by decide) (by decide);have g:=v 4 (by decide) (by decide);unfold rG;exact go _ _ _ a (go _ _ _ a (go _ _ _ a (go _ _ _ (go _ _ _ d (go _ _ _ d (go _ _ _ f (go _ _ _ f (go _ _ _ l g))))) g)))
theorem ag9(n:Int)(a:1<=n)(b:n<=5):∃s,yQ n=some s/\tZ n=some s/\s.length<=2/\prn s=true:=by
 have:n=1\/n=2\/n=3\/n=4\/n=5:=by omega
 rcases this with rfl | rfl | rfl | rfl | rfl
 ·exact⟨[43],rfl,rfl,by decide,by decide⟩
 ·exact⟨[45],rfl,rfl,by decide,by decide⟩
 ·exact⟨[42],rfl,rfl,by decide,by decide⟩
 ·exact⟨[60],rfl,rfl,by decide,by decide⟩
 ·exact⟨[61,61],rfl,rfl,by decide,by decide⟩
theorem RJ{e:af}(h:e.args.length=2):∃a b,e.args=[a,b]:=by
 cases d:e.args with
 | nil=>rw[d]at h;cases h
 | cons a r=>cases r with
  | nil=>rw[d]at h;cases h
  | cons b r=>cases r with
   | nil=>exact⟨a,b,rfl⟩
   | cons c r=>rw[d]at h;simp at h
theorem acE{e:af}(h:e.args.length=3):∃a b c,e.args=[a,b,c]:=by
 cases f:e.args with
 | nil=>rw[f]at h;cases h
 | cons a r=>cases r with
  | nil=>rw[f]at h;cases h
  | cons b r=>cases r with
   | nil=>rw[f]at h;cases h
   | cons c r=>cases r with
    | nil=>exact⟨a,b,c,rfl⟩
    | cons d r=>rw[f]at h;simp at h
theorem G5:∀(n:Nat),
  (∀e:af,siz e<n->vX e->wtE e<=1000->∃s,(eG n).1 e=some s/\(bT n).1 e=some s/\s.length+4<=200*wtE e/\prn s=true) /\
  (∀xs:List af,siz xs<n->(∀x,x∈xs->vX x)->wtL xs<=1000->∃s,(eG n).2.1 xs=some s/\(bT n).2.1 xs=some s/\s.length<=200*wtL xs/\prn s=true) /\
  (∀(e:af) (b:Int),siz e+1<n->vX e->wtE e<=1000->∃s,(eG n).2.2 e b=some s/\(bT n).2.2 e b=some s/\s.length+2<=200*wtE e/\prn s=true)
 | 0=>⟨fun _ h=>absurd h (Nat.not_lt_zero _),fun _ h=>absurd h (Nat.not_lt_zero _),fun _ _ h=>absurd h (Nat.not_lt_zero _)⟩
 | n+1=>by
  obtain⟨ihT,ihL,ihA⟩:=G5 n;refine⟨fun e R G M=>?_,fun xs R G M=>?_,fun e b R G M=>?_⟩
  ·show ∃s,QW (eG n).1 (eG n).2.1 (eG n).2.2 e=some s/\yw (bT n).1 (bT n).2.1 (bT n).2.2 e=some s/\_
   cases G with
   | mk _ v w=>
   have hce:=afN (e:=e) (by omega);have ht:=NY (e:=e) (by omega);have hargs:=Uu (e:=e);unfold yw QW;cases Y:(e.kind==1)with
   | true=>
    have:=v.num (eq_of_beq Y);have z:=ahu e.n (by omega) (by omega);exact⟨Go.Lib.itoa e.n,by simp only[ab,TU e.n (by omega) (by omega),zA],by simp only[ab,xE e.n (by omega) (by omega),zA],by omega,ajA _ (by omega)⟩
   | false=>
   cases k2:(e.kind==2)with
   | true=>
    simp only[ab,aa];rw[gdp (by simp;omega),zA,gdp (by simp;omega),zA];exact⟨_,rfl,rfl,by simp;omega,by simp only[iw,v.pr];rfl⟩
   | false=>
   cases k3:(e.kind==3)with
   | true=>exact⟨e.text,rfl,rfl,by omega,v.pr⟩
   | false=>
   cases k4:(e.kind==4)with
   | true=>
    obtain⟨s,p,e1',z,f⟩:=ihL e.args (by omega) w (by omega);simp only[ab,aa,p,e1',zA];rw[gdp (by simp;omega),zA,gdp (by simp;omega),zA];exact⟨_,rfl,rfl,by simp;omega,by simp only[iw,f];rfl⟩
   | false=>
   cases k5:(e.kind==5)with
   | true=>
    obtain⟨s,p,e1',z,f⟩:=ihL e.args (by omega) w (by omega);simp only[ab,aa,p,e1',zA];rw[gdp (by simp;omega),zA,gdp (by simp;omega),zA,gdp (by simp;omega),zA];exact⟨_,rfl,rfl,by simp;omega,by simp only[iw,v.pr,f];rfl⟩
   | false=>
   cases Z:(e.kind==7)with
   | true=>
    obtain⟨a,b,d⟩:=RJ (v.two (.inl (eq_of_beq Z)));have B:wtL e.args=wtE a+wtE b:=by rw[d,zl]
    obtain⟨s,p,e1',z,f⟩:=ihT a (by have:=gm (x:=a) (e:=e) (by rw[d];simp);omega) (w a (by rw[d];simp)) (by omega);obtain⟨t,q,e2',N,m⟩:=ihT b (by have:=gm (x:=b) (e:=e) (by rw[d];simp);omega) (w b (by rw[d];simp)) (by omega);have C:idx e.args 0=some a:=by rw[d];rfl
    have D:idx e.args 1=some b:=by rw[d];rfl
    simp only[ab,aa,C,D,aP,p,e1',q,e2',zA];rw[gdp (by simp;omega),zA,gdp (by simp;omega),zA,gdp (by simp;omega),zA,gdp (by simp;omega),zA,gdp (by simp;omega),zA];exact⟨_,rfl,rfl,by simp;omega,by simp only[iw,v.pr,f,m];rfl⟩
   | false=>
   cases k9:(e.kind==9)with
   | true=>
    have O:(e.kind==8)=false:=by rw[eq_of_beq k9];rfl
    obtain⟨a,b,d⟩:=RJ (v.two (.inr (eq_of_beq k9)));have B:wtL e.args=wtE a+wtE b:=by rw[d,zl]
    obtain⟨s,p,e1',z,f⟩:=ihT a (by have:=gm (x:=a) (e:=e) (by rw[d];simp);omega) (w a (by rw[d];simp)) (by omega);obtain⟨t,q,e2',N,m⟩:=ihT b (by have:=gm (x:=b) (e:=e) (by rw[d];simp);omega) (w b (by rw[d];simp)) (by omega);have C:idx e.args 0=some a:=by rw[d];rfl
    have D:idx e.args 1=some b:=by rw[d];rfl
    simp only[ab,aa,O,C,D,aP,p,e1',q,e2',zA];rw[gdp (by simp;omega),zA,gdp (by simp;omega),zA,gdp (by simp;omega),zA,gdp (by simp;omega),zA,gdp (by simp;omega),zA];exact⟨_,rfl,rfl,by simp;omega,by simp only[iw,v.pr,f,m];rfl⟩
   | false=>
   cases O:(e.kind==8)with
   | true=>
    obtain⟨a,b,c,d⟩:=acE (v.three (eq_of_beq O));have B:wtL e.args=wtE a+(wtE b+wtE c):=by rw[d,Ui]
    obtain⟨s,p,e1',z,f⟩:=ihT a (by have:=gm (x:=a) (e:=e) (by rw[d];simp);omega) (w a (by rw[d];simp)) (by omega);obtain⟨t,q,e2',N,m⟩:=ihT b (by have:=gm (x:=b) (e:=e) (by rw[d];simp);omega) (w b (by rw[d];simp)) (by omega);obtain⟨u,S,e3',P,A⟩:=ihT c (by have:=gm (x:=c) (e:=e) (by rw[d];simp);omega) (w c (by rw[d];simp)) (by omega);have C:idx e.args 0=some a:=by rw[d];rfl
    have D:idx e.args 1=some b:=by rw[d];rfl
    have i2:idx e.args 2=some c:=by rw[d];rfl
    simp only[ab,aa,C,D,i2,aP,p,e1',q,e2',S,e3',zA];rw[gdp (by simp;omega),zA,gdp (by simp;omega),zA,gdp (by simp;omega),zA,gdp (by simp;omega),zA,gdp (by simp;omega),zA];exact⟨_,rfl,rfl,by simp;omega,by simp only[iw,f,m,A];rfl⟩
   | false=>
    have hk:e.kind=6:=by
     have q0:=v.k0;have q9:=v.k9;have n1:¬e.kind=1:=by simpa using Y
     have n2:¬e.kind=2:=by simpa using k2
     have n3:¬e.kind=3:=by simpa using k3
     have n4:¬e.kind=4:=by simpa using k4
     have n5:¬e.kind=5:=by simpa using k5
     have n7:¬e.kind=7:=by simpa using Z
     have n8:¬e.kind=8:=by simpa using O
     have n9:¬e.kind=9:=by simpa using k9
     omega
    obtain⟨ha,T,U⟩:=v.op hk;obtain⟨a,b,d⟩:=RJ ha;have B:wtL e.args=wtE a+wtE b:=by rw[d,zl]
    have za:=gm (x:=a) (e:=e) (by rw[d];simp);have zb:=gm (x:=b) (e:=e) (by rw[d];simp);obtain⟨r,I,r0,J⟩:=Ze e;have e0':=(Zf e).trans I;obtain⟨s,p,V,z,f⟩:=ihA a 2 (by omega) (w a (by rw[d];simp)) (by omega);obtain⟨s',e1',f1',l1',pl1'⟩:=ihA a r (by omega) (w a (by rw[d];simp)) (by omega);obtain⟨t,q,f2,N,m⟩:=ihA b (w64 (r+1)) (by omega) (w b (by rw[d];simp)) (by omega);obtain⟨o,S,f3,P,A⟩:=ag9 e.n T U;have C:idx e.args 0=some a:=by rw[d];rfl
    have D:idx e.args 1=some b:=by rw[d];rfl
    simp only[aa,C,D,aP,I,e0',p,e1',q,S,V,f1',f2,f3,zA];cases (r==1)with
    | true=>
     simp only[ab];rw[gdp (by simp;omega),zA,gdp (by simp;omega),zA,gdp (by simp;omega),zA,gdp (by simp;omega),zA];exact⟨_,rfl,rfl,by simp;omega,by simp only[iw,f,m,A];rfl⟩
    | false=>
     simp only[aa];rw[gdp (by simp;omega),zA,gdp (by simp;omega),zA,gdp (by simp;omega),zA,gdp (by simp;omega),zA];exact⟨_,rfl,rfl,by simp;omega,by simp only[iw,pl1',m,A];rfl⟩
  ·have W:=Vt xs;have hA:∀(g:af->Option Str),(∀x,x∈xs->∃s,(eG n).1 x=some s/\g x=some s/\s.length+4<=200*wtE x/\prn s=true)->∃l:List Str,l.length=xs.length/\Go.Lib.lens l+4*xs.length<=200*wtL xs/\(∀s,s∈l->prn s=true)/\∀(i:Nat) (x:af),xs[i]?=some x->∃s:Str,l[i]?=some s/\(eG n).1 x=some s/\g x=some s:=by
    intro g;clear R G M W;induction xs with
    | nil=>exact fun _=>⟨[],rfl,by simp[Go.Lib.lens,wtL],fun s h=>(by cases h),fun i x h=>by simp at h⟩
    | cons x r ih=>
     intro k;obtain⟨l,h1,h2,h4,h3⟩:=ih (fun y H=>k y (ao _ H));obtain⟨s,K,Q,X,q4⟩:=k x (by simp);refine⟨s::l,by simp[h1],?_,fun u hu=>(a8.1 hu).elim (fun e=>by rw[e];exact q4) (h4 u),fun i y H=>?_⟩
     ·have p:Go.Lib.lens (s::l)=s.length+Go.Lib.lens l:=by simp[Go.Lib.lens]
      have q:wtL (x::r)=wtE x+wtL r:=rfl;rw[p,q];simp only[List.length_cons];omega
     ·cases i with
      | zero=>simp at H;subst H;exact⟨s,rfl,K,Q⟩
      | succ i=>simp at H;simpa using h3 i y H
   obtain⟨l,z,N,l4,P⟩:=hA (bT n).1 fun x k=>ihT x (by have:=XY k;omega) (G x k) (by have:=Vs k;omega)
   have hJ:([44,32]:Str).length*l.length+Go.Lib.lens l<=1000000000:=by simp only[List.length_cons,List.length_nil];rw[z];omega
   have eJi:=ahC l [44,32] (by omega) hJ;have eJs:=ags l [44,32] (by omega) hJ (by simp);have lj:=QN l [44,32];refine⟨Go.Lib.join l [44,32],?_,?_,by simp only[List.length_cons,List.length_nil]at lj;omega,ajz _ rfl l l4⟩
   ·show KN (eG n).1 (eG n).2.1 (eG n).2.2 xs=_
    unfold KN;have key:=dL (g:=fun (j:(List Str)×(List af)×Int×Int)=>
     bif (decide (j.2.2.2<j.2.2.1))then
      (idx j.2.1 j.2.2.2).bind fun q=>
      ((eG n).1 (aj q)).bind fun L=>
      (gd (j.1.length+([L]:List Str).length)).bind fun _=>
      some (.inl (j.1++([L]:List Str),j.2.1,j.2.2.1,w64 (j.2.2.2+1)))
     else
      (
       (adM j.1 [44,32]).bind fun J=>
       some (J)
      ).bind fun r=>some (.inr r)) (fun (s:List Str) (i:Nat)=>((s,xs,(xs.length:Int),(i:Int)):(List Str)×(List af)×Int×Int)) xs (fun i s=>s=l.take i) (fun r=>r=Go.Lib.join l [44,32]) (fun i x s k E=>.inl ?_) (fun s E=>?_) [] rfl
    ·obtain⟨r,h,rfl⟩:=key;exact h
    ·obtain⟨t,K,Q,X⟩:=P i x k;subst E;have hi:=(zC.1 k).1;refine⟨l.take (i+1),?_,rfl⟩;simp only[dn k,ab,au,k,zA,aP,Q,dm k (by omega)];rw[gdp (by simp;omega)];obtain⟨F,rfl⟩:=zC.1 K;rw[List.take_succ_eq_append_getElem F];rfl
    ·subst E;refine⟨Go.Lib.join l [44,32],?_,rfl⟩;have e:l.take xs.length=l:=by rw[<- z,List.take_length]
     simp only[bP,aa,e,eJi,zA]
   ·show yx (bT n).1 (bT n).2.1 (bT n).2.2 xs=_
    unfold yx;have key:=dL (g:=fun (j:(List af)×(List Str)×Int)=>
     bif (decide (j.2.2<(j.1.length:Int)))then
      (idx j.1 j.2.2).bind fun q=>
      ((bT n).1 (aj q)).bind fun L=>
      (gd (j.2.1.length+([L]:List Str).length)).bind fun _=>
      some (.inl (j.1,j.2.1++([L]:List Str),w64 (j.2.2+1)))
     else
      (
       (Ig j.2.1 [44,32]).bind fun J=>
       some (J)
      ).bind fun r=>some (.inr r)) (fun (s:List Str) (i:Nat)=>((xs,s,(i:Int)):(List af)×(List Str)×Int)) xs (fun i s=>s=l.take i) (fun r=>r=Go.Lib.join l [44,32]) (fun i x s k E=>.inl ?_) (fun s E=>?_) [] rfl
    ·obtain⟨r,h,rfl⟩:=key;exact h
    ·obtain⟨t,K,Q,X⟩:=P i x k;subst E;have hi:=(zC.1 k).1;refine⟨l.take (i+1),?_,rfl⟩;simp only[dn k,ab,au,k,zA,aP,X,dm k (by omega)];rw[gdp (by simp;omega)];obtain⟨F,rfl⟩:=zC.1 K;rw[List.take_succ_eq_append_getElem F];rfl
    ·subst E;refine⟨Go.Lib.join l [44,32],?_,rfl⟩;have e:l.take xs.length=l:=by rw[<- z,List.take_length]
     simp only[bP,aa,e,eJs,zA]
  ·show ∃s,Gj (eG n).1 (eG n).2.1 (eG n).2.2 e b=some s/\H8 (bT n).1 (bT n).2.1 (bT n).2.2 e b=some s/\_
   unfold H8 Gj;obtain⟨s,p,V,z,f⟩:=ihT e (by omega) G M;obtain⟨r,I,r0,J⟩:=Ze e;have e0':=(Zf e).trans I;simp only[aP,p,V,I,e0',zA];cases decide (r<b)with
   | true=>
    simp only[ab];rw[gdp (by simp;omega),zA,gdp (by simp;omega),zA];exact⟨_,rfl,rfl,by simp;omega,by simp only[iw,f];rfl⟩
   | false=>exact⟨s,rfl,rfl,by omega,f⟩
theorem UX(e:af)(c:wtE e<=1048576):∃s,kL e=some s/\gX e=some s/\s.length<=8000/\prn s=true:=by
 obtain⟨v,d,f,h⟩:=wB e c;unfold kL gX;simp only[aP,d,f,zA];cases v with
 | false=>exact⟨[],rfl,rfl,by simp,rfl⟩
 | true=>
  obtain⟨g,j⟩:=h rfl;obtain⟨s,a,b,k,i⟩:=(G5 (siz e+1)).1 e (Nat.lt_succ_self _) g (by omega);have a:adK e=some s:=a;have b:H7 e=some s:=b;simp only[aE,aa,a,b,zA];exact⟨s,rfl,rfl,by omega,i⟩
theorem Xy(e:af)(a:wtE e<=1048576):∃s,kL e=some s/\gX e=some s/\s.length<=8000:=by
 obtain⟨s,b,c,d,_⟩:=UX e a;exact⟨s,b,c,d⟩
end Go.Proofs.YtngjomkjlonfpaaGreat
/- Plain laws: numbers with a sign, as both sides read them. -/
namespace Go.Proofs.YtngjomkjlonfpaaGreat
open Go.Abs Go.Proofs
theorem ajL:∀(n:Nat) (s:Str) (q:Nat),0<n->n<10 ^ q->n<9223372036854775808->s.length+q<=40->aA tN (-(n:Int),true,s)=some (45::(Go.Lib.decDigits n++s)):=by
 intro n;induction n using Nat.strongRecOn with
 | _ n ih=>
  intro s q o a t u;have i:0<q:=by
   rcases Nat.eq_zero_or_pos q with h | h
   ·subst h;simp at a;omega
   ·exact h
  have e:(-(n:Int) != 0)=true:=by simp;omega
  have em:(-(n:Int)).tmod 10 = -((n % 10:Nat):Int):=by
   rw[Int.neg_tmod,Int.tmod_eq_emod_of_nonneg (by omega)];omega
  have ed:(-(n:Int)).tdiv 10 = -((n / 10:Nat):Int):=by
   rw[Int.neg_tdiv,Int.tdiv_eq_ediv_of_nonneg (by omega)];omega
  have f:w64 ((-(n:Int)).tdiv 10) = -((n / 10:Nat):Int):=by
   rw[ed];exact bM (by omega) (by omega)
  have g:gd ([UInt8.ofNat (48+n % 10)].length+s.length)=some ():=gdp (by simp;omega);have hstep:tN (-(n:Int),true,s)=some (.inl (-((n / 10:Nat):Int),true,UInt8.ofNat (48+n % 10)::s)):=by
   unfold tN;by_cases j:n % 10=0
   ·have b:decide ((-(n:Int)).tmod 10<0)=false:=by rw[em];simp;omega
    have c:bytesOf [w8 (w64 (48+((-(n:Int)).tmod 10)))]=[UInt8.ofNat (48+n % 10)]:=by
     rw[em,j];rfl
    simp only[e,b,ab,aa,c,g,zA,f];rfl
   ·have b:decide ((-(n:Int)).tmod 10<0)=true:=by rw[em];simp;omega
    have k:w64 (0-(-(n:Int)).tmod 10)=((n % 10:Nat):Int):=by
     rw[em,bM (by omega) (by omega)];omega
    have c:bytesOf [w8 (w64 (48+(w64 (0-(-(n:Int)).tmod 10))))]=[UInt8.ofNat (48+n % 10)]:=by
     rw[k];exact Ro _ (by omega)
    simp only[e,b,ab,aa,c,g,zA,f];rfl
  rw[aF,hstep];simp only;by_cases d:n<10
  ·have l:n / 10=0:=by omega
   rw[l,aF];have:tN (-((0:Nat):Int),true,UInt8.ofNat (48+n % 10)::s)=some (.inr (45::(UInt8.ofNat (48+n % 10)::s))):=by
    show ((gd ([45].length+(UInt8.ofNat (48+n % 10)::s).length)).bind fun _=>some (([45]:Str)++(UInt8.ofNat (48+n % 10)::s))).bind (fun r=>some (Sum.inr r))=_
    rw[gdp (by simp;omega)];rfl
   rw[this];rw[Go.Lib.decDigits,dif_pos d,Nat.mod_eq_of_lt d];rfl
  ·have m:10 ^ q=10 ^ (q-1)*10:=by rw[<- Nat.pow_succ];congr 1;omega
   rw[ih (n / 10) (by omega) (UInt8.ofNat (48+n % 10)::s) (q-1) (by omega) (by rw[m]at a;generalize 10 ^ (q-1)=p at a ⊢;omega) (by omega) (by simp;omega)];conv=>rhs;rw[Go.Lib.decDigits,dif_neg d]
   simp
theorem CU(n:Int)(d:-9223372036854775808<n)(a:n<9223372036854775808):dZ n=some (Go.Lib.itoa n):=by
 by_cases b:0<=n
 ·exact xE n b a
 ·obtain⟨m,rfl⟩:∃m:Nat,n = -(m:Int):=⟨n.natAbs,by omega⟩;rw[Bf];have e:(-(m:Int)==0)=false:=by simp;omega
  have c:decide (-(m:Int)<0)=true:=by simp;omega
  rw[e,c,aa,ajL m [] 19 (by omega) (by have:(10:Nat) ^ 19=10000000000000000000:=rfl;omega) (by omega) (by decide)];unfold Go.Lib.itoa;rw[if_pos (by omega),List.append_nil];have:(-(m:Int)).natAbs=m:=by omega
  rw[this]
theorem tV:∀(n:Nat),(∀c,c∈Go.Lib.decDigits n->jE c)/\aY 0 (Go.Lib.decDigits n)=n/\Go.Lib.decDigits n≠[]:=by
 intro n;induction n using Nat.strongRecOn with
 | _ n ih=>
  have b:∀d,d<10->(UInt8.ofNat (48+d)).toNat=48+d:=fun d h=>by
   rw[UInt8.toNat_ofNat'];omega
  rw[Go.Lib.decDigits];by_cases e:n<10
  ·rw[dif_pos e];refine⟨fun c a=>?_,?_,by simp⟩
   ·rw[List.mem_singleton.1 a];unfold jE;rw[b n e];omega
   ·show 0*10+((UInt8.ofNat (48+n)).toNat-48)=n
    rw[b n e];omega
  ·rw[dif_neg e];obtain⟨g,f,i⟩:=ih (n / 10) (by omega);refine⟨fun c a=>?_,?_,by simp⟩
   ·rcases List.mem_append.1 a with a | a
    ·exact g c a
    ·rw[List.mem_singleton.1 a];unfold jE;rw[b _ (by omega)];omega
   ·unfold aY at f ⊢;rw[List.foldl_append,f];show n / 10*10+((UInt8.ofNat (48+n % 10)).toNat-48)=n
    rw[b _ (by omega)];omega
theorem Zj(n:Nat):Go.Lib.itoa (n:Int)=Go.Lib.decDigits n:=by
 unfold Go.Lib.itoa;rw[if_neg (by omega)];rfl
theorem itoa_neg(n:Nat)(h:0<n):Go.Lib.itoa (-(n:Int))=45::Go.Lib.decDigits n:=by
 unfold Go.Lib.itoa;rw[if_pos (by omega)];have:(-(n:Int)).natAbs=n:=by omega
 rw[this]
theorem Lm(v:Int)(f:-999999999999<=v)(g:v<=999999999999):Go.Lib.atoiAll (Go.Lib.itoa v)=.ok v:=by
 by_cases i:0<=v
 ·obtain⟨n,rfl⟩:∃n:Nat,v=n:=⟨v.toNat,by omega⟩;obtain⟨a,b,c⟩:=tV n;have d:=Jv n 12 (by decide) (by omega);rw[Zj,aah _ a c d,b]
 ·obtain⟨n,rfl⟩:∃n:Nat,v = -(n:Int):=⟨v.natAbs,by omega⟩;obtain⟨a,b,c⟩:=tV n;have d:=Jv n 12 (by decide) (by omega);rw[itoa_neg n (by omega)];have j:10 ^ (Go.Lib.decDigits n).length<=10 ^ 12:=Nat.pow_le_pow_right (by decide) d;unfold Go.Lib.atoiAll;simp only;rw[if_pos (.inr rfl)];unfold Go.Lib.parseMag;rw[if_neg c,xH _ 0 a (by omega),b];simp only;have e:((45:UInt8).toNat=45)=True:=by simp
  rw[if_neg (fun h=>h.1 rfl),if_neg (fun h=>by have:=h.2;omega),if_pos (show UInt8.toNat 45=45 from rfl)]
theorem Na(t:Str)(lo hi:Int)(d:t.length<=34359738368)(f:-999999999999<=lo)(g:hi<=999999999999) :
  ∃v ok,oC t lo hi=some (v,ok)/\(ok=true->Go.Lib.itoa v=t/\lo<=v/\v<=hi)/\(ok=false->v=0/\∀u,lo<=u->u<=hi->Go.Lib.itoa u≠t):=by
 unfold oC QE;rw[gdp d,zA];have no:∀u,lo<=u->u<=hi->Go.Lib.itoa u=t->Go.Lib.atoiAll t=.ok u:=fun u b c e=>by rw[<- e];exact Lm u (by omega) (by omega)
 cases h:Go.Lib.atoiAll t with
 | ok v=>
  simp only;by_cases a:v<lo\/hi<v\/Go.Lib.itoa v≠t
  ·rw[if_pos a];refine⟨0,false,rfl,fun h=>(by cases h),fun _=>⟨rfl,fun u b c e=>?_⟩⟩;have:=no u b c e;rw[h]at this;injection this with this;subst this;rcases a with a | a | a
   ·omega
   ·omega
   ·exact a e
  ·rw[if_neg a];refine⟨v,true,rfl,fun _=>⟨?_,by omega,by omega⟩,fun h=>(by cases h)⟩;rcases Decidable.em (Go.Lib.itoa v=t)with e | e
   ·exact e
   ·exact absurd (.inr (.inr e)) a
 | range=>exact⟨0,false,rfl,fun h=>(by cases h),fun _=>⟨rfl,fun u b c e=>by have:=no u b c e;rw[h]at this;cases this⟩⟩
 | _=>exact⟨0,false,rfl,fun h=>(by cases h),fun _=>⟨rfl,fun u b c e=>by have:=no u b c e;rw[h]at this;cases this⟩⟩
abbrev RdX:=Str×Bool×Str×Int×Int
noncomputable def FV:RdX->Option (RdX⊕(Int×Bool)):=(fun (a:Str×Bool×Str×Int×Int)=>
      bif (decide (a.2.2.2.2<(a.2.2.1.length:Int)))then
       (idx a.2.2.1 a.2.2.2.2).bind fun b=>
       bif (decide ((b.toNat:Int)<48))then
        some (.inr (0,false))
       else
        (idx a.2.2.1 a.2.2.2.2).bind fun c=>
        bif (decide ((c.toNat:Int)>57))then
         some (.inr (0,false))
        else
         (idx a.2.2.1 a.2.2.2.2).bind fun d=>
         some (.inl (a.1,a.2.1,a.2.2.1,w64 ((w64 (10*a.2.2.2.1))+(w64 (w8 ((d.toNat:Int)-48)))),w64 (a.2.2.2.2+1)))
      else
      (
       bif a.2.1 then
        (dZ (w64 (0-a.2.2.2.1))).bind fun e=>
        bif (!(e==a.1))then
         some (0,false)
        else
         some (w64 (0-a.2.2.2.1),true)
       else
        (dZ a.2.2.2.1).bind fun f=>
        bif (!(f==a.1))then
         some (0,false)
        else
         some (a.2.2.2.1,true)
      ).bind fun r=>some (.inr r)
  )
def sgn(B:Bool)(n:Nat):Int:=if B=true then -(n:Int)else n
def Rj(s:Str)(B:Bool)(n:Nat):Int×Bool:=if Go.Lib.itoa (sgn B n)=s then (sgn B n,true)else (0,false)
theorem VB(a:Str)(c:UInt8):aY 0 (a++[c])=aY 0 a*10+(c.toNat-48):=by
 unfold aY;rw[List.foldl_append];rfl
theorem agH(s u:Str)(B:Bool)(v:u.length<=12):∃r,aA FV (s,B,u,0,0)=some r/\((r=(0,false)/\∃c,c∈u/\¬jE c)\/((∀c,c∈u->jE c)/\r=Rj s B (aY 0 u))):=by
 have l:∀i,i<=u.length->(∀c,c∈u.take i->jE c)->aY 0 (u.take i)<10 ^ 12:=fun i hi h=>by
  have p:=uI (u.take i) 0 h;have q:10 ^ (u.take i).length<=10 ^ 12:=Nat.pow_le_pow_right (by decide) (by rw[a7];omega);omega
 refine dL (g:=FV) (fun (n:Int) (i:Nat)=>((s,B,u,n,(i:Int)):RdX)) u (fun i n=>(∀c,c∈u.take i->jE c)/\n=(aY 0 (u.take i):Int)) _ (fun i c n a j=>?_) (fun n j=>?_) 0 ⟨by simp,by simp[aY]⟩
 ·obtain⟨b,rfl⟩:=j;have hi:=(zC.1 a).1;have m:=l i (by omega) b;have o:u.take (i+1)=u.take i++[c]:=by
   obtain⟨hi,rfl⟩:=zC.1 a;rw[List.take_succ_eq_append_getElem hi]
  simp only[FV,dn a,ab,au,a,zA,dm a (by omega)];by_cases p:c.toNat<48
  ·have e:decide ((c.toNat:Int)<48)=true:=by simp;omega
   rw[e];exact .inr ⟨_,rfl,.inl ⟨rfl,c,zG a,fun h=>by unfold jE at h;omega⟩⟩
  ·have e:decide ((c.toNat:Int)<48)=false:=by simp;omega
   rw[e];by_cases q:c.toNat>57
   ·have k:decide ((c.toNat:Int)>57)=true:=by simp;omega
    rw[k];exact .inr ⟨_,rfl,.inl ⟨rfl,c,zG a,fun h=>by unfold jE at h;omega⟩⟩
   ·have k:decide ((c.toNat:Int)>57)=false:=by simp;omega
    rw[k];have t:w8 ((c.toNat:Int)-48)=((c.toNat-48:Nat):Int):=by
     simp only[w8,IntKind.wrap,IntKind.bits,IntKind.signed];simp;omega
    have ew:w64 (w64 (10*((aY 0 (u.take i):Nat):Int))+w64 (w8 ((c.toNat:Int)-48)))=((aY 0 (u.take (i+1)):Nat):Int):=by
     rw[t,o,VB,bM (n:=10*_) (by omega) (by omega),bM (n:=((c.toNat-48:Nat):Int)) (by omega) (by omega),bM (by omega) (by omega)];omega
    refine .inl ⟨_,by simp only[aa,ew],fun d f=>?_,rfl⟩;rw[o]at f;rcases List.mem_append.1 f with f | f
    ·exact b d f
    ·rw[List.mem_singleton.1 f];unfold jE;omega
 ·obtain⟨b,rfl⟩:=j;have m:=l u.length (ar _) b;rw[List.take_length]at b m ⊢;refine⟨Rj s B (aY 0 u),?_,.inr ⟨b,rfl⟩⟩;simp only[FV,bP,aa];unfold Rj;cases B with
  | true=>
   have e:w64 (0-((aY 0 u:Nat):Int))=sgn true (aY 0 u):=by
    rw[bM (by omega) (by omega)];unfold sgn;rw[if_pos rfl];omega
   simp only[ab,e];rw[CU _ (by unfold sgn;rw[if_pos rfl];omega) (by unfold sgn;rw[if_pos rfl];omega),zA];by_cases h:Go.Lib.itoa (sgn true (aY 0 u))=s
   ·have:(Go.Lib.itoa (sgn true (aY 0 u))==s)=true:=by simp[h]
    rw[if_pos h,this];rfl
   ·have:(Go.Lib.itoa (sgn true (aY 0 u))==s)=false:=by simpa using h
    rw[if_neg h,this];rfl
  | false=>
   have e:sgn false (aY 0 u)=((aY 0 u:Nat):Int):=rfl;rw[e];simp only[aa];rw[CU _ (by omega) (by omega),zA];by_cases h:Go.Lib.itoa ((aY 0 u:Nat):Int)=s
   ·have:(Go.Lib.itoa ((aY 0 u:Nat):Int)==s)=true:=by simp[h]
    rw[if_pos h,this];rfl
   ·have:(Go.Lib.itoa ((aY 0 u:Nat):Int)==s)=false:=by simpa using h
    rw[if_neg h,this];rfl
theorem agd(a:Str)(b:Int):D9 a b=bif (decide ((a.length:Int)>0))then
  ((idx a 0).bind fun c=>
  bif ((c.toNat:Int)==45)then
   ((eff.cutL a (some 1) none).bind fun d=>
   bif (decide ((d.length:Int)<1))then some (0,false)
   else bif (decide ((d.length:Int)>b))then some (0,false)
   else aA FV (a,((c.toNat:Int)==45),d,0,0))
  else
  bif (decide ((a.length:Int)<1))then some (0,false)
  else bif (decide ((a.length:Int)>b))then some (0,false)
  else aA FV (a,((c.toNat:Int)==45),a,0,0))
 else
 bif (decide ((a.length:Int)<1))then some (0,false)
 else bif (decide ((a.length:Int)>b))then some (0,false)
 else aA FV (a,false,a,0,0):=rfl
theorem Ri(s:Str)(B:Bool)(n:Nat)(h:n<10 ^ 12):-999999999999<=(Rj s B n).1/\(Rj s B n).1<=999999999999:=by
 unfold Rj;split
 ·show -999999999999<=sgn B n/\sgn B n<=999999999999
  unfold sgn;split<;>omega
 ·exact⟨by decide,by decide⟩
theorem U5(u:Str)(a:u.length<=12)(h:∀c,c∈u->jE c):aY 0 u<10 ^ 12:=by
 have b:=uI u 0 h;have d:10 ^ u.length<=10 ^ 12:=Nat.pow_le_pow_right (by decide) a;omega
theorem UZ(s:Str)(B:Bool)(n:Nat):((Rj s B n).2=true->Go.Lib.itoa (Rj s B n).1=s)/\((Rj s B n).2=false->(Rj s B n).1=0/\Go.Lib.itoa (sgn B n)≠s):=by
 unfold Rj;split
 ·rename_i h;exact⟨fun _=>h,fun h=>by cases h⟩
 ·rename_i h;exact⟨fun h=>(by cases h),fun _=>⟨rfl,h⟩⟩
theorem OX(t:Str)(D:t.length<=34359738368) :
  ∃v ok,jZ t=some (v,ok)/\(ok=true->Go.Lib.itoa v=t/\-999999999999<=v/\v<=999999999999)/\(ok=false->v=0/\∀u,-999999999999<=u->u<=999999999999->Go.Lib.itoa u≠t):=by
 have key:∃r,D9 t 12=some r/\(r.2=true->Go.Lib.itoa r.1=t/\-999999999999<=r.1/\r.1<=999999999999)/\(r.2=false->r.1=0/\∀u,-999999999999<=u->u<=999999999999->Go.Lib.itoa u≠t):=by
  have no:(∀u,-999999999999<=u->u<=999999999999->Go.Lib.itoa u≠t)->∃r,(some (0,false):Option (Int×Bool))=some r/\(r.2=true->Go.Lib.itoa r.1=t/\-999999999999<=r.1/\r.1<=999999999999)/\(r.2=false->r.1=0/\∀u,-999999999999<=u->u<=999999999999->Go.Lib.itoa u≠t):=fun h=>⟨_,rfl,fun h=>(by cases h),fun _=>⟨rfl,h⟩⟩
  have pos:∀u:Int,-999999999999<=u->u<=999999999999->(∃n:Nat,u=n/\Go.Lib.itoa u=Go.Lib.decDigits n/\n<10 ^ 12)\/∃n:Nat,0<n/\u = -(n:Int)/\Go.Lib.itoa u=45::Go.Lib.decDigits n/\n<10 ^ 12:=by
   intro u b a;by_cases w:0<=u
   ·obtain⟨n,rfl⟩:∃n:Nat,u=n:=⟨u.toNat,by omega⟩;exact .inl ⟨n,rfl,Zj n,by omega⟩
   ·obtain⟨n,rfl⟩:∃n:Nat,u = -(n:Int):=⟨u.natAbs,by omega⟩;exact .inr ⟨n,by omega,rfl,itoa_neg n (by omega),by omega⟩
  rw[agd];cases t with
  | nil=>
   refine no fun u b a e=>?_
   rcases pos u b a with ⟨n,_,f,_⟩ | ⟨n,_,_,f,_⟩
   ·rw[f]at e;exact (tV n).2.2 e
   ·rw[f]at e;cases e
  | cons c r=>
   have E:decide (((c::r).length:Int)>0)=true:=by simp
   have y:idx (c::r) 0=some c:=rfl;rw[E];simp only[ab,y,zA];have F:r.length<=34359738368:=by simp at D;omega
   by_cases o:c.toNat=45
   ·have H:c=45:=UInt8.toNat_inj.1 o;have l:((c.toNat:Int)==45)=true:=by simp;omega
    have hcut:eff.cutL (c::r) (some 1) none=some r:=DC (c::r) 1 (by simp);simp only[l,ab,hcut,zA];have dig:∀u,-999999999999<=u->u<=999999999999->Go.Lib.itoa u=c::r->∃n:Nat,0<n/\u = -(n:Int)/\r=Go.Lib.decDigits n/\n<10 ^ 12:=by
     intro u b a e;rcases pos u b a with ⟨n,_,f,_⟩ | ⟨n,w,j,f,k⟩
     ·rw[f]at e;have:=(tV n).1 c (by rw[e];simp);unfold jE at this;omega
     ·rw[f]at e;injection e with _ e;exact⟨n,w,j,e.symm,k⟩
    by_cases z:r.length=0
    ·have p:decide ((r.length:Int)<1)=true:=by simp;omega
     rw[p];refine no fun u b a e=>?_
     obtain⟨n,_,_,i,_⟩:=dig u b a e;rw[List.length_eq_zero_iff.1 z]at i;exact (tV n).2.2 i.symm
    ·have p:decide ((r.length:Int)<1)=false:=by simp;omega
     rw[p];by_cases g:r.length<=12
     ·have f:decide ((r.length:Int)>12)=false:=by simp;omega
      rw[f];simp only[aa];obtain⟨x,A,B⟩:=agH (c::r) r true g;refine⟨x,A,?_⟩;rcases B with ⟨rfl,d,q,m⟩ | ⟨hall,rfl⟩
      ·refine⟨fun h=>(by cases h),fun _=>⟨rfl,fun u b a e=>?_⟩⟩;obtain⟨n,_,_,i,_⟩:=dig u b a e;rw[i]at q;exact m ((tV n).1 d q)
      ·obtain⟨C,s⟩:=UZ (c::r) true (aY 0 r);refine⟨fun h=>⟨C h,Ri _ _ _ (U5 r g hall)⟩,fun h=>⟨(s h).1,fun u b a e=>?_⟩⟩;obtain⟨n,_,j,i,_⟩:=dig u b a e;have:aY 0 r=n:=by rw[i];exact (tV n).2.1
       apply (s h).2;rw[this,<- e,j];rfl
     ·have f:decide ((r.length:Int)>12)=true:=by simp;omega
      rw[f];refine no fun u b a e=>?_
      obtain⟨n,_,_,i,k⟩:=dig u b a e;have:=Jv n 12 (by decide) k;rw[<- i]at this;exact g this
   ·have l:((c.toNat:Int)==45)=false:=by simp;omega
    have p:decide (((c::r).length:Int)<1)=false:=by simp;omega
    simp only[l,aa,p];have dig:∀u,-999999999999<=u->u<=999999999999->Go.Lib.itoa u=c::r->∃n:Nat,u=(n:Int)/\c::r=Go.Lib.decDigits n/\n<10 ^ 12:=by
     intro u b a e;rcases pos u b a with ⟨n,j,f,k⟩ | ⟨n,w,j,f,k⟩
     ·rw[f]at e;exact⟨n,j,e.symm,k⟩
     ·rw[f]at e;injection e with e _;exact absurd (by rw[<- e];rfl) o
    by_cases g:(c::r).length<=12
    ·have f:decide (((c::r).length:Int)>12)=false:=by simp at g ⊢;omega
     rw[f];simp only[aa];obtain⟨x,A,B⟩:=agH (c::r) (c::r) false g;refine⟨x,A,?_⟩;rcases B with ⟨rfl,d,q,m⟩ | ⟨hall,rfl⟩
     ·refine⟨fun h=>(by cases h),fun _=>⟨rfl,fun u b a e=>?_⟩⟩;obtain⟨n,_,i,_⟩:=dig u b a e;rw[i]at q;exact m ((tV n).1 d q)
     ·obtain⟨C,s⟩:=UZ (c::r) false (aY 0 (c::r));refine⟨fun h=>⟨C h,Ri _ _ _ (U5 (c::r) g hall)⟩,fun h=>⟨(s h).1,fun u b a e=>?_⟩⟩;obtain⟨n,j,i,_⟩:=dig u b a e;have:aY 0 (c::r)=n:=by rw[i];exact (tV n).2.1
      apply (s h).2;rw[this,<- e,j];rfl
    ·have f:decide (((c::r).length:Int)>12)=true:=by simp at g ⊢;omega
     rw[f];refine no fun u b a e=>?_
     obtain⟨n,_,i,k⟩:=dig u b a e;have:=Jv n 12 (by decide) k;rw[<- i]at this;exact g this
 obtain⟨⟨v,ok⟩,e,a,G⟩:=key;refine⟨v,ok,?_,a,G⟩;unfold jZ;rw[e];rfl
theorem Zk{u v:Int}(b:-999999999999<=u/\u<=999999999999)(h:Go.Lib.itoa u=Go.Lib.itoa v)(c:-999999999999<=v/\v<=999999999999):u=v:=by
 have a:=Lm u b.1 b.2;have d:=Lm v c.1 c.2;rw[h,d]at a;injection a with a;exact a.symm
end Go.Proofs.YtngjomkjlonfpaaGreat
/- Plain laws: texts split at a separator: the library's strings.Split against the reference's loops. -/
namespace Go.Proofs.YtngjomkjlonfpaaGreat
open Go.Abs Go.Proofs
theorem Us{s sub:Str}{i:Nat}(hsub:sub≠[])(h:Go.Lib.NoOcc s sub i)(hi:i<=s.length)(b:Go.Lib.occAt s sub i=true):Go.Lib.split s sub=s.take i::Go.Lib.split (s.drop (i+sub.length)) sub:=by
 have a:=Go.Lib.index_hit h hi b;have c:=Go.Lib.count_hit hsub a;unfold Go.Lib.split;rw[c,Nat.add_comm 1];show (if Go.Lib.index s sub == -1 then [s]else s.take ((Go.Lib.index s sub).toNat+0)::Go.Lib.splitK sub 0 _ (s.drop ((Go.Lib.index s sub).toNat+sub.length)))=_
 rw[a];have e:((i:Int) == -1)=false:=by simp
 rw[e];simp
theorem FD{s sub:Str}(h:∀j,j<=s.length->Go.Lib.occAt s sub j=false):Go.Lib.split s sub=[s]:=by
 have a:=Go.Lib.index_none h;have b:=Go.Lib.count_miss a;unfold Go.Lib.split;rw[b];rfl
theorem yM(s:Str)(c:UInt8)(i:Nat):Go.Lib.occAt s [c] i=(s[i]? == some c):=by
 unfold Go.Lib.occAt;cases h:s.drop i with
 | nil=>
  have:s[i]?=none:=zJ (List.drop_eq_nil_iff.1 h);rw[this];rfl
 | cons x r=>
  have:s[i]?=some x:=by
   have:=congrArg (·[0]?) h;simpa using this
  rw[this];show ((c==x)&&true)=(x==c)
  rw[Bool.and_true];by_cases e:c=x
  ·subst e;rfl
  ·have a:(c==x)=false:=by simpa using e
   have b:(x==c)=false:=by simpa using fun h=>e h.symm
   rw[a,b]
theorem yK(s:Str)(c d:UInt8)(i:Nat):Go.Lib.occAt s [c,d] i=((s[i]? == some c)&&(s[i+1]? == some d)):=by
 have a:=yM s c i;have b:=yM s d (i+1);unfold Go.Lib.occAt at a b ⊢;rw[<- a,<- b];cases h:s.drop i with
 | nil=>
  have:s.drop (i+1)=[]:=List.drop_eq_nil_iff.2 (by have:=List.drop_eq_nil_iff.1 h;omega);rw[this];rfl
 | cons x r=>
  have:s.drop (i+1)=r:=by
   have:=congrArg List.tail h;simpa using this
  rw[this];show ((c==x)&&[d].isPrefixOf r)=(((c==x)&&true)&&[d].isPrefixOf r)
  rw[Bool.and_true]
theorem oq(s sub:Str)(f j:Nat):Go.Lib.occAt (s.drop f) sub j=Go.Lib.occAt s sub (f+j):=by
 unfold Go.Lib.occAt;rw[List.drop_drop]
abbrev SpX:=Str×Int×(List Str)×Int×Int
noncomputable def xA:SpX->Option (SpX⊕List Str):=(fun (a:Str×Int×(List Str)×Int×Int)=>
      bif (decide (a.2.2.2.2<=(a.1.length:Int)))then
       bif (a.2.2.2.2==(a.1.length:Int))then
        (eff.cutL a.1 (some a.2.2.2.1) (some a.2.2.2.2)).bind fun b=>
        (gd (a.2.2.1.length+([b]:List Str).length)).bind fun _=>
        some (.inl (a.1,a.2.1,a.2.2.1++([b]:List Str),w64 (a.2.2.2.2+1),w64 (a.2.2.2.2+1)))
       else
        (idx a.1 a.2.2.2.2).bind fun d=>
        bif ((d.toNat:Int)==a.2.1)then
         (eff.cutL a.1 (some a.2.2.2.1) (some a.2.2.2.2)).bind fun c=>
         (gd (a.2.2.1.length+([c]:List Str).length)).bind fun _=>
         some (.inl (a.1,a.2.1,a.2.2.1++([c]:List Str),w64 (a.2.2.2.2+1),w64 (a.2.2.2.2+1)))
        else
         some (.inl (a.1,a.2.1,a.2.2.1,a.2.2.2.1,w64 (a.2.2.2.2+1)))
      else
       some (.inr (a.2.2.1))
  )
theorem JR(s:Str)(c:UInt8)(z:s.length<=1048576):jM s (c.toNat:Int)=some (Go.Lib.split s [c]):=by
 have key:∀(k i f:Nat) (out:List Str),s.length+1=i+k->f<=i->i<=s.length->out.length<=i->(∀j,f<=j->j<i->Go.Lib.occAt s [c] j=false) ->
   aA xA (s,(c.toNat:Int),out,(f:Int),(i:Int))=some (out++Go.Lib.split (s.drop f) [c]):=by
  intro k;induction k with
  | zero=>intro i f out m _ u;omega
  | succ k ih=>
   intro i f out A w hi B a;have n:decide ((i:Int)<=(s.length:Int))=true:=by simp;omega
   have o:w64 ((i:Int)+1)=((i+1:Nat):Int):=by rw[bM (by omega) (by omega)];omega
   have v:∀x:Str,gd (out.length+([x]:List Str).length)=some ():=fun x=>gdp (by simp;omega)
   have hcut:=qW s f i w hi;have hNo:Go.Lib.NoOcc (s.drop f) [c] (i-f):=fun j p=>by rw[oq];exact a (f+j) (by omega) (by omega)
   rw[aF];by_cases y:i=s.length
   ·subst y;have e:((s.length:Int)==(s.length:Int))=true:=by simp
    have b:xA (s,(c.toNat:Int),out,(f:Int),(s.length:Int))=some (.inl (s,(c.toNat:Int),out++[(s.take s.length).drop f],((s.length+1:Nat):Int),((s.length+1:Nat):Int))):=by
     simp only[xA,n,e,ab,hcut,zA,v,o]
    rw[b];simp only;rw[aF];have d:decide (((s.length+1:Nat):Int)<=(s.length:Int))=false:=by simp;omega
    have q:xA (s,(c.toNat:Int),out++[(s.take s.length).drop f],((s.length+1:Nat):Int),((s.length+1:Nat):Int))=some (.inr (out++[(s.take s.length).drop f])):=by
     simp only[xA,d,aa]
    rw[q];simp only;rw[FD (s:=s.drop f) (sub:=[c]) fun j p=>?_,List.take_length];rw[oq];by_cases r:f+j<s.length
    ·exact a (f+j) (by omega) r
    ·rw[yM,zJ (by omega)];rfl
   ·have t:i<s.length:=by omega
    have e:((i:Int)==(s.length:Int))=false:=by simp;omega
    have g:=zF t;by_cases l:s[i]=c
    ·have d:((s[i].toNat:Int)==(c.toNat:Int))=true:=by rw[l];simp
     have b:xA (s,(c.toNat:Int),out,(f:Int),(i:Int))=some (.inl (s,(c.toNat:Int),out++[(s.take i).drop f],((i+1:Nat):Int),((i+1:Nat):Int))):=by
      simp only[xA,n,e,d,ab,aa,au,g,hcut,zA,v,o]
     rw[b];simp only;rw[ih (i+1) (i+1) (out++[(s.take i).drop f]) (by omega) (ar _) (by omega) (by simp;omega) (fun j m u=>by omega)];rw[Us (s:=s.drop f) (sub:=[c]) (i:=i-f) (by simp) hNo (by simp;omega) (by rw[oq,yM,show f+(i-f)=i by omega,g,l];simp)];rw[List.drop_drop,List.drop_take,show f+(i-f+[c].length)=i+1 by simp;omega];simp
    ·have d:((s[i].toNat:Int)==(c.toNat:Int))=false:=by
      have:¬s[i].toNat=c.toNat:=fun h=>l (UInt8.toNat_inj.1 h)
      simp;omega
     have b:xA (s,(c.toNat:Int),out,(f:Int),(i:Int))=some (.inl (s,(c.toNat:Int),out,(f:Int),((i+1:Nat):Int))):=by
      simp only[xA,n,e,d,ab,aa,au,g,zA,o]
     rw[b];simp only;refine ih (i+1) f out (by omega) (by omega) (by omega) (by omega) fun j m u=>?_
     by_cases p:j<i
     ·exact a j m p
     ·have:j=i:=by omega
      subst this;rw[yM,g];simpa using l
 have:=key (s.length+1) 0 0 [] (by omega) (ar _) (Nat.zero_le _) (Nat.zero_le _) (fun j _ h=>by omega);show aA xA (s,(c.toNat:Int),[],0,0)=_
 simpa using this
theorem KL(s:Str)(c:UInt8)(a:s.length<=1048576):oz s (c.toNat:Int)=some (Go.Lib.split s [c]):=by
 unfold oz rU;have e:bytesOf [(c.toNat:Int)]=[c]:=JA [c];rw[e,if_pos ⟨by omega,by simp⟩];rfl
abbrev PaX:=Str×(List Str)×Int×Int
noncomputable def sF:PaX->Option (PaX⊕List Str):=(fun (a:Str×(List Str)×Int×Int)=>
      bif (decide ((w64 (a.2.2.2+1))<(a.1.length:Int)))then
       (idx a.1 a.2.2.2).bind fun d=>
       bif ((d.toNat:Int)==59)then
        (idx a.1 (w64 (a.2.2.2+1))).bind fun e=>
        bif ((e.toNat:Int)==32)then
         (eff.cutL a.1 (some a.2.2.1) (some a.2.2.2)).bind fun b=>
         (gd (a.2.1.length+([b]:List Str).length)).bind fun _=>
         some (.inl (a.1,a.2.1++([b]:List Str),w64 (a.2.2.2+2),w64 (a.2.2.2+1)))
        else
         some (.inl (a.1,a.2.1,a.2.2.1,w64 (a.2.2.2+1)))
       else
        some (.inl (a.1,a.2.1,a.2.2.1,w64 (a.2.2.2+1)))
      else
       (
        (eff.cutL a.1 (some a.2.2.1) none).bind fun c=>
        (gd (a.2.1.length+([c]:List Str).length)).bind fun _=>
        some (a.2.1++([c]:List Str))
       ).bind fun r=>some (.inr r)
  )
theorem UA(s:Str)(G:s.length<=1048576):uf s=some (Go.Lib.split s [59,32]):=by
 have key:∀(k i f:Nat) (out:List Str),s.length=i+k->(f<=i\/(f=i+1/\s[i]?=some 32))->f<=s.length->out.length<=i->(∀j,f<=j->j<i->Go.Lib.occAt s [59,32] j=false) ->
   aA sF (s,out,(f:Int),(i:Int))=some (out++Go.Lib.split (s.drop f) [59,32]):=by
  intro k;induction k with
  | zero=>
   intro i f out D y c E a;have e:decide (w64 ((i:Int)+1)<(s.length:Int))=false:=by rw[bM (by omega) (by omega)];simp;omega
   have hcut:=DC s f c;rw[aF];have g:sF (s,out,(f:Int),(i:Int))=some (.inr (out++[s.drop f])):=by
    simp only[sF,e,aa,hcut,zA];rw[gdp (by simp;omega)];rfl
   rw[g];simp only;rw[FD fun j p=>?_];rw[oq];by_cases l:f+j<i
   ·exact a (f+j) (by omega) l
   ·rw[yK,zJ (by omega)];rfl
  | succ k ih=>
   intro i f out D y c E a;have t:i<s.length:=by omega
   have q:w64 ((i:Int)+1)=((i+1:Nat):Int):=by rw[bM (by omega) (by omega)];omega
   have u:w64 ((i:Int)+2)=((i+2:Nat):Int):=by rw[bM (by omega) (by omega)];omega
   have m:=zF t;by_cases H:i+1=s.length
   ·have e:decide (((i+1:Nat):Int)<(s.length:Int))=false:=by simp;omega
    have hcut:=DC s f c;have g:sF (s,out,(f:Int),(i:Int))=some (.inr (out++[s.drop f])):=by
     simp only[sF,q,e,aa,hcut,zA];rw[gdp (by simp;omega)];rfl
    rw[aF,g];simp only;rw[FD fun j p=>?_];rw[oq];by_cases l:f+j<i
    ·exact a (f+j) (by omega) l
    ·rw[yK,zJ (show s.length<=f+j+1 by omega)];simp
   ·have n:i+1<s.length:=by omega
    have e:decide (((i+1:Nat):Int)<(s.length:Int))=true:=by simp;omega
    have b:=zF n;have skip:Go.Lib.occAt s [59,32] i=false->sF (s,out,(f:Int),(i:Int))=some (.inl (s,out,(f:Int),((i+1:Nat):Int)))->(f<=i+1) ->
      aA sF (s,out,(f:Int),(i:Int))=some (out++Go.Lib.split (s.drop f) [59,32]):=by
     intro v g d;rw[aF,g];refine ih (i+1) f out (by omega) (.inl d) c (by omega) fun j z F=>?_
     by_cases p:j<i
     ·exact a j z p
     ·have:j=i:=by omega
      subst this;exact v
    have d:f<=i+1:=by omega
    by_cases A:s[i].toNat=59
    ·have r:((s[i].toNat:Int)==59)=true:=by simp;omega
     have B:s[i]=59:=UInt8.toNat_inj.1 A;have w:f<=i:=by
      rcases y with h | ⟨_,h⟩
      ·exact h
      ·rw[m,B]at h;cases h
     by_cases o:s[i+1].toNat=32
     ·have x:((s[i+1].toNat:Int)==32)=true:=by simp;omega
      have C:s[i+1]=32:=UInt8.toNat_inj.1 o;have hcut:=qW s f i w (by omega);have g:sF (s,out,(f:Int),(i:Int))=some (.inl (s,out++[(s.take i).drop f],((i+2:Nat):Int),((i+1:Nat):Int))):=by
       simp only[sF,q,u,e,r,x,ab,au,m,b,hcut,zA];rw[gdp (by simp;omega)];rfl
      rw[aF,g];simp only;have hNo:Go.Lib.NoOcc (s.drop f) [59,32] (i-f):=fun j p=>by rw[oq];exact a (f+j) (by omega) (by omega)
      rw[ih (i+1) (i+2) (out++[(s.take i).drop f]) (by omega) (.inr ⟨rfl,by rw[b,C]⟩) (by omega) (by simp;omega) (fun j z F=>by omega)];rw[Us (s:=s.drop f) (sub:=[59,32]) (i:=i-f) (by simp) hNo (by simp;omega) (by rw[oq,yK,show f+(i-f)=i by omega,m,b,B,C];rfl)];rw[List.drop_drop,List.drop_take,show f+(i-f+([59,32]:Str).length)=i+2 by simp;omega];simp
     ·have x:((s[i+1].toNat:Int)==32)=false:=by simp;omega
      refine skip ?_ ?_ d
      ·rw[yK,b];have:¬s[i+1]=32:=fun h=>o (by rw[h];rfl)
       simp[this]
      ·simp only[sF,q,e,r,x,ab,aa,au,m,b,zA]
    ·have r:((s[i].toNat:Int)==59)=false:=by simp;omega
     refine skip ?_ ?_ d
     ·rw[yK,m];have:¬s[i]=59:=fun h=>A (by rw[h];rfl)
      simp[this]
     ·simp only[sF,q,e,r,ab,aa,au,m,zA]
 have:=key s.length 0 0 [] (by omega) (.inl (ar _)) (Nat.zero_le _) (Nat.zero_le _) (fun j _ h=>by omega);show aA sF (s,[],0,0)=_
 simpa using this
theorem af5(s sub:Str):Go.Lib.split s sub≠[]:=by
 unfold Go.Lib.split;cases Go.Lib.count s sub with
 | zero=>simp[Go.Lib.splitK]
 | succ k=>
  unfold Go.Lib.splitK;split<;>simp
theorem jy(s sub:Str):(Go.Lib.split s sub).length<=s.length+2/\∀p,p∈Go.Lib.split s sub->p.length<=s.length:=by
 have key:∀(k:Nat) (s:Str),(Go.Lib.splitK sub 0 k s).length<=k+1/\∀p,p∈Go.Lib.splitK sub 0 k s->p.length<=s.length:=by
  intro k;induction k with
  | zero=>intro s;exact⟨ar _,fun p a=>by rw[List.mem_singleton.1 a];exact ar _⟩
  | succ k ih=>
   intro s;unfold Go.Lib.splitK;split
   ·exact⟨by simp,fun p a=>by rw[List.mem_singleton.1 a];exact ar _⟩
   ·obtain⟨c,b⟩:=ih (s.drop ((Go.Lib.index s sub).toNat+sub.length));refine⟨by simp only[List.length_cons];omega,fun p a=>?_⟩;rcases a8.1 a with rfl | a
    ·rw[a7];omega
    ·have:=b p a;rw[List.length_drop]at this;omega
 have d:=Go.Lib.count_le s sub;obtain⟨c,b⟩:=key (Go.Lib.count s sub) s;exact⟨by unfold Go.Lib.split;omega,b⟩
end Go.Proofs.YtngjomkjlonfpaaGreat
/- Lists built entry by entry. -/
namespace Go.Proofs.YtngjomkjlonfpaaGreat
open Go.Abs Go.Proofs
def ja{α β:Type}(f:Nat->α->β):Nat->List α->List β
 | _,[]=>[]
 | i,x::r=>f i x::ja f (i+1) r
theorem Df{α β:Type}(f:Nat->α->β):∀(i:Nat) (xs:List α),(ja f i xs).length=xs.length
 | _,[]=>rfl
 | i,x::r=>by simp[ja,Df f (i+1) r]
theorem Ej{α β X ρ:Type}{g:X->Option (X⊕ρ)}(pk:List β->Nat->X)(xs:List α)(f:Nat->α->β)(r:ρ)
  (e:∀i x out,xs[i]?=some x->out.length=i->g (pk out i)=some (.inl (pk (out++[f i x]) (i+1))))
  (h:g (pk (ja f 0 xs) xs.length)=some (.inr r)):aA g (pk [] 0)=some r:=by
 have key:∀(ys:List α) (i:Nat) (out:List β),xs.drop i=ys->out.length=i->out++ja f i ys=ja f 0 xs->aA g (pk out i)=some r:=by
  intro ys;induction ys with
  | nil=>
   intro i out b c a;have hi:i=xs.length:=by
    have d:=congrArg List.length a;have k:xs.length<=i:=List.drop_eq_nil_iff.1 b;rw[Df]at d;simp[ja]at d;omega
   rw[ja,List.append_nil]at a;subst hi;rw[aF,a,h]
  | cons y r' ih=>
   intro i out b c a;have j:xs[i]?=some y:=by
    have:=congrArg (·[0]?) b;simpa using this
   rw[aF,e i y out j c];refine ih (i+1) (out++[f i y]) ?_ (by simp[c]) ?_
   ·have:=congrArg List.tail b;simpa using this
   ·rw[a6];exact a
 exact key xs 0 [] rfl rfl rfl
theorem vC{α:Type}:∀(i:Nat) (xs:List α),ja (fun _ x=>x) i xs=xs
 | _,[]=>rfl
 | i,x::r=>by rw[ja,vC (i+1) r]
theorem WO(i:Nat):decide ((i:Int)>0)=decide (0<i):=by
 by_cases h:0<i
 ·rw[ae h,ae (by omega)]
 ·rw[ac h,ac (by omega)]
end Go.Proofs.YtngjomkjlonfpaaGreat
/- Plain laws: renaming in expressions is alike on both sides. -/
namespace Go.Proofs.YtngjomkjlonfpaaGreat
open Go.Abs Go.Proofs
theorem Z5:∀(n:Nat) (e:af),siz e<n->wtE e<=1048576->Au n e=some e
 | 0,e,h,_=>absurd h (Nat.not_lt_zero _)
 | n+1,e,c,d=>by
  have ih:=Z5 n;have f:=uH (e:=e);show Gp (Au n) e=_
  unfold Gp;refine Ej (fun (out:List af) (i:Nat)=>((0,0,[],[],e.kind,e.n,e.text,out,e.args,(e.args.length:Int),(i:Int)):Int×Int×Str×(List af)×Int×Int×Str×(List af)×(List af)×Int×Int)) e.args (fun _ x=>x) e (fun i x out a g=>?_) ?_
  ·have b:=zG a;have j:=su b;have hi:=(zC.1 a).1;simp only[dn a,ab,au,a,zA,aP,ih x (by have:=gm b;omega) (by omega),dm a (by omega)];rw[gdp (by simp;omega)];rfl
  ·simp only[bP,aa,vC];cases e;rfl
theorem Z4:∀(n:Nat) (e:af),siz e<n->wtE e<=1048576->yC n e=some e
 | 0,e,h,_=>absurd h (Nat.not_lt_zero _)
 | n+1,e,c,d=>by
  have ih:=Z4 n;have f:=uH (e:=e);show J6 (yC n) e=_
  unfold J6;refine Ej (fun (out:List af) (i:Nat)=>((e.kind,e.n,e.text,e.args,0,0,[],[],e.kind,e.n,e.text,out,(i:Int)):Int×Int×Str×(List af)×Int×Int×Str×(List af)×Int×Int×Str×(List af)×Int)) e.args (fun _ x=>x) e (fun i x out a g=>?_) ?_
  ·have b:=zG a;have j:=su b;have hi:=(zC.1 a).1;simp only[dn a,ab,au,a,zA,aP,ih x (by have:=gm b;omega) (by omega),dm a (by omega)];rw[gdp (by simp;omega)];rfl
  ·simp only[bP,aa,vC];cases e;rfl
theorem Xv(e:af)(a:wtE e<=1048576):KR e=some e:=Z5 _ e (Nat.lt_succ_self _) a
theorem YB(e:af)(a:wtE e<=1048576):yD e=some e:=Z4 _ e (Nat.lt_succ_self _) a
def AX(b:Str)(k:Int)(t:Str):Bool:=((k==7)||(k==9))&&(t==b)
def pI(b c:Str)(k:Int)(t:Str):Str:=if ((k==3)&&(t==b))=true then c else t
mutual
def NK(b c:Str):af->af
 | ⟨k,n,t,a⟩=>⟨k,n,pI b c k t,YQ b c (AX b k t) 0 a⟩
def YQ(b c:Str)(bi:Bool):Nat->List af->List af
 | _,[]=>[]
 | i,x::r=>(if (bi&&decide (0<i))=true then x else NK b c x)::YQ b c bi (i+1) r
end
theorem P9(b c:Str)(bi:Bool):∀(i:Nat) (xs:List af),YQ b c bi i xs=ja (fun i x=>if (bi&&decide (0<i))=true then x else NK b c x) i xs
 | _,[]=>rfl
 | i,x::r=>by rw[YQ,ja,P9 b c bi (i+1) r]
theorem adb(b c:Str)(e:af):NK b c e=⟨e.kind,e.n,pI b c e.kind e.text,YQ b c (AX b e.kind e.text) 0 e.args⟩:=by cases e;rfl
abbrev RI:=Str×Str×Int×Int×Str×(List af)×Int×Int×Str×(List af)×Bool×(List af)×Int×Int
abbrev RS:=Str×Str×Int×Int×Str×(List af)×Int×Int×Str×(List af)×Int×Int×Str×(List af)×Int
noncomputable def agF(rec:af->Str->Str->Option af):RI->Option (RI⊕af):=(fun (a:Str×Str×Int×Int×Str×(List af)×Int×Int×Str×(List af)×Bool×(List af)×Int×Int)=>
      bif (decide (a.2.2.2.2.2.2.2.2.2.2.2.2.2<a.2.2.2.2.2.2.2.2.2.2.2.2.1))then
       (idx a.2.2.2.2.2.2.2.2.2.2.2.1 a.2.2.2.2.2.2.2.2.2.2.2.2.2).bind fun b=>
       bif a.2.2.2.2.2.2.2.2.2.2.1 then
        bif (decide (a.2.2.2.2.2.2.2.2.2.2.2.2.2>0))then
         (KR (aj b)).bind fun c=>
         (gd (a.2.2.2.2.2.2.2.2.2.1.length+[aj c].length)).bind fun _=>
         some (.inl (a.1,a.2.1,a.2.2.1,a.2.2.2.1,a.2.2.2.2.1,a.2.2.2.2.2.1,a.2.2.2.2.2.2.1,a.2.2.2.2.2.2.2.1,a.2.2.2.2.2.2.2.2.1,a.2.2.2.2.2.2.2.2.2.1++[aj c],a.2.2.2.2.2.2.2.2.2.2.1,a.2.2.2.2.2.2.2.2.2.2.2.1,a.2.2.2.2.2.2.2.2.2.2.2.2.1,w64 (a.2.2.2.2.2.2.2.2.2.2.2.2.2+1)))
        else
         (rec (aj b) a.1 a.2.1).bind fun d=>
         (gd (a.2.2.2.2.2.2.2.2.2.1.length+[aj d].length)).bind fun _=>
         some (.inl (a.1,a.2.1,a.2.2.1,a.2.2.2.1,a.2.2.2.2.1,a.2.2.2.2.2.1,a.2.2.2.2.2.2.1,a.2.2.2.2.2.2.2.1,a.2.2.2.2.2.2.2.2.1,a.2.2.2.2.2.2.2.2.2.1++[aj d],a.2.2.2.2.2.2.2.2.2.2.1,a.2.2.2.2.2.2.2.2.2.2.2.1,a.2.2.2.2.2.2.2.2.2.2.2.2.1,w64 (a.2.2.2.2.2.2.2.2.2.2.2.2.2+1)))
       else
        (rec (aj b) a.1 a.2.1).bind fun e=>
        (gd (a.2.2.2.2.2.2.2.2.2.1.length+[aj e].length)).bind fun _=>
        some (.inl (a.1,a.2.1,a.2.2.1,a.2.2.2.1,a.2.2.2.2.1,a.2.2.2.2.2.1,a.2.2.2.2.2.2.1,a.2.2.2.2.2.2.2.1,a.2.2.2.2.2.2.2.2.1,a.2.2.2.2.2.2.2.2.2.1++[aj e],a.2.2.2.2.2.2.2.2.2.2.1,a.2.2.2.2.2.2.2.2.2.2.2.1,a.2.2.2.2.2.2.2.2.2.2.2.2.1,w64 (a.2.2.2.2.2.2.2.2.2.2.2.2.2+1)))
      else
       some (.inr (af.mk a.2.2.2.2.2.2.1 a.2.2.2.2.2.2.2.1 a.2.2.2.2.2.2.2.2.1 a.2.2.2.2.2.2.2.2.2.1))
  )
noncomputable def agE(rec:af->Str->Str->Option af):RS->Option (RS⊕af):=(fun (a:Str×Str×Int×Int×Str×(List af)×Int×Int×Str×(List af)×Int×Int×Str×(List af)×Int)=>
      bif (decide (a.2.2.2.2.2.2.2.2.2.2.2.2.2.2<(a.2.2.2.2.2.1.length:Int)))then
       bif (a.2.2.1==7)then
        bif (a.2.2.2.2.2.2.2.2.2.2.2.2.2.2==1)then
         bif (a.2.2.2.2.1==a.1)then
          (idx a.2.2.2.2.2.1 a.2.2.2.2.2.2.2.2.2.2.2.2.2.2).bind fun l=>
          (yD (aj l)).bind fun h=>
          (gd (a.2.2.2.2.2.2.2.2.2.2.2.2.2.1.length+[aj h].length)).bind fun _=>
          some (.inl (a.1,a.2.1,a.2.2.1,a.2.2.2.1,a.2.2.2.2.1,a.2.2.2.2.2.1,a.2.2.2.2.2.2.1,a.2.2.2.2.2.2.2.1,a.2.2.2.2.2.2.2.2.1,a.2.2.2.2.2.2.2.2.2.1,a.2.2.2.2.2.2.2.2.2.2.1,a.2.2.2.2.2.2.2.2.2.2.2.1,a.2.2.2.2.2.2.2.2.2.2.2.2.1,a.2.2.2.2.2.2.2.2.2.2.2.2.2.1++[aj h],w64 (a.2.2.2.2.2.2.2.2.2.2.2.2.2.2+1)))
         else
          (idx a.2.2.2.2.2.1 a.2.2.2.2.2.2.2.2.2.2.2.2.2.2).bind fun m=>
          (rec (aj m) a.1 a.2.1).bind fun i=>
          (gd (a.2.2.2.2.2.2.2.2.2.2.2.2.2.1.length+[aj i].length)).bind fun _=>
          some (.inl (a.1,a.2.1,a.2.2.1,a.2.2.2.1,a.2.2.2.2.1,a.2.2.2.2.2.1,a.2.2.2.2.2.2.1,a.2.2.2.2.2.2.2.1,a.2.2.2.2.2.2.2.2.1,a.2.2.2.2.2.2.2.2.2.1,a.2.2.2.2.2.2.2.2.2.2.1,a.2.2.2.2.2.2.2.2.2.2.2.1,a.2.2.2.2.2.2.2.2.2.2.2.2.1,a.2.2.2.2.2.2.2.2.2.2.2.2.2.1++[aj i],w64 (a.2.2.2.2.2.2.2.2.2.2.2.2.2.2+1)))
        else
         (idx a.2.2.2.2.2.1 a.2.2.2.2.2.2.2.2.2.2.2.2.2.2).bind fun n=>
         (rec (aj n) a.1 a.2.1).bind fun j=>
         (gd (a.2.2.2.2.2.2.2.2.2.2.2.2.2.1.length+[aj j].length)).bind fun _=>
         some (.inl (a.1,a.2.1,a.2.2.1,a.2.2.2.1,a.2.2.2.2.1,a.2.2.2.2.2.1,a.2.2.2.2.2.2.1,a.2.2.2.2.2.2.2.1,a.2.2.2.2.2.2.2.2.1,a.2.2.2.2.2.2.2.2.2.1,a.2.2.2.2.2.2.2.2.2.2.1,a.2.2.2.2.2.2.2.2.2.2.2.1,a.2.2.2.2.2.2.2.2.2.2.2.2.1,a.2.2.2.2.2.2.2.2.2.2.2.2.2.1++[aj j],w64 (a.2.2.2.2.2.2.2.2.2.2.2.2.2.2+1)))
       else
       bif (a.2.2.1==9)then
        bif (a.2.2.2.2.2.2.2.2.2.2.2.2.2.2==1)then
         bif (a.2.2.2.2.1==a.1)then
          (idx a.2.2.2.2.2.1 a.2.2.2.2.2.2.2.2.2.2.2.2.2.2).bind fun o=>
          (yD (aj o)).bind fun k=>
          (gd (a.2.2.2.2.2.2.2.2.2.2.2.2.2.1.length+[aj k].length)).bind fun _=>
          some (.inl (a.1,a.2.1,a.2.2.1,a.2.2.2.1,a.2.2.2.2.1,a.2.2.2.2.2.1,a.2.2.2.2.2.2.1,a.2.2.2.2.2.2.2.1,a.2.2.2.2.2.2.2.2.1,a.2.2.2.2.2.2.2.2.2.1,a.2.2.2.2.2.2.2.2.2.2.1,a.2.2.2.2.2.2.2.2.2.2.2.1,a.2.2.2.2.2.2.2.2.2.2.2.2.1,a.2.2.2.2.2.2.2.2.2.2.2.2.2.1++[aj k],w64 (a.2.2.2.2.2.2.2.2.2.2.2.2.2.2+1)))
         else
          (idx a.2.2.2.2.2.1 a.2.2.2.2.2.2.2.2.2.2.2.2.2.2).bind fun e=>
          (rec (aj e) a.1 a.2.1).bind fun b=>
          (gd (a.2.2.2.2.2.2.2.2.2.2.2.2.2.1.length+[aj b].length)).bind fun _=>
          some (.inl (a.1,a.2.1,a.2.2.1,a.2.2.2.1,a.2.2.2.2.1,a.2.2.2.2.2.1,a.2.2.2.2.2.2.1,a.2.2.2.2.2.2.2.1,a.2.2.2.2.2.2.2.2.1,a.2.2.2.2.2.2.2.2.2.1,a.2.2.2.2.2.2.2.2.2.2.1,a.2.2.2.2.2.2.2.2.2.2.2.1,a.2.2.2.2.2.2.2.2.2.2.2.2.1,a.2.2.2.2.2.2.2.2.2.2.2.2.2.1++[aj b],w64 (a.2.2.2.2.2.2.2.2.2.2.2.2.2.2+1)))
        else
         (idx a.2.2.2.2.2.1 a.2.2.2.2.2.2.2.2.2.2.2.2.2.2).bind fun f=>
         (rec (aj f) a.1 a.2.1).bind fun c=>
         (gd (a.2.2.2.2.2.2.2.2.2.2.2.2.2.1.length+[aj c].length)).bind fun _=>
         some (.inl (a.1,a.2.1,a.2.2.1,a.2.2.2.1,a.2.2.2.2.1,a.2.2.2.2.2.1,a.2.2.2.2.2.2.1,a.2.2.2.2.2.2.2.1,a.2.2.2.2.2.2.2.2.1,a.2.2.2.2.2.2.2.2.2.1,a.2.2.2.2.2.2.2.2.2.2.1,a.2.2.2.2.2.2.2.2.2.2.2.1,a.2.2.2.2.2.2.2.2.2.2.2.2.1,a.2.2.2.2.2.2.2.2.2.2.2.2.2.1++[aj c],w64 (a.2.2.2.2.2.2.2.2.2.2.2.2.2.2+1)))
       else
        (idx a.2.2.2.2.2.1 a.2.2.2.2.2.2.2.2.2.2.2.2.2.2).bind fun g=>
        (rec (aj g) a.1 a.2.1).bind fun d=>
        (gd (a.2.2.2.2.2.2.2.2.2.2.2.2.2.1.length+[aj d].length)).bind fun _=>
        some (.inl (a.1,a.2.1,a.2.2.1,a.2.2.2.1,a.2.2.2.2.1,a.2.2.2.2.2.1,a.2.2.2.2.2.2.1,a.2.2.2.2.2.2.2.1,a.2.2.2.2.2.2.2.2.1,a.2.2.2.2.2.2.2.2.2.1,a.2.2.2.2.2.2.2.2.2.2.1,a.2.2.2.2.2.2.2.2.2.2.2.1,a.2.2.2.2.2.2.2.2.2.2.2.2.1,a.2.2.2.2.2.2.2.2.2.2.2.2.2.1++[aj d],w64 (a.2.2.2.2.2.2.2.2.2.2.2.2.2.2+1)))
      else
       some (.inr (af.mk a.2.2.2.2.2.2.2.2.2.2.1 a.2.2.2.2.2.2.2.2.2.2.2.1 a.2.2.2.2.2.2.2.2.2.2.2.2.1 a.2.2.2.2.2.2.2.2.2.2.2.2.2.1))
  )
theorem Xk(rec)(a:af)(b c:Str):Ew rec a b c=aA (agF rec) (b,c,0,0,[],[],a.kind,a.n,pI b c a.kind a.text,[],AX b a.kind a.text,a.args,(a.args.length:Int),0):=by
 unfold Ew pI AX;cases (a.kind==3)<;>cases (a.kind==7)<;>cases (a.kind==9)<;>cases (a.text==b)<;>rfl
theorem VW(rec)(a:af)(b c:Str):wI rec a b c=aA (agE rec) (b,c,a.kind,a.n,a.text,a.args,0,0,[],[],a.kind,a.n,pI b c a.kind a.text,[],0):=by
 unfold wI pI;cases (a.kind==3)<;>cases (a.text==b)<;>rfl
theorem ac9(b c:Str):∀(n:Nat) (e:af),siz e<n->wtE e<=1048576->Eu n e b c=some (NK b c e)
 | 0,e,h,_=>absurd h (Nat.not_lt_zero _)
 | n+1,e,g,j=>by
  have ih:=ac9 b c n;have k:=uH (e:=e);show Ew (Eu n) e b c=_
  rw[Xk,adb];generalize AX b e.kind e.text=bi;refine Ej (fun (out:List af) (i:Nat)=>((b,c,0,0,[],[],e.kind,e.n,pI b c e.kind e.text,out,bi,e.args,(e.args.length:Int),(i:Int)):RI)) e.args (fun i x=>if (bi&&decide (0<i))=true then x else NK b c x) _ (fun i x out a l=>?_) ?_
  ·have f:=zG a;have m:=su f;have hi:=(zC.1 a).1;have o:=gm f;simp only[agF,dn a,ab,au,a,zA,aP,ih x (by omega) (by omega),Xv x (by omega),dm a (by omega),WO];have d:∀y:af,gd (out.length+[y].length)=some ():=fun y=>gdp (by simp;omega)
   cases bi with
   | false=>
    simp only[aa,Bool.false_and,aD,if_false,d,zA]
   | true=>
    cases decide (0<i)with
    | true=>simp only[ab,Bool.true_and,if_true,d,zA]
    | false=>simp only[ab,aa,Bool.true_and,aD,if_false,d,zA]
  ·simp only[agF,bP,aa,P9]
theorem ac7(b c:Str):∀(n:Nat) (e:af),siz e<n->wtE e<=1048576->vX e->rM n e b c=some (NK b c e)
 | 0,e,h,_,_=>absurd h (Nat.not_lt_zero _)
 | n+1,e,m,o,g=>by
  have ih:=ac7 b c n;have p:=uH (e:=e);cases g with
  | mk _ j hsub=>
  show wI (rM n) e b c=_
  rw[VW,adb];refine Ej (fun (out:List af) (i:Nat)=>((b,c,e.kind,e.n,e.text,e.args,0,0,[],[],e.kind,e.n,pI b c e.kind e.text,out,(i:Int)):RS)) e.args (fun i x=>if (AX b e.kind e.text&&decide (0<i))=true then x else NK b c x) _ (fun i x out a q=>?_) ?_
  ·have d:=zG a;have r:=su d;have hi:=(zC.1 a).1;have s:=gm d;have hone:e.kind=7\/e.kind=9->((i:Int)==1)=decide (0<i):=by
    intro k;have:=j.two k;by_cases h:0<i
    ·have:i=1:=by omega
     subst this;rfl
    ·have:i=0:=by omega
     subst this;rfl
   simp only[agE,dn a,ab,au,a,zA,aP,ih x (by omega) (by omega) (hsub x d),YB x (by omega),dm a (by omega)];have f:∀y:af,gd (out.length+[y].length)=some ():=fun y=>gdp (by simp;omega)
   unfold AX;cases l:(e.kind==7)with
   | true=>
    rw[hone (.inl (eq_of_beq l))];cases decide (0<i)<;>cases (e.text==b)<;>simp only[ab,aa,Bool.true_or,Bool.true_and,Bool.and_true,Bool.and_false,Bool.false_and,aD,if_true,if_false,f,zA]
   | false=>
    cases k9:(e.kind==9)with
    | true=>
     rw[hone (.inr (eq_of_beq k9))];cases decide (0<i)<;>cases (e.text==b)<;>simp only[ab,aa,Bool.false_or,Bool.true_and,Bool.and_true,Bool.and_false,Bool.false_and,aD,if_true,if_false,f,zA]
    | false=>simp only[aa,Bool.false_or,Bool.false_and,aD,if_false,f,zA]
  ·simp only[agE,bP,aa,P9]
mutual
theorem ada(b c:Str)(d:c.length<=120):∀e:af,wtE (NK b c e)<=wtE e
 | ⟨k,n,t,a⟩=>by
  have f:=ac8 b c d a (AX b k t) 0;show (if (pI b c k t).length<=120 then 1 else 18446744073709551616)+wtL (YQ b c (AX b k t) 0 a)<=(if t.length<=120 then 1 else 18446744073709551616)+wtL a
  have g:(if (pI b c k t).length<=120 then 1 else 18446744073709551616)<=(if t.length<=120 then 1 else 18446744073709551616):=by
   unfold pI;split
   ·split<;>omega
   ·exact ar _
  omega
theorem ac8(b c:Str)(a:c.length<=120):∀(xs:List af) (bi:Bool) (i:Nat),wtL (YQ b c bi i xs)<=wtL xs
 | [],_,_=>ar _
 | x::r,bi,i=>by
  have d:=ada b c a x;have e:=ac8 b c a r bi (i+1);show wtE (if (bi&&decide (0<i))=true then x else NK b c x)+wtL (YQ b c bi (i+1) r)<=wtE x+wtL r
  split<;>omega
end
end Go.Proofs.YtngjomkjlonfpaaGreat
