import Derived.Test.YtapgeemjgckgaaaGreatDoorTok1
import Derived.Lib.SplitLaws
set_option linter.unusedSimpArgs false
set_option linter.unusedVariables false
/- Plain laws: the text of an expression is alike on both sides. -/
namespace Go.Proofs.YtapgeemjgckgaaaGreatDoor
open Go.Abs Go.Proofs
theorem lD(s:Str):(mF s).length=s.length:=by unfold mF;rw[List.length_map]
theorem Jp(s:Str):bytesOf (mF s)=s:=by
 unfold bytesOf mF;rw[List.map_map];refine (List.map_congr_left fun c _=>?_).trans (List.map_id s);show UInt8.ofNat ((c.toNat:Int)).toNat=c
 rw[az];exact UInt8.ofNat_toNat
theorem MG(a b:Str):mF (a++b)=mF a++mF b:=by unfold mF;rw[List.map_append]
theorem agP(xs:List Str)(b:Str){i:Nat}{x:Str}(h:xs[i]?=some x):Go.Lib.join (xs.take (i+1)) b=if i=0 then x else Go.Lib.join (xs.take i) b++b++x:=by
 cases xs with
 | nil=>simp at h
 | cons y r=>
  cases i with
  | zero=>
   simp at h;subst h;simp[Go.Lib.join_one]
  | succ i=>
   simp at h;rw[if_neg (by omega),List.take_succ_cons,List.take_succ_cons,Go.Lib.join_cons,Go.Lib.join_cons,Go.Lib.joinTail_take_succ b r i x h];simp[a7]
theorem QN(xs:List Str)(b:Str):(Go.Lib.join xs b).length<=b.length*xs.length+Go.Lib.lens xs:=by
 cases xs with
 | nil=>simp[Go.Lib.join_nil]
 | cons x r=>
  rw[Go.Lib.join_length];have:b.length*r.length<=b.length*(x::r).length:=Nat.mul_le_mul_left _ (by simp);omega
theorem Fp(xs:List Str)(b:Str)(i:Nat):(Go.Lib.join (xs.take i) b).length<=b.length*xs.length+Go.Lib.lens xs:=by
 have h:=QN (xs.take i) b;have a:=Go.Lib.lens_take_le xs i;have c:b.length*(xs.take i).length<=b.length*xs.length:=Nat.mul_le_mul_left _ (by rw[a8];omega);omega
theorem ain(xs:List Str)(b:Str)(o:xs.length<=1048576)(p:b.length*xs.length+Go.Lib.lens xs<=1000000000)(m:b.length<=1000):ZR xs b=some (Go.Lib.join xs b):=by
 unfold ZR;have key:=dL (g:=fun (a:(List Str)×Str×(List Int)×Int)=>
  bif (decide (a.2.2.2<(a.1.length:Int)))then
   bif (decide (a.2.2.2>0))then
    (gd (a.2.2.1.length+(mF a.2.1).length)).bind fun _=>
    (idx a.1 a.2.2.2).bind fun j=>
    (gd ((a.2.2.1++(mF a.2.1)).length+(mF j).length)).bind fun _=>
    some (.inl (a.1,a.2.1,(a.2.2.1++(mF a.2.1))++(mF j),w64 (a.2.2.2+1)))
   else
    (idx a.1 a.2.2.2).bind fun k=>
    (gd (a.2.2.1.length+(mF k).length)).bind fun _=>
    some (.inl (a.1,a.2.1,a.2.2.1++(mF k),w64 (a.2.2.2+1)))
  else
   some (.inr (bytesOf a.2.2.1))) (fun (s:List Int) (i:Nat)=>((xs,b,s,(i:Int)):(List Str)×Str×(List Int)×Int)) xs (fun i s=>s=mF (Go.Lib.join (xs.take i) b)) (fun r=>r=Go.Lib.join xs b) (fun i x s c d=>.inl ?_) (fun s d=>?_) [] rfl
 ·obtain⟨r,h,rfl⟩:=key;exact h
 ·subst d;have q:=Fp xs b i;have f:=Fp xs b (i+1);have l:=agP xs b c;have n:x.length<=1000000000:=by
   rw[l]at f;split at f
   ·omega
   ·rw[a6]at f;omega
  refine⟨mF (Go.Lib.join (xs.take (i+1)) b),?_,rfl⟩;simp only[dD c,ac,aA,c,zA,dI c (by omega)];rw[l];by_cases hi:i=0
  ·subst hi;have e:decide (((0:Nat):Int)>0)=false:=rfl;rw[e,if_pos rfl];simp only[aa];rw[gdp (by rw[lD,lD];omega)];rfl
  ·have e:decide ((i:Int)>0)=true:=by simp;omega
   rw[e,if_neg hi];simp only[ac];rw[gdp (by rw[lD,lD];omega),zA,gdp (by rw[a6,lD,lD,lD];omega),MG,MG];rfl
 ·subst d;refine⟨_,by simp only[bY,aa];rfl,?_⟩;rw[List.take_length,Jp]
theorem ajw(xs:List Str)(b:Str)(a:xs.length<=1048576)(c:b.length*xs.length+Go.Lib.lens xs<=1000000000):aaW xs b=some (Go.Lib.join xs b):=by
 have d:=QN xs b;unfold aaW Ef;rw[gdp (by omega),zA,gdp (by omega)];rfl
theorem Jl:∀(n q:Nat),0<q->n<10 ^ q->(Go.Lib.decDigits n).length<=q:=by
 intro n;induction n using Nat.strongRecOn with
 | _ n ih=>
  intro q e a;rw[Go.Lib.decDigits];by_cases c:n<10
  ·rw[dif_pos c];simp;omega
  ·rw[dif_neg c];have d:10 ^ q=10 ^ (q-1)*10:=by rw[<- Nat.pow_succ];congr 1;omega
   have b:0<q-1:=by
    rcases Nat.lt_or_ge 1 q with h | h
    ·omega
    ·have:q=1:=by omega
     subst this;simp at a;omega
   have:=ih (n / 10) (by omega) (q-1) b (by rw[d]at a;generalize 10 ^ (q-1)=p at a ⊢;omega);simp;omega
theorem ajl(n:Int)(a:0<=n)(b:n<9223372036854775808):(Go.Lib.itoa n).length<=19:=by
 unfold Go.Lib.itoa;rw[if_neg (by omega)];exact Jl _ 19 (by omega) (by omega)
theorem aoU:∀n:Nat,prn (Go.Lib.decDigits n)=true:=by
 intro n;induction n using Nat.strongRecOn with
 | _ n ih=>
  have one:∀k:Nat,k<10->prn [UInt8.ofNat (48+k)]=true:=by decide
  rw[Go.Lib.decDigits];by_cases a:n<10
  ·rw[dif_pos a];exact one n a
  ·rw[dif_neg a,gy,ih (n / 10) (by omega),one (n % 10) (by omega)];rfl
theorem ak5(n:Int)(a:0<=n):prn (Go.Lib.itoa n)=true:=by
 unfold Go.Lib.itoa;rw[if_neg (by omega)];exact aoU _
theorem ak4(b:Str)(c:prn b=true):∀xs:List Str,(∀x,x∈xs->prn x=true)->prn (Go.Lib.join xs b)=true
 | [],_=>rfl
 | x::r,h=>by
  rw[Go.Lib.join_cons,gy,h x (by simp),Bool.true_and];have a:∀y,y∈r->prn y=true:=fun y d=>h y (by simp[d])
  clear h;induction r with
  | nil=>rfl
  | cons y r ih=>
   show prn ((b++y)++Go.Lib.joinTail b r)=true
   rw[gy,gy,c,a y (by simp),ih fun z e=>a z (by simp[e])];rfl
theorem UE(n:Int)(a:-9223372036854775808<=n)(b:n<9223372036854775808):Ag n=some (Go.Lib.itoa n):=by
 unfold Ag Eg;rw[if_pos ⟨a,by omega⟩];rfl
theorem aaC(e:af):I9 e=uj e:=rfl
theorem aiY(n:Int)(a:1<=n)(b:n<=5):∃s,sZ n=some s/\DN n=some s/\s.length<=2/\prn s=true/\s=opS n:=by
 have:n=1\/n=2\/n=3\/n=4\/n=5:=by omega
 rcases this with rfl | rfl | rfl | rfl | rfl
 ·exact⟨[43],rfl,rfl,by decide,by decide,rfl⟩
 ·exact⟨[45],rfl,rfl,by decide,by decide,rfl⟩
 ·exact⟨[42],rfl,rfl,by decide,by decide,rfl⟩
 ·exact⟨[60],rfl,rfl,by decide,by decide,rfl⟩
 ·exact⟨[61,61],rfl,rfl,by decide,by decide,rfl⟩
theorem VF{e:af}(c:FP e):uj e=some ((lvl e:Nat):Int):=by
 have f:=c.k0;have g:=c.k9;have a:e.kind=1\/e.kind=2\/e.kind=3\/e.kind=4\/e.kind=5\/e.kind=6\/e.kind=7\/e.kind=8\/e.kind=9:=by omega
 by_cases d:e.kind=6
 ·obtain⟨_,h,i⟩:=c.op d;have b:e.n=1\/e.n=2\/e.n=3\/e.n=4\/e.n=5:=by omega
  unfold uj lvl ES;rcases b with b | b | b | b | b<;>(rw[d,b];rfl)
 ·unfold uj lvl;rcases a with a | a | a | a | a | a | a | a | a<;>first | exact absurd a d | (rw[a];rfl)
theorem SK{e:af}(h:e.args.length=2):∃a b,e.args=[a,b]:=by
 cases d:e.args with
 | nil=>rw[d]at h;cases h
 | cons a r=>cases r with
  | nil=>rw[d]at h;cases h
  | cons b r=>cases r with
   | nil=>exact⟨a,b,rfl⟩
   | cons c r=>rw[d]at h;simp at h
theorem aen{e:af}(h:e.args.length=3):∃a b c,e.args=[a,b,c]:=by
 cases f:e.args with
 | nil=>rw[f]at h;cases h
 | cons a r=>cases r with
  | nil=>rw[f]at h;cases h
  | cons b r=>cases r with
   | nil=>rw[f]at h;cases h
   | cons c r=>cases r with
    | nil=>exact⟨a,b,c,rfl⟩
    | cons d r=>rw[f]at h;simp at h
theorem H6:∀(n:Nat),
  (∀e:af,siz e<n->vz e->wtE e<=1000->∃s,(dm n).1 e=some s/\(cu n).1 e=some s/\s.length+4<=200*wtE e/\prn s=true/\s=txt (pcE e)) /\
  (∀xs:List af,siz xs<n->(∀x,x∈xs->vz x)->wtL xs<=1000->∃s,(dm n).2.1 xs=some s/\(cu n).2.1 xs=some s/\s.length<=200*wtL xs/\prn s=true/\s=txt (Sv (xs.map pcE))) /\
  (∀(e:af) (b:Int),siz e+1<n->vz e->wtE e<=1000->∃s,(dm n).2.2 e b=some s/\(cu n).2.2 e b=some s/\s.length+2<=200*wtE e/\prn s=true/\∀β:Nat,b=(β:Int)->s=txt (pcA e β))
 | 0=>⟨fun _ h=>absurd h (Nat.not_lt_zero _),fun _ h=>absurd h (Nat.not_lt_zero _),fun _ _ h=>absurd h (Nat.not_lt_zero _)⟩
 | n+1=>by
  obtain⟨ihT,ihL,ihA⟩:=H6 n;refine⟨fun e X hv S=>?_,fun xs X hv S=>?_,fun e b X hv S=>?_⟩
  ·show ∃s,QW (dm n).1 (dm n).2.1 (dm n).2.2 e=some s/\JY (cu n).1 (cu n).2.1 (cu n).2.2 e=some s/\_
   cases hv with
   | mk _ p z=>
   have hce:=ahy (e:=e) (by omega);have ht:=NQ (e:=e) (by omega);have hargs:=Vm (e:=e);unfold JY QW;cases Y:(e.kind==1)with
   | true=>
    have:=p.num (eq_of_beq Y);have B:=ajl e.n (by omega) (by omega);exact⟨Go.Lib.itoa e.n,by simp only[ac,UE e.n (by omega) (by omega),zA],by simp only[ac,wW e.n (by omega) (by omega),zA],by omega,ak5 _ (by omega),by rw[pc1 (eq_of_beq Y)];simp[txt,tkT]⟩
   | false=>
   cases k2:(e.kind==2)with
   | true=>
    simp only[ac,aa];rw[gdp (by simp;omega),zA,gdp (by simp;omega),zA];exact⟨_,rfl,rfl,by simp;omega,by simp only[gy,p.pr];rfl,by rw[pc2 (eq_of_beq k2)];simp[txt,tkT]⟩
   | false=>
   cases k3:(e.kind==3)with
   | true=>exact⟨e.text,rfl,rfl,by omega,p.pr,by rw[pc3 (eq_of_beq k3)];simp[yY,mO,wR,iC,qX]⟩
   | false=>
   cases k4:(e.kind==4)with
   | true=>
    obtain⟨s,w,e1',B,f,j⟩:=ihL e.args (by omega) z (by omega);simp only[ac,aa,w,e1',zA];rw[gdp (by simp;omega),zA,gdp (by simp;omega),zA];exact⟨_,rfl,rfl,by simp;omega,by simp only[gy,f];rfl,by rw[pc4 (eq_of_beq k4)];simp[yY,mO,wR,iC,qX,j]⟩
   | false=>
   cases k5:(e.kind==5)with
   | true=>
    obtain⟨s,w,e1',B,f,j⟩:=ihL e.args (by omega) z (by omega);simp only[ac,aa,w,e1',zA];rw[gdp (by simp;omega),zA,gdp (by simp;omega),zA,gdp (by simp;omega),zA];exact⟨_,rfl,rfl,by simp;omega,by simp only[gy,p.pr,f];rfl,by rw[pc5 (eq_of_beq k5)];simp[yY,mO,wR,iC,qX,j]⟩
   | false=>
   cases Z:(e.kind==7)with
   | true=>
    obtain⟨a,b,d⟩:=SK (p.two (.inl (eq_of_beq Z)));have E:wtL e.args=wtE a+wtE b:=by rw[d,yT]
    obtain⟨s,w,e1',B,f,j⟩:=ihT a (by have:=fJ (x:=a) (e:=e) (by rw[d];simp);omega) (z a (by rw[d];simp)) (by omega);obtain⟨t,A,e2',T,q,v⟩:=ihT b (by have:=fJ (x:=b) (e:=e) (by rw[d];simp);omega) (z b (by rw[d];simp)) (by omega);have F:idx e.args 0=some a:=by rw[d];rfl
    have G:idx e.args 1=some b:=by rw[d];rfl
    simp only[ac,aa,F,G,aQ,w,e1',A,e2',zA];rw[gdp (by simp;omega),zA,gdp (by simp;omega),zA,gdp (by simp;omega),zA,gdp (by simp;omega),zA,gdp (by simp;omega),zA];exact⟨_,rfl,rfl,by simp;omega,by simp only[gy,p.pr,f,q];rfl,by rw[pc7 (eq_of_beq Z) d];simp[yY,mO,wR,iC,qX,j,v]⟩
   | false=>
   cases k9:(e.kind==9)with
   | true=>
    have N:(e.kind==8)=false:=by rw[eq_of_beq k9];rfl
    obtain⟨a,b,d⟩:=SK (p.two (.inr (eq_of_beq k9)));have E:wtL e.args=wtE a+wtE b:=by rw[d,yT]
    obtain⟨s,w,e1',B,f,j⟩:=ihT a (by have:=fJ (x:=a) (e:=e) (by rw[d];simp);omega) (z a (by rw[d];simp)) (by omega);obtain⟨t,A,e2',T,q,v⟩:=ihT b (by have:=fJ (x:=b) (e:=e) (by rw[d];simp);omega) (z b (by rw[d];simp)) (by omega);have F:idx e.args 0=some a:=by rw[d];rfl
    have G:idx e.args 1=some b:=by rw[d];rfl
    simp only[ac,aa,N,F,G,aQ,w,e1',A,e2',zA];rw[gdp (by simp;omega),zA,gdp (by simp;omega),zA,gdp (by simp;omega),zA,gdp (by simp;omega),zA,gdp (by simp;omega),zA];exact⟨_,rfl,rfl,by simp;omega,by simp only[gy,p.pr,f,q];rfl,by rw[pc9 (eq_of_beq k9) d];simp[yY,mO,wR,iC,qX,j,v]⟩
   | false=>
   cases N:(e.kind==8)with
   | true=>
    obtain⟨a,b,c,d⟩:=aen (p.three (eq_of_beq N));have E:wtL e.args=wtE a+(wtE b+wtE c):=by rw[d,U7]
    obtain⟨s,w,e1',B,f,j⟩:=ihT a (by have:=fJ (x:=a) (e:=e) (by rw[d];simp);omega) (z a (by rw[d];simp)) (by omega);obtain⟨t,A,e2',T,q,v⟩:=ihT b (by have:=fJ (x:=b) (e:=e) (by rw[d];simp);omega) (z b (by rw[d];simp)) (by omega);obtain⟨u,e3,e3',U,C,D⟩:=ihT c (by have:=fJ (x:=c) (e:=e) (by rw[d];simp);omega) (z c (by rw[d];simp)) (by omega);have F:idx e.args 0=some a:=by rw[d];rfl
    have G:idx e.args 1=some b:=by rw[d];rfl
    have i2:idx e.args 2=some c:=by rw[d];rfl
    simp only[ac,aa,F,G,i2,aQ,w,e1',A,e2',e3,e3',zA];rw[gdp (by simp;omega),zA,gdp (by simp;omega),zA,gdp (by simp;omega),zA,gdp (by simp;omega),zA,gdp (by simp;omega),zA];exact⟨_,rfl,rfl,by simp;omega,by simp only[gy,f,q,C];rfl,by rw[pc8 (eq_of_beq N) d];simp[yY,mO,wR,iC,qX,j,v,D]⟩
   | false=>
    have V:e.kind=6:=by
     have q0:=p.k0;have q9:=p.k9;have n1:¬e.kind=1:=by simpa using Y
     have n2:¬e.kind=2:=by simpa using k2
     have n3:¬e.kind=3:=by simpa using k3
     have n4:¬e.kind=4:=by simpa using k4
     have n5:¬e.kind=5:=by simpa using k5
     have n7:¬e.kind=7:=by simpa using Z
     have n8:¬e.kind=8:=by simpa using N
     have n9:¬e.kind=9:=by simpa using k9
     omega
    obtain⟨ha,hn1,hn5⟩:=p.op V;obtain⟨a,b,d⟩:=SK ha;have E:wtL e.args=wtE a+wtE b:=by rw[d,yT]
    have za:=fJ (x:=a) (e:=e) (by rw[d];simp);have zb:=fJ (x:=b) (e:=e) (by rw[d];simp);have L:=VF p;have hlv:lvl e=ES e.n:=by unfold lvl;rw[if_neg (by omega),if_pos V]
    have hl4:=aoJ e;obtain⟨r,O⟩:∃r:Int,r=((ES e.n:Nat):Int):=⟨_,rfl⟩;rw[hlv,<- O]at L;have P:w64 ((ES e.n:Int)+1)=((ES e.n+1:Nat):Int):=by rw[aX (by omega) (by omega)];omega
    have e0':=(aaC e).trans L;obtain⟨s,w,f1,B,f,j⟩:=ihA a 2 (by omega) (z a (by rw[d];simp)) (by omega);obtain⟨s',e1',f1',l1',pl1',pt1'⟩:=ihA a r (by omega) (z a (by rw[d];simp)) (by omega);obtain⟨t,A,f2,T,q,v⟩:=ihA b (w64 (r+1)) (by omega) (z b (by rw[d];simp)) (by omega);obtain⟨o,e3,f3,U,C,D⟩:=aiY e.n hn1 hn5;have F:idx e.args 0=some a:=by rw[d];rfl
    have G:idx e.args 1=some b:=by rw[d];rfl
    simp only[aa,F,G,aQ,L,e0',w,e1',A,e3,f1,f1',f2,f3,zA];cases H:(r==1)with
    | true=>
     have I:ES e.n=1:=by have:=eq_of_beq H;omega
     simp only[ac];rw[gdp (by simp;omega),zA,gdp (by simp;omega),zA,gdp (by simp;omega),zA,gdp (by simp;omega),zA];exact⟨_,rfl,rfl,by simp;omega,by simp only[gy,f,q,C];rfl,by rw[pc6 V d,ae4,if_pos I];simp[yY,mO,wR,iC,qX,j 2 rfl,v (ES e.n+1) (by rw[O];exact P),D]⟩
    | false=>
     have I:¬ES e.n=1:=fun h=>by rw[O,h]at H;cases H
     simp only[aa];rw[gdp (by simp;omega),zA,gdp (by simp;omega),zA,gdp (by simp;omega),zA,gdp (by simp;omega),zA];exact⟨_,rfl,rfl,by simp;omega,by simp only[gy,pl1',q,C];rfl,by rw[pc6 V d,ae4,if_neg I];simp[yY,mO,wR,iC,qX,pt1' (ES e.n) O,v (ES e.n+1) (by rw[O];exact P),D]⟩
  ·have hxl:=Wq xs;have hA:∀(g:af->Option Str),(∀x,x∈xs->∃s,(dm n).1 x=some s/\g x=some s/\s.length+4<=200*wtE x/\prn s=true/\s=txt (pcE x))->∃l:List Str,l=(xs.map pcE).map txt/\l.length=xs.length/\Go.Lib.lens l+4*xs.length<=200*wtL xs/\(∀s,s∈l->prn s=true)/\∀(i:Nat) (x:af),xs[i]?=some x->∃s:Str,l[i]?=some s/\(dm n).1 x=some s/\g x=some s:=by
    intro g;clear X hv S hxl;induction xs with
    | nil=>exact fun _=>⟨[],rfl,rfl,by simp[Go.Lib.lens,wtL],fun s h=>(by cases h),fun i x h=>by simp at h⟩
    | cons x r ih=>
     intro m;obtain⟨l,h0,h1,h2,h4,h3⟩:=ih (fun y M=>m y (aq _ M));obtain⟨s,Q,W,q3,q4,q5⟩:=m x (by simp);refine⟨s::l,by rw[h0,q5];rfl,by simp[h1],?_,fun u hu=>(ba.1 hu).elim (fun e=>by rw[e];exact q4) (h4 u),fun i y M=>?_⟩
     ·have w:Go.Lib.lens (s::l)=s.length+Go.Lib.lens l:=by simp[Go.Lib.lens]
      have A:wtL (x::r)=wtE x+wtL r:=rfl;rw[w,A];simp only[List.length_cons];omega
     ·cases i with
      | zero=>simp at M;subst M;exact⟨s,rfl,Q,W⟩
      | succ i=>simp at M;simpa using h3 i y M
   obtain⟨l,l0,B,T,l4,U⟩:=hA (cu n).1 fun x m=>ihT x (by have:=Zv m;omega) (hv x m) (by have:=Wp m;omega)
   have hJ:([44,32]:Str).length*l.length+Go.Lib.lens l<=1000000000:=by simp only[List.length_cons,List.length_nil];rw[B];omega
   have eJi:=ajw l [44,32] (by omega) hJ;have eJs:=ain l [44,32] (by omega) hJ (by simp);have lj:=QN l [44,32];refine⟨Go.Lib.join l [44,32],?_,?_,by simp only[List.length_cons,List.length_nil]at lj;omega,ak4 _ rfl l l4,by rw[l0,abL]⟩
   ·show KI (dm n).1 (dm n).2.1 (dm n).2.2 xs=_
    unfold KI;have key:=dL (g:=fun (k:(List Str)×(List af)×Int×Int)=>
     bif (decide (k.2.2.2<k.2.2.1))then
      (idx k.2.1 k.2.2.2).bind fun A=>
      ((dm n).1 (ah A)).bind fun R=>
      (gd (k.1.length+([R]:List Str).length)).bind fun _=>
      some (.inl (k.1++([R]:List Str),k.2.1,k.2.2.1,w64 (k.2.2.2+1)))
     else
      (
       (aaW k.1 [44,32]).bind fun r4=>
       some (r4)
      ).bind fun r=>some (.inr r)) (fun (s:List Str) (i:Nat)=>((s,xs,(xs.length:Int),(i:Int)):(List Str)×(List af)×Int×Int)) xs (fun i s=>s=l.take i) (fun r=>r=Go.Lib.join l [44,32]) (fun i x s m J=>.inl ?_) (fun s J=>?_) [] rfl
    ·obtain⟨r,h,rfl⟩:=key;exact h
    ·obtain⟨t,Q,W,q3⟩:=U i x m;subst J;have hi:=(zC.1 m).1;refine⟨l.take (i+1),?_,rfl⟩;simp only[dD m,ac,aA,m,zA,aQ,W,dI m (by omega)];rw[gdp (by simp;omega)];obtain⟨K,rfl⟩:=zC.1 Q;rw[List.take_succ_eq_append_getElem K];rfl
    ·subst J;refine⟨Go.Lib.join l [44,32],?_,rfl⟩;have e:l.take xs.length=l:=by rw[<- B,List.take_length]
     simp only[bY,aa,e,eJi,zA]
   ·show JZ (cu n).1 (cu n).2.1 (cu n).2.2 xs=_
    unfold JZ;have key:=dL (g:=fun (k:(List af)×(List Str)×Int)=>
     bif (decide (k.2.2<(k.1.length:Int)))then
      (idx k.1 k.2.2).bind fun A=>
      ((cu n).1 (ah A)).bind fun R=>
      (gd (k.2.1.length+([R]:List Str).length)).bind fun _=>
      some (.inl (k.1,k.2.1++([R]:List Str),w64 (k.2.2+1)))
     else
      (
       (ZR k.2.1 [44,32]).bind fun r4=>
       some (r4)
      ).bind fun r=>some (.inr r)) (fun (s:List Str) (i:Nat)=>((xs,s,(i:Int)):(List af)×(List Str)×Int)) xs (fun i s=>s=l.take i) (fun r=>r=Go.Lib.join l [44,32]) (fun i x s m J=>.inl ?_) (fun s J=>?_) [] rfl
    ·obtain⟨r,h,rfl⟩:=key;exact h
    ·obtain⟨t,Q,W,q3⟩:=U i x m;subst J;have hi:=(zC.1 m).1;refine⟨l.take (i+1),?_,rfl⟩;simp only[dD m,ac,aA,m,zA,aQ,q3,dI m (by omega)];rw[gdp (by simp;omega)];obtain⟨K,rfl⟩:=zC.1 Q;rw[List.take_succ_eq_append_getElem K];rfl
    ·subst J;refine⟨Go.Lib.join l [44,32],?_,rfl⟩;have e:l.take xs.length=l:=by rw[<- B,List.take_length]
     simp only[bY,aa,e,eJs,zA]
  ·show ∃s,GU (dm n).1 (dm n).2.1 (dm n).2.2 e b=some s/\Xn (cu n).1 (cu n).2.1 (cu n).2.2 e b=some s/\_
   unfold Xn GU;obtain⟨s,w,f1,B,f,j⟩:=ihT e (by omega) hv S;have p:FP e:=by cases hv with | mk _ p z=>exact p
   have L:=VF p;have e0':=(aaC e).trans L;simp only[aQ,w,f1,L,e0',zA];cases hd:decide (((lvl e:Nat):Int)<b)with
   | true=>
    simp only[ac];rw[gdp (by simp;omega),zA,gdp (by simp;omega),zA];exact⟨_,rfl,rfl,by simp;omega,by simp only[gy,f];rfl,fun β hβ=>by unfold pcA atP;rw[if_pos (show lvl e<β by have:=of_decide_eq_true hd;omega)];simp[yY,mO,wR,iC,qX,j]⟩
   | false=>exact⟨s,rfl,rfl,by omega,f,fun β hβ=>by unfold pcA atP;rw[if_neg (show ¬lvl e<β by have:=of_decide_eq_false hd;omega)];exact j⟩
theorem ag5(e:af)(c:wtE e<=1048576):∃s,oh e=some s/\lg e=some s/\s.length<=8000/\prn s=true/\(gU e=some true->s=txt (pcE e)):=by
 obtain⟨v,d,f,h⟩:=vI e c;unfold oh lg;simp only[aQ,d,f,zA];cases v with
 | false=>exact⟨[],rfl,rfl,by simp,rfl,fun h=>(by cases h)⟩
 | true=>
  obtain⟨hv,j⟩:=h rfl;obtain⟨s,a,b,k,g,i⟩:=(H6 (siz e+1)).1 e (Nat.lt_succ_self _) hv (by omega);have a:Yd e=some s:=a;have b:Pq e=some s:=b;simp only[aL,aa,a,b,zA];exact⟨s,rfl,rfl,by omega,g,fun _=>i⟩
end Go.Proofs.YtapgeemjgckgaaaGreatDoor
/- Plain laws: numbers with a sign, as both sides read them. -/
namespace Go.Proofs.YtapgeemjgckgaaaGreatDoor
open Go.Abs Go.Proofs
theorem alc:∀(n:Nat) (s:Str) (q:Nat),0<n->n<10 ^ q->n<9223372036854775808->s.length+q<=40->ak sF (-(n:Int),true,s)=some (45::(Go.Lib.decDigits n++s)):=by
 intro n;induction n using Nat.strongRecOn with
 | _ n ih=>
  intro s q m a o t;have i:0<q:=by
   rcases Nat.eq_zero_or_pos q with h | h
   ·subst h;simp at a;omega
   ·exact h
  have e:(-(n:Int) != 0)=true:=by simp;omega
  have em:(-(n:Int)).tmod 10 = -((n % 10:Nat):Int):=by
   rw[Int.neg_tmod,Int.tmod_eq_emod_of_nonneg (by omega)];omega
  have ed:(-(n:Int)).tdiv 10 = -((n / 10:Nat):Int):=by
   rw[Int.neg_tdiv,Int.tdiv_eq_ediv_of_nonneg (by omega)];omega
  have f:w64 ((-(n:Int)).tdiv 10) = -((n / 10:Nat):Int):=by
   rw[ed];exact aX (by omega) (by omega)
  have g:gd ([UInt8.ofNat (48+n % 10)].length+s.length)=some ():=gdp (by simp;omega);have hstep:sF (-(n:Int),true,s)=some (.inl (-((n / 10:Nat):Int),true,UInt8.ofNat (48+n % 10)::s)):=by
   unfold sF;by_cases hd:n % 10=0
   ·have b:decide ((-(n:Int)).tmod 10<0)=false:=by rw[em];simp;omega
    have c:bytesOf [w8 (w64 (48+((-(n:Int)).tmod 10)))]=[UInt8.ofNat (48+n % 10)]:=by
     rw[em,hd];rfl
    simp only[e,b,ac,aa,c,g,zA,f];rfl
   ·have b:decide ((-(n:Int)).tmod 10<0)=true:=by rw[em];simp;omega
    have j:w64 (0-(-(n:Int)).tmod 10)=((n % 10:Nat):Int):=by
     rw[em,aX (by omega) (by omega)];omega
    have c:bytesOf [w8 (w64 (48+(w64 (0-(-(n:Int)).tmod 10))))]=[UInt8.ofNat (48+n % 10)]:=by
     rw[j];exact Sj _ (by omega)
    simp only[e,b,ac,aa,c,g,zA,f];rfl
  rw[aI,hstep];simp only;by_cases d:n<10
  ·have k:n / 10=0:=by omega
   rw[k,aI];have:sF (-((0:Nat):Int),true,UInt8.ofNat (48+n % 10)::s)=some (.inr (45::(UInt8.ofNat (48+n % 10)::s))):=by
    show ((gd ([45].length+(UInt8.ofNat (48+n % 10)::s).length)).bind fun _=>some (([45]:Str)++(UInt8.ofNat (48+n % 10)::s))).bind (fun r=>some (Sum.inr r))=_
    rw[gdp (by simp;omega)];rfl
   rw[this];rw[Go.Lib.decDigits,dif_pos d,Nat.mod_eq_of_lt d];rfl
  ·have l:10 ^ q=10 ^ (q-1)*10:=by rw[<- Nat.pow_succ];congr 1;omega
   rw[ih (n / 10) (by omega) (UInt8.ofNat (48+n % 10)::s) (q-1) (by omega) (by rw[l]at a;generalize 10 ^ (q-1)=p at a ⊢;omega) (by omega) (by simp;omega)];conv=>rhs;rw[Go.Lib.decDigits,dif_neg d]
   simp
theorem BO(n:Int)(d:-9223372036854775808<n)(a:n<9223372036854775808):fU n=some (Go.Lib.itoa n):=by
 by_cases b:0<=n
 ·exact wW n b a
 ·obtain⟨m,rfl⟩:∃m:Nat,n = -(m:Int):=⟨n.natAbs,by omega⟩;rw[AL];have e:(-(m:Int)==0)=false:=by simp;omega
  have c:decide (-(m:Int)<0)=true:=by simp;omega
  rw[e,c,aa,alc m [] 19 (by omega) (by have:(10:Nat) ^ 19=10000000000000000000:=rfl;omega) (by omega) (by decide)];unfold Go.Lib.itoa;rw[if_pos (by omega),List.append_nil];have:(-(m:Int)).natAbs=m:=by omega
  rw[this]
theorem sG:∀(n:Nat),(∀c,c∈Go.Lib.decDigits n->jm c)/\aY 0 (Go.Lib.decDigits n)=n/\Go.Lib.decDigits n≠[]:=by
 intro n;induction n using Nat.strongRecOn with
 | _ n ih=>
  have hd:∀d,d<10->(UInt8.ofNat (48+d)).toNat=48+d:=fun d h=>by
   rw[UInt8.toNat_ofNat'];omega
  rw[Go.Lib.decDigits];by_cases b:n<10
  ·rw[dif_pos b];refine⟨fun c a=>?_,?_,by simp⟩
   ·rw[List.mem_singleton.1 a];unfold jm;rw[hd n b];omega
   ·show 0*10+((UInt8.ofNat (48+n)).toNat-48)=n
    rw[hd n b];omega
  ·rw[dif_neg b];obtain⟨f,e,g⟩:=ih (n / 10) (by omega);refine⟨fun c a=>?_,?_,by simp⟩
   ·rcases List.mem_append.1 a with a | a
    ·exact f c a
    ·rw[List.mem_singleton.1 a];unfold jm;rw[hd _ (by omega)];omega
   ·unfold aY at e ⊢;rw[List.foldl_append,e];show n / 10*10+((UInt8.ofNat (48+n % 10)).toNat-48)=n
    rw[hd _ (by omega)];omega
theorem aaH(n:Nat):Go.Lib.itoa (n:Int)=Go.Lib.decDigits n:=by
 unfold Go.Lib.itoa;rw[if_neg (by omega)];rfl
theorem itoa_neg(n:Nat)(h:0<n):Go.Lib.itoa (-(n:Int))=45::Go.Lib.decDigits n:=by
 unfold Go.Lib.itoa;rw[if_pos (by omega)];have:(-(n:Int)).natAbs=n:=by omega
 rw[this]
theorem Ll(v:Int)(f:-999999999999<=v)(g:v<=999999999999):Go.Lib.atoiAll (Go.Lib.itoa v)=.ok v:=by
 by_cases i:0<=v
 ·obtain⟨n,rfl⟩:∃n:Nat,v=n:=⟨v.toNat,by omega⟩;obtain⟨a,b,c⟩:=sG n;have d:=Jl n 12 (by decide) (by omega);rw[aaH,abV _ a c d,b]
 ·obtain⟨n,rfl⟩:∃n:Nat,v = -(n:Int):=⟨v.natAbs,by omega⟩;obtain⟨a,b,c⟩:=sG n;have d:=Jl n 12 (by decide) (by omega);rw[itoa_neg n (by omega)];have j:10 ^ (Go.Lib.decDigits n).length<=10 ^ 12:=Nat.pow_le_pow_right (by decide) d;unfold Go.Lib.atoiAll;simp only;rw[if_pos (.inr rfl)];unfold Go.Lib.parseMag;rw[if_neg c,wY _ 0 a (by omega),b];simp only;have e:((45:UInt8).toNat=45)=True:=by simp
  rw[if_neg (fun h=>h.1 rfl),if_neg (fun h=>by have:=h.2;omega),if_pos (show UInt8.toNat 45=45 from rfl)]
theorem MS(t:Str)(lo hi:Int)(d:t.length<=34359738368)(f:-999999999999<=lo)(g:hi<=999999999999) :
  ∃v ok,mG t lo hi=some (v,ok)/\(ok=true->Go.Lib.itoa v=t/\lo<=v/\v<=hi)/\(ok=false->v=0/\∀u,lo<=u->u<=hi->Go.Lib.itoa u≠t):=by
 unfold mG qC;rw[gdp d,zA];have no:∀u,lo<=u->u<=hi->Go.Lib.itoa u=t->Go.Lib.atoiAll t=.ok u:=fun u b c e=>by rw[<- e];exact Ll u (by omega) (by omega)
 cases h:Go.Lib.atoiAll t with
 | ok v=>
  simp only;by_cases a:v<lo\/hi<v\/Go.Lib.itoa v≠t
  ·rw[if_pos a];refine⟨0,false,rfl,fun h=>(by cases h),fun _=>⟨rfl,fun u b c e=>?_⟩⟩;have:=no u b c e;rw[h]at this;injection this with this;subst this;rcases a with a | a | a
   ·omega
   ·omega
   ·exact a e
  ·rw[if_neg a];refine⟨v,true,rfl,fun _=>⟨?_,by omega,by omega⟩,fun h=>(by cases h)⟩;rcases Decidable.em (Go.Lib.itoa v=t)with e | e
   ·exact e
   ·exact absurd (.inr (.inr e)) a
 | range=>exact⟨0,false,rfl,fun h=>(by cases h),fun _=>⟨rfl,fun u b c e=>by have:=no u b c e;rw[h]at this;cases this⟩⟩
 | _=>exact⟨0,false,rfl,fun h=>(by cases h),fun _=>⟨rfl,fun u b c e=>by have:=no u b c e;rw[h]at this;cases this⟩⟩
abbrev RdX:=Str×Bool×Str×Int×Int
noncomputable def Gl:RdX->Option (RdX⊕(Int×Bool)):=(fun (a:Str×Bool×Str×Int×Int)=>
      bif (decide (a.2.2.2.2<(a.2.2.1.length:Int)))then
       (idx a.2.2.1 a.2.2.2.2).bind fun b=>
       bif (decide ((b.toNat:Int)<48))then
        some (.inr (0,false))
       else
        (idx a.2.2.1 a.2.2.2.2).bind fun c=>
        bif (decide ((c.toNat:Int)>57))then
         some (.inr (0,false))
        else
         (idx a.2.2.1 a.2.2.2.2).bind fun d=>
         some (.inl (a.1,a.2.1,a.2.2.1,w64 ((w64 (10*a.2.2.2.1))+(w64 (w8 ((d.toNat:Int)-48)))),w64 (a.2.2.2.2+1)))
      else
      (
       bif a.2.1 then
        (fU (w64 (0-a.2.2.2.1))).bind fun e=>
        bif (!(e==a.1))then
         some (0,false)
        else
         some (w64 (0-a.2.2.2.1),true)
       else
        (fU a.2.2.2.1).bind fun f=>
        bif (!(f==a.1))then
         some (0,false)
        else
         some (a.2.2.2.1,true)
      ).bind fun r=>some (.inr r)
  )
def sgn(B:Bool)(n:Nat):Int:=if B=true then -(n:Int)else n
def RD(s:Str)(B:Bool)(n:Nat):Int×Bool:=if Go.Lib.itoa (sgn B n)=s then (sgn B n,true)else (0,false)
theorem Wx(a:Str)(c:UInt8):aY 0 (a++[c])=aY 0 a*10+(c.toNat-48):=by
 unfold aY;rw[List.foldl_append];rfl
theorem aiD(s u:Str)(B:Bool)(q:u.length<=12):∃r,ak Gl (s,B,u,0,0)=some r/\((r=(0,false)/\∃c,c∈u/\¬jm c)\/((∀c,c∈u->jm c)/\r=RD s B (aY 0 u))):=by
 have k:∀i,i<=u.length->(∀c,c∈u.take i->jm c)->aY 0 (u.take i)<10 ^ 12:=fun i hi h=>by
  have m:=tN (u.take i) 0 h;have o:10 ^ (u.take i).length<=10 ^ 12:=Nat.pow_le_pow_right (by decide) (by rw[a8];omega);omega
 refine dL (g:=Gl) (fun (n:Int) (i:Nat)=>((s,B,u,n,(i:Int)):RdX)) u (fun i n=>(∀c,c∈u.take i->jm c)/\n=(aY 0 (u.take i):Int)) _ (fun i c n a f=>?_) (fun n f=>?_) 0 ⟨by simp,by simp[aY]⟩
 ·obtain⟨b,rfl⟩:=f;have hi:=(zC.1 a).1;have hv:=k i (by omega) b;have l:u.take (i+1)=u.take i++[c]:=by
   obtain⟨hi,rfl⟩:=zC.1 a;rw[List.take_succ_eq_append_getElem hi]
  simp only[Gl,dD a,ac,aA,a,zA,dI a (by omega)];by_cases m:c.toNat<48
  ·have e:decide ((c.toNat:Int)<48)=true:=by simp;omega
   rw[e];exact .inr ⟨_,rfl,.inl ⟨rfl,c,zG a,fun h=>by unfold jm at h;omega⟩⟩
  ·have e:decide ((c.toNat:Int)<48)=false:=by simp;omega
   rw[e];by_cases o:c.toNat>57
   ·have j:decide ((c.toNat:Int)>57)=true:=by simp;omega
    rw[j];exact .inr ⟨_,rfl,.inl ⟨rfl,c,zG a,fun h=>by unfold jm at h;omega⟩⟩
   ·have j:decide ((c.toNat:Int)>57)=false:=by simp;omega
    rw[j];have p:w8 ((c.toNat:Int)-48)=((c.toNat-48:Nat):Int):=by
     simp only[w8,IntKind.wrap,IntKind.bits,IntKind.signed];simp;omega
    have ew:w64 (w64 (10*((aY 0 (u.take i):Nat):Int))+w64 (w8 ((c.toNat:Int)-48)))=((aY 0 (u.take (i+1)):Nat):Int):=by
     rw[p,l,Wx,aX (n:=10*_) (by omega) (by omega),aX (n:=((c.toNat-48:Nat):Int)) (by omega) (by omega),aX (by omega) (by omega)];omega
    refine .inl ⟨_,by simp only[aa,ew],fun d hd=>?_,rfl⟩;rw[l]at hd;rcases List.mem_append.1 hd with hd | hd
    ·exact b d hd
    ·rw[List.mem_singleton.1 hd];unfold jm;omega
 ·obtain⟨b,rfl⟩:=f;have hv:=k u.length (aw _) b;rw[List.take_length]at b hv ⊢;refine⟨RD s B (aY 0 u),?_,.inr ⟨b,rfl⟩⟩;simp only[Gl,bY,aa];unfold RD;cases B with
  | true=>
   have e:w64 (0-((aY 0 u:Nat):Int))=sgn true (aY 0 u):=by
    rw[aX (by omega) (by omega)];unfold sgn;rw[if_pos rfl];omega
   simp only[ac,e];rw[BO _ (by unfold sgn;rw[if_pos rfl];omega) (by unfold sgn;rw[if_pos rfl];omega),zA];by_cases h:Go.Lib.itoa (sgn true (aY 0 u))=s
   ·have:(Go.Lib.itoa (sgn true (aY 0 u))==s)=true:=by simp[h]
    rw[if_pos h,this];rfl
   ·have:(Go.Lib.itoa (sgn true (aY 0 u))==s)=false:=by simpa using h
    rw[if_neg h,this];rfl
  | false=>
   have e:sgn false (aY 0 u)=((aY 0 u:Nat):Int):=rfl;rw[e];simp only[aa];rw[BO _ (by omega) (by omega),zA];by_cases h:Go.Lib.itoa ((aY 0 u:Nat):Int)=s
   ·have:(Go.Lib.itoa ((aY 0 u:Nat):Int)==s)=true:=by simp[h]
    rw[if_pos h,this];rfl
   ·have:(Go.Lib.itoa ((aY 0 u:Nat):Int)==s)=false:=by simpa using h
    rw[if_neg h,this];rfl
theorem aib(a:Str)(b:Int):DU a b=bif (decide ((a.length:Int)>0))then
  ((idx a 0).bind fun c=>
  bif ((c.toNat:Int)==45)then
   ((eff.cutL a (some 1) none).bind fun d=>
   bif (decide ((d.length:Int)<1))then some (0,false)
   else bif (decide ((d.length:Int)>b))then some (0,false)
   else ak Gl (a,((c.toNat:Int)==45),d,0,0))
  else
  bif (decide ((a.length:Int)<1))then some (0,false)
  else bif (decide ((a.length:Int)>b))then some (0,false)
  else ak Gl (a,((c.toNat:Int)==45),a,0,0))
 else
 bif (decide ((a.length:Int)<1))then some (0,false)
 else bif (decide ((a.length:Int)>b))then some (0,false)
 else ak Gl (a,false,a,0,0):=rfl
theorem Rz(s:Str)(B:Bool)(n:Nat)(h:n<10 ^ 12):-999999999999<=(RD s B n).1/\(RD s B n).1<=999999999999:=by
 unfold RD;split
 ·show -999999999999<=sgn B n/\sgn B n<=999999999999
  unfold sgn;split<;>omega
 ·exact⟨by decide,by decide⟩
theorem VX(u:Str)(a:u.length<=12)(h:∀c,c∈u->jm c):aY 0 u<10 ^ 12:=by
 have b:=tN u 0 h;have d:10 ^ u.length<=10 ^ 12:=Nat.pow_le_pow_right (by decide) a;omega
theorem VO(s:Str)(B:Bool)(n:Nat):((RD s B n).2=true->Go.Lib.itoa (RD s B n).1=s)/\((RD s B n).2=false->(RD s B n).1=0/\Go.Lib.itoa (sgn B n)≠s):=by
 unfold RD;split
 ·rename_i h;exact⟨fun _=>h,fun h=>by cases h⟩
 ·rename_i h;exact⟨fun h=>(by cases h),fun _=>⟨rfl,h⟩⟩
theorem O9(t:Str)(C:t.length<=34359738368) :
  ∃v ok,jf t=some (v,ok)/\(ok=true->Go.Lib.itoa v=t/\-999999999999<=v/\v<=999999999999)/\(ok=false->v=0/\∀u,-999999999999<=u->u<=999999999999->Go.Lib.itoa u≠t):=by
 have key:∃r,DU t 12=some r/\(r.2=true->Go.Lib.itoa r.1=t/\-999999999999<=r.1/\r.1<=999999999999)/\(r.2=false->r.1=0/\∀u,-999999999999<=u->u<=999999999999->Go.Lib.itoa u≠t):=by
  have no:(∀u,-999999999999<=u->u<=999999999999->Go.Lib.itoa u≠t)->∃r,(some (0,false):Option (Int×Bool))=some r/\(r.2=true->Go.Lib.itoa r.1=t/\-999999999999<=r.1/\r.1<=999999999999)/\(r.2=false->r.1=0/\∀u,-999999999999<=u->u<=999999999999->Go.Lib.itoa u≠t):=fun h=>⟨_,rfl,fun h=>(by cases h),fun _=>⟨rfl,h⟩⟩
  have pos:∀u:Int,-999999999999<=u->u<=999999999999->(∃n:Nat,u=n/\Go.Lib.itoa u=Go.Lib.decDigits n/\n<10 ^ 12)\/∃n:Nat,0<n/\u = -(n:Int)/\Go.Lib.itoa u=45::Go.Lib.decDigits n/\n<10 ^ 12:=by
   intro u b a;by_cases s:0<=u
   ·obtain⟨n,rfl⟩:∃n:Nat,u=n:=⟨u.toNat,by omega⟩;exact .inl ⟨n,rfl,aaH n,by omega⟩
   ·obtain⟨n,rfl⟩:∃n:Nat,u = -(n:Int):=⟨u.natAbs,by omega⟩;exact .inr ⟨n,by omega,rfl,itoa_neg n (by omega),by omega⟩
  rw[aib];cases t with
  | nil=>
   refine no fun u b a e=>?_
   rcases pos u b a with ⟨n,_,f,_⟩ | ⟨n,_,_,f,_⟩
   ·rw[f]at e;exact (sG n).2.2 e
   ·rw[f]at e;cases e
  | cons c r=>
   have D:decide (((c::r).length:Int)>0)=true:=by simp
   have w:idx (c::r) 0=some c:=rfl;rw[D];simp only[ac,w,zA];have E:r.length<=34359738368:=by simp at C;omega
   by_cases o:c.toNat=45
   ·have G:c=45:=UInt8.toNat_inj.1 o;have l:((c.toNat:Int)==45)=true:=by simp;omega
    have hcut:eff.cutL (c::r) (some 1) none=some r:=Dl (c::r) 1 (by simp);simp only[l,ac,hcut,zA];have dig:∀u,-999999999999<=u->u<=999999999999->Go.Lib.itoa u=c::r->∃n:Nat,0<n/\u = -(n:Int)/\r=Go.Lib.decDigits n/\n<10 ^ 12:=by
     intro u b a e;rcases pos u b a with ⟨n,_,f,_⟩ | ⟨n,s,j,f,k⟩
     ·rw[f]at e;have:=(sG n).1 c (by rw[e];simp);unfold jm at this;omega
     ·rw[f]at e;injection e with _ e;exact⟨n,s,j,e.symm,k⟩
    by_cases y:r.length=0
    ·have p:decide ((r.length:Int)<1)=true:=by simp;omega
     rw[p];refine no fun u b a e=>?_
     obtain⟨n,_,_,i,_⟩:=dig u b a e;rw[List.length_eq_zero_iff.1 y]at i;exact (sG n).2.2 i.symm
    ·have p:decide ((r.length:Int)<1)=false:=by simp;omega
     rw[p];by_cases g:r.length<=12
     ·have f:decide ((r.length:Int)>12)=false:=by simp;omega
      rw[f];simp only[aa];obtain⟨x,z,A⟩:=aiD (c::r) r true g;refine⟨x,z,?_⟩;rcases A with ⟨rfl,d,hd,m⟩ | ⟨hall,rfl⟩
      ·refine⟨fun h=>(by cases h),fun _=>⟨rfl,fun u b a e=>?_⟩⟩;obtain⟨n,_,_,i,_⟩:=dig u b a e;rw[i]at hd;exact m ((sG n).1 d hd)
      ·obtain⟨B,q⟩:=VO (c::r) true (aY 0 r);refine⟨fun h=>⟨B h,Rz _ _ _ (VX r g hall)⟩,fun h=>⟨(q h).1,fun u b a e=>?_⟩⟩;obtain⟨n,_,j,i,_⟩:=dig u b a e;have:aY 0 r=n:=by rw[i];exact (sG n).2.1
       apply (q h).2;rw[this,<- e,j];rfl
     ·have f:decide ((r.length:Int)>12)=true:=by simp;omega
      rw[f];refine no fun u b a e=>?_
      obtain⟨n,_,_,i,k⟩:=dig u b a e;have:=Jl n 12 (by decide) k;rw[<- i]at this;exact g this
   ·have l:((c.toNat:Int)==45)=false:=by simp;omega
    have p:decide (((c::r).length:Int)<1)=false:=by simp;omega
    simp only[l,aa,p];have dig:∀u,-999999999999<=u->u<=999999999999->Go.Lib.itoa u=c::r->∃n:Nat,u=(n:Int)/\c::r=Go.Lib.decDigits n/\n<10 ^ 12:=by
     intro u b a e;rcases pos u b a with ⟨n,j,f,k⟩ | ⟨n,s,j,f,k⟩
     ·rw[f]at e;exact⟨n,j,e.symm,k⟩
     ·rw[f]at e;injection e with e _;exact absurd (by rw[<- e];rfl) o
    by_cases g:(c::r).length<=12
    ·have f:decide (((c::r).length:Int)>12)=false:=by simp at g ⊢;omega
     rw[f];simp only[aa];obtain⟨x,z,A⟩:=aiD (c::r) (c::r) false g;refine⟨x,z,?_⟩;rcases A with ⟨rfl,d,hd,m⟩ | ⟨hall,rfl⟩
     ·refine⟨fun h=>(by cases h),fun _=>⟨rfl,fun u b a e=>?_⟩⟩;obtain⟨n,_,i,_⟩:=dig u b a e;rw[i]at hd;exact m ((sG n).1 d hd)
     ·obtain⟨B,q⟩:=VO (c::r) false (aY 0 (c::r));refine⟨fun h=>⟨B h,Rz _ _ _ (VX (c::r) g hall)⟩,fun h=>⟨(q h).1,fun u b a e=>?_⟩⟩;obtain⟨n,j,i,_⟩:=dig u b a e;have:aY 0 (c::r)=n:=by rw[i];exact (sG n).2.1
      apply (q h).2;rw[this,<- e,j];rfl
    ·have f:decide (((c::r).length:Int)>12)=true:=by simp at g ⊢;omega
     rw[f];refine no fun u b a e=>?_
     obtain⟨n,_,i,k⟩:=dig u b a e;have:=Jl n 12 (by decide) k;rw[<- i]at this;exact g this
 obtain⟨⟨v,ok⟩,e,a,F⟩:=key;refine⟨v,ok,?_,a,F⟩;unfold jf;rw[e];rfl
theorem aaI{u v:Int}(b:-999999999999<=u/\u<=999999999999)(h:Go.Lib.itoa u=Go.Lib.itoa v)(hv:-999999999999<=v/\v<=999999999999):u=v:=by
 have a:=Ll u b.1 b.2;have c:=Ll v hv.1 hv.2;rw[h,c]at a;injection a with a;exact a.symm
end Go.Proofs.YtapgeemjgckgaaaGreatDoor
/- Plain laws: texts split at a separator: the library's strings.Split against the reference's loops. -/
namespace Go.Proofs.YtapgeemjgckgaaaGreatDoor
open Go.Abs Go.Proofs
theorem Vl{s sub:Str}{i:Nat}(hsub:sub≠[])(h:Go.Lib.NoOcc s sub i)(hi:i<=s.length)(b:Go.Lib.occAt s sub i=true):Go.Lib.split s sub=s.take i::Go.Lib.split (s.drop (i+sub.length)) sub:=by
 have a:=Go.Lib.index_hit h hi b;have c:=Go.Lib.count_hit hsub a;unfold Go.Lib.split;rw[c,Nat.add_comm 1];show (if Go.Lib.index s sub == -1 then [s]else s.take ((Go.Lib.index s sub).toNat+0)::Go.Lib.splitK sub 0 _ (s.drop ((Go.Lib.index s sub).toNat+sub.length)))=_
 rw[a];have e:((i:Int) == -1)=false:=by simp
 rw[e];simp
theorem FW{s sub:Str}(h:∀j,j<=s.length->Go.Lib.occAt s sub j=false):Go.Lib.split s sub=[s]:=by
 have a:=Go.Lib.index_none h;have b:=Go.Lib.count_miss a;unfold Go.Lib.split;rw[b];rfl
theorem xZ(s:Str)(c:UInt8)(i:Nat):Go.Lib.occAt s [c] i=(s[i]? == some c):=by
 unfold Go.Lib.occAt;cases h:s.drop i with
 | nil=>
  have:s[i]?=none:=zJ (List.drop_eq_nil_iff.1 h);rw[this];rfl
 | cons x r=>
  have:s[i]?=some x:=by
   have:=congrArg (·[0]?) h;simpa using this
  rw[this];show ((c==x)&&true)=(x==c)
  rw[Bool.and_true];by_cases e:c=x
  ·subst e;rfl
  ·have a:(c==x)=false:=by simpa using e
   have b:(x==c)=false:=by simpa using fun h=>e h.symm
   rw[a,b]
theorem xY(s:Str)(c d:UInt8)(i:Nat):Go.Lib.occAt s [c,d] i=((s[i]? == some c)&&(s[i+1]? == some d)):=by
 have a:=xZ s c i;have b:=xZ s d (i+1);unfold Go.Lib.occAt at a b ⊢;rw[<- a,<- b];cases h:s.drop i with
 | nil=>
  have:s.drop (i+1)=[]:=List.drop_eq_nil_iff.2 (by have:=List.drop_eq_nil_iff.1 h;omega);rw[this];rfl
 | cons x r=>
  have:s.drop (i+1)=r:=by
   have:=congrArg List.tail h;simpa using this
  rw[this];show ((c==x)&&[d].isPrefixOf r)=(((c==x)&&true)&&[d].isPrefixOf r)
  rw[Bool.and_true]
theorem nN(s sub:Str)(f j:Nat):Go.Lib.occAt (s.drop f) sub j=Go.Lib.occAt s sub (f+j):=by
 unfold Go.Lib.occAt;rw[List.drop_drop]
abbrev SpX:=Str×Int×(List Str)×Int×Int
noncomputable def wS:SpX->Option (SpX⊕List Str):=(fun (a:Str×Int×(List Str)×Int×Int)=>
      bif (decide (a.2.2.2.2<=(a.1.length:Int)))then
       bif (a.2.2.2.2==(a.1.length:Int))then
        (eff.cutL a.1 (some a.2.2.2.1) (some a.2.2.2.2)).bind fun b=>
        (gd (a.2.2.1.length+([b]:List Str).length)).bind fun _=>
        some (.inl (a.1,a.2.1,a.2.2.1++([b]:List Str),w64 (a.2.2.2.2+1),w64 (a.2.2.2.2+1)))
       else
        (idx a.1 a.2.2.2.2).bind fun d=>
        bif ((d.toNat:Int)==a.2.1)then
         (eff.cutL a.1 (some a.2.2.2.1) (some a.2.2.2.2)).bind fun c=>
         (gd (a.2.2.1.length+([c]:List Str).length)).bind fun _=>
         some (.inl (a.1,a.2.1,a.2.2.1++([c]:List Str),w64 (a.2.2.2.2+1),w64 (a.2.2.2.2+1)))
        else
         some (.inl (a.1,a.2.1,a.2.2.1,a.2.2.2.1,w64 (a.2.2.2.2+1)))
      else
       some (.inr (a.2.2.1))
  )
theorem JR(s:Str)(c:UInt8)(z:s.length<=1048576):nJ s (c.toNat:Int)=some (Go.Lib.split s [c]):=by
 have key:∀(k i f:Nat) (out:List Str),s.length+1=i+k->f<=i->i<=s.length->out.length<=i->(∀j,f<=j->j<i->Go.Lib.occAt s [c] j=false) ->
   ak wS (s,(c.toNat:Int),out,(f:Int),(i:Int))=some (out++Go.Lib.split (s.drop f) [c]):=by
  intro k;induction k with
  | zero=>intro i f out m _ u;omega
  | succ k ih=>
   intro i f out A w hi B a;have n:decide ((i:Int)<=(s.length:Int))=true:=by simp;omega
   have o:w64 ((i:Int)+1)=((i+1:Nat):Int):=by rw[aX (by omega) (by omega)];omega
   have v:∀x:Str,gd (out.length+([x]:List Str).length)=some ():=fun x=>gdp (by simp;omega)
   have hcut:=qc s f i w hi;have hNo:Go.Lib.NoOcc (s.drop f) [c] (i-f):=fun j p=>by rw[nN];exact a (f+j) (by omega) (by omega)
   rw[aI];by_cases y:i=s.length
   ·subst y;have e:((s.length:Int)==(s.length:Int))=true:=by simp
    have b:wS (s,(c.toNat:Int),out,(f:Int),(s.length:Int))=some (.inl (s,(c.toNat:Int),out++[(s.take s.length).drop f],((s.length+1:Nat):Int),((s.length+1:Nat):Int))):=by
     simp only[wS,n,e,ac,hcut,zA,v,o]
    rw[b];simp only;rw[aI];have d:decide (((s.length+1:Nat):Int)<=(s.length:Int))=false:=by simp;omega
    have q:wS (s,(c.toNat:Int),out++[(s.take s.length).drop f],((s.length+1:Nat):Int),((s.length+1:Nat):Int))=some (.inr (out++[(s.take s.length).drop f])):=by
     simp only[wS,d,aa]
    rw[q];simp only;rw[FW (s:=s.drop f) (sub:=[c]) fun j p=>?_,List.take_length];rw[nN];by_cases r:f+j<s.length
    ·exact a (f+j) (by omega) r
    ·rw[xZ,zJ (by omega)];rfl
   ·have t:i<s.length:=by omega
    have e:((i:Int)==(s.length:Int))=false:=by simp;omega
    have g:=zF t;by_cases l:s[i]=c
    ·have d:((s[i].toNat:Int)==(c.toNat:Int))=true:=by rw[l];simp
     have b:wS (s,(c.toNat:Int),out,(f:Int),(i:Int))=some (.inl (s,(c.toNat:Int),out++[(s.take i).drop f],((i+1:Nat):Int),((i+1:Nat):Int))):=by
      simp only[wS,n,e,d,ac,aa,aA,g,hcut,zA,v,o]
     rw[b];simp only;rw[ih (i+1) (i+1) (out++[(s.take i).drop f]) (by omega) (aw _) (by omega) (by simp;omega) (fun j m u=>by omega)];rw[Vl (s:=s.drop f) (sub:=[c]) (i:=i-f) (by simp) hNo (by simp;omega) (by rw[nN,xZ,show f+(i-f)=i by omega,g,l];simp)];rw[List.drop_drop,List.drop_take,show f+(i-f+[c].length)=i+1 by simp;omega];simp
    ·have d:((s[i].toNat:Int)==(c.toNat:Int))=false:=by
      have:¬s[i].toNat=c.toNat:=fun h=>l (UInt8.toNat_inj.1 h)
      simp;omega
     have b:wS (s,(c.toNat:Int),out,(f:Int),(i:Int))=some (.inl (s,(c.toNat:Int),out,(f:Int),((i+1:Nat):Int))):=by
      simp only[wS,n,e,d,ac,aa,aA,g,zA,o]
     rw[b];simp only;refine ih (i+1) f out (by omega) (by omega) (by omega) (by omega) fun j m u=>?_
     by_cases p:j<i
     ·exact a j m p
     ·have:j=i:=by omega
      subst this;rw[xZ,g];simpa using l
 have:=key (s.length+1) 0 0 [] (by omega) (aw _) (Nat.zero_le _) (Nat.zero_le _) (fun j _ h=>by omega);show ak wS (s,(c.toNat:Int),[],0,0)=_
 simpa using this
theorem KH(s:Str)(c:UInt8)(a:s.length<=1048576):lJ s (c.toNat:Int)=some (Go.Lib.split s [c]):=by
 unfold lJ kK;have e:bytesOf [(c.toNat:Int)]=[c]:=Jp [c];rw[e,if_pos ⟨by omega,by simp⟩];rfl
abbrev PaX:=Str×(List Str)×Int×Int
noncomputable def qM:PaX->Option (PaX⊕List Str):=(fun (a:Str×(List Str)×Int×Int)=>
      bif (decide ((w64 (a.2.2.2+1))<(a.1.length:Int)))then
       (idx a.1 a.2.2.2).bind fun d=>
       bif ((d.toNat:Int)==59)then
        (idx a.1 (w64 (a.2.2.2+1))).bind fun e=>
        bif ((e.toNat:Int)==32)then
         (eff.cutL a.1 (some a.2.2.1) (some a.2.2.2)).bind fun b=>
         (gd (a.2.1.length+([b]:List Str).length)).bind fun _=>
         some (.inl (a.1,a.2.1++([b]:List Str),w64 (a.2.2.2+2),w64 (a.2.2.2+1)))
        else
         some (.inl (a.1,a.2.1,a.2.2.1,w64 (a.2.2.2+1)))
       else
        some (.inl (a.1,a.2.1,a.2.2.1,w64 (a.2.2.2+1)))
      else
       (
        (eff.cutL a.1 (some a.2.2.1) none).bind fun c=>
        (gd (a.2.1.length+([c]:List Str).length)).bind fun _=>
        some (a.2.1++([c]:List Str))
       ).bind fun r=>some (.inr r)
  )
theorem Vq(s:Str)(G:s.length<=1048576):sO s=some (Go.Lib.split s [59,32]):=by
 have key:∀(k i f:Nat) (out:List Str),s.length=i+k->(f<=i\/(f=i+1/\s[i]?=some 32))->f<=s.length->out.length<=i->(∀j,f<=j->j<i->Go.Lib.occAt s [59,32] j=false) ->
   ak qM (s,out,(f:Int),(i:Int))=some (out++Go.Lib.split (s.drop f) [59,32]):=by
  intro k;induction k with
  | zero=>
   intro i f out D y c E a;have e:decide (w64 ((i:Int)+1)<(s.length:Int))=false:=by rw[aX (by omega) (by omega)];simp;omega
   have hcut:=Dl s f c;rw[aI];have g:qM (s,out,(f:Int),(i:Int))=some (.inr (out++[s.drop f])):=by
    simp only[qM,e,aa,hcut,zA];rw[gdp (by simp;omega)];rfl
   rw[g];simp only;rw[FW fun j p=>?_];rw[nN];by_cases l:f+j<i
   ·exact a (f+j) (by omega) l
   ·rw[xY,zJ (by omega)];rfl
  | succ k ih=>
   intro i f out D y c E a;have t:i<s.length:=by omega
   have q:w64 ((i:Int)+1)=((i+1:Nat):Int):=by rw[aX (by omega) (by omega)];omega
   have u:w64 ((i:Int)+2)=((i+2:Nat):Int):=by rw[aX (by omega) (by omega)];omega
   have m:=zF t;by_cases H:i+1=s.length
   ·have e:decide (((i+1:Nat):Int)<(s.length:Int))=false:=by simp;omega
    have hcut:=Dl s f c;have g:qM (s,out,(f:Int),(i:Int))=some (.inr (out++[s.drop f])):=by
     simp only[qM,q,e,aa,hcut,zA];rw[gdp (by simp;omega)];rfl
    rw[aI,g];simp only;rw[FW fun j p=>?_];rw[nN];by_cases l:f+j<i
    ·exact a (f+j) (by omega) l
    ·rw[xY,zJ (show s.length<=f+j+1 by omega)];simp
   ·have n:i+1<s.length:=by omega
    have e:decide (((i+1:Nat):Int)<(s.length:Int))=true:=by simp;omega
    have b:=zF n;have skip:Go.Lib.occAt s [59,32] i=false->qM (s,out,(f:Int),(i:Int))=some (.inl (s,out,(f:Int),((i+1:Nat):Int)))->(f<=i+1) ->
      ak qM (s,out,(f:Int),(i:Int))=some (out++Go.Lib.split (s.drop f) [59,32]):=by
     intro v g d;rw[aI,g];refine ih (i+1) f out (by omega) (.inl d) c (by omega) fun j z F=>?_
     by_cases p:j<i
     ·exact a j z p
     ·have:j=i:=by omega
      subst this;exact v
    have d:f<=i+1:=by omega
    by_cases A:s[i].toNat=59
    ·have r:((s[i].toNat:Int)==59)=true:=by simp;omega
     have B:s[i]=59:=UInt8.toNat_inj.1 A;have w:f<=i:=by
      rcases y with h | ⟨_,h⟩
      ·exact h
      ·rw[m,B]at h;cases h
     by_cases o:s[i+1].toNat=32
     ·have x:((s[i+1].toNat:Int)==32)=true:=by simp;omega
      have C:s[i+1]=32:=UInt8.toNat_inj.1 o;have hcut:=qc s f i w (by omega);have g:qM (s,out,(f:Int),(i:Int))=some (.inl (s,out++[(s.take i).drop f],((i+2:Nat):Int),((i+1:Nat):Int))):=by
       simp only[qM,q,u,e,r,x,ac,aA,m,b,hcut,zA];rw[gdp (by simp;omega)];rfl
      rw[aI,g];simp only;have hNo:Go.Lib.NoOcc (s.drop f) [59,32] (i-f):=fun j p=>by rw[nN];exact a (f+j) (by omega) (by omega)
      rw[ih (i+1) (i+2) (out++[(s.take i).drop f]) (by omega) (.inr ⟨rfl,by rw[b,C]⟩) (by omega) (by simp;omega) (fun j z F=>by omega)];rw[Vl (s:=s.drop f) (sub:=[59,32]) (i:=i-f) (by simp) hNo (by simp;omega) (by rw[nN,xY,show f+(i-f)=i by omega,m,b,B,C];rfl)];rw[List.drop_drop,List.drop_take,show f+(i-f+([59,32]:Str).length)=i+2 by simp;omega];simp
     ·have x:((s[i+1].toNat:Int)==32)=false:=by simp;omega
      refine skip ?_ ?_ d
      ·rw[xY,b];have:¬s[i+1]=32:=fun h=>o (by rw[h];rfl)
       simp[this]
      ·simp only[qM,q,e,r,x,ac,aa,aA,m,b,zA]
    ·have r:((s[i].toNat:Int)==59)=false:=by simp;omega
     refine skip ?_ ?_ d
     ·rw[xY,m];have:¬s[i]=59:=fun h=>A (by rw[h];rfl)
      simp[this]
     ·simp only[qM,q,e,r,ac,aa,aA,m,zA]
 have:=key s.length 0 0 [] (by omega) (.inl (aw _)) (Nat.zero_le _) (Nat.zero_le _) (fun j _ h=>by omega);show ak qM (s,[],0,0)=_
 simpa using this
theorem ah3(s sub:Str):Go.Lib.split s sub≠[]:=by
 unfold Go.Lib.split;cases Go.Lib.count s sub with
 | zero=>simp[Go.Lib.splitK]
 | succ k=>
  unfold Go.Lib.splitK;split<;>simp
theorem je(s sub:Str):(Go.Lib.split s sub).length<=s.length+2/\∀p,p∈Go.Lib.split s sub->p.length<=s.length:=by
 have key:∀(k:Nat) (s:Str),(Go.Lib.splitK sub 0 k s).length<=k+1/\∀p,p∈Go.Lib.splitK sub 0 k s->p.length<=s.length:=by
  intro k;induction k with
  | zero=>intro s;exact⟨aw _,fun p a=>by rw[List.mem_singleton.1 a];exact aw _⟩
  | succ k ih=>
   intro s;unfold Go.Lib.splitK;split
   ·exact⟨by simp,fun p a=>by rw[List.mem_singleton.1 a];exact aw _⟩
   ·obtain⟨c,b⟩:=ih (s.drop ((Go.Lib.index s sub).toNat+sub.length));refine⟨by simp only[List.length_cons];omega,fun p a=>?_⟩;rcases ba.1 a with rfl | a
    ·rw[a8];omega
    ·have:=b p a;rw[List.length_drop]at this;omega
 have d:=Go.Lib.count_le s sub;obtain⟨c,b⟩:=key (Go.Lib.count s sub) s;exact⟨by unfold Go.Lib.split;omega,b⟩
end Go.Proofs.YtapgeemjgckgaaaGreatDoor
/- Lists built entry by entry. -/
namespace Go.Proofs.YtapgeemjgckgaaaGreatDoor
open Go.Abs Go.Proofs
def iL{α β:Type}(f:Nat->α->β):Nat->List α->List β
 | _,[]=>[]
 | i,x::r=>f i x::iL f (i+1) r
theorem Ci{α β:Type}(f:Nat->α->β):∀(i:Nat) (xs:List α),(iL f i xs).length=xs.length
 | _,[]=>rfl
 | i,x::r=>by simp[iL,Ci f (i+1) r]
theorem Ec{α β X ρ:Type}{g:X->Option (X⊕ρ)}(pk:List β->Nat->X)(xs:List α)(f:Nat->α->β)(r:ρ)
  (d:∀i x out,xs[i]?=some x->out.length=i->g (pk out i)=some (.inl (pk (out++[f i x]) (i+1))))
  (e:g (pk (iL f 0 xs) xs.length)=some (.inr r)):ak g (pk [] 0)=some r:=by
 have key:∀(ys:List α) (i:Nat) (out:List β),xs.drop i=ys->out.length=i->out++iL f i ys=iL f 0 xs->ak g (pk out i)=some r:=by
  intro ys;induction ys with
  | nil=>
   intro i out hd b a;have hi:i=xs.length:=by
    have c:=congrArg List.length a;have j:xs.length<=i:=List.drop_eq_nil_iff.1 hd;rw[Ci]at c;simp[iL]at c;omega
   rw[iL,List.append_nil]at a;subst hi;rw[aI,a,e]
  | cons y r' ih=>
   intro i out hd b a;have h:xs[i]?=some y:=by
    have:=congrArg (·[0]?) hd;simpa using this
   rw[aI,d i y out h b];refine ih (i+1) (out++[f i y]) ?_ (by simp[b]) ?_
   ·have:=congrArg List.tail hd;simpa using this
   ·rw[a7];exact a
 exact key xs 0 [] rfl rfl rfl
theorem uH{α:Type}:∀(i:Nat) (xs:List α),iL (fun _ x=>x) i xs=xs
 | _,[]=>rfl
 | i,x::r=>by rw[iL,uH (i+1) r]
theorem XA(i:Nat):decide ((i:Int)>0)=decide (0<i):=by
 by_cases h:0<i
 ·rw[al h,al (by omega)]
 ·rw[ae h,ae (by omega)]
end Go.Proofs.YtapgeemjgckgaaaGreatDoor
