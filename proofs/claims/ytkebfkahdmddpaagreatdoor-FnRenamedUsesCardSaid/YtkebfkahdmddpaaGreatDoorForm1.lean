import Derived.Test.YtkebfkahdmddpaaGreatDoorTok1
set_option linter.unusedSimpArgs false
set_option linter.unusedVariables false
/- Plain laws: the text of an expression is alike on both sides. -/
namespace Go.Proofs.YtkebfkahdmddpaaGreatDoor
open Go.Abs Go.Proofs
theorem kU(s:Str):(jX s).length=s.length:=by unfold jX;rw[List.length_map]
theorem GK(s:Str):bytesOf (jX s)=s:=by
 unfold bytesOf jX;rw[List.map_map];refine (List.map_congr_left fun c _=>?_).trans (List.map_id s);show UInt8.ofNat ((c.toNat:Int)).toNat=c
 rw[aD];exact UInt8.ofNat_toNat
theorem Ju(a b:Str):jX (a++b)=jX a++jX b:=by unfold jX;rw[List.map_append]
theorem ab8(xs:List Str)(b:Str){i:Nat}{x:Str}(h:xs[i]?=some x):Go.Lib.join (xs.take (i+1)) b=if i=0 then x else Go.Lib.join (xs.take i) b++b++x:=by
 cases xs with
 | nil=>simp at h
 | cons y r=>
  cases i with
  | zero=>
   simp at h;subst h;simp[Go.Lib.join_one]
  | succ i=>
   simp at h;rw[if_neg (by omega),List.take_succ_cons,List.take_succ_cons,Go.Lib.join_cons,Go.Lib.join_cons,Go.Lib.joinTail_take_succ b r i x h];simp[a8]
theorem Oe(xs:List Str)(b:Str):(Go.Lib.join xs b).length<=b.length*xs.length+Go.Lib.lens xs:=by
 cases xs with
 | nil=>simp[Go.Lib.join_nil]
 | cons x r=>
  rw[Go.Lib.join_length];have:b.length*r.length<=b.length*(x::r).length:=Nat.mul_le_mul_left _ (by simp);omega
theorem Dc(xs:List Str)(b:Str)(i:Nat):(Go.Lib.join (xs.take i) b).length<=b.length*xs.length+Go.Lib.lens xs:=by
 have h:=Oe (xs.take i) b;have a:=Go.Lib.lens_take_le xs i;have c:b.length*(xs.take i).length<=b.length*xs.length:=Nat.mul_le_mul_left _ (by rw[ba];omega);omega
theorem adw(xs:List Str)(b:Str)(o:xs.length<=1048576)(p:b.length*xs.length+Go.Lib.lens xs<=1000000000)(m:b.length<=1000):Fh xs b=some (Go.Lib.join xs b):=by
 unfold Fh;have key:=bU (g:=fun (a:(List Str)×Str×(List Int)×Int)=>
  bif (decide (a.2.2.2<(a.1.length:Int)))then
   bif (decide (a.2.2.2>0))then
    (gd (a.2.2.1.length+(jX a.2.1).length)).bind fun _=>
    (idx a.1 a.2.2.2).bind fun j=>
    (gd ((a.2.2.1++(jX a.2.1)).length+(jX j).length)).bind fun _=>
    some (.inl (a.1,a.2.1,(a.2.2.1++(jX a.2.1))++(jX j),w64 (a.2.2.2+1)))
   else
    (idx a.1 a.2.2.2).bind fun k=>
    (gd (a.2.2.1.length+(jX k).length)).bind fun _=>
    some (.inl (a.1,a.2.1,a.2.2.1++(jX k),w64 (a.2.2.2+1)))
  else
   some (.inr (bytesOf a.2.2.1))) (fun (s:List Int) (i:Nat)=>((xs,b,s,(i:Int)):(List Str)×Str×(List Int)×Int)) xs (fun i s=>s=jX (Go.Lib.join (xs.take i) b)) (fun r=>r=Go.Lib.join xs b) (fun i x s c d=>.inl ?_) (fun s d=>?_) [] rfl
 ·obtain⟨r,h,rfl⟩:=key;exact h
 ·subst d;have q:=Dc xs b i;have f:=Dc xs b (i+1);have l:=ab8 xs b c;have n:x.length<=1000000000:=by
   rw[l]at f;split at f
   ·omega
   ·rw[a7]at f;omega
  refine⟨jX (Go.Lib.join (xs.take (i+1)) b),?_,rfl⟩;simp only[bW c,ac,au,c,zA,bT c (by omega)];rw[l];by_cases hi:i=0
  ·subst hi;have e:decide (((0:Nat):Int)>0)=false:=rfl;rw[e,if_pos rfl];simp only[aa];rw[gdp (by rw[kU,kU];omega)];rfl
  ·have e:decide ((i:Int)>0)=true:=by simp;omega
   rw[e,if_neg hi];simp only[ac];rw[gdp (by rw[kU,kU];omega),zA,gdp (by rw[a7,kU,kU,kU];omega),Ju,Ju];rfl
 ·subst d;refine⟨_,by simp only[bG,aa];rfl,?_⟩;rw[List.take_length,GK]
theorem aeB(xs:List Str)(b:Str)(a:xs.length<=1048576)(c:b.length*xs.length+Go.Lib.lens xs<=1000000000):Xt xs b=some (Go.Lib.join xs b):=by
 have d:=Oe xs b;unfold Xt BI;rw[gdp (by omega),zA,gdp (by omega)];rfl
theorem GH:∀(n q:Nat),0<q->n<10 ^ q->(Go.Lib.decDigits n).length<=q:=by
 intro n;induction n using Nat.strongRecOn with
 | _ n ih=>
  intro q e a;rw[Go.Lib.decDigits];by_cases c:n<10
  ·rw[dif_pos c];simp;omega
  ·rw[dif_neg c];have d:10 ^ q=10 ^ (q-1)*10:=by rw[<- Nat.pow_succ];congr 1;omega
   have b:0<q-1:=by
    rcases Nat.lt_or_ge 1 q with h | h
    ·omega
    ·have:q=1:=by omega
     subst this;simp at a;omega
   have:=ih (n / 10) (by omega) (q-1) b (by rw[d]at a;generalize 10 ^ (q-1)=p at a ⊢;omega);simp;omega
theorem aem(n:Int)(a:0<=n)(b:n<9223372036854775808):(Go.Lib.itoa n).length<=19:=by
 unfold Go.Lib.itoa;rw[if_neg (by omega)];exact GH _ 19 (by omega) (by omega)
theorem aiP:∀n:Nat,prn (Go.Lib.decDigits n)=true:=by
 intro n;induction n using Nat.strongRecOn with
 | _ n ih=>
  have one:∀k:Nat,k<10->prn [UInt8.ofNat (48+k)]=true:=by decide
  rw[Go.Lib.decDigits];by_cases a:n<10
  ·rw[dif_pos a];exact one n a
  ·rw[dif_neg a,fO,ih (n / 10) (by omega),one (n % 10) (by omega)];rfl
theorem agh(n:Int)(a:0<=n):prn (Go.Lib.itoa n)=true:=by
 unfold Go.Lib.itoa;rw[if_neg (by omega)];exact aiP _
theorem agf(b:Str)(c:prn b=true):∀xs:List Str,(∀x,x∈xs->prn x=true)->prn (Go.Lib.join xs b)=true
 | [],_=>rfl
 | x::r,h=>by
  rw[Go.Lib.join_cons,fO,h x (by simp),Bool.true_and];have a:∀y,y∈r->prn y=true:=fun y d=>h y (by simp[d])
  clear h;induction r with
  | nil=>rfl
  | cons y r ih=>
   show prn ((b++y)++Go.Lib.joinTail b r)=true
   rw[fO,fO,c,a y (by simp),ih fun z e=>a z (by simp[e])];rfl
theorem Qs(n:Int)(a:-9223372036854775808<=n)(b:n<9223372036854775808):yt n=some (Go.Lib.itoa n):=by
 unfold yt BJ;rw[if_pos ⟨a,by omega⟩];rfl
theorem Xb(e:af):F9 e=og e:=rfl
theorem ad6(n:Int)(a:1<=n)(b:n<=5):∃s,rV n=some s/\rH n=some s/\s.length<=2/\prn s=true/\s=opS n:=by
 have:n=1\/n=2\/n=3\/n=4\/n=5:=by omega
 rcases this with rfl | rfl | rfl | rfl | rfl
 ·exact⟨[43],rfl,rfl,by decide,by decide,rfl⟩
 ·exact⟨[45],rfl,rfl,by decide,by decide,rfl⟩
 ·exact⟨[42],rfl,rfl,by decide,by decide,rfl⟩
 ·exact⟨[60],rfl,rfl,by decide,by decide,rfl⟩
 ·exact⟨[61,61],rfl,rfl,by decide,by decide,rfl⟩
theorem RJ{e:af}(c:wW e):og e=some ((lvl e:Nat):Int):=by
 have f:=c.k0;have g:=c.k9;have a:e.kind=1\/e.kind=2\/e.kind=3\/e.kind=4\/e.kind=5\/e.kind=6\/e.kind=7\/e.kind=8\/e.kind=9:=by omega
 by_cases d:e.kind=6
 ·obtain⟨_,h,i⟩:=c.op d;have b:e.n=1\/e.n=2\/e.n=3\/e.n=4\/e.n=5:=by omega
  unfold og lvl kX;rcases b with b | b | b | b | b<;>(rw[d,b];rfl)
 ·unfold og lvl;rcases a with a | a | a | a | a | a | a | a | a<;>first | exact absurd a d | (rw[a];rfl)
theorem lq{e:af}(h:e.args.length=2):∃a b,e.args=[a,b]:=by
 cases d:e.args with
 | nil=>rw[d]at h;cases h
 | cons a r=>cases r with
  | nil=>rw[d]at h;cases h
  | cons b r=>cases r with
   | nil=>exact⟨a,b,rfl⟩
   | cons c r=>rw[d]at h;simp at h
theorem tJ{e:af}(h:e.args.length=3):∃a b c,e.args=[a,b,c]:=by
 cases f:e.args with
 | nil=>rw[f]at h;cases h
 | cons a r=>cases r with
  | nil=>rw[f]at h;cases h
  | cons b r=>cases r with
   | nil=>rw[f]at h;cases h
   | cons c r=>cases r with
    | nil=>exact⟨a,b,c,rfl⟩
    | cons d r=>rw[f]at h;simp at h
theorem EL:∀(n:Nat),
  (∀e:af,siz e<n->jA e->wtE e<=1000->∃s,(di n).1 e=some s/\(bg n).1 e=some s/\s.length+4<=200*wtE e/\prn s=true/\s=txt (pcE e)) /\
  (∀xs:List af,siz xs<n->(∀x,x∈xs->jA x)->wtL xs<=1000->∃s,(di n).2.1 xs=some s/\(bg n).2.1 xs=some s/\s.length<=200*wtL xs/\prn s=true/\s=txt (Es (xs.map pcE))) /\
  (∀(e:af) (b:Int),siz e+1<n->jA e->wtE e<=1000->∃s,(di n).2.2 e b=some s/\(bg n).2.2 e b=some s/\s.length+2<=200*wtE e/\prn s=true/\∀β:Nat,b=(β:Int)->s=txt (pcA e β))
 | 0=>⟨fun _ h=>absurd h (Nat.not_lt_zero _),fun _ h=>absurd h (Nat.not_lt_zero _),fun _ _ h=>absurd h (Nat.not_lt_zero _)⟩
 | n+1=>by
  obtain⟨ihT,ihL,ihA⟩:=EL n;refine⟨fun e X hv S=>?_,fun xs X hv S=>?_,fun e b X hv S=>?_⟩
  ·show ∃s,Oo (di n).1 (di n).2.1 (di n).2.2 e=some s/\vJ (bg n).1 (bg n).2.1 (bg n).2.2 e=some s/\_
   cases hv with
   | mk _ p z=>
   have hce:=acQ (e:=e) (by omega);have ht:=Bc (e:=e) (by omega);have hargs:=QZ (e:=e);unfold vJ Oo;cases Y:(e.kind==1)with
   | true=>
    have:=p.num (eq_of_beq Y);have B:=aem e.n (by omega) (by omega);exact⟨Go.Lib.itoa e.n,by simp only[ac,Qs e.n (by omega) (by omega),zA],by simp only[ac,uV e.n (by omega) (by omega),zA],by omega,agh _ (by omega),by rw[pc1 (eq_of_beq Y)];simp[txt,tkT]⟩
   | false=>
   cases k2:(e.kind==2)with
   | true=>
    simp only[ac,aa];rw[gdp (by simp;omega),zA,gdp (by simp;omega),zA];exact⟨_,rfl,rfl,by simp;omega,by simp only[fO,p.pr];rfl,by rw[pc2 (eq_of_beq k2)];simp[txt,tkT]⟩
   | false=>
   cases k3:(e.kind==3)with
   | true=>exact⟨e.text,rfl,rfl,by omega,p.pr,by rw[pc3 (eq_of_beq k3)];simp[xq,l9,uQ,fM,qN]⟩
   | false=>
   cases k4:(e.kind==4)with
   | true=>
    obtain⟨s,w,e1',B,f,j⟩:=ihL e.args (by omega) z (by omega);simp only[ac,aa,w,e1',zA];rw[gdp (by simp;omega),zA,gdp (by simp;omega),zA];exact⟨_,rfl,rfl,by simp;omega,by simp only[fO,f];rfl,by rw[pc4 (eq_of_beq k4)];simp[xq,l9,uQ,fM,qN,j]⟩
   | false=>
   cases k5:(e.kind==5)with
   | true=>
    obtain⟨s,w,e1',B,f,j⟩:=ihL e.args (by omega) z (by omega);simp only[ac,aa,w,e1',zA];rw[gdp (by simp;omega),zA,gdp (by simp;omega),zA,gdp (by simp;omega),zA];exact⟨_,rfl,rfl,by simp;omega,by simp only[fO,p.pr,f];rfl,by rw[pc5 (eq_of_beq k5)];simp[xq,l9,uQ,fM,qN,j]⟩
   | false=>
   cases Z:(e.kind==7)with
   | true=>
    obtain⟨a,b,d⟩:=lq (p.two (.inl (eq_of_beq Z)));have E:wtL e.args=wtE a+wtE b:=by rw[d,wX]
    obtain⟨s,w,e1',B,f,j⟩:=ihT a (by have:=dI (x:=a) (e:=e) (by rw[d];simp);omega) (z a (by rw[d];simp)) (by omega);obtain⟨t,A,e2',T,q,v⟩:=ihT b (by have:=dI (x:=b) (e:=e) (by rw[d];simp);omega) (z b (by rw[d];simp)) (by omega);have F:idx e.args 0=some a:=by rw[d];rfl
    have G:idx e.args 1=some b:=by rw[d];rfl
    simp only[ac,aa,F,G,aH,w,e1',A,e2',zA];rw[gdp (by simp;omega),zA,gdp (by simp;omega),zA,gdp (by simp;omega),zA,gdp (by simp;omega),zA,gdp (by simp;omega),zA];exact⟨_,rfl,rfl,by simp;omega,by simp only[fO,p.pr,f,q];rfl,by rw[pc7 (eq_of_beq Z) d];simp[xq,l9,uQ,fM,qN,j,v]⟩
   | false=>
   cases k9:(e.kind==9)with
   | true=>
    have N:(e.kind==8)=false:=by rw[eq_of_beq k9];rfl
    obtain⟨a,b,d⟩:=lq (p.two (.inr (eq_of_beq k9)));have E:wtL e.args=wtE a+wtE b:=by rw[d,wX]
    obtain⟨s,w,e1',B,f,j⟩:=ihT a (by have:=dI (x:=a) (e:=e) (by rw[d];simp);omega) (z a (by rw[d];simp)) (by omega);obtain⟨t,A,e2',T,q,v⟩:=ihT b (by have:=dI (x:=b) (e:=e) (by rw[d];simp);omega) (z b (by rw[d];simp)) (by omega);have F:idx e.args 0=some a:=by rw[d];rfl
    have G:idx e.args 1=some b:=by rw[d];rfl
    simp only[ac,aa,N,F,G,aH,w,e1',A,e2',zA];rw[gdp (by simp;omega),zA,gdp (by simp;omega),zA,gdp (by simp;omega),zA,gdp (by simp;omega),zA,gdp (by simp;omega),zA];exact⟨_,rfl,rfl,by simp;omega,by simp only[fO,p.pr,f,q];rfl,by rw[pc9 (eq_of_beq k9) d];simp[xq,l9,uQ,fM,qN,j,v]⟩
   | false=>
   cases N:(e.kind==8)with
   | true=>
    obtain⟨a,b,c,d⟩:=tJ (p.three (eq_of_beq N));have E:wtL e.args=wtE a+(wtE b+wtE c):=by rw[d,QM]
    obtain⟨s,w,e1',B,f,j⟩:=ihT a (by have:=dI (x:=a) (e:=e) (by rw[d];simp);omega) (z a (by rw[d];simp)) (by omega);obtain⟨t,A,e2',T,q,v⟩:=ihT b (by have:=dI (x:=b) (e:=e) (by rw[d];simp);omega) (z b (by rw[d];simp)) (by omega);obtain⟨u,e3,e3',U,C,D⟩:=ihT c (by have:=dI (x:=c) (e:=e) (by rw[d];simp);omega) (z c (by rw[d];simp)) (by omega);have F:idx e.args 0=some a:=by rw[d];rfl
    have G:idx e.args 1=some b:=by rw[d];rfl
    have i2:idx e.args 2=some c:=by rw[d];rfl
    simp only[ac,aa,F,G,i2,aH,w,e1',A,e2',e3,e3',zA];rw[gdp (by simp;omega),zA,gdp (by simp;omega),zA,gdp (by simp;omega),zA,gdp (by simp;omega),zA,gdp (by simp;omega),zA];exact⟨_,rfl,rfl,by simp;omega,by simp only[fO,f,q,C];rfl,by rw[pc8 (eq_of_beq N) d];simp[xq,l9,uQ,fM,qN,j,v,D]⟩
   | false=>
    have V:e.kind=6:=by
     have q0:=p.k0;have q9:=p.k9;have n1:¬e.kind=1:=by simpa using Y
     have n2:¬e.kind=2:=by simpa using k2
     have n3:¬e.kind=3:=by simpa using k3
     have n4:¬e.kind=4:=by simpa using k4
     have n5:¬e.kind=5:=by simpa using k5
     have n7:¬e.kind=7:=by simpa using Z
     have n8:¬e.kind=8:=by simpa using N
     have n9:¬e.kind=9:=by simpa using k9
     omega
    obtain⟨ha,hn1,hn5⟩:=p.op V;obtain⟨a,b,d⟩:=lq ha;have E:wtL e.args=wtE a+wtE b:=by rw[d,wX]
    have za:=dI (x:=a) (e:=e) (by rw[d];simp);have zb:=dI (x:=b) (e:=e) (by rw[d];simp);have L:=RJ p;have hlv:lvl e=kX e.n:=by unfold lvl;rw[if_neg (by omega),if_pos V]
    have hl4:=aiE e;obtain⟨r,O⟩:∃r:Int,r=((kX e.n:Nat):Int):=⟨_,rfl⟩;rw[hlv,<- O]at L;have P:w64 ((kX e.n:Int)+1)=((kX e.n+1:Nat):Int):=by rw[bK (by omega) (by omega)];omega
    have e0':=(Xb e).trans L;obtain⟨s,w,f1,B,f,j⟩:=ihA a 2 (by omega) (z a (by rw[d];simp)) (by omega);obtain⟨s',e1',f1',l1',pl1',pt1'⟩:=ihA a r (by omega) (z a (by rw[d];simp)) (by omega);obtain⟨t,A,f2,T,q,v⟩:=ihA b (w64 (r+1)) (by omega) (z b (by rw[d];simp)) (by omega);obtain⟨o,e3,f3,U,C,D⟩:=ad6 e.n hn1 hn5;have F:idx e.args 0=some a:=by rw[d];rfl
    have G:idx e.args 1=some b:=by rw[d];rfl
    simp only[aa,F,G,aH,L,e0',w,e1',A,e3,f1,f1',f2,f3,zA];cases H:(r==1)with
    | true=>
     have I:kX e.n=1:=by have:=eq_of_beq H;omega
     simp only[ac];rw[gdp (by simp;omega),zA,gdp (by simp;omega),zA,gdp (by simp;omega),zA,gdp (by simp;omega),zA];exact⟨_,rfl,rfl,by simp;omega,by simp only[fO,f,q,C];rfl,by rw[pc6 V d,oI,if_pos I];simp[xq,l9,uQ,fM,qN,j 2 rfl,v (kX e.n+1) (by rw[O];exact P),D]⟩
    | false=>
     have I:¬kX e.n=1:=fun h=>by rw[O,h]at H;cases H
     simp only[aa];rw[gdp (by simp;omega),zA,gdp (by simp;omega),zA,gdp (by simp;omega),zA,gdp (by simp;omega),zA];exact⟨_,rfl,rfl,by simp;omega,by simp only[fO,pl1',q,C];rfl,by rw[pc6 V d,oI,if_neg I];simp[xq,l9,uQ,fM,qN,pt1' (kX e.n) O,v (kX e.n+1) (by rw[O];exact P),D]⟩
  ·have hxl:=Tm xs;have hA:∀(g:af->Option Str),(∀x,x∈xs->∃s,(di n).1 x=some s/\g x=some s/\s.length+4<=200*wtE x/\prn s=true/\s=txt (pcE x))->∃l:List Str,l=(xs.map pcE).map txt/\l.length=xs.length/\Go.Lib.lens l+4*xs.length<=200*wtL xs/\(∀s,s∈l->prn s=true)/\∀(i:Nat) (x:af),xs[i]?=some x->∃s:Str,l[i]?=some s/\(di n).1 x=some s/\g x=some s:=by
    intro g;clear X hv S hxl;induction xs with
    | nil=>exact fun _=>⟨[],rfl,rfl,by simp[Go.Lib.lens,wtL],fun s h=>(by cases h),fun i x h=>by simp at h⟩
    | cons x r ih=>
     intro m;obtain⟨l,h0,h1,h2,h4,h3⟩:=ih (fun y M=>m y (aq _ M));obtain⟨s,Q,W,q3,q4,q5⟩:=m x (by simp);refine⟨s::l,by rw[h0,q5];rfl,by simp[h1],?_,fun u hu=>(bc.1 hu).elim (fun e=>by rw[e];exact q4) (h4 u),fun i y M=>?_⟩
     ·have w:Go.Lib.lens (s::l)=s.length+Go.Lib.lens l:=by simp[Go.Lib.lens]
      have A:wtL (x::r)=wtE x+wtL r:=rfl;rw[w,A];simp only[List.length_cons];omega
     ·cases i with
      | zero=>simp at M;subst M;exact⟨s,rfl,Q,W⟩
      | succ i=>simp at M;simpa using h3 i y M
   obtain⟨l,l0,B,T,l4,U⟩:=hA (bg n).1 fun x m=>ihT x (by have:=VG m;omega) (hv x m) (by have:=Tj m;omega)
   have hJ:([44,32]:Str).length*l.length+Go.Lib.lens l<=1000000000:=by simp only[List.length_cons,List.length_nil];rw[B];omega
   have eJi:=aeB l [44,32] (by omega) hJ;have eJs:=adw l [44,32] (by omega) hJ (by simp);have lj:=Oe l [44,32];refine⟨Go.Lib.join l [44,32],?_,?_,by simp only[List.length_cons,List.length_nil]at lj;omega,agf _ rfl l l4,by rw[l0,X0]⟩
   ·show Ip (di n).1 (di n).2.1 (di n).2.2 xs=_
    unfold Ip;have key:=bU (g:=fun (k:(List Str)×(List af)×Int×Int)=>
     bif (decide (k.2.2.2<k.2.2.1))then
      (idx k.2.1 k.2.2.2).bind fun A=>
      ((di n).1 (ah A)).bind fun R=>
      (gd (k.1.length+([R]:List Str).length)).bind fun _=>
      some (.inl (k.1++([R]:List Str),k.2.1,k.2.2.1,w64 (k.2.2.2+1)))
     else
      (
       (Xt k.1 [44,32]).bind fun r4=>
       some (r4)
      ).bind fun r=>some (.inr r)) (fun (s:List Str) (i:Nat)=>((s,xs,(xs.length:Int),(i:Int)):(List Str)×(List af)×Int×Int)) xs (fun i s=>s=l.take i) (fun r=>r=Go.Lib.join l [44,32]) (fun i x s m J=>.inl ?_) (fun s J=>?_) [] rfl
    ·obtain⟨r,h,rfl⟩:=key;exact h
    ·obtain⟨t,Q,W,q3⟩:=U i x m;subst J;have hi:=(zC.1 m).1;refine⟨l.take (i+1),?_,rfl⟩;simp only[bW m,ac,au,m,zA,aH,W,bT m (by omega)];rw[gdp (by simp;omega)];obtain⟨K,rfl⟩:=zC.1 Q;rw[List.take_succ_eq_append_getElem K];rfl
    ·subst J;refine⟨Go.Lib.join l [44,32],?_,rfl⟩;have e:l.take xs.length=l:=by rw[<- B,List.take_length]
     simp only[bG,aa,e,eJi,zA]
   ·show vK (bg n).1 (bg n).2.1 (bg n).2.2 xs=_
    unfold vK;have key:=bU (g:=fun (k:(List af)×(List Str)×Int)=>
     bif (decide (k.2.2<(k.1.length:Int)))then
      (idx k.1 k.2.2).bind fun A=>
      ((bg n).1 (ah A)).bind fun R=>
      (gd (k.2.1.length+([R]:List Str).length)).bind fun _=>
      some (.inl (k.1,k.2.1++([R]:List Str),w64 (k.2.2+1)))
     else
      (
       (Fh k.2.1 [44,32]).bind fun r4=>
       some (r4)
      ).bind fun r=>some (.inr r)) (fun (s:List Str) (i:Nat)=>((xs,s,(i:Int)):(List af)×(List Str)×Int)) xs (fun i s=>s=l.take i) (fun r=>r=Go.Lib.join l [44,32]) (fun i x s m J=>.inl ?_) (fun s J=>?_) [] rfl
    ·obtain⟨r,h,rfl⟩:=key;exact h
    ·obtain⟨t,Q,W,q3⟩:=U i x m;subst J;have hi:=(zC.1 m).1;refine⟨l.take (i+1),?_,rfl⟩;simp only[bW m,ac,au,m,zA,aH,q3,bT m (by omega)];rw[gdp (by simp;omega)];obtain⟨K,rfl⟩:=zC.1 Q;rw[List.take_succ_eq_append_getElem K];rfl
    ·subst J;refine⟨Go.Lib.join l [44,32],?_,rfl⟩;have e:l.take xs.length=l:=by rw[<- B,List.take_length]
     simp only[bG,aa,e,eJs,zA]
  ·show ∃s,Ef (di n).1 (di n).2.1 (di n).2.2 e b=some s/\E8 (bg n).1 (bg n).2.1 (bg n).2.2 e b=some s/\_
   unfold E8 Ef;obtain⟨s,w,f1,B,f,j⟩:=ihT e (by omega) hv S;have p:wW e:=by cases hv with | mk _ p z=>exact p
   have L:=RJ p;have e0':=(Xb e).trans L;simp only[aH,w,f1,L,e0',zA];cases hd:decide (((lvl e:Nat):Int)<b)with
   | true=>
    simp only[ac];rw[gdp (by simp;omega),zA,gdp (by simp;omega),zA];exact⟨_,rfl,rfl,by simp;omega,by simp only[fO,f];rfl,fun β hβ=>by unfold pcA atP;rw[if_pos (show lvl e<β by have:=of_decide_eq_true hd;omega)];simp[xq,l9,uQ,fM,qN,j]⟩
   | false=>exact⟨s,rfl,rfl,by omega,f,fun β hβ=>by unfold pcA atP;rw[if_neg (show ¬lvl e<β by have:=of_decide_eq_false hd;omega)];exact j⟩
theorem RU(e:af)(c:wtE e<=1048576):∃s,nU e=some s/\iF e=some s/\s.length<=8000/\prn s=true/\(bV e=some true->s=txt (pcE e)):=by
 obtain⟨v,d,f,h⟩:=tZ e c;unfold nU iF;simp only[aH,d,f,zA];cases v with
 | false=>exact⟨[],rfl,rfl,by simp,rfl,fun h=>(by cases h)⟩
 | true=>
  obtain⟨hv,j⟩:=h rfl;obtain⟨s,a,b,k,g,i⟩:=(EL (siz e+1)).1 e (Nat.lt_succ_self _) hv (by omega);have a:UX e=some s:=a;have b:E5 e=some s:=b;simp only[aM,aa,a,b,zA];exact⟨s,rfl,rfl,by omega,g,fun _=>i⟩
end Go.Proofs.YtkebfkahdmddpaaGreatDoor
/- Plain laws: the tokens of an expression's own text are read back as the expression. -/
namespace Go.Proofs.YtkebfkahdmddpaaGreatDoor
noncomputable section
open Go.Abs Go.Proofs
def st(i:Nat):PS:=⟨i,none⟩
def Xg(u:aA)(t:Tk):Prop:=u.kind=t.kind/\u.n=t.n/\u.text=t.text
def Ms(toks:List aA):Nat->List Tk->Prop
 | _,[]=>True
 | i,t::r=>(∃u,toks[i]?=some u/\Xg u t)/\Ms toks (i+1) r
theorem iH(toks:List aA):∀(i:Nat) (a b:List Tk),Ms toks i (a++b)↔Ms toks i a/\Ms toks (i+a.length) b
 | i,[],b=>by simp[Ms]
 | i,t::r,b=>by
  show (_/\Ms toks (i+1) (r++b))↔_
  rw[iH toks (i+1) r b];show (_/\Ms toks (i+1) r/\Ms toks (i+1+r.length) b)↔(_/\Ms toks (i+1) r)/\Ms toks (i+(r.length+1)) b
  rw[show i+1+r.length=i+(r.length+1) by omega,and_assoc]
variable {toks:List aA} {stop:Int}
theorem KF{i:Nat}{u:aA}(a:toks[i]?=some u)(y:Str):sees toks (st i) y=((u.kind==4||u.kind==1)&&u.text==y):=by
 unfold sees st;simp only[a]
theorem xP{i:Nat}{u:aA}(a:toks[i]?=some u):aP toks (st i)=u:=by
 unfold aP st;simp only[a];rfl
theorem pO{i:Nat}{x:Str}{r:List Tk}(h:Ms toks i (⟨4,0,x⟩::r))(y:Str):sees toks (st i) y=(x==y):=by
 obtain⟨⟨u,a,b,d,c⟩,_⟩:=h;rw[KF a,b,c];rfl
theorem qR{i:Nat}{x:Str}{r:List Tk}(h:Ms toks i (⟨1,0,x⟩::r))(y:Str):sees toks (st i) y=(x==y):=by
 obtain⟨⟨u,a,b,d,c⟩,_⟩:=h;rw[KF a,b,c];rfl
theorem qP{i:Nat}{x:Str}(h:sees toks (st i) x=true):dU toks (st i) x=st (i+1):=by
 unfold dU;rw[h];rfl
def afl(toks:List aA)(i:Nat):Prop:=sees toks (st i) [42]=false/\sees toks (st i) [43]=false/\sees toks (st i) [45]=false/\sees toks (st i) [60]=false/\sees toks (st i) [61,61]=false
theorem KI{i:Nat}{x:Str}(h:∀y,sees toks (st i) y=(x==y))(a:x≠[42]/\x≠[43]/\x≠[45]/\x≠[60]/\x≠[61,61]):afl toks i:=by
 refine⟨?_,?_,?_,?_,?_⟩<;>(rw[h];simp[a])
theorem ad8{i:Nat}(h:toks.length<=i):afl toks i:=by
 have:∀y,sees toks (st i) y=false:=fun y=>by
  unfold sees st;simp only[zJ h]
 exact⟨this _,this _,this _,this _,this _⟩
abbrev gE(m:Nat):=(aB m).1
abbrev gC(m:Nat):=(aB m).2.1
abbrev gS(m:Nat):=(aB m).2.2.1
abbrev gP(m:Nat):=(aB m).2.2.2.1
abbrev gA(m:Nat):=(aB m).2.2.2.2.1
abbrev gL(m:Nat):=(aB m).2.2.2.2.2
theorem WJ(h:bI toks stop)(ga){i:Nat}(e:af)(a:sees toks (st i) [42]=false):ak (Rq ga) (pkS toks stop (st i) e)=some (encS toks stop (st i),e):=by
 rw[aJ,sJ h,a];rfl
theorem TM(h:bI toks stop)(ga){i:Nat}(e:af)(a:sees toks (st i) [43]=false)(b:sees toks (st i) [45]=false):ak (VB ga) (pkS toks stop (st i) e)=some (encS toks stop (st i),e):=by
 rw[aJ,rG h,a,b];rfl
def Hd(x:Tk)(b:Bool):Prop:=x.kind=2\/x.kind=3\/(x.kind=4/\(x.text=[91]\/x.text=[40]))\/(x.kind=1/\(b=true->x.text≠[108,101,116]/\x.text≠[105,102]/\x.text≠[102,111,114])/\x.text≠[93]/\x.text≠[41])
theorem Vg{i:Nat}{x:Tk}{b:Bool}{r:List Tk}(h:Hd x b)(g:Ms toks i (x::r)):sees toks (st i) [93]=false/\sees toks (st i) [41]=false/\(b=true->sees toks (st i) [108,101,116]=false/\sees toks (st i) [105,102]=false/\sees toks (st i) [102,111,114]=false):=by
 obtain⟨⟨u,j,k,q,l⟩,_⟩:=g;have a:=fun y=>KF (toks:=toks) j y
 rw[k,l]at a;rcases h with h | h | ⟨h,c⟩ | ⟨h,m,d,e⟩
 ·rw[h]at a;simp[a]
 ·rw[h]at a;simp[a]
 ·rw[h]at a;rcases c with c | c<;>(rw[c]at a;simp[a])
 ·rw[h]at a;refine⟨by rw[a];simp[d],by rw[a];simp[e],fun f=>?_⟩;obtain⟨n,o,p⟩:=m f;exact⟨by rw[a];simp[n],by rw[a];simp[o],by rw[a];simp[p]⟩
theorem acO{t:Str}(h:0<=nH t)(f:t.length<=120):bZ t=false:=by
 cases hv:bZ t with
 | false=>rfl
 | true=>
  have a:aT t=some true:=by rw[wz t f,hv]
  have b:jT t=some false:=by
   unfold aT at a;rw[nD t (by omega),zA]at a;cases c:(gq 0 t&&(decide (1<=(t.length:Int))&&decide ((t.length:Int)<=8)))with
   | false=>rw[c]at a;cases a
   | true=>
    rw[c]at a;simp only[ac]at a;cases d:jT t with
    | none=>rw[d]at a;cases a
    | some v=>
     rw[d]at a;cases v with
     | false=>rfl
     | true=>cases a
  unfold jT at b;rw[XC]at b;have e:decide (nH t>=0)=true:=al h;simp only[zA,e]at b;revert b;cases (t==[108,101,116])<;>cases (t==[105,110])<;>cases (t==[105,102])<;>cases (t==[116,104,101,110])<;>cases (t==[101,108,115,101])<;>cases (t==[102,111,114])<;>cases (t==[100,111])<;>intro b<;>cases b
theorem vw{t:Str}(h:aX t=some true)(a:t.length<=120):bZ t=true:=by
 rw[nJ t a]at h;exact a6 h
theorem acU{t:Str}(h:bZ t=true):t≠[108,101,116]/\t≠[105,102]/\t≠[102,111,114]/\t≠[93]/\t≠[41]:=by
 refine⟨?_,?_,?_,?_,?_⟩<;>(rintro rfl;revert h;unfold bZ aT;rw[nD _ (by simp),zA];simp[gq,Kt,jT])
theorem agJ{t:Str}(h:0<=nH t):t≠[108,101,116]/\t≠[105,102]/\t≠[102,111,114]/\t≠[93]/\t≠[41]:=by
 refine⟨?_,?_,?_,?_,?_⟩<;>(rintro rfl;exact absurd h (by unfold nH;decide))
def QA(toks:List aA)(stop:Int)(e:af):Prop:=∀m i,6*(tkA e 4).length+2<=m->Ms toks i (tkA e 4)->gA m (encS toks stop (st i))=some (encS toks stop (st (i+(tkA e 4).length)),e)
def QP(toks:List aA)(stop:Int)(e:af):Prop:=∀m i,6*(tkA e 3).length+2<=m->Ms toks i (tkA e 3)->gP (m+1) (encS toks stop (st i))=ak (Rq (gA m)) (pkS toks stop (st (i+(tkA e 3).length)) e)
def QS(toks:List aA)(stop:Int)(e:af):Prop:=∀m i,6*(tkA e 2).length+3<=m->Ms toks i (tkA e 2)->sees toks (st (i+(tkA e 2).length)) [42]=false->gS (m+1) (encS toks stop (st i))=ak (VB (gP m)) (pkS toks stop (st (i+(tkA e 2).length)) e)
def QE(toks:List aA)(stop:Int)(e:af):Prop:=∀m i,6*(tkE e).length+6<=m->Ms toks i (tkE e)->afl toks (i+(tkE e).length)->gE m (encS toks stop (st i))=some (encS toks stop (st (i+(tkE e).length)),e)
theorem mkP(h:bI toks stop){e:af}(c:QA toks stop e)(d:tkA e 3=tkA e 4):QP toks stop e:=by
 intro m i a b;rw[d]at a b ⊢;show qW (gE m) (gC m) (gS m) (gP m) (gA m) (gL m) _=_
 rw[aay,c m i a b];rfl
theorem mkS(h:bI toks stop){e:af}(c:QP toks stop e)(d:tkA e 2=tkA e 3):QS toks stop e:=by
 intro m i f a b;rw[d]at f a b ⊢;obtain⟨k,rfl⟩:∃k,m=k+1:=⟨m-1,by omega⟩;show Fa (gE (k+1)) (gC (k+1)) (gS (k+1)) (gP (k+1)) (gA (k+1)) (gL (k+1)) _=_
 rw[ac8,c k i (by omega) a,WJ h _ e b];rfl
theorem mkC(h:bI toks stop){e:af}{m i j:Nat}(b:gS m (encS toks stop (st i))=some (encS toks stop (st j),e))(a:afl toks j):gC (m+1) (encS toks stop (st i))=some (encS toks stop (st j),e):=by
 show jc (gE m) (gC m) (gS m) (gP m) (gA m) (gL m) _=_
 unfold jc;simp only[b,zA,gu h,a.2.2.2.1,a.2.2.2.2,aa,aH]
theorem mkE(h:bI toks stop){e:af}{m i j:Nat}(b:gC m (encS toks stop (st i))=some (encS toks stop (st j),e))(a:sees toks (st i) [108,101,116]=false/\sees toks (st i) [105,102]=false/\sees toks (st i) [102,111,114]=false):gE (m+1) (encS toks stop (st i))=some (encS toks stop (st j),e):=by
 show jH (gE m) (gC m) (gS m) (gP m) (gA m) (gL m) _=_
 unfold jH;simp only[gu h,a.1,a.2.1,a.2.2,zA,aa,b,aH]
theorem aeb(h:bI toks stop){e:af}{x:Tk}{r:List Tk}(d:QS toks stop e)(c:tkA e 2=tkE e)(f:tkE e=x::r)(g:Hd x true):QE toks stop e:=by
 intro m i j b a;obtain⟨k,rfl⟩:∃k,m=k+3:=⟨m-3,by omega⟩;rw[<- c]at j b a ⊢;have q:=d k i (by omega) b a.1;rw[TM h _ e a.2.1 a.2.2.1]at q;rw[c,f]at b;exact mkE h (mkC h q a) ((Vg g b).2.2 rfl)
theorem mkA(h:bI toks stop){e:af}(n:QE toks stop e)(o:lvl e<4):QA toks stop e:=by
 intro m i g c;rw[lD o]at g c ⊢;obtain⟨k,rfl⟩:∃k,m=k+1:=⟨m-1,by omega⟩;simp only[List.length_cons,a7,List.length_nil]at g ⊢;have a:=c.2;rw[iH]at a;obtain⟨⟨u,j,l,t,p⟩,_⟩:=c;have d:=fun y=>KF (toks:=toks) j y
 rw[l,p]at d;have b:=pO a.2;have f:=n k (i+1) (by omega) a.1 (KI b (by decide));have ee:gA (k+1) (encS toks stop (st i))=nM (gE k) (gC k) (gS k) (gP k) (gA k) (gL k) (encS toks stop (st i)):=rfl;rw[ee,A7 h];unfold Dq zk;rw[xP j,l];have q:sees toks (st i) [91]=false:=by rw[d];rfl
 have r:sees toks (st i) [40]=true:=by rw[d];rfl
 have s:sees toks (st (i+1+(tkE e).length)) [41]=true:=by rw[b];rfl
 have f:gE k (encS toks stop (aU (st i)))=some (encS toks stop (st (i+1+(tkE e).length)),e):=f;rw[if_neg (by decide),if_neg (by decide),if_neg (by decide),q,if_neg (by decide),r,if_pos rfl,f,zA,kD h,qP s,zA,show i+1+(tkE e).length+1=i+((tkE e).length+1+1) by omega]
theorem mk4(h:bI toks stop){e:af}{x:Tk}{r:List Tk}(l:lvl e=4)(g:QA toks stop e)(i:tkE e=x::r)(j:Hd x true):QP toks stop e/\QS toks stop e/\QE toks stop e:=by
 have k:=kQ (e:=e) (b:=4) (by omega);have a:=kQ (e:=e) (b:=3) (by omega);have c:=kQ (e:=e) (b:=2) (by omega);have d:=mkP h g (a.trans k.symm);have f:=mkS h d (c.trans a.symm);exact⟨d,f,aeb h f c i j⟩
theorem RG(h:bI toks stop)(ga){i j:Nat}(b:Str)(o:List af)(x:af)(d:ga (encS toks stop (st i))=some (encS toks stop (st j),x))(l:o.length<=100) :
  yO ga (plS toks stop (st i) b o)=(if sees toks (st j) [44]=true then some (Sum.inl (plS toks stop (st (j+1)) b (o++[x])))else some (Sum.inr (encS toks stop (dU toks (st j) b),o++[x]))):=by
 unfold yO;show (bif decide ((encS toks stop (st i)).bad<0)then (ga (encS toks stop (st i))).bind fun c=>(gd (o.length+[ah c.2].length)).bind fun _=>(dO c.1 [44]).bind fun a=>bif (!a.2)then (((dV a.1 b).bind fun e=>some (e,o++[ah c.2])).bind fun r=>some (Sum.inr r))else some (Sum.inl (a.1.toks,w64 (a.1.i+1),a.1.stop,a.1.bad,b,o++[ah c.2]))else _)=_
 have f:(st i).bad.isNone=true:=rfl;rw[Ya h,f];simp only[ac,d,zA,aH,gu h (st j) [44]];rw[gdp (by simp;omega)];simp only[zA];cases g:sees toks (st j) [44]with
 | true=>
  simp only[aM,aa,if_true];have:=jG (toks:=toks) (stop:=stop) (s:=st j) h (bD g).2;have k:w64 ((encS toks stop (st j)).i+1)=(encS toks stop (aU (st j))).i:=congrArg GRd.i this;rw[k];rfl
 | false=>simp only[Bool.not_false,ac,aL,if_false,kD h,zA]
def tkL(xs:List af):List Tk:=tks (Es (xs.map pcE))
theorem EF(x:af):tkL [x]=tkE x:=rfl
theorem zh(x y:af)(r:List af):tkL (x::y::r)=tkE x++⟨4,0,[44]⟩::tkL (y::r):=by
 show tks (Es (pcE x::pcE y::r.map pcE))=_
 rw[IU _ _ (by simp),cZ,jr,iW];rfl
theorem SY(h:bI toks stop){m:Nat}(b:Str)(p:b≠[42]/\b≠[43]/\b≠[45]/\b≠[60]/\b≠[61,61])(d:b≠[44]):∀(xs:List af) (i:Nat) (o:List af),xs≠[]->o.length+xs.length<=100->(∀x,x∈xs->QE toks stop x/\6*(tkE x).length+6<=m) ->
  Ms toks i (tkL xs++[⟨4,0,b⟩])->ak (yO (gE m)) (plS toks stop (st i) b o)=some (encS toks stop (st (i+(tkL xs).length+1)),o++xs)
 | [],_,_,q,_,_,_=>absurd rfl q
 | [x],i,o,_,f,g,a=>by
  rw[EF,iH]at a;have c:=pO a.2;obtain⟨j,k⟩:=g x (by simp);have l:=j m i k a.1 (KI c p);have n:sees toks (st (i+(tkE x).length)) [44]=false:=by rw[c];simp[d]
  have s:sees toks (st (i+(tkE x).length)) b=true:=by rw[c];simp
  rw[aJ,RG h (gE m) b o x l (by simp at f;omega),n,if_neg (by decide),qP s,EF]
 | x::y::r,i,o,_,f,g,a=>by
  rw[zh,a8,iH]at a;have e:=pO a.2;obtain⟨j,k⟩:=g x (by simp);have l:=j m i k a.1 (KI e (by decide));have n:sees toks (st (i+(tkE x).length)) [44]=true:=by rw[e];rfl
  have ih:=SY h b p d (y::r) (i+(tkE x).length+1) (o++[x]) (by simp) (by simp at f ⊢;omega) (fun z t=>g z (aq _ t)) a.2.2;rw[aJ,RG h (gE m) b o x l (by simp at f;omega),n,if_pos rfl];rw[zh];simp only[a7,List.length_cons];rw[ih,a8,show i+(tkE x).length+1+(tkL (y::r)).length+1=i+((tkE x).length+((tkL (y::r)).length+1))+1 by omega];rfl
theorem RH(h:bI toks stop){m:Nat}(b:Str)(g:b=[93]\/b=[41])(xs:List af)(k:xs.length<=100)(l:∀x,x∈xs->QE toks stop x/\6*(tkE x).length+6<=m)(n:∀x,x∈xs->∃y r c,tkE x=y::r/\Hd y c)(i:Nat)(a:Ms toks i (tkL xs++[⟨4,0,b⟩])) :
  gL (m+1) (encS toks stop (st i)) b=some (encS toks stop (st (i+(tkL xs).length+1)),xs):=by
 show rM (gE m) (gC m) (gS m) (gP m) (gA m) (gL m) _ b=_
 rw[UM,gu h (st i) b,zA];cases xs with
 | nil=>
  have j:=pO (show Ms toks i [⟨4,0,b⟩]from a);have f:sees toks (st i) b=true:=by rw[j];simp
  simp only[f,ac];rw[jG h (bD f).2];rfl
 | cons x r=>
  obtain⟨y,ry,c,o,p⟩:=n x (by simp);have d:Ms toks i (tkE x):=by
   cases r with
   | nil=>rw[EF,iH]at a;exact a.1
   | cons z r=>rw[zh,a8,iH]at a;exact a.1
  rw[o]at d;have e:=Vg p d;have f:sees toks (st i) b=false:=by
   rcases g with rfl | rfl
   ·exact e.1
   ·exact e.2.1
  simp only[f,aa];exact SY h b (by rcases g with rfl | rfl<;>decide) (by rcases g with rfl | rfl<;>decide) (x::r) i [] (by simp) (by simpa using k) l a
end
end Go.Proofs.YtkebfkahdmddpaaGreatDoor
/- Plain laws: the tokens of an expression's own text are read back as the expression: every kind. -/
namespace Go.Proofs.YtkebfkahdmddpaaGreatDoor
open Go.Abs Go.Proofs
variable {toks:List aA} {stop:Int}
def Hx(e:af):Prop:=∃x r,tkE e=x::r/\Hd x (decide (1<=lvl e))
theorem ajq{e:af}{b:Nat}(h:Hx e)(f:1<=b):∃x r,tkA e b=x::r/\Hd x true:=by
 by_cases c:lvl e<b
 ·rw[lD c];exact⟨_,_,rfl,.inr (.inr (.inl ⟨rfl,.inr rfl⟩))⟩
 ·rw[kQ (by omega)];obtain⟨x,r,d,a⟩:=h;rw[al (show 1<=lvl e by omega)]at a;exact⟨x,r,d,a⟩
theorem UR(h:bI toks stop){e:af}(l:lvl e=4)(t:Tk)(d:tkE e=[t])(f:∀(u:aA) (i:Nat),toks[i]?=some u->Xg u t->∀ge gl,Dq toks stop ge gl (st i)=some (encS toks stop (st (i+1)),e)):QA toks stop e:=by
 intro m i a c;have g:=kQ (e:=e) (b:=4) (by omega);rw[g,d]at a c ⊢;obtain⟨k,rfl⟩:∃k,m=k+1:=⟨m-1,by simp at a;omega⟩;obtain⟨⟨u,j,hi⟩,_⟩:=c;have ee:gA (k+1) (encS toks stop (st i))=nM (gE k) (gC k) (gS k) (gP k) (gA k) (gL k) (encS toks stop (st i)):=rfl;rw[ee,A7 h];exact f u i j hi _ _
theorem Gy{e:af}{k n:Int}{t:Str}{a:List af}(b:e.kind=k)(c:e.n=n)(d:e.text=t)(f:e.args=a):(⟨k,n,t,a⟩:af)=e:=by
 cases e
 simp only at b c d f;rw[b,c,d,f]
theorem TI{x:af}:∀ {xs:List af},x∈xs->(tkE x).length<=(tkL xs).length
 | [y],h=>by rw[List.mem_singleton.1 h,EF];exact az _
 | y::z::r,h=>by
  rw[zh,a7,List.length_cons];rcases bc.1 h with rfl | h
  ·omega
  ·have:=TI h;omega
theorem aaE{i:Nat}{t:Str}{r:List Tk}(a:Ms toks i (⟨1,0,t⟩::r))(hv:bZ t=true):iI toks (st i)=(st (i+1),t):=by
 obtain⟨⟨u,b,c,e,d⟩,_⟩:=a;unfold iI jZ;rw[xP b,c,d,hv];rfl
theorem KL(h:bI toks stop){i:Nat}{t:Tk}{r:List Tk}(a:Ms toks i (t::r)):(GRd.mk (encS toks stop (st i)).toks (w64 ((encS toks stop (st i)).i+1)) (encS toks stop (st i)).stop (encS toks stop (st i)).bad)=encS toks stop (st (i+1)):=by
 obtain⟨⟨u,b,_⟩,_⟩:=a;exact jG h (zC.1 b).1
abbrev Q4(toks:List aA)(stop:Int)(e:af):Prop:=QA toks stop e/\QP toks stop e/\QS toks stop e/\QE toks stop e
theorem Nh(h:bI toks stop){e:af}(c:lvl e=4)(a:QA toks stop e)(d:Hx e):Q4 toks stop e:=by
 obtain⟨x,r,f,b⟩:=d;rw[al (by omega)]at b;exact⟨a,mk4 h c a f b⟩
theorem air(h:bI toks stop){e:af}(d:e.kind=4)(p:e.n=0)(q:e.text=[])(z:e.args.length<=8)(ih:∀x,x∈e.args->QE toks stop x/\Hx x):Q4 toks stop e/\Hx e:=by
 have lv:lvl e=4:=by unfold lvl;rw[d];rfl
 have l:tkE e=⟨4,0,[91]⟩::(tkL e.args++[⟨4,0,[93]⟩]):=by unfold tkE;rw[pc4 d,jr,cZ];rfl
 have c:Hx e:=⟨_,_,l,.inr (.inr (.inl ⟨rfl,.inl rfl⟩))⟩;refine⟨Nh h lv ?_ c,c⟩;intro m i o f;rw[kQ (e:=e) (b:=4) (by omega),l]at o f ⊢;simp only[List.length_cons,a7,List.length_nil]at o ⊢;obtain⟨k,rfl⟩:∃k,m=k+2:=⟨m-2,by omega⟩;have s:=pO f;have t:sees toks (st i) [91]=true:=by rw[s];rfl
 obtain⟨⟨u,v,w,A,B⟩,g⟩:=f;have j:=RH h (m:=k) [93] (.inl rfl) e.args (by omega) (fun x c=>⟨(ih x c).1,by have:=TI c;omega⟩) (fun x c=>by
  obtain⟨y,r,a,b⟩:=(ih x c).2;exact⟨y,r,_,a,b⟩) (i+1) g
 have ee:gA (k+2) (encS toks stop (st i))=nM (gE (k+1)) (gC (k+1)) (gS (k+1)) (gP (k+1)) (gA (k+1)) (gL (k+1)) (encS toks stop (st i)):=rfl;rw[ee,A7 h];unfold Dq zk;have j:gL (k+1) (encS toks stop (aU (st i))) [93]=_:=j;rw[xP v,w,if_neg (by decide),if_neg (by decide),if_neg (by decide),t,if_pos rfl,j,zA,Gy d p q rfl,show i+1+(tkL e.args).length+1=i+((tkL e.args).length+(0+1)+1) by omega]
theorem ais(h:bI toks stop){e:af}(g:e.kind=5)(s:e.n=0)(j:0<=nH e.text)(l:e.text.length<=120)(D:e.args.length<=8)(ih:∀x,x∈e.args->QE toks stop x/\Hx x):Q4 toks stop e/\Hx e:=by
 have lv:lvl e=4:=by unfold lvl;rw[g];rfl
 have o:tkE e=⟨1,0,e.text⟩::⟨4,0,[40]⟩::(tkL e.args++[⟨4,0,[41]⟩]):=by unfold tkE;rw[pc5 g,oM,jr,cZ];rfl
 have c:=agJ j;have d:Hx e:=⟨_,_,o,.inr (.inr (.inr ⟨rfl,fun _=>⟨c.1,c.2.1,c.2.2.1⟩,c.2.2.2⟩))⟩;refine⟨Nh h lv ?_ d,d⟩;intro m i p q;rw[kQ (e:=e) (b:=4) (by omega),o]at p q ⊢;simp only[List.length_cons,a7,List.length_nil]at p ⊢;obtain⟨k,rfl⟩:∃k,m=k+2:=⟨m-2,by omega⟩;obtain⟨⟨u,t,v,E,w⟩,f⟩:=q;have z:=pO f;have A:sees toks (st (i+1)) [40]=true:=by rw[z];rfl
 have B:=RH h (m:=k) [41] (.inr rfl) e.args (by omega) (fun x d=>⟨(ih x d).1,by have:=TI d;omega⟩) (fun x d=>by
  obtain⟨y,r,a,b⟩:=(ih x d).2;exact⟨y,r,_,a,b⟩) (i+1+1) f.2
 have ee:gA (k+2) (encS toks stop (st i))=nM (gE (k+1)) (gC (k+1)) (gS (k+1)) (gP (k+1)) (gA (k+1)) (gL (k+1)) (encS toks stop (st i)):=rfl;rw[ee,A7 h];unfold Dq;have C:dU toks (aU (st i)) [40]=st (i+1+1):=qP A;rw[xP t,v,w,if_neg (show ¬(1:Int)=2 by decide),if_neg (show ¬(1:Int)=3 by decide),if_pos rfl,acO j l,if_neg (by decide),if_pos j,C,B,zA,Gy g s rfl rfl,show i+1+1+(tkL e.args).length+1=i+((tkL e.args).length+(0+1)+1+1) by omega]
theorem q_op(h:bI toks stop){e a b:af}(y:e.kind=6)(G:e.text=[])(A:e.args=[a,b])(M:1<=e.n)(N:e.n<=5)(ia:Q4 toks stop a/\Hx a)(ib:Q4 toks stop b/\Hx b):Q4 toks stop e/\Hx e:=by
 have lv:lvl e=kX e.n:=by unfold lvl;rw[if_neg (by omega),if_pos y]
 have g:tkE e=tkA a (oI e.n)++⟨4,0,opS e.n⟩::tkA b (kX e.n+1):=by unfold tkE;rw[pc6 y A,cZ,iW,jr,iW];rfl
 have eta:(⟨6,e.n,[],[a,b]⟩:af)=e:=Gy y rfl G A;have H:1<=kX e.n/\kX e.n<=3:=by unfold kX;split<;>(try split)<;>omega
 have I:2<=oI e.n:=by unfold oI;split<;>omega
 have B:Hx e:=by
  obtain⟨x,r,J,K⟩:=ajq (b:=oI e.n) ia.2 (by omega);rw[J]at g;exact⟨x,_,g,by rw[al (by omega)];exact K⟩
 refine⟨?_,B⟩;obtain⟨x,r,q,j⟩:=B;rw[al (show 1<=lvl e by omega)]at j;have c:e.n=3\/(e.n=1\/e.n=2)\/(e.n=4\/e.n=5):=by omega
 rcases c with c | c | c
 ·have C:kX e.n=3:=by rw[c];rfl
  have lf:oI e.n=3:=by unfold oI;rw[C];rfl
  have os:opS e.n=[42]:=by rw[c];rfl
  rw[lf,C,os]at g;have g:tkE e=tkA a 3++⟨4,0,[42]⟩::tkA b 4:=g;have D:tkA e 3=tkE e:=kQ (by omega);have s:tkA e 2=tkE e:=kQ (by omega);have t:QP toks stop e:=by
   intro m i o f;rw[D,g]at o f ⊢;rw[iH]at f;simp only[a7,List.length_cons]at o ⊢;have l:sees toks (st (i+(tkA a 3).length)) [42]=true:=by rw[pO f.2];rfl
   have qb:=ib.1.1 m (i+(tkA a 3).length+1) (by show 6*(tkA b 4).length+2<=m;omega) f.2.2;have qb:gA m (encS toks stop (aU (st (i+(tkA a 3).length))))=_:=qb;rw[ia.1.2.1 m i (by omega) f.1,aJ,sJ h,l,if_pos rfl,qb,zA,show i+(tkA a 3).length+1+(tkA b 4).length=i+((tkA a 3).length+((tkA b 4).length+1)) by omega];rw[show pkS toks stop (st (i+((tkA a 3).length+((tkA b 4).length+1)))) e=pkS toks stop (st (i+((tkA a 3).length+((tkA b 4).length+1)))) ⟨6,e.n,[],[a,b]⟩ by rw[eta],c];rfl
  have u:=mkS h t (s.trans D.symm);have p:=aeb h u s q j;exact⟨mkA h p (by omega),t,u,p⟩
 ·have E:kX e.n=2:=by rcases c with c | c<;>(rw[c];rfl)
  have lf:oI e.n=2:=by unfold oI;rw[E];rfl
  rw[lf,E]at g;have g:tkE e=tkA a 2++⟨4,0,opS e.n⟩::tkA b 3:=g;have s:tkA e 2=tkE e:=kQ (by omega);have u:QS toks stop e:=by
   intro m i o f hend;rw[s,g]at o f hend ⊢;rw[iH]at f;simp only[a7,List.length_cons]at o hend ⊢;obtain⟨k,rfl⟩:∃k,m=k+1:=⟨m-1,by omega⟩;have d:=pO f.2;have L:sees toks (st (i+(tkA a 2).length)) [42]=false:=by rw[d];rcases c with c | c<;>(rw[c];rfl)
   have w:i+(tkA a 2).length+1+(tkA b 3).length=i+((tkA a 2).length+((tkA b 3).length+1)):=by omega
   have qb:=ib.1.2.1 k (i+(tkA a 2).length+1) (by show 6*(tkA b 3).length+2<=k;omega) f.2.2;rw[w,WJ h _ b hend]at qb;have qb:gP (k+1) (encS toks stop (aU (st (i+(tkA a 2).length))))=_:=qb;rw[ia.1.2.2.1 (k+1) i (by omega) f.1 L,aJ,rG h];rw[show pkS toks stop (st (i+((tkA a 2).length+((tkA b 3).length+1)))) e=pkS toks stop (st (i+((tkA a 2).length+((tkA b 3).length+1)))) ⟨6,e.n,[],[a,b]⟩ by rw[eta]];rcases c with c | c
   ·have l:sees toks (st (i+(tkA a 2).length)) [43]=true:=by rw[d,c];rfl
    rw[l,if_pos rfl];unfold Rx;rw[qb,zA,c];rfl
   ·have l:sees toks (st (i+(tkA a 2).length)) [43]=false:=by rw[d,c];rfl
    have z:sees toks (st (i+(tkA a 2).length)) [45]=true:=by rw[d,c];rfl
    rw[l,if_neg (by decide),z,if_pos rfl];unfold Rx;rw[qb,zA,c];rfl
  have p:=aeb h u s q j;have v:=mkA h p (by omega);exact⟨v,mkP h v (by rw[lD (show lvl e<3 by omega),lD (show lvl e<4 by omega)]),u,p⟩
 ·have F:kX e.n=1:=by rcases c with c | c<;>(rw[c];rfl)
  have lf:oI e.n=2:=by unfold oI;rw[F];rfl
  rw[lf,F]at g;have g:tkE e=tkA a 2++⟨4,0,opS e.n⟩::tkA b 2:=g;have p:QE toks stop e:=by
   intro m i o f hend;have hMh:=f;rw[q]at hMh;rw[g]at o f hend ⊢;rw[iH]at f;simp only[a7,List.length_cons]at o hend ⊢;obtain⟨k,rfl⟩:∃k,m=k+3:=⟨m-3,by omega⟩;have d:=pO f.2;have w:i+(tkA a 2).length+1+(tkA b 2).length=i+((tkA a 2).length+((tkA b 2).length+1)):=by omega
   have qa:=ia.1.2.2.1 k i (by omega) f.1 (by rw[d];rcases c with c | c<;>(rw[c];rfl))
   rw[TM h _ a (by rw[d];rcases c with c | c<;>(rw[c];rfl)) (by rw[d];rcases c with c | c<;>(rw[c];rfl))]at qa
   have qb:=ib.1.2.2.1 k (i+(tkA a 2).length+1) (by show 6*(tkA b 2).length+3<=k;omega) f.2.2 (by show sees toks (st (i+(tkA a 2).length+1+(tkA b 2).length)) [42]=false;rw[w];exact hend.1);rw[w,TM h _ b hend.2.1 hend.2.2.1]at qb;refine mkE h (m:=k+2) ?_ ((Vg j hMh).2.2 rfl);show jc (gE (k+1)) (gC (k+1)) (gS (k+1)) (gP (k+1)) (gA (k+1)) (gL (k+1)) _=_
   unfold jc;have nx:=KL (stop:=stop) h f.2;rw[<- eta];rcases c with c | c
   ·have l:sees toks (st (i+(tkA a 2).length)) [60]=true:=by rw[d,c];rfl
    simp only[qa,zA,gu h,l,ac,nx,qb,iw,aH,c]
   ·have l:sees toks (st (i+(tkA a 2).length)) [60]=false:=by rw[d,c];rfl
    have z:sees toks (st (i+(tkA a 2).length)) [61,61]=true:=by rw[d,c];rfl
    simp only[qa,zA,gu h,l,z,ac,aa,nx,qb,iw,aH,c]
  have v:=mkA h p (by omega);have t:=mkP h v (by rw[lD (show lvl e<3 by omega),lD (show lvl e<4 by omega)]);exact⟨v,t,mkS h t (by rw[lD (show lvl e<3 by omega),lD (show lvl e<2 by omega)]),p⟩
theorem adL(h:bI toks stop){e:af}(lv:lvl e=0)(a:QE toks stop e):Q4 toks stop e:=by
 have b:=mkA h a (by omega);have c:=mkP h b (by rw[lD (show lvl e<3 by omega),lD (show lvl e<4 by omega)]);exact⟨b,c,mkS h c (by rw[lD (show lvl e<3 by omega),lD (show lvl e<2 by omega)]),a⟩
theorem KJ{i:Nat}{x:Str}{r:List Tk}(h:Ms toks i (⟨1,0,x⟩::r))(a:x≠[42]/\x≠[43]/\x≠[45]/\x≠[60]/\x≠[61,61]):afl toks i:=KI (qR h) a
theorem ai7(h:bI toks stop){e a b:af}(f:e.kind=7)(p:e.n=0)(hv:bZ e.text=true)(g:e.args=[a,b])(ia:QE toks stop a)(ib:QE toks stop b):Q4 toks stop e/\Hx e:=by
 have lv:lvl e=0:=by unfold lvl;rw[if_pos (.inl f)]
 have j:tkE e=⟨1,0,[108,101,116]⟩::⟨1,0,e.text⟩::⟨4,0,[61]⟩::(tkE a++⟨1,0,[105,110]⟩::tkE b):=by
  unfold tkE;rw[pc7 f g];simp only[cZ,iW,jr,oM]
 refine⟨adL h lv ?_,_,_,j,.inr (.inr (.inr ⟨rfl,fun hh=>by rw[lv]at hh;simp at hh,by simp,by simp⟩))⟩;intro m i l d hend;rw[j]at l d hend ⊢;simp only[a7,List.length_cons]at l hend ⊢;obtain⟨k,rfl⟩:∃k,m=k+1:=⟨m-1,by omega⟩;have nx:=KL (stop:=stop) h d;have q:=qR d;have r:sees toks (st i) [108,101,116]=true:=by rw[q];rfl
 have nm:=aaE d.2 hv;have s:sees toks (st (i+1+1)) [61]=true:=by rw[pO d.2.2];rfl
 have c:=d.2.2.2;rw[iH]at c;have qa:=ia k (i+1+1+1) (by omega) c.1 (KJ c.2 (by decide));have t:sees toks (st (i+1+1+1+(tkE a).length)) [105,110]=true:=by rw[qR c.2];rfl
 have o:i+1+1+1+(tkE a).length+1+(tkE b).length=i+((tkE a).length+((tkE b).length+1)+1+1+1):=by omega
 have qb:=ib k (i+1+1+1+(tkE a).length+1) (by omega) c.2.2 (by rw[o];exact hend);rw[o]at qb;show jH (gE k) (gC k) (gS k) (gP k) (gA k) (gL k) _=_
 unfold jH;simp only[gu h,r,zA,ac,nx,ER h,nm,kD h,qP s,qa,qP t,qb,aH];rw[Gy f p rfl g]
theorem ai8(h:bI toks stop){e a b:af}(f:e.kind=9)(q:e.n=0)(hv:bZ e.text=true)(j:e.args=[a,b])(ia:QE toks stop a)(ib:QE toks stop b):Q4 toks stop e/\Hx e:=by
 have lv:lvl e=0:=by unfold lvl;rw[if_pos (.inr (.inr f))]
 have l:tkE e=⟨1,0,[102,111,114]⟩::⟨1,0,e.text⟩::⟨1,0,[105,110]⟩::(tkE a++⟨1,0,[100,111]⟩::tkE b):=by
  unfold tkE;rw[pc9 f j];simp only[cZ,iW,jr,oM]
 refine⟨adL h lv ?_,_,_,l,.inr (.inr (.inr ⟨rfl,fun hh=>by rw[lv]at hh;simp at hh,by simp,by simp⟩))⟩;intro m i o d hend;rw[l]at o d hend ⊢;simp only[a7,List.length_cons]at o hend ⊢;obtain⟨k,rfl⟩:∃k,m=k+1:=⟨m-1,by omega⟩;have nx:=KL (stop:=stop) h d;have g:=qR d;have r:sees toks (st i) [108,101,116]=false:=by rw[g];rfl
 have s:sees toks (st i) [105,102]=false:=by rw[g];rfl
 have t:sees toks (st i) [102,111,114]=true:=by rw[g];rfl
 have nm:=aaE d.2 hv;have u:sees toks (st (i+1+1)) [105,110]=true:=by rw[qR d.2.2];rfl
 have c:=d.2.2.2;rw[iH]at c;have qa:=ia k (i+1+1+1) (by omega) c.1 (KJ c.2 (by decide));have v:sees toks (st (i+1+1+1+(tkE a).length)) [100,111]=true:=by rw[qR c.2];rfl
 have p:i+1+1+1+(tkE a).length+1+(tkE b).length=i+((tkE a).length+((tkE b).length+1)+1+1+1):=by omega
 have qb:=ib k (i+1+1+1+(tkE a).length+1) (by omega) c.2.2 (by rw[p];exact hend);rw[p]at qb;show jH (gE k) (gC k) (gS k) (gP k) (gA k) (gL k) _=_
 unfold jH;simp only[gu h,r,s,t,zA,ac,aa,nx,ER h,nm,kD h,qP u,qa,qP v,qb,aH];rw[Gy f q rfl j]
theorem q_if(h:bI toks stop){e a b c:af}(j:e.kind=8)(s:e.n=0)(t:e.text=[])(l:e.args=[a,b,c])(ia:QE toks stop a)(ib:QE toks stop b)(ic:QE toks stop c):Q4 toks stop e/\Hx e:=by
 have lv:lvl e=0:=by unfold lvl;rw[if_pos (.inr (.inl j))]
 have o:tkE e=⟨1,0,[105,102]⟩::(tkE a++⟨1,0,[116,104,101,110]⟩::(tkE b++⟨1,0,[101,108,115,101]⟩::tkE c)):=by
  unfold tkE;rw[pc8 j l];simp only[cZ,iW,jr,oM]
 refine⟨adL h lv ?_,_,_,o,.inr (.inr (.inr ⟨rfl,fun hh=>by rw[lv]at hh;simp at hh,by simp,by simp⟩))⟩;intro m i p g hend;rw[o]at p g hend ⊢;simp only[a7,List.length_cons]at p hend ⊢;obtain⟨k,rfl⟩:∃k,m=k+1:=⟨m-1,by omega⟩;have nx:=KL (stop:=stop) h g;have q:=qR g;have u:sees toks (st i) [108,101,116]=false:=by rw[q];rfl
 have v:sees toks (st i) [105,102]=true:=by rw[q];rfl
 have d:=g.2;rw[iH]at d;have qa:=ia k (i+1) (by omega) d.1 (KJ d.2 (by decide));have w:sees toks (st (i+1+(tkE a).length)) [116,104,101,110]=true:=by rw[qR d.2];rfl
 have f:=d.2.2;rw[iH]at f;have qb:=ib k (i+1+(tkE a).length+1) (by omega) f.1 (KJ f.2 (by decide));have x:sees toks (st (i+1+(tkE a).length+1+(tkE b).length)) [101,108,115,101]=true:=by rw[qR f.2];rfl
 have r:i+1+(tkE a).length+1+(tkE b).length+1+(tkE c).length=i+((tkE a).length+((tkE b).length+((tkE c).length+1)+1)+1):=by omega
 have qc:=ic k (i+1+(tkE a).length+1+(tkE b).length+1) (by omega) f.2.2 (by rw[r];exact hend);rw[r]at qc;show jH (gE k) (gC k) (gS k) (gP k) (gA k) (gL k) _=_
 unfold jH;simp only[gu h,u,v,zA,ac,aa,nx,kD h,qa,qP w,qb,qP x,qc,aH];rw[Gy j s t l]
theorem WG(h:bI toks stop):∀(n:Nat) (e:af),siz e<n->jA e->wtE e<=1000->Q4 toks stop e/\Hx e
 | 0,_,q,_,_=>absurd q (Nat.not_lt_zero _)
 | n+1,e,q,hv,B=>by
  cases hv with
  | mk _ g r=>
  have ih:∀x,x∈e.args->Q4 toks stop x/\Hx x:=fun x j=>WG h n x (by have:=dI j;omega) (r x j) (by have:=lT j;omega)
  have k:=Bc (e:=e) (by omega);have s:=g.k0;have t:=g.k9;have d:e.kind=1\/e.kind=2\/e.kind=3\/e.kind=4\/e.kind=5\/e.kind=6\/e.kind=7\/e.kind=8\/e.kind=9:=by omega
  rcases d with d | d | d | d | d | d | d | d | d
  ·have lv:lvl e=4:=by unfold lvl;rw[d];rfl
   have m:tkE e=[⟨2,e.n,[]⟩]:=by unfold tkE;rw[pc1 d];rfl
   have j:Hx e:=⟨_,_,m,.inl rfl⟩;refine⟨Nh h lv (UR h lv _ m fun u i o hi ge gl=>?_) j,j⟩;unfold Dq;rw[xP o,if_pos hi.1,hi.2.1,Gy d rfl (g.z (.inl d)) (g.leaf (.inl d))];rfl
  ·have lv:lvl e=4:=by unfold lvl;rw[d];rfl
   have m:tkE e=[⟨3,0,e.text⟩]:=by unfold tkE;rw[pc2 d];rfl
   have j:Hx e:=⟨_,_,m,.inr (.inl rfl)⟩;refine⟨Nh h lv (UR h lv _ m fun u i o hi ge gl=>?_) j,j⟩;unfold Dq;rw[xP o,hi.1,if_neg (show ¬(3:Int)=2 by decide),if_pos rfl,hi.2.2,Gy d (g.w (by omega) (by omega)) rfl (g.leaf (.inr (.inl d)))];rfl
  ·have lv:lvl e=4:=by unfold lvl;rw[d];rfl
   have m:tkE e=[⟨1,0,e.text⟩]:=by unfold tkE;rw[pc3 d];rfl
   have p:=vw (g.nm (.inl d)) k;have l:=acU p;have j:Hx e:=⟨_,_,m,.inr (.inr (.inr ⟨rfl,fun _=>⟨l.1,l.2.1,l.2.2.1⟩,l.2.2.2⟩))⟩;refine⟨Nh h lv (UR h lv _ m fun u i o hi ge gl=>?_) j,j⟩;unfold Dq;rw[xP o,hi.1,if_neg (show ¬(1:Int)=2 by decide),if_neg (show ¬(1:Int)=3 by decide),if_pos rfl,hi.2.2,if_pos p,Gy d (g.w (by omega) (by omega)) rfl (g.leaf (.inr (.inr d)))];rfl
  ·exact air h d (g.w (by omega) (by omega)) (g.z (.inr (.inl d))) (g.list d) fun x j=>⟨(ih x j).1.2.2.2,(ih x j).2⟩
  ·exact ais h d (g.w (by omega) (by omega)) (by rw[<- g.cl d];omega) k (by have:=g.call d;omega) fun x j=>⟨(ih x j).1.2.2.2,(ih x j).2⟩
  ·obtain⟨v,y,A⟩:=g.op d;obtain⟨a,b,f⟩:=lq v;exact q_op h d (g.z (.inr (.inr (.inl d)))) f y A (ih a (by rw[f];simp)) (ih b (by rw[f];simp))
  ·obtain⟨a,b,f⟩:=lq (g.two (.inl d));exact ai7 h d (g.w (by omega) (by omega)) (vw (g.nm (.inr (.inl d))) k) f (ih a (by rw[f];simp)).1.2.2.2 (ih b (by rw[f];simp)).1.2.2.2
  ·obtain⟨a,b,c,f⟩:=tJ (g.three d);exact q_if h d (g.w (by omega) (by omega)) (g.z (.inr (.inr (.inr d)))) f (ih a (by rw[f];simp)).1.2.2.2 (ih b (by rw[f];simp)).1.2.2.2 (ih c (by rw[f];simp)).1.2.2.2
  ·obtain⟨a,b,f⟩:=lq (g.two (.inr d));exact ai8 h d (g.w (by omega) (by omega)) (vw (g.nm (.inr (.inr d))) k) f (ih a (by rw[f];simp)).1.2.2.2 (ih b (by rw[f];simp)).1.2.2.2
theorem abM(h:bI toks stop){e:af}(hv:jA e)(b:wtE e<=1000)(c:Ms toks 0 (tkE e))(a:toks.length=(tkE e).length):Fe (GRd.mk toks 0 stop (-1))=some (encS toks stop (st toks.length),e):=by
 have f:=VF toks;have d:6*toks.length+6<=siz (GRd.mk toks 0 stop (-1))+1:=by
  show _<=SizeOf.sizeOf (GRd.mk toks 0 stop (-1))+1
  rw[GRd.mk.sizeOf_spec];have:=kR 0;have:=kR (-1);have:=kR stop;omega
 have q:=(WG h (siz e+1) e (Nat.lt_succ_self _) hv b).1.2.2.2 (siz (GRd.mk toks 0 stop (-1))+1) 0 (by rw[<- a];exact d) c (ad8 (by omega));rw[Nat.zero_add,<- a]at q;exact q
end Go.Proofs.YtkebfkahdmddpaaGreatDoor
