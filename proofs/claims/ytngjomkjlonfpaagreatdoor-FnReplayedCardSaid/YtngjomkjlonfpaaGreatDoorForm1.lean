import Derived.Test.YtngjomkjlonfpaaGreatDoorTok1
import Derived.Test.YtngjomkjlonfpaaGreatDoorPlain1
import Derived.Lib.SplitLaws
set_option linter.unusedSimpArgs false
set_option linter.unusedVariables false
/- Plain laws: the text of an expression is alike on both sides. -/
namespace Go.Proofs.YtngjomkjlonfpaaGreatDoor
open Go.Abs Go.Proofs
theorem lZ(s:Str):(kU s).length=s.length:=by unfold kU;rw[List.length_map]
theorem JP(s:Str):bytesOf (kU s)=s:=by
 unfold bytesOf kU;rw[List.map_map];refine (List.map_congr_left fun c _=>?_).trans (List.map_id s);show UInt8.ofNat ((c.toNat:Int)).toNat=c
 rw[aD];exact UInt8.ofNat_toNat
theorem NC(a b:Str):kU (a++b)=kU a++kU b:=by unfold kU;rw[List.map_append]
theorem ahc(xs:List Str)(b:Str){i:Nat}{x:Str}(h:xs[i]?=some x):Go.Lib.join (xs.take (i+1)) b=if i=0 then x else Go.Lib.join (xs.take i) b++b++x:=by
 cases xs with
 | nil=>simp at h
 | cons y r=>
  cases i with
  | zero=>
   simp at h;subst h;simp[Go.Lib.join_one]
  | succ i=>
   simp at h;rw[if_neg (by omega),List.take_succ_cons,List.take_succ_cons,Go.Lib.join_cons,Go.Lib.join_cons,Go.Lib.joinTail_take_succ b r i x h];simp[a8]
theorem RN(xs:List Str)(b:Str):(Go.Lib.join xs b).length<=b.length*xs.length+Go.Lib.lens xs:=by
 cases xs with
 | nil=>simp[Go.Lib.join_nil]
 | cons x r=>
  rw[Go.Lib.join_length];have:b.length*r.length<=b.length*(x::r).length:=Nat.mul_le_mul_left _ (by simp);omega
theorem FB(xs:List Str)(b:Str)(i:Nat):(Go.Lib.join (xs.take i) b).length<=b.length*xs.length+Go.Lib.lens xs:=by
 have h:=RN (xs.take i) b;have h1:=Go.Lib.lens_take_le xs i;have h2:b.length*(xs.take i).length<=b.length*xs.length:=Nat.mul_le_mul_left _ (by rw[ba];omega);omega
theorem ais(xs:List Str)(b:Str)(n:xs.length<=1048576)(o:b.length*xs.length+Go.Lib.lens xs<=1000000000)(l:b.length<=1000):IA xs b=some (Go.Lib.join xs b):=by
 unfold IA;have key:=dK (g:=fun (a:(List Str)×Str×(List Int)×Int)=>
  bif (decide (a.2.2.2<(a.1.length:Int)))then
   bif (decide (a.2.2.2>0))then
    (gd (a.2.2.1.length+(kU a.2.1).length)).bind fun _=>
    (idx a.1 a.2.2.2).bind fun f=>
    (gd ((a.2.2.1++(kU a.2.1)).length+(kU f).length)).bind fun _=>
    some (.inl (a.1,a.2.1,(a.2.2.1++(kU a.2.1))++(kU f),w64 (a.2.2.2+1)))
   else
    (idx a.1 a.2.2.2).bind fun j=>
    (gd (a.2.2.1.length+(kU j).length)).bind fun _=>
    some (.inl (a.1,a.2.1,a.2.2.1++(kU j),w64 (a.2.2.2+1)))
  else
   some (.inr (bytesOf a.2.2.1))) (fun (s:List Int) (i:Nat)=>((xs,b,s,(i:Int)):(List Str)×Str×(List Int)×Int)) xs (fun i s=>s=kU (Go.Lib.join (xs.take i) b)) (fun r=>r=Go.Lib.join xs b) (fun i x s c d=>.inl ?_) (fun s d=>?_) [] rfl
 ·obtain⟨r,h,rfl⟩:=key;exact h
 ·subst d;have h1:=FB xs b i;have h2:=FB xs b (i+1);have k:=ahc xs b c;have m:x.length<=1000000000:=by
   rw[k]at h2;split at h2
   ·omega
   ·rw[a7]at h2;omega
  refine⟨kU (Go.Lib.join (xs.take (i+1)) b),?_,rfl⟩;simp only[dw c,ac,au,c,zA,dn c (by omega)];rw[k];by_cases hi:i=0
  ·subst hi;have e:decide (((0:Nat):Int)>0)=false:=rfl;rw[e,if_pos rfl];simp only[aa];rw[gdp (by rw[lZ,lZ];omega)];rfl
  ·have e:decide ((i:Int)>0)=true:=by simp;omega
   rw[e,if_neg hi];simp only[ac];rw[gdp (by rw[lZ,lZ];omega),zA,gdp (by rw[a7,lZ,lZ,lZ];omega),NC,NC];rfl
 ·subst d;refine⟨_,by simp only[bG,aa];rfl,?_⟩;rw[List.take_length,JP]
theorem ajE(xs:List Str)(b:Str)(a:xs.length<=1048576)(c:b.length*xs.length+Go.Lib.lens xs<=1000000000):abo xs b=some (Go.Lib.join xs b):=by
 have h1:=RN xs b;unfold abo EG;rw[gdp (by omega),zA,gdp (by omega)];rfl
theorem JL:∀(n q:Nat),0<q->n<10 ^ q->(Go.Lib.decDigits n).length<=q:=by
 intro n;induction n using Nat.strongRecOn with
 | _ n ih=>
  intro q e a;rw[Go.Lib.decDigits];by_cases c:n<10
  ·rw[dif_pos c];simp;omega
  ·rw[dif_neg c];have d:10 ^ q=10 ^ (q-1)*10:=by rw[<- Nat.pow_succ];congr 1;omega
   have b:0<q-1:=by
    rcases Nat.lt_or_ge 1 q with h | h
    ·omega
    ·have:q=1:=by omega
     subst this;simp at a;omega
   have:=ih (n / 10) (by omega) (q-1) b (by rw[d]at a;generalize 10 ^ (q-1)=p at a ⊢;omega);simp;omega
theorem ajs(n:Int)(a:0<=n)(h1:n<9223372036854775808):(Go.Lib.itoa n).length<=19:=by
 unfold Go.Lib.itoa;rw[if_neg (by omega)];exact JL _ 19 (by omega) (by omega)
theorem apw:∀n:Nat,prn (Go.Lib.decDigits n)=true:=by
 intro n;induction n using Nat.strongRecOn with
 | _ n ih=>
  have one:∀k:Nat,k<10->prn [UInt8.ofNat (48+k)]=true:=by decide
  rw[Go.Lib.decDigits];by_cases a:n<10
  ·rw[dif_pos a];exact one n a
  ·rw[dif_neg a,iE,ih (n / 10) (by omega),one (n % 10) (by omega)];rfl
theorem alH(n:Int)(a:0<=n):prn (Go.Lib.itoa n)=true:=by
 unfold Go.Lib.itoa;rw[if_neg (by omega)];exact apw _
theorem alG(b:Str)(a:prn b=true):∀xs:List Str,(∀x,x∈xs->prn x=true)->prn (Go.Lib.join xs b)=true
 | [],_=>rfl
 | x::r,h=>by
  rw[Go.Lib.join_cons,iE,h x (by simp),Bool.true_and];have h2:∀y,y∈r->prn y=true:=fun y c=>h y (by simp[c])
  clear h;induction r with
  | nil=>rfl
  | cons y r ih=>
   show prn ((b++y)++Go.Lib.joinTail b r)=true
   rw[iE,iE,a,h2 y (by simp),ih fun z d=>h2 z (by simp[d])];rfl
theorem Vo(n:Int)(a:-9223372036854775808<=n)(h1:n<9223372036854775808):Ar n=some (Go.Lib.itoa n):=by
 unfold Ar EH;rw[if_pos ⟨a,by omega⟩];rfl
theorem aaW(e:af):Jq e=rH e:=rfl
theorem aaV(e:af):∃r,rH e=some r/\0<=r/\r<=4:=by
 have go:∀(c:Bool) (x y:Option Int),(∃r,x=some r/\0<=r/\r<=4)->(∃r,y=some r/\0<=r/\r<=4)->∃r,(bif c then x else y)=some r/\0<=r/\r<=4:=by
  intro c x y i b;cases c with
  | true=>exact b |> fun _=>i
  | false=>exact b
 have v:∀k:Int,0<=k->k<=4->∃r,(some k:Option Int)=some r/\0<=r/\r<=4:=fun k h j=>⟨k,rfl,h,j⟩
 have a:=v 0 (by decide) (by decide);have d:=v 1 (by decide) (by decide);have f:=v 2 (by decide) (by decide);have l:=v 3 (by decide) (by decide);have g:=v 4 (by decide) (by decide);unfold rH;exact go _ _ _ a (go _ _ _ a (go _ _ _ a (go _ _ _ (go _ _ _ d (go _ _ _ d (go _ _ _ f (go _ _ _ f (go _ _ _ l g))))) g)))
theorem ai7(n:Int)(a:1<=n)(h1:n<=5):∃s,uG n=some s/\uh n=some s/\s.length<=2/\prn s=true:=by
 have:n=1\/n=2\/n=3\/n=4\/n=5:=by omega
 rcases this with rfl | rfl | rfl | rfl | rfl
 ·exact⟨[43],rfl,rfl,by decide,by decide⟩
 ·exact⟨[45],rfl,rfl,by decide,by decide⟩
 ·exact⟨[42],rfl,rfl,by decide,by decide⟩
 ·exact⟨[60],rfl,rfl,by decide,by decide⟩
 ·exact⟨[61,61],rfl,rfl,by decide,by decide⟩
theorem TW{e:af}(h:e.args.length=2):∃a b,e.args=[a,b]:=by
 cases h1:e.args with
 | nil=>rw[h1]at h;cases h
 | cons a r=>cases r with
  | nil=>rw[h1]at h;cases h
  | cons b r=>cases r with
   | nil=>exact⟨a,b,rfl⟩
   | cons c r=>rw[h1]at h;simp at h
theorem aeN{e:af}(h:e.args.length=3):∃a b c,e.args=[a,b,c]:=by
 cases h1:e.args with
 | nil=>rw[h1]at h;cases h
 | cons a r=>cases r with
  | nil=>rw[h1]at h;cases h
  | cons b r=>cases r with
   | nil=>rw[h1]at h;cases h
   | cons c r=>cases r with
    | nil=>exact⟨a,b,c,rfl⟩
    | cons d r=>rw[h1]at h;simp at h
theorem H7:∀(n:Nat),
  (∀e:af,siz e<n->wB e->wtE e<=1000->∃s,(dL n).1 e=some s/\(bJ n).1 e=some s/\s.length+4<=200*wtE e/\prn s=true) /\
  (∀xs:List af,siz xs<n->(∀x,x∈xs->wB x)->wtL xs<=1000->∃s,(dL n).2.1 xs=some s/\(bJ n).2.1 xs=some s/\s.length<=200*wtL xs/\prn s=true) /\
  (∀(e:af) (b:Int),siz e+1<n->wB e->wtE e<=1000->∃s,(dL n).2.2 e b=some s/\(bJ n).2.2 e b=some s/\s.length+2<=200*wtE e/\prn s=true)
 | 0=>⟨fun _ h=>absurd h (Nat.not_lt_zero _),fun _ h=>absurd h (Nat.not_lt_zero _),fun _ _ h=>absurd h (Nat.not_lt_zero _)⟩
 | n+1=>by
  obtain⟨ihT,ihL,ihA⟩:=H7 n;refine⟨fun e Q hv L=>?_,fun xs Q hv L=>?_,fun e b Q hv L=>?_⟩
  ·show ∃s,Sj (dL n).1 (dL n).2.1 (dL n).2.2 e=some s/\yc (bJ n).1 (bJ n).2.1 (bJ n).2.2 e=some s/\_
   cases hv with
   | mk _ v w=>
   have hce:=ahS (e:=e) (by omega);have ht:=OO (e:=e) (by omega);have hargs:=VU (e:=e);unfold yc Sj;cases X:(e.kind==1)with
   | true=>
    have:=v.num (eq_of_beq X);have z:=ajs e.n (by omega) (by omega);exact⟨Go.Lib.itoa e.n,by simp only[ac,Vo e.n (by omega) (by omega),zA],by simp only[ac,xC e.n (by omega) (by omega),zA],by omega,alH _ (by omega)⟩
   | false=>
   cases k2:(e.kind==2)with
   | true=>
    simp only[ac,aa];rw[gdp (by simp;omega),zA,gdp (by simp;omega),zA];exact⟨_,rfl,rfl,by simp;omega,by simp only[iE,v.pr];rfl⟩
   | false=>
   cases k3:(e.kind==3)with
   | true=>exact⟨e.text,rfl,rfl,by omega,v.pr⟩
   | false=>
   cases k4:(e.kind==4)with
   | true=>
    obtain⟨s,p,e1',z,f⟩:=ihL e.args (by omega) w (by omega);simp only[ac,aa,p,e1',zA];rw[gdp (by simp;omega),zA,gdp (by simp;omega),zA];exact⟨_,rfl,rfl,by simp;omega,by simp only[iE,f];rfl⟩
   | false=>
   cases k5:(e.kind==5)with
   | true=>
    obtain⟨s,p,e1',z,f⟩:=ihL e.args (by omega) w (by omega);simp only[ac,aa,p,e1',zA];rw[gdp (by simp;omega),zA,gdp (by simp;omega),zA,gdp (by simp;omega),zA];exact⟨_,rfl,rfl,by simp;omega,by simp only[iE,v.pr,f];rfl⟩
   | false=>
   cases Y:(e.kind==7)with
   | true=>
    obtain⟨a,b,d⟩:=TW (v.two (.inl (eq_of_beq Y)));have B:wtL e.args=wtE a+wtE b:=by rw[d,wG]
    obtain⟨s,p,e1',z,f⟩:=ihT a (by have:=gm (x:=a) (e:=e) (by rw[d];simp);omega) (w a (by rw[d];simp)) (by omega);obtain⟨t,q,e2',M,m⟩:=ihT b (by have:=gm (x:=b) (e:=e) (by rw[d];simp);omega) (w b (by rw[d];simp)) (by omega);have C:idx e.args 0=some a:=by rw[d];rfl
    have D:idx e.args 1=some b:=by rw[d];rfl
    simp only[ac,aa,C,D,aO,p,e1',q,e2',zA];rw[gdp (by simp;omega),zA,gdp (by simp;omega),zA,gdp (by simp;omega),zA,gdp (by simp;omega),zA,gdp (by simp;omega),zA];exact⟨_,rfl,rfl,by simp;omega,by simp only[iE,v.pr,f,m];rfl⟩
   | false=>
   cases k9:(e.kind==9)with
   | true=>
    have N:(e.kind==8)=false:=by rw[eq_of_beq k9];rfl
    obtain⟨a,b,d⟩:=TW (v.two (.inr (eq_of_beq k9)));have B:wtL e.args=wtE a+wtE b:=by rw[d,wG]
    obtain⟨s,p,e1',z,f⟩:=ihT a (by have:=gm (x:=a) (e:=e) (by rw[d];simp);omega) (w a (by rw[d];simp)) (by omega);obtain⟨t,q,e2',M,m⟩:=ihT b (by have:=gm (x:=b) (e:=e) (by rw[d];simp);omega) (w b (by rw[d];simp)) (by omega);have C:idx e.args 0=some a:=by rw[d];rfl
    have D:idx e.args 1=some b:=by rw[d];rfl
    simp only[ac,aa,N,C,D,aO,p,e1',q,e2',zA];rw[gdp (by simp;omega),zA,gdp (by simp;omega),zA,gdp (by simp;omega),zA,gdp (by simp;omega),zA,gdp (by simp;omega),zA];exact⟨_,rfl,rfl,by simp;omega,by simp only[iE,v.pr,f,m];rfl⟩
   | false=>
   cases N:(e.kind==8)with
   | true=>
    obtain⟨a,b,c,d⟩:=aeN (v.three (eq_of_beq N));have B:wtL e.args=wtE a+(wtE b+wtE c):=by rw[d,VK]
    obtain⟨s,p,e1',z,f⟩:=ihT a (by have:=gm (x:=a) (e:=e) (by rw[d];simp);omega) (w a (by rw[d];simp)) (by omega);obtain⟨t,q,e2',M,m⟩:=ihT b (by have:=gm (x:=b) (e:=e) (by rw[d];simp);omega) (w b (by rw[d];simp)) (by omega);obtain⟨u,R,e3',O,A⟩:=ihT c (by have:=gm (x:=c) (e:=e) (by rw[d];simp);omega) (w c (by rw[d];simp)) (by omega);have C:idx e.args 0=some a:=by rw[d];rfl
    have D:idx e.args 1=some b:=by rw[d];rfl
    have i2:idx e.args 2=some c:=by rw[d];rfl
    simp only[ac,aa,C,D,i2,aO,p,e1',q,e2',R,e3',zA];rw[gdp (by simp;omega),zA,gdp (by simp;omega),zA,gdp (by simp;omega),zA,gdp (by simp;omega),zA,gdp (by simp;omega),zA];exact⟨_,rfl,rfl,by simp;omega,by simp only[iE,f,m,A];rfl⟩
   | false=>
    have hk:e.kind=6:=by
     have q0:=v.k0;have q9:=v.k9;have n1:¬e.kind=1:=by simpa using X
     have n2:¬e.kind=2:=by simpa using k2
     have n3:¬e.kind=3:=by simpa using k3
     have n4:¬e.kind=4:=by simpa using k4
     have n5:¬e.kind=5:=by simpa using k5
     have n7:¬e.kind=7:=by simpa using Y
     have n8:¬e.kind=8:=by simpa using N
     have n9:¬e.kind=9:=by simpa using k9
     omega
    obtain⟨ha,S,T⟩:=v.op hk;obtain⟨a,b,d⟩:=TW ha;have B:wtL e.args=wtE a+wtE b:=by rw[d,wG]
    have za:=gm (x:=a) (e:=e) (by rw[d];simp);have zb:=gm (x:=b) (e:=e) (by rw[d];simp);obtain⟨r,H,r0,I⟩:=aaV e;have e0':=(aaW e).trans H;obtain⟨s,p,U,z,f⟩:=ihA a 2 (by omega) (w a (by rw[d];simp)) (by omega);obtain⟨s',e1',f1',l1',pl1'⟩:=ihA a r (by omega) (w a (by rw[d];simp)) (by omega);obtain⟨t,q,f2,M,m⟩:=ihA b (w64 (r+1)) (by omega) (w b (by rw[d];simp)) (by omega);obtain⟨o,R,f3,O,A⟩:=ai7 e.n S T;have C:idx e.args 0=some a:=by rw[d];rfl
    have D:idx e.args 1=some b:=by rw[d];rfl
    simp only[aa,C,D,aO,H,e0',p,e1',q,R,U,f1',f2,f3,zA];cases (r==1)with
    | true=>
     simp only[ac];rw[gdp (by simp;omega),zA,gdp (by simp;omega),zA,gdp (by simp;omega),zA,gdp (by simp;omega),zA];exact⟨_,rfl,rfl,by simp;omega,by simp only[iE,f,m,A];rfl⟩
    | false=>
     simp only[aa];rw[gdp (by simp;omega),zA,gdp (by simp;omega),zA,gdp (by simp;omega),zA,gdp (by simp;omega),zA];exact⟨_,rfl,rfl,by simp;omega,by simp only[iE,pl1',m,A];rfl⟩
  ·have V:=Xi xs;have hA:∀(g:af->Option Str),(∀x,x∈xs->∃s,(dL n).1 x=some s/\g x=some s/\s.length+4<=200*wtE x/\prn s=true)->∃l:List Str,l.length=xs.length/\Go.Lib.lens l+4*xs.length<=200*wtL xs/\(∀s,s∈l->prn s=true)/\∀(i:Nat) (x:af),xs[i]?=some x->∃s:Str,l[i]?=some s/\(dL n).1 x=some s/\g x=some s:=by
    intro g;clear Q hv L V;induction xs with
    | nil=>exact fun _=>⟨[],rfl,by simp[Go.Lib.lens,wtL],fun s h=>(by cases h),fun i x h=>by simp at h⟩
    | cons x r ih=>
     intro k;obtain⟨l,h1,h2,h4,h3⟩:=ih (fun y G=>k y (ar _ G));obtain⟨s,J,P,W,q4⟩:=k x (by simp);refine⟨s::l,by simp[h1],?_,fun u hu=>(bc.1 hu).elim (fun e=>by rw[e];exact q4) (h4 u),fun i y G=>?_⟩
     ·have p:Go.Lib.lens (s::l)=s.length+Go.Lib.lens l:=by simp[Go.Lib.lens]
      have q:wtL (x::r)=wtE x+wtL r:=rfl;rw[p,q];simp only[List.length_cons];omega
     ·cases i with
      | zero=>simp at G;subst G;exact⟨s,rfl,J,P⟩
      | succ i=>simp at G;simpa using h3 i y G
   obtain⟨l,z,M,l4,O⟩:=hA (bJ n).1 fun x k=>ihT x (by have:=ZE k;omega) (hv x k) (by have:=Xh k;omega)
   have Z:([44,32]:Str).length*l.length+Go.Lib.lens l<=1000000000:=by simp only[List.length_cons,List.length_nil];rw[z];omega
   have eJi:=ajE l [44,32] (by omega) Z;have eJs:=ais l [44,32] (by omega) Z (by simp);have lj:=RN l [44,32];refine⟨Go.Lib.join l [44,32],?_,?_,by simp only[List.length_cons,List.length_nil]at lj;omega,alG _ rfl l l4⟩
   ·show Lh (dL n).1 (dL n).2.1 (dL n).2.2 xs=_
    unfold Lh;have key:=dK (g:=fun (j:(List Str)×(List af)×Int×Int)=>
     bif (decide (j.2.2.2<j.2.2.1))then
      (idx j.2.1 j.2.2.2).bind fun q=>
      ((dL n).1 (aj q)).bind fun K=>
      (gd (j.1.length+([K]:List Str).length)).bind fun _=>
      some (.inl (j.1++([K]:List Str),j.2.1,j.2.2.1,w64 (j.2.2.2+1)))
     else
      (
       (abo j.1 [44,32]).bind fun I=>
       some (I)
      ).bind fun r=>some (.inr r)) (fun (s:List Str) (i:Nat)=>((s,xs,(xs.length:Int),(i:Int)):(List Str)×(List af)×Int×Int)) xs (fun i s=>s=l.take i) (fun r=>r=Go.Lib.join l [44,32]) (fun i x s k E=>.inl ?_) (fun s E=>?_) [] rfl
    ·obtain⟨r,h,rfl⟩:=key;exact h
    ·obtain⟨t,J,P,W⟩:=O i x k;subst E;have hi:=(zC.1 k).1;refine⟨l.take (i+1),?_,rfl⟩;simp only[dw k,ac,au,k,zA,aO,P,dn k (by omega)];rw[gdp (by simp;omega)];obtain⟨F,rfl⟩:=zC.1 J;rw[List.take_succ_eq_append_getElem F];rfl
    ·subst E;refine⟨Go.Lib.join l [44,32],?_,rfl⟩;have e:l.take xs.length=l:=by rw[<- z,List.take_length]
     simp only[bG,aa,e,eJi,zA]
   ·show yg (bJ n).1 (bJ n).2.1 (bJ n).2.2 xs=_
    unfold yg;have key:=dK (g:=fun (j:(List af)×(List Str)×Int)=>
     bif (decide (j.2.2<(j.1.length:Int)))then
      (idx j.1 j.2.2).bind fun q=>
      ((bJ n).1 (aj q)).bind fun K=>
      (gd (j.2.1.length+([K]:List Str).length)).bind fun _=>
      some (.inl (j.1,j.2.1++([K]:List Str),w64 (j.2.2+1)))
     else
      (
       (IA j.2.1 [44,32]).bind fun I=>
       some (I)
      ).bind fun r=>some (.inr r)) (fun (s:List Str) (i:Nat)=>((xs,s,(i:Int)):(List af)×(List Str)×Int)) xs (fun i s=>s=l.take i) (fun r=>r=Go.Lib.join l [44,32]) (fun i x s k E=>.inl ?_) (fun s E=>?_) [] rfl
    ·obtain⟨r,h,rfl⟩:=key;exact h
    ·obtain⟨t,J,P,W⟩:=O i x k;subst E;have hi:=(zC.1 k).1;refine⟨l.take (i+1),?_,rfl⟩;simp only[dw k,ac,au,k,zA,aO,W,dn k (by omega)];rw[gdp (by simp;omega)];obtain⟨F,rfl⟩:=zC.1 J;rw[List.take_succ_eq_append_getElem F];rfl
    ·subst E;refine⟨Go.Lib.join l [44,32],?_,rfl⟩;have e:l.take xs.length=l:=by rw[<- z,List.take_length]
     simp only[bG,aa,e,eJs,zA]
  ·show ∃s,GY (dL n).1 (dL n).2.1 (dL n).2.2 e b=some s/\Iq (bJ n).1 (bJ n).2.1 (bJ n).2.2 e b=some s/\_
   unfold Iq GY;obtain⟨s,p,U,z,f⟩:=ihT e (by omega) hv L;obtain⟨r,H,r0,I⟩:=aaV e;have e0':=(aaW e).trans H;simp only[aO,p,U,H,e0',zA];cases decide (r<b)with
   | true=>
    simp only[ac];rw[gdp (by simp;omega),zA,gdp (by simp;omega),zA];exact⟨_,rfl,rfl,by simp;omega,by simp only[iE,f];rfl⟩
   | false=>exact⟨s,rfl,rfl,by omega,f⟩
theorem WC(e:af)(c:wtE e<=1048576):∃s,jQ e=some s/\ig e=some s/\s.length<=8000/\prn s=true:=by
 obtain⟨v,d,f,h⟩:=wI e c;unfold jQ ig;simp only[aO,d,f,zA];cases v with
 | false=>exact⟨[],rfl,rfl,by simp,rfl⟩
 | true=>
  obtain⟨hv,i⟩:=h rfl;obtain⟨s,a,b,j,g⟩:=(H7 (siz e+1)).1 e (Nat.lt_succ_self _) hv (by omega);have a:YE e=some s:=a;have b:Ip e=some s:=b;simp only[aM,aa,a,b,zA];exact⟨s,rfl,rfl,by omega,g⟩
theorem Zf(e:af)(a:wtE e<=1048576):∃s,jQ e=some s/\ig e=some s/\s.length<=8000:=by
 obtain⟨s,h1,h2,b,_⟩:=WC e a;exact⟨s,h1,h2,b⟩
end Go.Proofs.YtngjomkjlonfpaaGreatDoor
/- Plain laws: numbers with a sign, as both sides read them. -/
namespace Go.Proofs.YtngjomkjlonfpaaGreatDoor
open Go.Abs Go.Proofs
theorem alT:∀(n:Nat) (s:Str) (q:Nat),0<n->n<10 ^ q->n<9223372036854775808->s.length+q<=40->aA tY (-(n:Int),true,s)=some (45::(Go.Lib.decDigits n++s)):=by
 intro n;induction n using Nat.strongRecOn with
 | _ n ih=>
  intro s q o a h1 t;have i:0<q:=by
   rcases Nat.eq_zero_or_pos q with h | h
   ·subst h;simp at a;omega
   ·exact h
  have e:(-(n:Int) != 0)=true:=by simp;omega
  have em:(-(n:Int)).tmod 10 = -((n % 10:Nat):Int):=by
   rw[Int.neg_tmod,Int.tmod_eq_emod_of_nonneg (by omega)];omega
  have ed:(-(n:Int)).tdiv 10 = -((n / 10:Nat):Int):=by
   rw[Int.neg_tdiv,Int.tdiv_eq_ediv_of_nonneg (by omega)];omega
  have f:w64 ((-(n:Int)).tdiv 10) = -((n / 10:Nat):Int):=by
   rw[ed];exact bK (by omega) (by omega)
  have g:gd ([UInt8.ofNat (48+n % 10)].length+s.length)=some ():=gdp (by simp;omega);have hstep:tY (-(n:Int),true,s)=some (.inl (-((n / 10:Nat):Int),true,UInt8.ofNat (48+n % 10)::s)):=by
   unfold tY;by_cases j:n % 10=0
   ·have b:decide ((-(n:Int)).tmod 10<0)=false:=by rw[em];simp;omega
    have c:bytesOf [w8 (w64 (48+((-(n:Int)).tmod 10)))]=[UInt8.ofNat (48+n % 10)]:=by
     rw[em,j];rfl
    simp only[e,b,ac,aa,c,g,zA,f];rfl
   ·have b:decide ((-(n:Int)).tmod 10<0)=true:=by rw[em];simp;omega
    have k:w64 (0-(-(n:Int)).tmod 10)=((n % 10:Nat):Int):=by
     rw[em,bK (by omega) (by omega)];omega
    have c:bytesOf [w8 (w64 (48+(w64 (0-(-(n:Int)).tmod 10))))]=[UInt8.ofNat (48+n % 10)]:=by
     rw[k];exact TB _ (by omega)
    simp only[e,b,ac,aa,c,g,zA,f];rfl
  rw[aH,hstep];simp only;by_cases d:n<10
  ·have l:n / 10=0:=by omega
   rw[l,aH];have:tY (-((0:Nat):Int),true,UInt8.ofNat (48+n % 10)::s)=some (.inr (45::(UInt8.ofNat (48+n % 10)::s))):=by
    show ((gd ([45].length+(UInt8.ofNat (48+n % 10)::s).length)).bind fun _=>some (([45]:Str)++(UInt8.ofNat (48+n % 10)::s))).bind (fun r=>some (Sum.inr r))=_
    rw[gdp (by simp;omega)];rfl
   rw[this];rw[Go.Lib.decDigits,dif_pos d,Nat.mod_eq_of_lt d];rfl
  ·have m:10 ^ q=10 ^ (q-1)*10:=by rw[<- Nat.pow_succ];congr 1;omega
   rw[ih (n / 10) (by omega) (UInt8.ofNat (48+n % 10)::s) (q-1) (by omega) (by rw[m]at a;generalize 10 ^ (q-1)=p at a ⊢;omega) (by omega) (by simp;omega)];conv=>rhs;rw[Go.Lib.decDigits,dif_neg d]
   simp
theorem CV(n:Int)(c:-9223372036854775808<n)(h1:n<9223372036854775808):eF n=some (Go.Lib.itoa n):=by
 by_cases a:0<=n
 ·exact xC n a h1
 ·obtain⟨m,rfl⟩:∃m:Nat,n = -(m:Int):=⟨n.natAbs,by omega⟩;rw[Bd];have e:(-(m:Int)==0)=false:=by simp;omega
  have b:decide (-(m:Int)<0)=true:=by simp;omega
  rw[e,b,aa,alT m [] 19 (by omega) (by have:(10:Nat) ^ 19=10000000000000000000:=rfl;omega) (by omega) (by decide)];unfold Go.Lib.itoa;rw[if_pos (by omega),List.append_nil];have:(-(m:Int)).natAbs=m:=by omega
  rw[this]
theorem uf:∀(n:Nat),(∀c,c∈Go.Lib.decDigits n->jL c)/\aX 0 (Go.Lib.decDigits n)=n/\Go.Lib.decDigits n≠[]:=by
 intro n;induction n using Nat.strongRecOn with
 | _ n ih=>
  have b:∀d,d<10->(UInt8.ofNat (48+d)).toNat=48+d:=fun d h=>by
   rw[UInt8.toNat_ofNat'];omega
  rw[Go.Lib.decDigits];by_cases e:n<10
  ·rw[dif_pos e];refine⟨fun c a=>?_,?_,by simp⟩
   ·rw[List.mem_singleton.1 a];unfold jL;rw[b n e];omega
   ·show 0*10+((UInt8.ofNat (48+n)).toNat-48)=n
    rw[b n e];omega
  ·rw[dif_neg e];obtain⟨h1,h2,f⟩:=ih (n / 10) (by omega);refine⟨fun c a=>?_,?_,by simp⟩
   ·rcases List.mem_append.1 a with a | a
    ·exact h1 c a
    ·rw[List.mem_singleton.1 a];unfold jL;rw[b _ (by omega)];omega
   ·unfold aX at h2 ⊢;rw[List.foldl_append,h2];show n / 10*10+((UInt8.ofNat (48+n % 10)).toNat-48)=n
    rw[b _ (by omega)];omega
theorem aa0(n:Nat):Go.Lib.itoa (n:Int)=Go.Lib.decDigits n:=by
 unfold Go.Lib.itoa;rw[if_neg (by omega)];rfl
theorem itoa_neg(n:Nat)(h:0<n):Go.Lib.itoa (-(n:Int))=45::Go.Lib.decDigits n:=by
 unfold Go.Lib.itoa;rw[if_pos (by omega)];have:(-(n:Int)).natAbs=n:=by omega
 rw[this]
theorem MF(v:Int)(f:-999999999999<=v)(h1:v<=999999999999):Go.Lib.atoiAll (Go.Lib.itoa v)=.ok v:=by
 by_cases g:0<=v
 ·obtain⟨n,rfl⟩:∃n:Nat,v=n:=⟨v.toNat,by omega⟩;obtain⟨a,b,c⟩:=uf n;have d:=JL n 12 (by decide) (by omega);rw[aa0,acf _ a c d,b]
 ·obtain⟨n,rfl⟩:∃n:Nat,v = -(n:Int):=⟨v.natAbs,by omega⟩;obtain⟨a,b,c⟩:=uf n;have d:=JL n 12 (by decide) (by omega);rw[itoa_neg n (by omega)];have i:10 ^ (Go.Lib.decDigits n).length<=10 ^ 12:=Nat.pow_le_pow_right (by decide) d;unfold Go.Lib.atoiAll;simp only;rw[if_pos (.inr rfl)];unfold Go.Lib.parseMag;rw[if_neg c,xG _ 0 a (by omega),b];simp only;have e:((45:UInt8).toNat=45)=True:=by simp
  rw[if_neg (fun h=>h.1 rfl),if_neg (fun h=>by have:=h.2;omega),if_pos (show UInt8.toNat 45=45 from rfl)]
theorem NP(t:Str)(lo hi:Int)(c:t.length<=34359738368)(d:-999999999999<=lo)(f:hi<=999999999999) :
  ∃v ok,nH t lo hi=some (v,ok)/\(ok=true->Go.Lib.itoa v=t/\lo<=v/\v<=hi)/\(ok=false->v=0/\∀u,lo<=u->u<=hi->Go.Lib.itoa u≠t):=by
 unfold nH rV;rw[gdp c,zA];have no:∀u,lo<=u->u<=hi->Go.Lib.itoa u=t->Go.Lib.atoiAll t=.ok u:=fun u b h1 e=>by rw[<- e];exact MF u (by omega) (by omega)
 cases h:Go.Lib.atoiAll t with
 | ok v=>
  simp only;by_cases a:v<lo\/hi<v\/Go.Lib.itoa v≠t
  ·rw[if_pos a];refine⟨0,false,rfl,fun h=>(by cases h),fun _=>⟨rfl,fun u b h1 e=>?_⟩⟩;have:=no u b h1 e;rw[h]at this;injection this with this;subst this;rcases a with a | a | a
   ·omega
   ·omega
   ·exact a e
  ·rw[if_neg a];refine⟨v,true,rfl,fun _=>⟨?_,by omega,by omega⟩,fun h=>(by cases h)⟩;rcases Decidable.em (Go.Lib.itoa v=t)with e | e
   ·exact e
   ·exact absurd (.inr (.inr e)) a
 | range=>exact⟨0,false,rfl,fun h=>(by cases h),fun _=>⟨rfl,fun u b h1 e=>by have:=no u b h1 e;rw[h]at this;cases this⟩⟩
 | _=>exact⟨0,false,rfl,fun h=>(by cases h),fun _=>⟨rfl,fun u b h1 e=>by have:=no u b h1 e;rw[h]at this;cases this⟩⟩
abbrev RdX:=Str×Bool×Str×Int×Int
noncomputable def Gl:RdX->Option (RdX⊕(Int×Bool)):=(fun (a:Str×Bool×Str×Int×Int)=>
      bif (decide (a.2.2.2.2<(a.2.2.1.length:Int)))then
       (idx a.2.2.1 a.2.2.2.2).bind fun b=>
       bif (decide ((b.toNat:Int)<48))then
        some (.inr (0,false))
       else
        (idx a.2.2.1 a.2.2.2.2).bind fun c=>
        bif (decide ((c.toNat:Int)>57))then
         some (.inr (0,false))
        else
         (idx a.2.2.1 a.2.2.2.2).bind fun d=>
         some (.inl (a.1,a.2.1,a.2.2.1,w64 ((w64 (10*a.2.2.2.1))+(w64 (w8 ((d.toNat:Int)-48)))),w64 (a.2.2.2.2+1)))
      else
      (
       bif a.2.1 then
        (eF (w64 (0-a.2.2.2.1))).bind fun e=>
        bif (!(e==a.1))then
         some (0,false)
        else
         some (w64 (0-a.2.2.2.1),true)
       else
        (eF a.2.2.2.1).bind fun f=>
        bif (!(f==a.1))then
         some (0,false)
        else
         some (a.2.2.2.1,true)
      ).bind fun r=>some (.inr r)
  )
def sgn(B:Bool)(n:Nat):Int:=if B=true then -(n:Int)else n
def Tv(s:Str)(B:Bool)(n:Nat):Int×Bool:=if Go.Lib.itoa (sgn B n)=s then (sgn B n,true)else (0,false)
theorem Xo(a:Str)(c:UInt8):aX 0 (a++[c])=aX 0 a*10+(c.toNat-48):=by
 unfold aX;rw[List.foldl_append];rfl
theorem aiF(s u:Str)(B:Bool)(p:u.length<=12):∃r,aA Gl (s,B,u,0,0)=some r/\((r=(0,false)/\∃c,c∈u/\¬jL c)\/((∀c,c∈u->jL c)/\r=Tv s B (aX 0 u))):=by
 have l:∀i,i<=u.length->(∀c,c∈u.take i->jL c)->aX 0 (u.take i)<10 ^ 12:=fun i hi h=>by
  have h1:=uP (u.take i) 0 h;have h2:10 ^ (u.take i).length<=10 ^ 12:=Nat.pow_le_pow_right (by decide) (by rw[ba];omega);omega
 refine dK (g:=Gl) (fun (n:Int) (i:Nat)=>((s,B,u,n,(i:Int)):RdX)) u (fun i n=>(∀c,c∈u.take i->jL c)/\n=(aX 0 (u.take i):Int)) _ (fun i c n a j=>?_) (fun n j=>?_) 0 ⟨by simp,by simp[aX]⟩
 ·obtain⟨b,rfl⟩:=j;have hi:=(zC.1 a).1;have hv:=l i (by omega) b;have m:u.take (i+1)=u.take i++[c]:=by
   obtain⟨hi,rfl⟩:=zC.1 a;rw[List.take_succ_eq_append_getElem hi]
  simp only[Gl,dw a,ac,au,a,zA,dn a (by omega)];by_cases h1:c.toNat<48
  ·have e:decide ((c.toNat:Int)<48)=true:=by simp;omega
   rw[e];exact .inr ⟨_,rfl,.inl ⟨rfl,c,zG a,fun h=>by unfold jL at h;omega⟩⟩
  ·have e:decide ((c.toNat:Int)<48)=false:=by simp;omega
   rw[e];by_cases h2:c.toNat>57
   ·have k:decide ((c.toNat:Int)>57)=true:=by simp;omega
    rw[k];exact .inr ⟨_,rfl,.inl ⟨rfl,c,zG a,fun h=>by unfold jL at h;omega⟩⟩
   ·have k:decide ((c.toNat:Int)>57)=false:=by simp;omega
    rw[k];have o:w8 ((c.toNat:Int)-48)=((c.toNat-48:Nat):Int):=by
     simp only[w8,IntKind.wrap,IntKind.bits,IntKind.signed];simp;omega
    have ew:w64 (w64 (10*((aX 0 (u.take i):Nat):Int))+w64 (w8 ((c.toNat:Int)-48)))=((aX 0 (u.take (i+1)):Nat):Int):=by
     rw[o,m,Xo,bK (n:=10*_) (by omega) (by omega),bK (n:=((c.toNat-48:Nat):Int)) (by omega) (by omega),bK (by omega) (by omega)];omega
    refine .inl ⟨_,by simp only[aa,ew],fun d f=>?_,rfl⟩;rw[m]at f;rcases List.mem_append.1 f with f | f
    ·exact b d f
    ·rw[List.mem_singleton.1 f];unfold jL;omega
 ·obtain⟨b,rfl⟩:=j;have hv:=l u.length (az _) b;rw[List.take_length]at b hv ⊢;refine⟨Tv s B (aX 0 u),?_,.inr ⟨b,rfl⟩⟩;simp only[Gl,bG,aa];unfold Tv;cases B with
  | true=>
   have e:w64 (0-((aX 0 u:Nat):Int))=sgn true (aX 0 u):=by
    rw[bK (by omega) (by omega)];unfold sgn;rw[if_pos rfl];omega
   simp only[ac,e];rw[CV _ (by unfold sgn;rw[if_pos rfl];omega) (by unfold sgn;rw[if_pos rfl];omega),zA];by_cases h:Go.Lib.itoa (sgn true (aX 0 u))=s
   ·have:(Go.Lib.itoa (sgn true (aX 0 u))==s)=true:=by simp[h]
    rw[if_pos h,this];rfl
   ·have:(Go.Lib.itoa (sgn true (aX 0 u))==s)=false:=by simpa using h
    rw[if_neg h,this];rfl
  | false=>
   have e:sgn false (aX 0 u)=((aX 0 u:Nat):Int):=rfl;rw[e];simp only[aa];rw[CV _ (by omega) (by omega),zA];by_cases h:Go.Lib.itoa ((aX 0 u:Nat):Int)=s
   ·have:(Go.Lib.itoa ((aX 0 u:Nat):Int)==s)=true:=by simp[h]
    rw[if_pos h,this];rfl
   ·have:(Go.Lib.itoa ((aX 0 u:Nat):Int)==s)=false:=by simpa using h
    rw[if_neg h,this];rfl
theorem aie(a:Str)(b:Int):Ep a b=bif (decide ((a.length:Int)>0))then
  ((idx a 0).bind fun c=>
  bif ((c.toNat:Int)==45)then
   ((eff.cutL a (some 1) none).bind fun d=>
   bif (decide ((d.length:Int)<1))then some (0,false)
   else bif (decide ((d.length:Int)>b))then some (0,false)
   else aA Gl (a,((c.toNat:Int)==45),d,0,0))
  else
  bif (decide ((a.length:Int)<1))then some (0,false)
  else bif (decide ((a.length:Int)>b))then some (0,false)
  else aA Gl (a,((c.toNat:Int)==45),a,0,0))
 else
 bif (decide ((a.length:Int)<1))then some (0,false)
 else bif (decide ((a.length:Int)>b))then some (0,false)
 else aA Gl (a,false,a,0,0):=rfl
theorem Tt(s:Str)(B:Bool)(n:Nat)(h:n<10 ^ 12):-999999999999<=(Tv s B n).1/\(Tv s B n).1<=999999999999:=by
 unfold Tv;split
 ·show -999999999999<=sgn B n/\sgn B n<=999999999999
  unfold sgn;split<;>omega
 ·exact⟨by decide,by decide⟩
theorem WO(u:Str)(a:u.length<=12)(h:∀c,c∈u->jL c):aX 0 u<10 ^ 12:=by
 have h1:=uP u 0 h;have h2:10 ^ u.length<=10 ^ 12:=Nat.pow_le_pow_right (by decide) a;omega
theorem WH(s:Str)(B:Bool)(n:Nat):((Tv s B n).2=true->Go.Lib.itoa (Tv s B n).1=s)/\((Tv s B n).2=false->(Tv s B n).1=0/\Go.Lib.itoa (sgn B n)≠s):=by
 unfold Tv;split
 ·rename_i h;exact⟨fun _=>h,fun h=>by cases h⟩
 ·rename_i h;exact⟨fun h=>(by cases h),fun _=>⟨rfl,h⟩⟩
theorem PU(t:Str)(C:t.length<=34359738368) :
  ∃v ok,kF t=some (v,ok)/\(ok=true->Go.Lib.itoa v=t/\-999999999999<=v/\v<=999999999999)/\(ok=false->v=0/\∀u,-999999999999<=u->u<=999999999999->Go.Lib.itoa u≠t):=by
 have key:∃r,Ep t 12=some r/\(r.2=true->Go.Lib.itoa r.1=t/\-999999999999<=r.1/\r.1<=999999999999)/\(r.2=false->r.1=0/\∀u,-999999999999<=u->u<=999999999999->Go.Lib.itoa u≠t):=by
  have no:(∀u,-999999999999<=u->u<=999999999999->Go.Lib.itoa u≠t)->∃r,(some (0,false):Option (Int×Bool))=some r/\(r.2=true->Go.Lib.itoa r.1=t/\-999999999999<=r.1/\r.1<=999999999999)/\(r.2=false->r.1=0/\∀u,-999999999999<=u->u<=999999999999->Go.Lib.itoa u≠t):=fun h=>⟨_,rfl,fun h=>(by cases h),fun _=>⟨rfl,h⟩⟩
  have pos:∀u:Int,-999999999999<=u->u<=999999999999->(∃n:Nat,u=n/\Go.Lib.itoa u=Go.Lib.decDigits n/\n<10 ^ 12)\/∃n:Nat,0<n/\u = -(n:Int)/\Go.Lib.itoa u=45::Go.Lib.decDigits n/\n<10 ^ 12:=by
   intro u a h1;by_cases s:0<=u
   ·obtain⟨n,rfl⟩:∃n:Nat,u=n:=⟨u.toNat,by omega⟩;exact .inl ⟨n,rfl,aa0 n,by omega⟩
   ·obtain⟨n,rfl⟩:∃n:Nat,u = -(n:Int):=⟨u.natAbs,by omega⟩;exact .inr ⟨n,by omega,rfl,itoa_neg n (by omega),by omega⟩
  rw[aie];cases t with
  | nil=>
   refine no fun u a h1 e=>?_
   rcases pos u a h1 with ⟨n,_,b,_⟩ | ⟨n,_,_,b,_⟩
   ·rw[b]at e;exact (uf n).2.2 e
   ·rw[b]at e;cases e
  | cons c r=>
   have D:decide (((c::r).length:Int)>0)=true:=by simp
   have w:idx (c::r) 0=some c:=rfl;rw[D];simp only[ac,w,zA];have E:r.length<=34359738368:=by simp at C;omega
   by_cases m:c.toNat=45
   ·have F:c=45:=UInt8.toNat_inj.1 m;have k:((c.toNat:Int)==45)=true:=by simp;omega
    have hcut:eff.cutL (c::r) (some 1) none=some r:=DX (c::r) 1 (by simp);simp only[k,ac,hcut,zA];have dig:∀u,-999999999999<=u->u<=999999999999->Go.Lib.itoa u=c::r->∃n:Nat,0<n/\u = -(n:Int)/\r=Go.Lib.decDigits n/\n<10 ^ 12:=by
     intro u a h1 e;rcases pos u a h1 with ⟨n,_,b,_⟩ | ⟨n,s,i,b,j⟩
     ·rw[b]at e;have:=(uf n).1 c (by rw[e];simp);unfold jL at this;omega
     ·rw[b]at e;injection e with _ e;exact⟨n,s,i,e.symm,j⟩
    by_cases y:r.length=0
    ·have o:decide ((r.length:Int)<1)=true:=by simp;omega
     rw[o];refine no fun u a h1 e=>?_
     obtain⟨n,_,_,g,_⟩:=dig u a h1 e;rw[List.length_eq_zero_iff.1 y]at g;exact (uf n).2.2 g.symm
    ·have o:decide ((r.length:Int)<1)=false:=by simp;omega
     rw[o];by_cases f:r.length<=12
     ·have b:decide ((r.length:Int)>12)=false:=by simp;omega
      rw[b];simp only[aa];obtain⟨x,z,A⟩:=aiF (c::r) r true f;refine⟨x,z,?_⟩;rcases A with ⟨rfl,d,p,l⟩ | ⟨hall,rfl⟩
      ·refine⟨fun h=>(by cases h),fun _=>⟨rfl,fun u a h1 e=>?_⟩⟩;obtain⟨n,_,_,g,_⟩:=dig u a h1 e;rw[g]at p;exact l ((uf n).1 d p)
      ·obtain⟨B,q⟩:=WH (c::r) true (aX 0 r);refine⟨fun h=>⟨B h,Tt _ _ _ (WO r f hall)⟩,fun h=>⟨(q h).1,fun u a h1 e=>?_⟩⟩;obtain⟨n,_,i,g,_⟩:=dig u a h1 e;have:aX 0 r=n:=by rw[g];exact (uf n).2.1
       apply (q h).2;rw[this,<- e,i];rfl
     ·have b:decide ((r.length:Int)>12)=true:=by simp;omega
      rw[b];refine no fun u a h1 e=>?_
      obtain⟨n,_,_,g,j⟩:=dig u a h1 e;have:=JL n 12 (by decide) j;rw[<- g]at this;exact f this
   ·have k:((c.toNat:Int)==45)=false:=by simp;omega
    have o:decide (((c::r).length:Int)<1)=false:=by simp;omega
    simp only[k,aa,o];have dig:∀u,-999999999999<=u->u<=999999999999->Go.Lib.itoa u=c::r->∃n:Nat,u=(n:Int)/\c::r=Go.Lib.decDigits n/\n<10 ^ 12:=by
     intro u a h1 e;rcases pos u a h1 with ⟨n,i,b,j⟩ | ⟨n,s,i,b,j⟩
     ·rw[b]at e;exact⟨n,i,e.symm,j⟩
     ·rw[b]at e;injection e with e _;exact absurd (by rw[<- e];rfl) m
    by_cases f:(c::r).length<=12
    ·have b:decide (((c::r).length:Int)>12)=false:=by simp at f ⊢;omega
     rw[b];simp only[aa];obtain⟨x,z,A⟩:=aiF (c::r) (c::r) false f;refine⟨x,z,?_⟩;rcases A with ⟨rfl,d,p,l⟩ | ⟨hall,rfl⟩
     ·refine⟨fun h=>(by cases h),fun _=>⟨rfl,fun u a h1 e=>?_⟩⟩;obtain⟨n,_,g,_⟩:=dig u a h1 e;rw[g]at p;exact l ((uf n).1 d p)
     ·obtain⟨B,q⟩:=WH (c::r) false (aX 0 (c::r));refine⟨fun h=>⟨B h,Tt _ _ _ (WO (c::r) f hall)⟩,fun h=>⟨(q h).1,fun u a h1 e=>?_⟩⟩;obtain⟨n,i,g,_⟩:=dig u a h1 e;have:aX 0 (c::r)=n:=by rw[g];exact (uf n).2.1
      apply (q h).2;rw[this,<- e,i];rfl
    ·have b:decide (((c::r).length:Int)>12)=true:=by simp at f ⊢;omega
     rw[b];refine no fun u a h1 e=>?_
     obtain⟨n,_,g,j⟩:=dig u a h1 e;have:=JL n 12 (by decide) j;rw[<- g]at this;exact f this
 obtain⟨⟨v,ok⟩,e,h1,h2⟩:=key;refine⟨v,ok,?_,h1,h2⟩;unfold kF;rw[e];rfl
theorem aa1{u v:Int}(a:-999999999999<=u/\u<=999999999999)(h:Go.Lib.itoa u=Go.Lib.itoa v)(hv:-999999999999<=v/\v<=999999999999):u=v:=by
 have h1:=MF u a.1 a.2;have h2:=MF v hv.1 hv.2;rw[h,h2]at h1;injection h1 with h1;exact h1.symm
end Go.Proofs.YtngjomkjlonfpaaGreatDoor
/- Plain laws: texts split at a separator: the library's strings.Split against the reference's loops. -/
namespace Go.Proofs.YtngjomkjlonfpaaGreatDoor
open Go.Abs Go.Proofs
theorem VT{s sub:Str}{i:Nat}(hsub:sub≠[])(h:Go.Lib.NoOcc s sub i)(hi:i<=s.length)(b:Go.Lib.occAt s sub i=true):Go.Lib.split s sub=s.take i::Go.Lib.split (s.drop (i+sub.length)) sub:=by
 have a:=Go.Lib.index_hit h hi b;have c:=Go.Lib.count_hit hsub a;unfold Go.Lib.split;rw[c,Nat.add_comm 1];show (if Go.Lib.index s sub == -1 then [s]else s.take ((Go.Lib.index s sub).toNat+0)::Go.Lib.splitK sub 0 _ (s.drop ((Go.Lib.index s sub).toNat+sub.length)))=_
 rw[a];have e:((i:Int) == -1)=false:=by simp
 rw[e];simp
theorem FZ{s sub:Str}(h:∀j,j<=s.length->Go.Lib.occAt s sub j=false):Go.Lib.split s sub=[s]:=by
 have a:=Go.Lib.index_none h;have b:=Go.Lib.count_miss a;unfold Go.Lib.split;rw[b];rfl
theorem yG(s:Str)(c:UInt8)(i:Nat):Go.Lib.occAt s [c] i=(s[i]? == some c):=by
 unfold Go.Lib.occAt;cases h:s.drop i with
 | nil=>
  have:s[i]?=none:=zJ (List.drop_eq_nil_iff.1 h);rw[this];rfl
 | cons x r=>
  have:s[i]?=some x:=by
   have:=congrArg (·[0]?) h;simpa using this
  rw[this];show ((c==x)&&true)=(x==c)
  rw[Bool.and_true];by_cases e:c=x
  ·subst e;rfl
  ·have a:(c==x)=false:=by simpa using e
   have b:(x==c)=false:=by simpa using fun h=>e h.symm
   rw[a,b]
theorem yF(s:Str)(c d:UInt8)(i:Nat):Go.Lib.occAt s [c,d] i=((s[i]? == some c)&&(s[i+1]? == some d)):=by
 have h1:=yG s c i;have h2:=yG s d (i+1);unfold Go.Lib.occAt at h1 h2 ⊢;rw[<- h1,<- h2];cases h:s.drop i with
 | nil=>
  have:s.drop (i+1)=[]:=List.drop_eq_nil_iff.2 (by have:=List.drop_eq_nil_iff.1 h;omega);rw[this];rfl
 | cons x r=>
  have:s.drop (i+1)=r:=by
   have:=congrArg List.tail h;simpa using this
  rw[this];show ((c==x)&&[d].isPrefixOf r)=(((c==x)&&true)&&[d].isPrefixOf r)
  rw[Bool.and_true]
theorem oI(s sub:Str)(f j:Nat):Go.Lib.occAt (s.drop f) sub j=Go.Lib.occAt s sub (f+j):=by
 unfold Go.Lib.occAt;rw[List.drop_drop]
abbrev SpX:=Str×Int×(List Str)×Int×Int
noncomputable def xw:SpX->Option (SpX⊕List Str):=(fun (a:Str×Int×(List Str)×Int×Int)=>
      bif (decide (a.2.2.2.2<=(a.1.length:Int)))then
       bif (a.2.2.2.2==(a.1.length:Int))then
        (eff.cutL a.1 (some a.2.2.2.1) (some a.2.2.2.2)).bind fun b=>
        (gd (a.2.2.1.length+([b]:List Str).length)).bind fun _=>
        some (.inl (a.1,a.2.1,a.2.2.1++([b]:List Str),w64 (a.2.2.2.2+1),w64 (a.2.2.2.2+1)))
       else
        (idx a.1 a.2.2.2.2).bind fun d=>
        bif ((d.toNat:Int)==a.2.1)then
         (eff.cutL a.1 (some a.2.2.2.1) (some a.2.2.2.2)).bind fun c=>
         (gd (a.2.2.1.length+([c]:List Str).length)).bind fun _=>
         some (.inl (a.1,a.2.1,a.2.2.1++([c]:List Str),w64 (a.2.2.2.2+1),w64 (a.2.2.2.2+1)))
        else
         some (.inl (a.1,a.2.1,a.2.2.1,a.2.2.2.1,w64 (a.2.2.2.2+1)))
      else
       some (.inr (a.2.2.1))
  )
theorem Kq(s:Str)(c:UInt8)(w:s.length<=1048576):jW s (c.toNat:Int)=some (Go.Lib.split s [c]):=by
 have key:∀(k i f:Nat) (out:List Str),s.length+1=i+k->f<=i->i<=s.length->out.length<=i->(∀j,f<=j->j<i->Go.Lib.occAt s [c] j=false) ->
   aA xw (s,(c.toNat:Int),out,(f:Int),(i:Int))=some (out++Go.Lib.split (s.drop f) [c]):=by
  intro k;induction k with
  | zero=>intro i f out h1 _ h2;omega
  | succ k ih=>
   intro i f out y u hi z a;have m:decide ((i:Int)<=(s.length:Int))=true:=by simp;omega
   have n:w64 ((i:Int)+1)=((i+1:Nat):Int):=by rw[bK (by omega) (by omega)];omega
   have t:∀x:Str,gd (out.length+([x]:List Str).length)=some ():=fun x=>gdp (by simp;omega)
   have hcut:=qZ s f i u hi;have hNo:Go.Lib.NoOcc (s.drop f) [c] (i-f):=fun j o=>by rw[oI];exact a (f+j) (by omega) (by omega)
   rw[aH];by_cases v:i=s.length
   ·subst v;have e:((s.length:Int)==(s.length:Int))=true:=by simp
    have b:xw (s,(c.toNat:Int),out,(f:Int),(s.length:Int))=some (.inl (s,(c.toNat:Int),out++[(s.take s.length).drop f],((s.length+1:Nat):Int),((s.length+1:Nat):Int))):=by
     simp only[xw,m,e,ac,hcut,zA,t,n]
    rw[b];simp only;rw[aH];have d:decide (((s.length+1:Nat):Int)<=(s.length:Int))=false:=by simp;omega
    have p:xw (s,(c.toNat:Int),out++[(s.take s.length).drop f],((s.length+1:Nat):Int),((s.length+1:Nat):Int))=some (.inr (out++[(s.take s.length).drop f])):=by
     simp only[xw,d,aa]
    rw[p];simp only;rw[FZ (s:=s.drop f) (sub:=[c]) fun j o=>?_,List.take_length];rw[oI];by_cases q:f+j<s.length
    ·exact a (f+j) (by omega) q
    ·rw[yG,zJ (by omega)];rfl
   ·have r:i<s.length:=by omega
    have e:((i:Int)==(s.length:Int))=false:=by simp;omega
    have g:=zF r;by_cases l:s[i]=c
    ·have d:((s[i].toNat:Int)==(c.toNat:Int))=true:=by rw[l];simp
     have b:xw (s,(c.toNat:Int),out,(f:Int),(i:Int))=some (.inl (s,(c.toNat:Int),out++[(s.take i).drop f],((i+1:Nat):Int),((i+1:Nat):Int))):=by
      simp only[xw,m,e,d,ac,aa,au,g,hcut,zA,t,n]
     rw[b];simp only;rw[ih (i+1) (i+1) (out++[(s.take i).drop f]) (by omega) (az _) (by omega) (by simp;omega) (fun j h1 h2=>by omega)];rw[VT (s:=s.drop f) (sub:=[c]) (i:=i-f) (by simp) hNo (by simp;omega) (by rw[oI,yG,show f+(i-f)=i by omega,g,l];simp)];rw[List.drop_drop,List.drop_take,show f+(i-f+[c].length)=i+1 by simp;omega];simp
    ·have d:((s[i].toNat:Int)==(c.toNat:Int))=false:=by
      have:¬s[i].toNat=c.toNat:=fun h=>l (UInt8.toNat_inj.1 h)
      simp;omega
     have b:xw (s,(c.toNat:Int),out,(f:Int),(i:Int))=some (.inl (s,(c.toNat:Int),out,(f:Int),((i+1:Nat):Int))):=by
      simp only[xw,m,e,d,ac,aa,au,g,zA,n]
     rw[b];simp only;refine ih (i+1) f out (by omega) (by omega) (by omega) (by omega) fun j h1 h2=>?_
     by_cases o:j<i
     ·exact a j h1 o
     ·have:j=i:=by omega
      subst this;rw[yG,g];simpa using l
 have:=key (s.length+1) 0 0 [] (by omega) (az _) (Nat.zero_le _) (Nat.zero_le _) (fun j _ h=>by omega);show aA xw (s,(c.toNat:Int),[],0,0)=_
 simpa using this
theorem Le(s:Str)(c:UInt8)(a:s.length<=1048576):mD s (c.toNat:Int)=some (Go.Lib.split s [c]):=by
 unfold mD lm;have e:bytesOf [(c.toNat:Int)]=[c]:=JP [c];rw[e,if_pos ⟨by omega,by simp⟩];rfl
abbrev PaX:=Str×(List Str)×Int×Int
noncomputable def sH:PaX->Option (PaX⊕List Str):=(fun (a:Str×(List Str)×Int×Int)=>
      bif (decide ((w64 (a.2.2.2+1))<(a.1.length:Int)))then
       (idx a.1 a.2.2.2).bind fun d=>
       bif ((d.toNat:Int)==59)then
        (idx a.1 (w64 (a.2.2.2+1))).bind fun e=>
        bif ((e.toNat:Int)==32)then
         (eff.cutL a.1 (some a.2.2.1) (some a.2.2.2)).bind fun b=>
         (gd (a.2.1.length+([b]:List Str).length)).bind fun _=>
         some (.inl (a.1,a.2.1++([b]:List Str),w64 (a.2.2.2+2),w64 (a.2.2.2+1)))
        else
         some (.inl (a.1,a.2.1,a.2.2.1,w64 (a.2.2.2+1)))
       else
        some (.inl (a.1,a.2.1,a.2.2.1,w64 (a.2.2.2+1)))
      else
       (
        (eff.cutL a.1 (some a.2.2.1) none).bind fun c=>
        (gd (a.2.1.length+([c]:List Str).length)).bind fun _=>
        some (a.2.1++([c]:List Str))
       ).bind fun r=>some (.inr r)
  )
theorem VZ(s:Str)(E:s.length<=1048576):ul s=some (Go.Lib.split s [59,32]):=by
 have key:∀(k i f:Nat) (out:List Str),s.length=i+k->(f<=i\/(f=i+1/\s[i]?=some 32))->f<=s.length->out.length<=i->(∀j,f<=j->j<i->Go.Lib.occAt s [59,32] j=false) ->
   aA sH (s,out,(f:Int),(i:Int))=some (out++Go.Lib.split (s.drop f) [59,32]):=by
  intro k;induction k with
  | zero=>
   intro i f out C y c D a;have e:decide (w64 ((i:Int)+1)<(s.length:Int))=false:=by rw[bK (by omega) (by omega)];simp;omega
   have hcut:=DX s f c;rw[aH];have g:sH (s,out,(f:Int),(i:Int))=some (.inr (out++[s.drop f])):=by
    simp only[sH,e,aa,hcut,zA];rw[gdp (by simp;omega)];rfl
   rw[g];simp only;rw[FZ fun j p=>?_];rw[oI];by_cases l:f+j<i
   ·exact a (f+j) (by omega) l
   ·rw[yF,zJ (by omega)];rfl
  | succ k ih=>
   intro i f out C y c D a;have t:i<s.length:=by omega
   have q:w64 ((i:Int)+1)=((i+1:Nat):Int):=by rw[bK (by omega) (by omega)];omega
   have u:w64 ((i:Int)+2)=((i+2:Nat):Int):=by rw[bK (by omega) (by omega)];omega
   have m:=zF t;by_cases F:i+1=s.length
   ·have e:decide (((i+1:Nat):Int)<(s.length:Int))=false:=by simp;omega
    have hcut:=DX s f c;have g:sH (s,out,(f:Int),(i:Int))=some (.inr (out++[s.drop f])):=by
     simp only[sH,q,e,aa,hcut,zA];rw[gdp (by simp;omega)];rfl
    rw[aH,g];simp only;rw[FZ fun j p=>?_];rw[oI];by_cases l:f+j<i
    ·exact a (f+j) (by omega) l
    ·rw[yF,zJ (show s.length<=f+j+1 by omega)];simp
   ·have n:i+1<s.length:=by omega
    have e:decide (((i+1:Nat):Int)<(s.length:Int))=true:=by simp;omega
    have b:=zF n;have skip:Go.Lib.occAt s [59,32] i=false->sH (s,out,(f:Int),(i:Int))=some (.inl (s,out,(f:Int),((i+1:Nat):Int)))->(f<=i+1) ->
      aA sH (s,out,(f:Int),(i:Int))=some (out++Go.Lib.split (s.drop f) [59,32]):=by
     intro v g d;rw[aH,g];refine ih (i+1) f out (by omega) (.inl d) c (by omega) fun j h1 h2=>?_
     by_cases p:j<i
     ·exact a j h1 p
     ·have:j=i:=by omega
      subst this;exact v
    have d:f<=i+1:=by omega
    by_cases z:s[i].toNat=59
    ·have r:((s[i].toNat:Int)==59)=true:=by simp;omega
     have A:s[i]=59:=UInt8.toNat_inj.1 z;have w:f<=i:=by
      rcases y with h | ⟨_,h⟩
      ·exact h
      ·rw[m,A]at h;cases h
     by_cases o:s[i+1].toNat=32
     ·have x:((s[i+1].toNat:Int)==32)=true:=by simp;omega
      have B:s[i+1]=32:=UInt8.toNat_inj.1 o;have hcut:=qZ s f i w (by omega);have g:sH (s,out,(f:Int),(i:Int))=some (.inl (s,out++[(s.take i).drop f],((i+2:Nat):Int),((i+1:Nat):Int))):=by
       simp only[sH,q,u,e,r,x,ac,au,m,b,hcut,zA];rw[gdp (by simp;omega)];rfl
      rw[aH,g];simp only;have hNo:Go.Lib.NoOcc (s.drop f) [59,32] (i-f):=fun j p=>by rw[oI];exact a (f+j) (by omega) (by omega)
      rw[ih (i+1) (i+2) (out++[(s.take i).drop f]) (by omega) (.inr ⟨rfl,by rw[b,B]⟩) (by omega) (by simp;omega) (fun j h1 h2=>by omega)];rw[VT (s:=s.drop f) (sub:=[59,32]) (i:=i-f) (by simp) hNo (by simp;omega) (by rw[oI,yF,show f+(i-f)=i by omega,m,b,A,B];rfl)];rw[List.drop_drop,List.drop_take,show f+(i-f+([59,32]:Str).length)=i+2 by simp;omega];simp
     ·have x:((s[i+1].toNat:Int)==32)=false:=by simp;omega
      refine skip ?_ ?_ d
      ·rw[yF,b];have:¬s[i+1]=32:=fun h=>o (by rw[h];rfl)
       simp[this]
      ·simp only[sH,q,e,r,x,ac,aa,au,m,b,zA]
    ·have r:((s[i].toNat:Int)==59)=false:=by simp;omega
     refine skip ?_ ?_ d
     ·rw[yF,m];have:¬s[i]=59:=fun h=>z (by rw[h];rfl)
      simp[this]
     ·simp only[sH,q,e,r,ac,aa,au,m,zA]
 have:=key s.length 0 0 [] (by omega) (.inl (az _)) (Nat.zero_le _) (Nat.zero_le _) (fun j _ h=>by omega);show aA sH (s,[],0,0)=_
 simpa using this
theorem ah7(s sub:Str):Go.Lib.split s sub≠[]:=by
 unfold Go.Lib.split;cases Go.Lib.count s sub with
 | zero=>simp[Go.Lib.splitK]
 | succ k=>
  unfold Go.Lib.splitK;split<;>simp
theorem jG(s sub:Str):(Go.Lib.split s sub).length<=s.length+2/\∀p,p∈Go.Lib.split s sub->p.length<=s.length:=by
 have key:∀(k:Nat) (s:Str),(Go.Lib.splitK sub 0 k s).length<=k+1/\∀p,p∈Go.Lib.splitK sub 0 k s->p.length<=s.length:=by
  intro k;induction k with
  | zero=>intro s;exact⟨az _,fun p a=>by rw[List.mem_singleton.1 a];exact az _⟩
  | succ k ih=>
   intro s;unfold Go.Lib.splitK;split
   ·exact⟨by simp,fun p a=>by rw[List.mem_singleton.1 a];exact az _⟩
   ·obtain⟨h1,h2⟩:=ih (s.drop ((Go.Lib.index s sub).toNat+sub.length));refine⟨by simp only[List.length_cons];omega,fun p a=>?_⟩;rcases bc.1 a with rfl | a
    ·rw[ba];omega
    ·have:=h2 p a;rw[List.length_drop]at this;omega
 have b:=Go.Lib.count_le s sub;obtain⟨h1,h2⟩:=key (Go.Lib.count s sub) s;exact⟨by unfold Go.Lib.split;omega,h2⟩
end Go.Proofs.YtngjomkjlonfpaaGreatDoor
/- Lists built entry by entry. -/
namespace Go.Proofs.YtngjomkjlonfpaaGreatDoor
open Go.Abs Go.Proofs
def je{α β:Type}(f:Nat->α->β):Nat->List α->List β
 | _,[]=>[]
 | i,x::r=>f i x::je f (i+1) r
theorem Df{α β:Type}(f:Nat->α->β):∀(i:Nat) (xs:List α),(je f i xs).length=xs.length
 | _,[]=>rfl
 | i,x::r=>by simp[je,Df f (i+1) r]
theorem ED{α β X ρ:Type}{g:X->Option (X⊕ρ)}(pk:List β->Nat->X)(xs:List α)(f:Nat->α->β)(r:ρ)
  (d:∀i x out,xs[i]?=some x->out.length=i->g (pk out i)=some (.inl (pk (out++[f i x]) (i+1))))
  (e:g (pk (je f 0 xs) xs.length)=some (.inr r)):aA g (pk [] 0)=some r:=by
 have key:∀(ys:List α) (i:Nat) (out:List β),xs.drop i=ys->out.length=i->out++je f i ys=je f 0 xs->aA g (pk out i)=some r:=by
  intro ys;induction ys with
  | nil=>
   intro i out b c a;have hi:i=xs.length:=by
    have h1:=congrArg List.length a;have h2:xs.length<=i:=List.drop_eq_nil_iff.1 b;rw[Df]at h1;simp[je]at h1;omega
   rw[je,List.append_nil]at a;subst hi;rw[aH,a,e]
  | cons y r' ih=>
   intro i out b c a;have h:xs[i]?=some y:=by
    have:=congrArg (·[0]?) b;simpa using this
   rw[aH,d i y out h c];refine ih (i+1) (out++[f i y]) ?_ (by simp[c]) ?_
   ·have:=congrArg List.tail b;simpa using this
   ·rw[a8];exact a
 exact key xs 0 [] rfl rfl rfl
theorem vK{α:Type}:∀(i:Nat) (xs:List α),je (fun _ x=>x) i xs=xs
 | _,[]=>rfl
 | i,x::r=>by rw[je,vK (i+1) r]
theorem Yf(i:Nat):decide ((i:Int)>0)=decide (0<i):=by
 by_cases h:0<i
 ·rw[aq h,aq (by omega)]
 ·rw[ae h,ae (by omega)]
end Go.Proofs.YtngjomkjlonfpaaGreatDoor
/- Plain laws: renaming in expressions is alike on both sides. -/
namespace Go.Proofs.YtngjomkjlonfpaaGreatDoor
open Go.Abs Go.Proofs
theorem ab2:∀(n:Nat) (e:af),siz e<n->wtE e<=1048576->vP n e=some e
 | 0,e,h,_=>absurd h (Nat.not_lt_zero _)
 | n+1,e,c,d=>by
  have ih:=ab2 n;have f:=uO (e:=e);show GZ (vP n) e=_
  unfold GZ;refine ED (fun (out:List af) (i:Nat)=>((0,0,[],[],e.kind,e.n,e.text,out,e.args,(e.args.length:Int),(i:Int)):Int×Int×Str×(List af)×Int×Int×Str×(List af)×(List af)×Int×Int)) e.args (fun _ x=>x) e (fun i x out a g=>?_) ?_
  ·have b:=zG a;have h1:=sF b;have hi:=(zC.1 a).1;simp only[dw a,ac,au,a,zA,aO,ih x (by have:=gm b;omega) (by omega),dn a (by omega)];rw[gdp (by simp;omega)];rfl
  ·simp only[bG,aa,vK];cases e;rfl
theorem ab1:∀(n:Nat) (e:af),siz e<n->wtE e<=1048576->yt n e=some e
 | 0,e,h,_=>absurd h (Nat.not_lt_zero _)
 | n+1,e,c,d=>by
  have ih:=ab1 n;have f:=uO (e:=e);show KF (yt n) e=_
  unfold KF;refine ED (fun (out:List af) (i:Nat)=>((e.kind,e.n,e.text,e.args,0,0,[],[],e.kind,e.n,e.text,out,(i:Int)):Int×Int×Str×(List af)×Int×Int×Str×(List af)×Int×Int×Str×(List af)×Int)) e.args (fun _ x=>x) e (fun i x out a g=>?_) ?_
  ·have b:=zG a;have h1:=sF b;have hi:=(zC.1 a).1;simp only[dw a,ac,au,a,zA,aO,ih x (by have:=gm b;omega) (by omega),dn a (by omega)];rw[gdp (by simp;omega)];rfl
  ·simp only[bG,aa,vK];cases e;rfl
theorem Y9(e:af)(a:wtE e<=1048576):EP e=some e:=ab2 _ e (Nat.lt_succ_self _) a
theorem aam(e:af)(a:wtE e<=1048576):yu e=some e:=ab1 _ e (Nat.lt_succ_self _) a
def AU(b:Str)(k:Int)(t:Str):Bool:=((k==7)||(k==9))&&(t==b)
def pI(b c:Str)(k:Int)(t:Str):Str:=if ((k==3)&&(t==b))=true then c else t
mutual
def Oj(b c:Str):af->af
 | ⟨k,n,t,a⟩=>⟨k,n,pI b c k t,aaz b c (AU b k t) 0 a⟩
def aaz(b c:Str)(bi:Bool):Nat->List af->List af
 | _,[]=>[]
 | i,x::r=>(if (bi&&decide (0<i))=true then x else Oj b c x)::aaz b c bi (i+1) r
end
theorem QG(b c:Str)(bi:Bool):∀(i:Nat) (xs:List af),aaz b c bi i xs=je (fun i x=>if (bi&&decide (0<i))=true then x else Oj b c x) i xs
 | _,[]=>rfl
 | i,x::r=>by rw[aaz,je,QG b c bi (i+1) r]
theorem aff(b c:Str)(e:af):Oj b c e=⟨e.kind,e.n,pI b c e.kind e.text,aaz b c (AU b e.kind e.text) 0 e.args⟩:=by cases e;rfl
abbrev RI:=Str×Str×Int×Int×Str×(List af)×Int×Int×Str×(List af)×Bool×(List af)×Int×Int
abbrev RS:=Str×Str×Int×Int×Str×(List af)×Int×Int×Str×(List af)×Int×Int×Str×(List af)×Int
noncomputable def aiE(rec:af->Str->Str->Option af):RI->Option (RI⊕af):=(fun (a:Str×Str×Int×Int×Str×(List af)×Int×Int×Str×(List af)×Bool×(List af)×Int×Int)=>
      bif (decide (a.2.2.2.2.2.2.2.2.2.2.2.2.2<a.2.2.2.2.2.2.2.2.2.2.2.2.1))then
       (idx a.2.2.2.2.2.2.2.2.2.2.2.1 a.2.2.2.2.2.2.2.2.2.2.2.2.2).bind fun b=>
       bif a.2.2.2.2.2.2.2.2.2.2.1 then
        bif (decide (a.2.2.2.2.2.2.2.2.2.2.2.2.2>0))then
         (EP (aj b)).bind fun c=>
         (gd (a.2.2.2.2.2.2.2.2.2.1.length+[aj c].length)).bind fun _=>
         some (.inl (a.1,a.2.1,a.2.2.1,a.2.2.2.1,a.2.2.2.2.1,a.2.2.2.2.2.1,a.2.2.2.2.2.2.1,a.2.2.2.2.2.2.2.1,a.2.2.2.2.2.2.2.2.1,a.2.2.2.2.2.2.2.2.2.1++[aj c],a.2.2.2.2.2.2.2.2.2.2.1,a.2.2.2.2.2.2.2.2.2.2.2.1,a.2.2.2.2.2.2.2.2.2.2.2.2.1,w64 (a.2.2.2.2.2.2.2.2.2.2.2.2.2+1)))
        else
         (rec (aj b) a.1 a.2.1).bind fun d=>
         (gd (a.2.2.2.2.2.2.2.2.2.1.length+[aj d].length)).bind fun _=>
         some (.inl (a.1,a.2.1,a.2.2.1,a.2.2.2.1,a.2.2.2.2.1,a.2.2.2.2.2.1,a.2.2.2.2.2.2.1,a.2.2.2.2.2.2.2.1,a.2.2.2.2.2.2.2.2.1,a.2.2.2.2.2.2.2.2.2.1++[aj d],a.2.2.2.2.2.2.2.2.2.2.1,a.2.2.2.2.2.2.2.2.2.2.2.1,a.2.2.2.2.2.2.2.2.2.2.2.2.1,w64 (a.2.2.2.2.2.2.2.2.2.2.2.2.2+1)))
       else
        (rec (aj b) a.1 a.2.1).bind fun e=>
        (gd (a.2.2.2.2.2.2.2.2.2.1.length+[aj e].length)).bind fun _=>
        some (.inl (a.1,a.2.1,a.2.2.1,a.2.2.2.1,a.2.2.2.2.1,a.2.2.2.2.2.1,a.2.2.2.2.2.2.1,a.2.2.2.2.2.2.2.1,a.2.2.2.2.2.2.2.2.1,a.2.2.2.2.2.2.2.2.2.1++[aj e],a.2.2.2.2.2.2.2.2.2.2.1,a.2.2.2.2.2.2.2.2.2.2.2.1,a.2.2.2.2.2.2.2.2.2.2.2.2.1,w64 (a.2.2.2.2.2.2.2.2.2.2.2.2.2+1)))
      else
       some (.inr (af.mk a.2.2.2.2.2.2.1 a.2.2.2.2.2.2.2.1 a.2.2.2.2.2.2.2.2.1 a.2.2.2.2.2.2.2.2.2.1))
  )
noncomputable def aiD(rec:af->Str->Str->Option af):RS->Option (RS⊕af):=(fun (a:Str×Str×Int×Int×Str×(List af)×Int×Int×Str×(List af)×Int×Int×Str×(List af)×Int)=>
      bif (decide (a.2.2.2.2.2.2.2.2.2.2.2.2.2.2<(a.2.2.2.2.2.1.length:Int)))then
       bif (a.2.2.1==7)then
        bif (a.2.2.2.2.2.2.2.2.2.2.2.2.2.2==1)then
         bif (a.2.2.2.2.1==a.1)then
          (idx a.2.2.2.2.2.1 a.2.2.2.2.2.2.2.2.2.2.2.2.2.2).bind fun l=>
          (yu (aj l)).bind fun h=>
          (gd (a.2.2.2.2.2.2.2.2.2.2.2.2.2.1.length+[aj h].length)).bind fun _=>
          some (.inl (a.1,a.2.1,a.2.2.1,a.2.2.2.1,a.2.2.2.2.1,a.2.2.2.2.2.1,a.2.2.2.2.2.2.1,a.2.2.2.2.2.2.2.1,a.2.2.2.2.2.2.2.2.1,a.2.2.2.2.2.2.2.2.2.1,a.2.2.2.2.2.2.2.2.2.2.1,a.2.2.2.2.2.2.2.2.2.2.2.1,a.2.2.2.2.2.2.2.2.2.2.2.2.1,a.2.2.2.2.2.2.2.2.2.2.2.2.2.1++[aj h],w64 (a.2.2.2.2.2.2.2.2.2.2.2.2.2.2+1)))
         else
          (idx a.2.2.2.2.2.1 a.2.2.2.2.2.2.2.2.2.2.2.2.2.2).bind fun m=>
          (rec (aj m) a.1 a.2.1).bind fun i=>
          (gd (a.2.2.2.2.2.2.2.2.2.2.2.2.2.1.length+[aj i].length)).bind fun _=>
          some (.inl (a.1,a.2.1,a.2.2.1,a.2.2.2.1,a.2.2.2.2.1,a.2.2.2.2.2.1,a.2.2.2.2.2.2.1,a.2.2.2.2.2.2.2.1,a.2.2.2.2.2.2.2.2.1,a.2.2.2.2.2.2.2.2.2.1,a.2.2.2.2.2.2.2.2.2.2.1,a.2.2.2.2.2.2.2.2.2.2.2.1,a.2.2.2.2.2.2.2.2.2.2.2.2.1,a.2.2.2.2.2.2.2.2.2.2.2.2.2.1++[aj i],w64 (a.2.2.2.2.2.2.2.2.2.2.2.2.2.2+1)))
        else
         (idx a.2.2.2.2.2.1 a.2.2.2.2.2.2.2.2.2.2.2.2.2.2).bind fun n=>
         (rec (aj n) a.1 a.2.1).bind fun j=>
         (gd (a.2.2.2.2.2.2.2.2.2.2.2.2.2.1.length+[aj j].length)).bind fun _=>
         some (.inl (a.1,a.2.1,a.2.2.1,a.2.2.2.1,a.2.2.2.2.1,a.2.2.2.2.2.1,a.2.2.2.2.2.2.1,a.2.2.2.2.2.2.2.1,a.2.2.2.2.2.2.2.2.1,a.2.2.2.2.2.2.2.2.2.1,a.2.2.2.2.2.2.2.2.2.2.1,a.2.2.2.2.2.2.2.2.2.2.2.1,a.2.2.2.2.2.2.2.2.2.2.2.2.1,a.2.2.2.2.2.2.2.2.2.2.2.2.2.1++[aj j],w64 (a.2.2.2.2.2.2.2.2.2.2.2.2.2.2+1)))
       else
       bif (a.2.2.1==9)then
        bif (a.2.2.2.2.2.2.2.2.2.2.2.2.2.2==1)then
         bif (a.2.2.2.2.1==a.1)then
          (idx a.2.2.2.2.2.1 a.2.2.2.2.2.2.2.2.2.2.2.2.2.2).bind fun o=>
          (yu (aj o)).bind fun k=>
          (gd (a.2.2.2.2.2.2.2.2.2.2.2.2.2.1.length+[aj k].length)).bind fun _=>
          some (.inl (a.1,a.2.1,a.2.2.1,a.2.2.2.1,a.2.2.2.2.1,a.2.2.2.2.2.1,a.2.2.2.2.2.2.1,a.2.2.2.2.2.2.2.1,a.2.2.2.2.2.2.2.2.1,a.2.2.2.2.2.2.2.2.2.1,a.2.2.2.2.2.2.2.2.2.2.1,a.2.2.2.2.2.2.2.2.2.2.2.1,a.2.2.2.2.2.2.2.2.2.2.2.2.1,a.2.2.2.2.2.2.2.2.2.2.2.2.2.1++[aj k],w64 (a.2.2.2.2.2.2.2.2.2.2.2.2.2.2+1)))
         else
          (idx a.2.2.2.2.2.1 a.2.2.2.2.2.2.2.2.2.2.2.2.2.2).bind fun e=>
          (rec (aj e) a.1 a.2.1).bind fun b=>
          (gd (a.2.2.2.2.2.2.2.2.2.2.2.2.2.1.length+[aj b].length)).bind fun _=>
          some (.inl (a.1,a.2.1,a.2.2.1,a.2.2.2.1,a.2.2.2.2.1,a.2.2.2.2.2.1,a.2.2.2.2.2.2.1,a.2.2.2.2.2.2.2.1,a.2.2.2.2.2.2.2.2.1,a.2.2.2.2.2.2.2.2.2.1,a.2.2.2.2.2.2.2.2.2.2.1,a.2.2.2.2.2.2.2.2.2.2.2.1,a.2.2.2.2.2.2.2.2.2.2.2.2.1,a.2.2.2.2.2.2.2.2.2.2.2.2.2.1++[aj b],w64 (a.2.2.2.2.2.2.2.2.2.2.2.2.2.2+1)))
        else
         (idx a.2.2.2.2.2.1 a.2.2.2.2.2.2.2.2.2.2.2.2.2.2).bind fun f=>
         (rec (aj f) a.1 a.2.1).bind fun c=>
         (gd (a.2.2.2.2.2.2.2.2.2.2.2.2.2.1.length+[aj c].length)).bind fun _=>
         some (.inl (a.1,a.2.1,a.2.2.1,a.2.2.2.1,a.2.2.2.2.1,a.2.2.2.2.2.1,a.2.2.2.2.2.2.1,a.2.2.2.2.2.2.2.1,a.2.2.2.2.2.2.2.2.1,a.2.2.2.2.2.2.2.2.2.1,a.2.2.2.2.2.2.2.2.2.2.1,a.2.2.2.2.2.2.2.2.2.2.2.1,a.2.2.2.2.2.2.2.2.2.2.2.2.1,a.2.2.2.2.2.2.2.2.2.2.2.2.2.1++[aj c],w64 (a.2.2.2.2.2.2.2.2.2.2.2.2.2.2+1)))
       else
        (idx a.2.2.2.2.2.1 a.2.2.2.2.2.2.2.2.2.2.2.2.2.2).bind fun g=>
        (rec (aj g) a.1 a.2.1).bind fun d=>
        (gd (a.2.2.2.2.2.2.2.2.2.2.2.2.2.1.length+[aj d].length)).bind fun _=>
        some (.inl (a.1,a.2.1,a.2.2.1,a.2.2.2.1,a.2.2.2.2.1,a.2.2.2.2.2.1,a.2.2.2.2.2.2.1,a.2.2.2.2.2.2.2.1,a.2.2.2.2.2.2.2.2.1,a.2.2.2.2.2.2.2.2.2.1,a.2.2.2.2.2.2.2.2.2.2.1,a.2.2.2.2.2.2.2.2.2.2.2.1,a.2.2.2.2.2.2.2.2.2.2.2.2.1,a.2.2.2.2.2.2.2.2.2.2.2.2.2.1++[aj d],w64 (a.2.2.2.2.2.2.2.2.2.2.2.2.2.2+1)))
      else
       some (.inr (af.mk a.2.2.2.2.2.2.2.2.2.2.1 a.2.2.2.2.2.2.2.2.2.2.2.1 a.2.2.2.2.2.2.2.2.2.2.2.2.1 a.2.2.2.2.2.2.2.2.2.2.2.2.2.1))
  )
theorem YK(rec)(a:af)(b c:Str):EK rec a b c=aA (aiE rec) (b,c,0,0,[],[],a.kind,a.n,pI b c a.kind a.text,[],AU b a.kind a.text,a.args,(a.args.length:Int),0):=by
 unfold EK pI AU;cases (a.kind==3)<;>cases (a.kind==7)<;>cases (a.kind==9)<;>cases (a.text==b)<;>rfl
theorem XD(rec)(a:af)(b c:Str):wO rec a b c=aA (aiD rec) (b,c,a.kind,a.n,a.text,a.args,0,0,[],[],a.kind,a.n,pI b c a.kind a.text,[],0):=by
 unfold wO pI;cases (a.kind==3)<;>cases (a.text==b)<;>rfl
theorem afd(b c:Str):∀(n:Nat) (e:af),siz e<n->wtE e<=1048576->yO n e b c=some (Oj b c e)
 | 0,e,h,_=>absurd h (Nat.not_lt_zero _)
 | n+1,e,g,j=>by
  have ih:=afd b c n;have k:=uO (e:=e);show EK (yO n) e b c=_
  rw[YK,aff];generalize AU b e.kind e.text=bi;refine ED (fun (out:List af) (i:Nat)=>((b,c,0,0,[],[],e.kind,e.n,pI b c e.kind e.text,out,bi,e.args,(e.args.length:Int),(i:Int)):RI)) e.args (fun i x=>if (bi&&decide (0<i))=true then x else Oj b c x) _ (fun i x out a l=>?_) ?_
  ·have f:=zG a;have h1:=sF f;have hi:=(zC.1 a).1;have m:=gm f;simp only[aiE,dw a,ac,au,a,zA,aO,ih x (by omega) (by omega),Y9 x (by omega),dn a (by omega),Yf];have d:∀y:af,gd (out.length+[y].length)=some ():=fun y=>gdp (by simp;omega)
   cases bi with
   | false=>
    simp only[aa,Bool.false_and,aL,if_false,d,zA]
   | true=>
    cases decide (0<i)with
    | true=>simp only[ac,Bool.true_and,if_true,d,zA]
    | false=>simp only[ac,aa,Bool.true_and,aL,if_false,d,zA]
  ·simp only[aiE,bG,aa,QG]
theorem afb(b c:Str):∀(n:Nat) (e:af),siz e<n->wtE e<=1048576->wB e->rJ n e b c=some (Oj b c e)
 | 0,e,h,_,_=>absurd h (Nat.not_lt_zero _)
 | n+1,e,l,m,hv=>by
  have ih:=afb b c n;have o:=uO (e:=e);cases hv with
  | mk _ g hsub=>
  show wO (rJ n) e b c=_
  rw[XD,aff];refine ED (fun (out:List af) (i:Nat)=>((b,c,e.kind,e.n,e.text,e.args,0,0,[],[],e.kind,e.n,pI b c e.kind e.text,out,(i:Int)):RS)) e.args (fun i x=>if (AU b e.kind e.text&&decide (0<i))=true then x else Oj b c x) _ (fun i x out a p=>?_) ?_
  ·have d:=zG a;have h1:=sF d;have hi:=(zC.1 a).1;have q:=gm d;have hone:e.kind=7\/e.kind=9->((i:Int)==1)=decide (0<i):=by
    intro j;have:=g.two j;by_cases h:0<i
    ·have:i=1:=by omega
     subst this;rfl
    ·have:i=0:=by omega
     subst this;rfl
   simp only[aiD,dw a,ac,au,a,zA,aO,ih x (by omega) (by omega) (hsub x d),aam x (by omega),dn a (by omega)];have f:∀y:af,gd (out.length+[y].length)=some ():=fun y=>gdp (by simp;omega)
   unfold AU;cases k:(e.kind==7)with
   | true=>
    rw[hone (.inl (eq_of_beq k))];cases decide (0<i)<;>cases (e.text==b)<;>simp only[ac,aa,Bool.true_or,Bool.true_and,Bool.and_true,Bool.and_false,Bool.false_and,aL,if_true,if_false,f,zA]
   | false=>
    cases k9:(e.kind==9)with
    | true=>
     rw[hone (.inr (eq_of_beq k9))];cases decide (0<i)<;>cases (e.text==b)<;>simp only[ac,aa,Bool.false_or,Bool.true_and,Bool.and_true,Bool.and_false,Bool.false_and,aL,if_true,if_false,f,zA]
    | false=>simp only[aa,Bool.false_or,Bool.false_and,aL,if_false,f,zA]
  ·simp only[aiD,bG,aa,QG]
mutual
theorem afe(b c:Str)(d:c.length<=120):∀e:af,wtE (Oj b c e)<=wtE e
 | ⟨k,n,t,a⟩=>by
  have h1:=afc b c d a (AU b k t) 0;show (if (pI b c k t).length<=120 then 1 else 18446744073709551616)+wtL (aaz b c (AU b k t) 0 a)<=(if t.length<=120 then 1 else 18446744073709551616)+wtL a
  have h2:(if (pI b c k t).length<=120 then 1 else 18446744073709551616)<=(if t.length<=120 then 1 else 18446744073709551616):=by
   unfold pI;split
   ·split<;>omega
   ·exact az _
  omega
theorem afc(b c:Str)(a:c.length<=120):∀(xs:List af) (bi:Bool) (i:Nat),wtL (aaz b c bi i xs)<=wtL xs
 | [],_,_=>az _
 | x::r,bi,i=>by
  have h1:=afe b c a x;have h2:=afc b c a r bi (i+1);show wtE (if (bi&&decide (0<i))=true then x else Oj b c x)+wtL (aaz b c bi (i+1) r)<=wtE x+wtL r
  split<;>omega
end
end Go.Proofs.YtngjomkjlonfpaaGreatDoor
