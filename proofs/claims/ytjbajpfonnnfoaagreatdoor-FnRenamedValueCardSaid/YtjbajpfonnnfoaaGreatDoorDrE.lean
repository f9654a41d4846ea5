import Derived.Test.YtjbajpfonnnfoaaGreatDoorNode0
import Derived.Test.YtjbajpfonnnfoaaGreatDoorEv1
set_option linter.unusedSimpArgs false
set_option linter.unusedVariables false
/- Plain laws: drawing, step by step; drawn expressions are small. -/
namespace Go.Proofs.YtjbajpfonnnfoaaGreatDoor
open Go.Abs Go.Proofs
def Dr{α:Type}(x:Option (aS×α))(P:α->Prop):Prop:=∃c y,x=some (c,y)/\bJ c/\P y
theorem Dr.bind{α β:Type}{x:Option (aS×α)}{P:α->Prop}{f:aS×α->Option (aS×β)}{Q:β->Prop}(a:Dr x P)(hf:∀c y,bJ c->P y->Dr (f (c,y)) Q):Dr (x.bind f) Q:=by
 obtain⟨c,y,e,k,p⟩:=a;rw[e];exact hf c y k p
theorem Dr.pbind{α β:Type}{x:Option α}{P:α->Prop}{f:α->Option (aS×β)}{Q:β->Prop}(a:∃y,x=some y/\P y)(hf:∀y,P y->Dr (f y) Q):Dr (x.bind f) Q:=by
 obtain⟨y,e,p⟩:=a;rw[e];exact hf y p
theorem Dr.gd{n:Nat}{β:Type}{f:Unit->Option (aS×β)}{Q:β->Prop}(h:n<=34359738368)(hf:Dr (f ()) Q):Dr ((gd n).bind f) Q:=by
 rw[bI h];exact hf
theorem Dr.bif{β:Type}{b:Bool}{x y:Option (aS×β)}{Q:β->Prop}(a:b=true->Dr x Q)(c:b=false->Dr y Q):Dr (bif b then x else y) Q:=by
 cases b with
 | true=>exact a rfl
 | false=>exact c rfl
theorem Dr.ret{β:Type}{c:aS}{y:β}{Q:β->Prop}(h:bJ c)(a:Q y):Dr (some (c,y)) Q:=⟨c,y,rfl,h,a⟩
theorem Dr.of{β:Type}{x:Option (aS×β)}{Q:β->Prop}(h:∃r,x=some r/\bJ r.1/\Q r.2):Dr x Q:=by
 obtain⟨⟨c,y⟩,e,k,q⟩:=h;exact⟨c,y,e,k,q⟩
theorem Dr.mono{β:Type}{x:Option (aS×β)}{P Q:β->Prop}(h:Dr x P)(a:∀y,P y->Q y):Dr x Q:=by
 obtain⟨c,y,e,k,p⟩:=h;exact⟨c,y,e,k,a y p⟩
theorem dH{c:aS}(h:bJ c)(n:Int):Dr (aU c n) λx=>0<=x/\(0<n->x<n):=by
 obtain⟨c',x,e,k,p,q⟩:=gV h n;exact⟨c',x,e,k,p,q⟩
theorem oZ{c:aS}(h:bJ c)(n:Int):Dr (dP c n) λ_=>True:=by
 obtain⟨c',x,e,k⟩:=uy h n;exact⟨c',x,e,k,trivial⟩
theorem oW{c:aS}(h:bJ c)(xs:List Str)(a:xs≠[]):Dr (iT c xs) λs=>s∈xs:=by
 obtain⟨c',x,e,k,p⟩:=KL h xs a;exact⟨c',x,e,k,p⟩
theorem DZ{c:aS}(h:bJ c)(xs:List Int)(a:xs≠[]):Dr (l9 c xs) λs=>s∈xs:=by
 obtain⟨c',x,e,k,p⟩:=Zx h xs a;exact⟨c',x,e,k,p⟩
@[simp] abbrev OkT(t:Str):Prop:=t.length<=120/\t≠[122,122]
mutual
def wzE:ak->Nat
 | ⟨_,_,t,a⟩=>(if OkT t then 1 else 18446744073709551616)+wzL a
def wzL:List ak->Nat
 | []=>0
 | x::r=>wzE x+wzL r
end
theorem YI(a b:List ak):wzL (a++b)=wzL a+wzL b:=by
 induction a with
 | nil=>simp[wzL]
 | cons x r ih=>simp only[List.cons_append,wzL,ih,Nat.add_assoc]
theorem mG{k n:Int}{t:Str}{a:List ak}(h:OkT t):wzE ⟨k,n,t,a⟩=1+wzL a:=by
 show (if OkT t then 1 else 18446744073709551616)+wzL a=_
 rw[if_pos h]
theorem ED{e:ak}(h:wzE e<=1048576):OkT e.text:=by
 obtain⟨k,n,t,a⟩:=e;have h:(if OkT t then 1 else 18446744073709551616)+wzL a<=1048576:=h;show OkT t
 by_cases b:OkT t
 ·exact b
 ·rw[if_neg b]at h;omega
theorem aiv{e:ak}(h:wzE e<=1048576):wzE e=1+wzL e.args:=by
 have:=ED h;obtain⟨k,n,t,a⟩:=e;exact mG this
mutual
theorem Q8:∀e:ak,wtE e<=wzE e
 | ⟨k,n,t,a⟩=>by
  have h:=adv a;show (if t.length<=120 then 1 else 18446744073709551616)+wtL a<=(if OkT t then 1 else 18446744073709551616)+wzL a
  by_cases b:OkT t
  ·rw[if_pos b,if_pos b.1];omega
  ·rw[if_neg b];split<;>omega
theorem adv:∀l:List ak,wtL l<=wzL l
 | []=>aD _
 | x::r=>by
  have a:=Q8 x;have b:=adv r;show wtE x+wtL r<=wzE x+wzL r
  omega
end
abbrev WtE(n:Nat)(e:ak):Prop:=wzE e<=n
theorem adw{n:Nat}:∀ {xs:List ak},(∀x,x∈xs->wzE x<=n)->wzL xs<=n*xs.length
 | [],_=>by simp[wzL]
 | x::r,h=>by
  have b:=h x aw;have c:=adw (xs:=r) λy a=>h y (ar _ a)
  simp only[wzL,amr,Nat.mul_add,Nat.mul_one];omega
theorem w0{k n:Int}{s:Str}{m:Nat}(h:OkT s)(a:1<=m):WtE m (ak.mk k n s []):=by
 show wzE _<=m
 rw[mG h];simp[wzL];omega
theorem w1{k n:Int}{s:Str}{a:ak}{x m:Nat}(h:OkT s)(b:WtE x a)(c:1+x<=m):WtE m (ak.mk k n s [a]):=by
 show wzE _<=m
 rw[mG h];simp only[wzL];exact amq (Nat.add_le_add_left b 1) c
theorem w2{k n:Int}{s:Str}{a b:ak}{x y m:Nat}(h:OkT s)(c:WtE x a)(d:WtE y b)(e:1+x+y<=m):WtE m (ak.mk k n s [a,b]):=by
 show wzE _<=m
 rw[mG h];simp only[wzL];have c:wzE a<=x:=c;have d:wzE b<=y:=d;omega
theorem w3{k n:Int}{s:Str}{a b c:ak}{x y z m:Nat}(h:OkT s)(d:WtE x a)(e:WtE y b)(hc:WtE z c)(f:1+x+y+z<=m):WtE m (ak.mk k n s [a,b,c]):=by
 show wzE _<=m
 rw[mG h];simp only[wzL];have d:wzE a<=x:=d;have e:wzE b<=y:=e;have hc:wzE c<=z:=hc;omega
theorem wS{k n:Int}{s:Str}{xs:List ak}{x m:Nat}(h:OkT s)(a:∀e,e∈xs->WtE x e)(b:1+x*xs.length<=m):WtE m (ak.mk k n s xs):=by
 show wzE _<=m
 rw[mG h];exact amq (Nat.add_le_add_left (adw a) 1) b
theorem wM{e:ak}{x m:Nat}(h:WtE x e)(a:x<=m):WtE m e:=amq h a
def yR(b:List Str):Prop:=b≠[]/\∀s,s∈b->s.length<=20/\s≠[122,122]
theorem KW{c:aS}{b:List Str}(h:bJ c)(e:yR b):Dr (rH c b) (WtE 1):=by
 unfold rH gy wo;simp only[bV,zA];refine Dr.bind (dH h 5) λc1 x f i=>?_
 refine Dr.bif (λ_=>?_) λ_=>?_
 ·refine Dr.bind (oW f _ (by simp)) λc2 s d a=>.ret d (w0 ?_ (by omega))
  simp at a;rcases a with rfl | rfl | rfl | rfl<;>simp
 have num:Dr ((aU c1 6).bind λg=>some (g.1,ak.mk 1 g.2 [] [])) (WtE 1):=Dr.bind (dH f 6) λc2 x d a=>.ret d (w0 (by simp) (by omega))
 refine Dr.bif (λ_=>num) λ_=>Dr.bif (λ_=>num) λ_=>?_
 refine Dr.bind (oW f _ e.1) λc2 s d a=>.ret d (w0 (s:=s) ⟨by have:=(e.2 s a).1;omega,(e.2 s a).2⟩ (by omega))
theorem mem_set{α:Type}{xs:List α}{i:Nat}{x y:α}(h:y∈xs.set i x):y∈xs\/y=x:=by
 rcases List.mem_or_eq_of_mem_set h with h | h
 ·exact .inl h
 ·exact .inr h
theorem BQ{c:aS}{b:List Str}(h:bJ c)(t:yR b):Dr (nD c b) (WtE 4):=by
 unfold nD;simp only[bV];refine Dr.bind (dH h 4) λc1 n u l=>?_
 have D:=l.2 (by omega);obtain⟨m,rfl⟩:=vk l.1;refine Dr.of (gY (λ(s:aS×List ak) (i:Nat)=>((s.1.b,s.1.i,s.1.h,b,0,0,[],[],4,0,[],s.2,(m:Int),(i:Int)):(List Int)×Int×Int×(List Str)×Int×Int×Str×(List ak)×Int×Int×Str×(List ak)×Int×Int)) m
  (λi s=>bJ s.1/\s.2.length=i/\∀x,x∈s.2->WtE 1 x) (λ(r:aS×ak)=>bJ r.1/\WtE 4 r.2) (λi s hi k=>?_) (λs k=>?_) (c1,[]) ⟨u,rfl,λx d=>(by cases d)⟩)
 ·obtain⟨hc,g,d⟩:=k;obtain⟨c2,j,v,w,E,F⟩:=gV hc 5;have o:gy j=some (ak.mk 1 j [] []):=rfl;have p:WtE 1 (ak.mk 1 j [] []):=w0 (by simp) (by omega);generalize ak.mk 1 j [] []=e at o p;obtain⟨c4,y,z,q⟩:=uy w 4;have hmem:∀x,x∈s.2++[e]->WtE 1 x:=λx a=>by
   rcases List.mem_append.1 a with a | a
   ·exact d x a
   ·rw[List.mem_singleton.1 a];exact p
  simp only[cnt_lt hi,ac,v,o,z,zA,bI (show s.2.length+[e].length<=34359738368 by simp;omega),qB hi (show m<=1048576 by omega)];cases y with
  | false=>exact⟨(c4,s.2++[e]),rfl,q,by simp[g],hmem⟩
  | true=>
   obtain⟨A,f,B,C,hf⟩:=KW q t;have hget:(s.2++[e])[i]?=some e:=by rw[<- g];simp
   simp only[ac,B,zA,aP,hget,aE];refine⟨(A,(s.2++[e]).set i f),rfl,C,by simp[g],λx a=>?_⟩;rcases mem_set a with a | rfl
   ·exact hmem x a
   ·exact hf
 ·obtain⟨hc,g,d⟩:=k;exact⟨(s.1,ak.mk 4 0 [] s.2),by simp only[dS,aa],hc,wS (by simp) d (by omega)⟩
theorem Je{c:aS}(h:bJ c):Dr (ou c) (WtE 1):=by
 unfold ou;refine Dr.bind (oW h _ (by simp)) λc2 s b a=>.ret b (w0 ?_ (by omega))
 simp at a;rcases a with rfl | rfl | rfl | rfl<;>simp
theorem LU{c:aS}(h:bJ c):Dr (qU c) (WtE 12):=by
 unfold qU gy;simp only[bV,zA];refine Dr.bind (dH h 4) λc1 n l j=>?_
 have v:=j.2 (by omega);obtain⟨m,rfl⟩:=vk j.1;refine Dr.of (gY (λ(s:aS×List ak) (i:Nat)=>((s.1.b,s.1.i,s.1.h,0,0,[],[],4,0,[],s.2,(m:Int),(i:Int)):(List Int)×Int×Int×Int×Int×Str×(List ak)×Int×Int×Str×(List ak)×Int×Int)) m
  (λi s=>bJ s.1/\s.2.length=i/\∀x,x∈s.2->WtE 3 x) (λ(r:aS×ak)=>bJ r.1/\WtE 12 r.2) (λi s hi e=>?_) (λs e=>?_) (c1,[]) ⟨l,rfl,λx a=>(by cases a)⟩)
 ·obtain⟨hc,k,a⟩:=e;obtain⟨c2,f,o,p,w,y⟩:=gV hc 3;obtain⟨c4,g,q,t,z,A⟩:=gV p 4;have u:WtE 3 (ak.mk 4 0 [] [ak.mk 1 f [] [],ak.mk 1 g [] []]):=w2 (by simp) (w0 (by simp) (aD _)) (w0 (by simp) (aD _)) (by omega);simp only[cnt_lt hi,ac,o,q,zA,bI (show s.2.length+[ak.mk 4 0 [] [ak.mk 1 f [] [],ak.mk 1 g [] []]].length<=34359738368 by simp;omega),qB hi (show m<=1048576 by omega)];refine⟨(c4,s.2++[ak.mk 4 0 [] [ak.mk 1 f [] [],ak.mk 1 g [] []]]),rfl,t,by simp[k],λx d=>?_⟩;rcases List.mem_append.1 d with d | d
  ·exact a x d
  ·rw[List.mem_singleton.1 d];exact u
 ·obtain⟨hc,k,a⟩:=e;exact⟨(s.1,_),by simp only[dS,aa];rfl,hc,w2 (by simp) (w0 (by simp) (aD _)) (wS (x:=3) (m:=10) (by simp) a (by omega)) (by omega)⟩
theorem wH{c:aS}{a b:ak}{n:Nat}(h:bJ c)(e:WtE n a)(f:WtE n b):Dr ((dP c 2).bind λr=>bif r.2 then some (r.1,a)else some (r.1,b)) (WtE n):=
 Dr.bind (oZ h 2) λc1 x d _=>Dr.bif (λ_=>.ret d e) λ_=>.ret d f
theorem Xr:∀(n:Nat) {a:aS} {b:List Str} (c:Int),bJ a->yR b->b.length+2*c.toNat<=1000->c<=n->1<=n->c<=10->Dr (kU n a b c) (WtE (40*4 ^ c.toNat))
 | 0,a,b,c,_,_,_,_,h,_=>absurd h (by omega)
 | n+1,a,b,c,h,p,U,hc,_,Q=>by
  show Dr (Ic (kU n) a b c) _
  unfold Ic gy rG;simp only[bV,zA];have hp:∀k:Nat,1<=4 ^ k:=λk=>Nat.one_le_pow _ _ (by omega)
  refine Dr.bif (λ_=>Dr.bind (KW h p) λc1 x j J=>.ret j (wM J (by have:=hp c.toNat;omega))) λC=>?_
  have C:2<=c:=by simp at C;exact C
  have R:w64 (c-1)=c-1:=bQ (by omega) (by omega);rw[R];have ih:∀ {a:aS} {b':List Str},bJ a->yR b'->b'.length<=b.length+2->Dr (kU n a b' (c-1)) (WtE (40*4 ^ (c-1).toNat)):=λD E S=>Xr n (c-1) D E (by omega) (by omega) (by omega) (by omega)
  have L:40*4 ^ c.toNat=4*(40*4 ^ (c-1).toNat):=by
   rw[show c.toNat=(c-1).toNat+1 by omega,Nat.pow_succ];omega
  have F:40<=40*4 ^ (c-1).toNat:=by have:=hp (c-1).toNat;omega
  rw[L];generalize 40*4 ^ (c-1).toNat=K at ih F;clear L;have ihb:∀ {a:aS},bJ a->Dr (kU n a b (c-1)) (WtE K):=λD=>ih D p (by omega)
  obtain⟨B,G,hb0m⟩:∃B,idx b 0=some B/\B∈b:=by
   cases H:b with
   | nil=>exact absurd H p.1
   | cons x r=>exact⟨x,rfl,aw⟩
  have names:∀s,s∈[[117],[118],B]->s.length<=20/\s≠[122,122]:=λs M=>by
   simp only[bh,List.not_mem_nil,or_false]at M;rcases M with rfl | rfl | rfl
   ·simp
   ·simp
   ·exact p.2 _ hb0m
  simp only[G,zA];refine Dr.bind (dH h 13) λc1 x j J=>?_
  have op:Dr ((aU c1 5).bind λN=>(kU n N.1 b (c-1)).bind λO=>(kU n O.1 b (c-1)).bind λP=>some (P.1,ak.mk 6 (w64 (1+N.2)) [] [O.2,P.2])) (WtE (4*K)):=
   Dr.bind (dH j 5) λc2 y e d=>Dr.bind (ihb e) λc3 u i l=>Dr.bind (ihb i) λc4 v f g=>.ret f (w2 (by simp) l g (by omega))
  refine Dr.bif (λ_=>op) λ_=>Dr.bif (λ_=>op) λ_=>Dr.bif (λ_=>?_) λ_=>Dr.bif (λ_=>?_) λ_=>Dr.bif (λ_=>?_) λ_=>Dr.bif (λ_=>?_) λ_=>
   Dr.bif (λ_=>?_) λ_=>Dr.bif (λ_=>?_) λ_=>Dr.bif (λ_=>?_) λ_=>Dr.bif (λ_=>?_) λ_=>Dr.bif (λ_=>?_) λ_=>Dr.bif (λ_=>?_) λ_=>?_
  ·refine Dr.bind (oW j _ (by simp)) λc2 s e d=>Dr.bind (ihb e) λc3 u i l=>Dr.gd (by simp;omega) ?_
   have ls:=names s d;refine Dr.bind (ih i ⟨by simp,λt o=>?_⟩ (by rw[a8];simp only[amr,List.length_nil];omega)) λc4 v f g=>.ret f (w2 (s:=s) ⟨by have:=ls.1;omega,ls.2⟩ l g (by omega))
   rcases List.mem_append.1 o with o | o
   ·rw[List.mem_singleton.1 o];exact ls
   ·exact p.2 t o
  ·exact Dr.bind (ihb j) λc2 u e d=>Dr.bind (ihb e) λc3 v i l=>Dr.bind (ihb i) λc4 w f g=>.ret f (w3 (by simp) d l g (by omega))
  ·refine Dr.bind (oW j _ (by simp)) λc2 s e d=>Dr.bind (BQ e p) λc3 u i l=>Dr.gd (by simp;omega) ?_
   have ls:=names s d;refine Dr.bind (ih i ⟨by simp,λt o=>?_⟩ (by rw[a8];simp only[amr,List.length_nil];omega)) λc4 v f g=>.ret f (w2 (s:=s) ⟨by have:=ls.1;omega,ls.2⟩ l g (by omega))
   rcases List.mem_append.1 o with o | o
   ·simp only[bh,List.not_mem_nil,or_false,or_self]at o;rw[o];exact ls
   ·exact p.2 t o
  ·exact Dr.bind (BQ j p) λc2 u e d=>.ret e (wM d (by omega))
  ·refine Dr.bind (oW j _ (by simp)) λc2 s e d=>Dr.bind (BQ e p) λc3 u i l=>Dr.bind (ihb i) λc4 v f g=>wH f (w1 ?_ l (by omega)) (w1 ?_ g (by omega))
   all_goals
    simp at d
    rcases d with rfl | rfl<;>simp
  ·refine Dr.bind (oW j _ (by simp)) λc2 s e d=>Dr.bind (dH e 4) λc3 y i l=>Dr.bind (BQ i p) λc4 u f g=>Dr.bind (dH f 9) λI z q A=>Dr.bind (dH q 4) λV W T X=>
    wH T (w2 ?_ (w0 (by simp) (aD _)) g (by omega)) (w2 ?_ (w0 (by simp) (aD _)) (w2 (m:=3) (by simp) (w0 (by simp) (aD _)) (w0 (by simp) (aD _)) (by omega)) (by omega))
   all_goals
    simp at d
    rcases d with rfl | rfl | rfl | rfl<;>simp
  ·exact Dr.bind (Je j) λc2 s e d=>Dr.bind (dH e 3) λc3 y i l=>Dr.bind (LU i) λc4 u f g=>Dr.bind (ihb f) λI v q A=>
    wH q (w3 (by simp) d (w0 (by simp) (aD _)) g (by omega)) (w3 (by simp) d (w0 (by simp) (aD _)) A (by omega))
  ·exact Dr.bind (Je j) λc2 s e d=>Dr.bind (Je e) λc3 y i l=>Dr.bind (LU i) λc4 u f g=>Dr.bind (ihb f) λI v q A=>
    wH q (w3 (by simp) d l g (by omega)) (w3 (by simp) d l A (by omega))
  ·exact Dr.bind (LU j) λc4 u f g=>Dr.bind (ihb f) λI v q A=>wH q (w1 (by simp) g (by omega)) (w1 (by simp) A (by omega))
  ·exact Dr.bind (dH j 6) λc2 y e d=>.ret e (w1 (by simp) (w0 (by simp) (aD _)) (by omega))
  ·refine Dr.bind (oW j _ (by simp)) λc2 s e d=>wH e (w0 (by simp) (by omega)) (w1 (by simp) (w0 ?_ (aD _)) (by omega))
   simp at d;rcases d with rfl | rfl | rfl<;>simp
theorem aaT(n:Int):1<=siz n:=by
 cases n with
 | ofNat a=>show 1<=SizeOf.sizeOf (Int.ofNat a);rw[Int.ofNat.sizeOf_spec];omega
 | negSucc a=>show 1<=SizeOf.sizeOf (Int.negSucc a);rw[Int.negSucc.sizeOf_spec];omega
theorem aaS{α:Type}[SizeOf α](l:List α):1<=siz l:=by
 cases l with
 | nil=>simp[siz]
 | cons x r=>simp only[siz];rw[List.cons.sizeOf_spec];omega
theorem agT(c:aS):4<=siz c:=by
 cases c with
 | mk b i h=>
  have a:=aaS b;have d:=aaT i;have e:=aaT h;simp only[siz]at *;rw[aS.mk.sizeOf_spec];omega
theorem ahD{a:aS}{b:List Str}(c:Int)(h:bJ a)(d:yR b)(g:b.length<=100)(i:0<=c)(j:c<=4):Dr (Fb a b c) (WtE 10240):=by
 have k:=agT a;have l:=aaS b;refine (Xr (siz a+siz b+1) c h d (by omega) (by omega) (by omega) (by omega)).mono λe f=>wM f ?_
 have:4 ^ c.toNat<=4 ^ 4:=Nat.pow_le_pow_right (by omega) (by omega);omega
theorem aax:yR [[97],[98],[99]]:=⟨by simp,λs a=>by
 simp only[bh,List.not_mem_nil,or_false]at a;rcases a with rfl | rfl | rfl<;>simp⟩
theorem alo:yR [[97]]:=⟨by simp,λs a=>by rw[List.mem_singleton.1 a];simp⟩
theorem V7{e:ak}{n:Nat}(h:WtE n e)(a:n<=1048576):∃v,dF e=some v/\True:=by
 obtain⟨v,_,b,_⟩:=Jk e (amq (Q8 e) (amq h a));exact⟨v,b,trivial⟩
theorem abt{c:aS}(h:bJ c):Dr (Ae c) (WtE 10240):=by
 unfold Ae;simp only[bV];refine Dr.bind (dH h 4) λc1 x d g=>?_
 have:=g.2 (by omega);have i:w64 (1+x)=1+x:=bQ (by omega) (by omega);show Dr ((Fb c1 [[97],[98],[99]] (w64 (1+x))).bind _) _
 rw[i];refine Dr.bind (ahD _ d aax (by simp) (by omega) (by omega)) λc2 e a b=>Dr.pbind (V7 b (by omega)) λv _=>Dr.bif (λ_=>?_) λ_=>.ret a b
 exact Dr.bind (KW a aax) λc3 f j k=>.ret j (wM k (by omega))
theorem adx{e:ak}{k n:Int}{s:Str}{m:Nat}(h:WtE m e)(b:m<=1048576)(a:OkT s):WtE m (ak.mk k n s e.args):=by
 have h:wzE e<=m:=h;have c:=aiv (e:=e) (by omega);show wzE _<=m
 rw[mG a];omega
theorem aik{c:aS}(h:bJ c):Dr (wz c) (WtE 10300):=by
 unfold wz gy rG;simp only[bV,zA];refine Dr.bind (abt h) λc1 e o g=>Dr.bind (dH o 12) λc2 x j t=>?_
 have p1':wzE e<=10240:=g;have k:=ED (e:=e) (by omega);have u:=uQ (e:=e);have p:=Q8 e;refine Dr.bif (λ_=>?_) λ_=>Dr.bif (λ_=>?_) λ_=>Dr.bif (λ_=>?_) λ_=>Dr.bif (λ_=>?_) λ_=>Dr.bif (λ_=>?_) λ_=>.ret j (wM g (by omega))
 ·exact Dr.bind (dH j 11) λc3 y a d=>.ret a (wM (adx g (by omega) k) (by omega))
 ·refine Dr.bind (KW j alo) λc3 f a d=>Dr.gd (by simp;omega) (.ret a ?_)
  have v:=aiv (e:=e) (by omega);have d:wzE f<=1:=d;show wzE _<=10300
  rw[mG k,YI];simp only[wzL];show 1+(wzL e.args+(wzE f+0))<=10300
  omega
 ·refine Dr.bind (oW j _ (by simp)) λc3 s a d=>.ret a (wM (adx g (by omega) ?_) (by omega))
  simp at d;rcases d with rfl | rfl | rfl | rfl<;>simp
 ·exact Dr.bind (DZ j _ (by simp)) λc3 s a d=>.ret a (wM (adx g (by omega) k) (by omega))
 ·refine Dr.of (gY (λ(s:ak) (i:Nat)=>((c2.b,c2.i,c2.h,0,0,[],[],s.kind,s.n,s.text,s.args,(i:Int)):(List Int)×Int×Int×Int×Int×Str×(List ak)×Int×Int×Str×(List ak)×Int)) 7
   (λi s=>WtE (10240+2*i) s) (λ(r:aS×ak)=>bJ r.1/\WtE 10300 r.2) (λi s hi l=>?_) (λs l=>?_) e g)
  ·have m:decide ((i:Int)<7)=true:=by simp;omega
   have q:w64 ((i:Int)+1)=((i+1:Nat):Int):=by rw[bQ (by omega) (by omega)];omega
   have eta:ak.mk s.kind s.n s.text s.args=s:=by cases s;rfl
   simp only[m,ac,zA,q,eta];exact⟨ak.mk 6 1 [] [s,ak.mk 1 (i:Int) [] []],rfl,w2 (by simp) l (w0 (by simp) (aD _)) (by omega)⟩
  ·have m:decide (((7:Nat):Int)<7)=false:=by simp
   have eta:ak.mk s.kind s.n s.text s.args=s:=by cases s;rfl
   simp only[m,aa,eta];exact⟨(c2,s),rfl,j,wM l (by omega)⟩
theorem aap{c:aS}(h:bJ c):Dr (ul c) (WtE 10300):=by
 unfold ul gy rG lK;simp only[bV,zA];have fin:∀ {c:aS} {e:ak},bJ c->WtE 10300 e->Dr ((dF e).bind λv=>bif !v then some (c,ak.mk 5 0 [99,108,111,99,107] [])else some (c,e)) (WtE 10300):=λhc i=>
  Dr.pbind (V7 i (by omega)) λv _=>Dr.bif (λ_=>.ret hc (w0 (by simp) (by omega))) λ_=>.ret hc i
 refine Dr.bind (abt h) λc1 e k d=>Dr.bind (oZ k 3) λc2 x j _=>Dr.bif (λ_=>?_) λ_=>?_
 ·refine Dr.bind (dH j 5) λc3 y l o=>Dr.bind (oZ l 4) λc4 z a _=>?_
  have b:WtE 10250 (ak.mk 6 1 [] [ak.mk 5 0 [99,108,111,99,107] [],ak.mk 6 1 [] [ak.mk 5 0 [99,104,97,110,99,101] [ak.mk 1 y [] []],e]]):=
   w2 (by simp) (w0 (by simp) (aD _)) (w2 (m:=10243) (by simp) (w1 (m:=2) (by simp) (w0 (by simp) (aD _)) (by omega)) d (by omega)) (by omega)
  refine Dr.bif (λ_=>?_) λ_=>fin a (wM b (by omega))
  exact Dr.bind (BQ a alo) λn u f g=>fin f (w2 (by simp) g b (by omega))
 ·refine Dr.bind (oZ j 4) λc4 z a _=>Dr.bif (λ_=>?_) λ_=>fin a (wM d (by omega))
  exact Dr.bind (BQ a alo) λn u f g=>fin f (w2 (by simp) g d (by omega))
theorem ahF{c:aS}(h:bJ c):Dr (E8 c) (WtE 10300):=by
 unfold E8 gy rG lK wo;simp only[bV,zA];refine Dr.bind (dH h 4) λc1 n l g=>?_
 have t:=g.2 (by omega);obtain⟨m,rfl⟩:=vk g.1;have o:w64 (5+(m:Int))=((m+5:Nat):Int):=by rw[bQ (by omega) (by omega)];omega
 show Dr (aN _ (c1.b,c1.i,c1.h,0,0,[],[],4,0,[],[],w64 (5+(m:Int)),0)) _
 rw[o];refine Dr.of (gY (λ(s:List ak) (i:Nat)=>((c1.b,c1.i,c1.h,0,0,[],[],4,0,[],s,((m+5:Nat):Int),(i:Int)):(List Int)×Int×Int×Int×Int×Str×(List ak)×Int×Int×Str×(List ak)×Int×Int)) (m+5)
  (λi s=>s.length=i/\∀x,x∈s->WtE 1 x) (λ(r:aS×ak)=>bJ r.1/\WtE 10300 r.2) (λi s hi f=>?_) (λs f=>?_) [] ⟨rfl,λx a=>(by cases a)⟩)
 ·obtain⟨j,a⟩:=f;simp only[cnt_lt hi,ac,zA,bI (show s.length+[ak.mk 1 (i:Int) [] []].length<=34359738368 by simp;omega),qB hi (show m+5<=1048576 by omega)];refine⟨s++[ak.mk 1 (i:Int) [] []],rfl,by simp[j],λx d=>?_⟩;rcases List.mem_append.1 d with d | d
  ·exact a x d
  ·rw[List.mem_singleton.1 d];exact w0 (by simp) (aD _)
 ·obtain⟨j,a⟩:=f;have e:WtE 20 (ak.mk 4 0 [] s):=wS (x:=1) (by simp) a (by omega);obtain⟨c2,p,q,k⟩:=uy l 2;simp only[dS,aa,q,zA];cases p with
  | true=>exact⟨(c2,_),rfl,k,w2 (by simp) e (w2 (m:=50) (by simp) e (w2 (m:=3) (by simp) (w0 (by simp) (aD _)) (w0 (by simp) (aD _)) (by omega)) (by omega)) (by omega)⟩
  | false=>exact⟨(c2,_),rfl,k,w2 (by simp) e (w2 (m:=50) (by simp) e (w0 (m:=1) (by simp) (aD _)) (by omega)) (by omega)⟩
theorem D7{P Q:List aj}(hPQ:∀o,o∈P->o∈Q){v:af}(h:zl P v):zl Q v:=by
 induction h with
 | mk b d ih=>exact .mk (λr a o c=>hPQ o (b r a o c)) ih
def oO(n:Int):Prop:=-1000000000<=n/\n<=1000000000
structure PS(v:af):Prop where
 fit:Fit B20 (.base .val) v
 org:∃P:List aj,P.length<=20/\zl P v
def Q5(r:aB):Prop:=r.cells.length<=4/\(∀n,n∈r.cells->oO n)/\r.orig.length<=2/\cu B20 (.list (.base .origin) r.orig)
structure YG(v:af):Prop where
 k:v.kind=5
 n:v.n=0
 s:v.step=0
 t:v.text=[]
 l:v.list=[]
 c:cu B20 (.list (.base .str) v.columns)
 len:v.rows.length<=5
 rows:∀r,r∈v.rows->Q5 r
theorem ahe{r:aB}(h:Q5 r):Fit B20 (.base .row) r:=by
 rw[iq];exact⟨dB (by have:=h.1;omega) λn a=>λd b=>(by rw[List.mem_singleton.1 b];exact og (dN (h.2.1 n a).1 (h.2.1 n a).2)),h.2.2.2⟩
theorem YG.val{v:af}(h:YG v):PS v:=by
 refine⟨?_,v.rows.flatMap (·.orig),?_,.mk (λr b o d=>List.mem_flatMap.2 ⟨r,b,d⟩) λx a=>by rw[h.l]at a;cases a⟩
 ·rw[dQ,h.k,h.n,h.s,h.t,h.l];exact⟨AB (by omega) (by omega),AB (by omega) (by omega),AB (by omega) (by omega),qh,pU,h.c,dB (by have:=h.len;omega) λr b=>ahe (h.rows r b)⟩
 ·have key:∀rs:List aB,(∀r,r∈rs->Q5 r)->(rs.flatMap (·.orig)).length<=2*rs.length:=by
   intro rs;induction rs with
   | nil=>intro _;simp
   | cons r rs ih=>
    intro hh;have e:=(hh r aw).2.2.1;have f:=ih λx a=>hh x (ar _ a)
    simp only[List.flatMap_cons,a8,amr];omega
  have:=key v.rows h.rows;have:=h.len;omega
theorem BO{c:aS}(h:bJ c):Dr (nC c) oO:=by
 unfold nC;refine Dr.bind (oZ h 12) λc1 x d _=>Dr.bif (λ_=>?_) λ_=>?_
 ·refine Dr.bind (DZ d _ (by simp)) λc2 n b a=>.ret b ?_
  simp at a;rcases a with rfl | rfl | rfl | rfl | rfl<;>exact⟨by omega,by omega⟩
 ·refine Dr.bind (dH d 12) λc2 n b a=>.ret b ?_
  have:=a.2 (by omega);show oO (w64 (n-3))
  rw[bQ (by omega) (by omega)];exact⟨by omega,by omega⟩
theorem adP{c:aS}(h:bJ c):Dr (xO c) λs=>s.length<=20:=by
 unfold xO;refine Dr.bind (oW h _ (by simp)) λc2 s b a=>.ret b ?_
 simp at a;rcases a with rfl | rfl | rfl | rfl | rfl | rfl | rfl<;>simp
theorem abr{c:aS}(h:bJ c):Dr (EW c) λl=>l.length<=2/\cu B20 (.list (.base .origin) l):=by
 unfold EW;refine Dr.bind (dH h 3) λc1 n p j=>?_
 have z:=j.2 (by omega);obtain⟨m,rfl⟩:=vk j.1;refine Dr.of (gY (λ(s:aS×List aj×Nat) (i:Nat)=>((s.1.b,s.1.i,s.1.h,s.2.1,(s.2.2:Int),(m:Int),(i:Int)):(List Int)×Int×Int×(List aj)×Int×Int×Int)) m
  (λi s=>bJ s.1/\s.2.1.length=i/\s.2.2<=1+2*i/\∀o,o∈s.2.1->oO o.cell/\oO o.row) (λ(r:aS×List aj)=>bJ r.1/\r.2.length<=2/\cu B20 (.list (.base .origin) r.2)) (λi s hi g=>?_) (λs g=>?_) (c1,[],1) ⟨p,rfl,by show 1<=1+2*0;omega,λo a=>(by cases a)⟩)
 ·obtain⟨hc,k,hk,e⟩:=g;obtain⟨c2,d,q,t,A,u⟩:=gV hc 2;have:=u (by omega);obtain⟨c4,f,v,w,B,x⟩:=gV t 2;have:=x (by omega);have w1:w64 (d*2)=d*2:=bQ (by omega) (by omega);have w2:w64 ((i:Int)+d*2)=(i:Int)+d*2:=bQ (by omega) (by omega);have w3:w64 ((s.2.2:Int)+1)=(s.2.2:Int)+1:=bQ (by omega) (by omega);have y:w64 ((s.2.2:Int)+1+f)=((s.2.2+1+f.toNat:Nat):Int):=by rw[bQ (by omega) (by omega)];omega
  simp only[cnt_lt hi,ac,q,v,w1,w2,w3,y,zA,bI (show s.2.1.length+[aj.mk (s.2.2:Int) ((i:Int)+d*2)].length<=34359738368 by simp;omega),qB hi (show m<=1048576 by omega)];refine⟨(c4,s.2.1++[aj.mk (s.2.2:Int) ((i:Int)+d*2)],s.2.2+1+f.toNat),rfl,w,by simp[k],by show s.2.2+1+f.toNat<=_;omega,λo a=>?_⟩;rcases List.mem_append.1 a with a | a
  ·exact e o a
  ·rw[List.mem_singleton.1 a];exact⟨⟨by show -1000000000<=(s.2.2:Int);omega,by show (s.2.2:Int)<=1000000000;omega⟩,⟨by show -1000000000<=(i:Int)+d*2;omega,by show (i:Int)+d*2<=1000000000;omega⟩⟩
 ·obtain⟨hc,k,hk,e⟩:=g;refine⟨(s.1,s.2.1),by simp only[dS,aa],hc,by show s.2.1.length<=2;omega,dB (by show (s.2.1.length:Int)<=1048576;omega) λo a=>?_⟩;rw[Ew];exact⟨AB (e o a).1.1 (e o a).1.2,AB (e o a).2.1 (e o a).2.2⟩
theorem XD{ρ σ:Type}{L:Option ρ}{f:σ->ρ}{I:σ->Prop}(h:∃r,L=some r/\∃s',r=f s'/\I s'):∃s',L=some (f s')/\I s':=by
 obtain⟨r,a,s',rfl,b⟩:=h;exact⟨s',a,b⟩
theorem aga{α:Type}(xs:List α)(i:Nat)(h:i<=xs.length):cutAt xs (i:Int)=some i:=by
 unfold cutAt;rw[if_pos ⟨by omega,by omega⟩];simp
theorem RV:∀(xs:List Str),xs.length<=4->(∀s,s∈xs->s.length<=4)->cu B20 (.list (.base .str) xs):=λxs c a=>
 dB (by omega) λs h=>λd b=>by rw[List.mem_singleton.1 b];exact akq (by have:=a s h;omega)
theorem Rn{c:aS}(h:bJ c):Dr (kT c) YG:=by
 unfold kT;refine Dr.bind (dH h 3) λc1 n S Q=>?_
 have a:=Q.2 (by omega);obtain⟨w,rfl⟩:∃w:Nat,n=(w:Int):=vk Q.1;have T:w64 (1+(w:Int))=((w+1:Nat):Int):=by rw[bQ (by omega) (by omega)];omega
 have hcut:cutAt ([[97],[98],[99],[120]]:List Str) ((w+1:Nat):Int)=some (w+1):=aga _ _ (by simp;omega);have D:gd (0+(([[97],[98],[99],[120]]:List Str).take (w+1)).length)=some ():=bI (by simp;omega);simp only[hcut,D,T,zA,List.nil_append];have t:∀s,s∈([[97],[98],[99],[120]]:List Str)->s.length<=4:=λs d=>by
  simp only[bh,List.not_mem_nil,or_false]at d;rcases d with rfl | rfl | rfl | rfl<;>simp
 have hlen:(([[97],[98],[99],[120]]:List Str).take (w+1)).length=w+1:=by rw[bc];simp;omega
 refine Dr.bind (oZ S 5) λc2 x R _=>?_
 refine Dr.bif (λ_=>?_) λ_=>?_
 ·obtain⟨a0,v⟩:∃a0,(([[97],[98],[99],[120]]:List Str).take (w+1))[0]?=some a0:=⟨_,zF (by omega)⟩;have E:idx (([[97],[98],[99],[120]]:List Str).take (w+1)) 0=some a0:=v;have F:cutAt ((([[97],[98],[99],[120]]:List Str).take (w+1)).set 0 [120]) 1=some 1:=aga _ 1 (by rw[List.length_set,hlen];omega);simp only[E,v,F,zA];have hcols:cu B20 (.list (.base .str) (((([[97],[98],[99],[120]]:List Str).take (w+1)).set 0 [120]).take 1)):=RV _ (by rw[bc];omega) λs d=>by
   rcases mem_set (List.mem_of_mem_take d)with d | rfl
   ·exact t s (List.mem_of_mem_take d)
   ·simp
  generalize ((([[97],[98],[99],[120]]:List Str).take (w+1)).set 0 [120]).take 1=cols at hcols;refine Dr.bind (dH R 6) λc3 m G y=>?_
  have U:=y.2 (by omega);obtain⟨m,rfl⟩:=vk y.1;show Dr (aN _ (c3.b,c3.i,c3.h,0,0,0,[],[],[],[],((1:Nat):Int),5,0,0,[],[],cols,[],(m:Int),0)) YG
  have H:(1:Nat)<=4:=by omega
  generalize (1:Nat)=u at H;refine Dr.of (gY (λ(s:aS×List aB) (i:Nat)=>((s.1.b,s.1.i,s.1.h,0,0,0,[],[],[],[],(u:Int),5,0,0,[],[],cols,s.2,(m:Int),(i:Int)):(List Int)×Int×Int×Int×Int×Int×Str×(List af)×(List Str)×(List aB)×Int×Int×Int×Int×Str×(List af)×(List Str)×(List aB)×Int×Int)) m
   (λi s=>bJ s.1/\s.2.length=i/\∀r,r∈s.2->Q5 r) (λ(r:aS×af)=>bJ r.1/\YG r.2) (λi s hi d=>?_) (λs d=>?_) (c3,[]) ⟨G,rfl,λr e=>(by cases e)⟩)
  ·obtain⟨hc,A,o⟩:=d;obtain⟨J,p,K,L,B⟩:=abr hc;simp only[cnt_lt hi,ac,K,zA];refine XD (f:=λs':aS×List aB=>(.inl (s'.1.b,s'.1.i,s'.1.h,0,0,0,[],[],[],[],(u:Int),5,0,0,[],[],cols,s'.2,(m:Int),((i+1:Nat):Int)):((List Int)×Int×Int×Int×Int×Int×Str×(List af)×(List Str)×(List aB)×Int×Int×Int×Int×Str×(List af)×(List Str)×(List aB)×Int×Int)⊕(aS×af))) (I:=λs'=>bJ s'.1/\s'.2.length=i+1/\∀r,r∈s'.2->Q5 r)
    (gY (λ(z:aS×List Int) (k:Nat)=>((z.1.b,z.1.i,z.1.h,0,0,0,[],[],[],[],(u:Int),5,0,0,[],[],cols,s.2,(m:Int),(i:Int),z.2,p,(k:Int)):(List Int)×Int×Int×Int×Int×Int×Str×(List af)×(List Str)×(List aB)×Int×Int×Int×Int×Str×(List af)×(List Str)×(List aB)×Int×Int×(List Int)×(List aj)×Int)) u
     (λk z=>bJ z.1/\z.2.length=k/\∀n,n∈z.2->oO n) _ (λk z hk q=>?_) (λz q=>?_) (J,[]) ⟨L,rfl,λn a=>(by cases a)⟩)
   ·obtain⟨g,l,j⟩:=q;obtain⟨M,C,N,O,P⟩:=BO g;simp only[cnt_lt hk,ac,N,zA,bI (show z.2.length+[C].length<=34359738368 by simp;omega),qB hk (show u<=1048576 by omega)];refine⟨(M,z.2++[C]),rfl,O,by simp[l],λn a=>?_⟩;rcases List.mem_append.1 a with a | a
    ·exact j n a
    ·rw[List.mem_singleton.1 a];exact P
   ·obtain⟨g,l,j⟩:=q;simp only[dS,aa,zA,bI (show s.2.length+[aB.mk z.2 p].length<=34359738368 by simp;omega),qB hi (show m<=1048576 by omega)];refine⟨_,rfl,(z.1,s.2++[aB.mk z.2 p]),rfl,g,by simp[A],λr e=>?_⟩;rcases List.mem_append.1 e with e | e
    ·exact o r e
    ·rw[List.mem_singleton.1 e];exact⟨by show z.2.length<=4;omega,j,B.1,B.2⟩
  ·obtain⟨hc,A,o⟩:=d;exact⟨(s.1,_),by simp only[dS,aa];rfl,hc,⟨rfl,rfl,rfl,rfl,rfl,hcols,by show s.2.length<=5;omega,o⟩⟩
 ·have hcols:cu B20 (.list (.base .str) (([[97],[98],[99],[120]]:List Str).take (w+1))):=RV _ (by rw[hlen];omega) λs d=>t s (List.mem_of_mem_take d)
  generalize ([[97],[98],[99],[120]]:List Str).take (w+1)=cols at hcols;refine Dr.bind (dH R 6) λc3 m G y=>?_
  have U:=y.2 (by omega);obtain⟨m,rfl⟩:=vk y.1;have H:w+1<=4:=by omega
  generalize w+1=u at H;refine Dr.of (gY (λ(s:aS×List aB) (i:Nat)=>((s.1.b,s.1.i,s.1.h,0,0,0,[],[],[],[],(u:Int),5,0,0,[],[],cols,s.2,(m:Int),(i:Int)):(List Int)×Int×Int×Int×Int×Int×Str×(List af)×(List Str)×(List aB)×Int×Int×Int×Int×Str×(List af)×(List Str)×(List aB)×Int×Int)) m
   (λi s=>bJ s.1/\s.2.length=i/\∀r,r∈s.2->Q5 r) (λ(r:aS×af)=>bJ r.1/\YG r.2) (λi s hi d=>?_) (λs d=>?_) (c3,[]) ⟨G,rfl,λr e=>(by cases e)⟩)
  ·obtain⟨hc,A,o⟩:=d;obtain⟨J,p,K,L,B⟩:=abr hc;simp only[cnt_lt hi,ac,K,zA];refine XD (f:=λs':aS×List aB=>(.inl (s'.1.b,s'.1.i,s'.1.h,0,0,0,[],[],[],[],(u:Int),5,0,0,[],[],cols,s'.2,(m:Int),((i+1:Nat):Int)):((List Int)×Int×Int×Int×Int×Int×Str×(List af)×(List Str)×(List aB)×Int×Int×Int×Int×Str×(List af)×(List Str)×(List aB)×Int×Int)⊕(aS×af))) (I:=λs'=>bJ s'.1/\s'.2.length=i+1/\∀r,r∈s'.2->Q5 r)
    (gY (λ(z:aS×List Int) (k:Nat)=>((z.1.b,z.1.i,z.1.h,0,0,0,[],[],[],[],(u:Int),5,0,0,[],[],cols,s.2,(m:Int),(i:Int),z.2,p,(k:Int)):(List Int)×Int×Int×Int×Int×Int×Str×(List af)×(List Str)×(List aB)×Int×Int×Int×Int×Str×(List af)×(List Str)×(List aB)×Int×Int×(List Int)×(List aj)×Int)) u
     (λk z=>bJ z.1/\z.2.length=k/\∀n,n∈z.2->oO n) _ (λk z hk q=>?_) (λz q=>?_) (J,[]) ⟨L,rfl,λn a=>(by cases a)⟩)
   ·obtain⟨g,l,j⟩:=q;obtain⟨M,C,N,O,P⟩:=BO g;simp only[cnt_lt hk,ac,N,zA,bI (show z.2.length+[C].length<=34359738368 by simp;omega),qB hk (show u<=1048576 by omega)];refine⟨(M,z.2++[C]),rfl,O,by simp[l],λn a=>?_⟩;rcases List.mem_append.1 a with a | a
    ·exact j n a
    ·rw[List.mem_singleton.1 a];exact P
   ·obtain⟨g,l,j⟩:=q;simp only[dS,aa,zA,bI (show s.2.length+[aB.mk z.2 p].length<=34359738368 by simp;omega),qB hi (show m<=1048576 by omega)];refine⟨_,rfl,(z.1,s.2++[aB.mk z.2 p]),rfl,g,by simp[A],λr e=>?_⟩;rcases List.mem_append.1 e with e | e
    ·exact o r e
    ·rw[List.mem_singleton.1 e];exact⟨by show z.2.length<=4;omega,j,B.1,B.2⟩
  ·obtain⟨hc,A,o⟩:=d;exact⟨(s.1,_),by simp only[dS,aa];rfl,hc,⟨rfl,rfl,rfl,rfl,rfl,hcols,by show s.2.length<=5;omega,o⟩⟩
def nV(v:af):Prop:=Fit B20 (.base .val) v/\zl [] v
theorem nV.val{v:af}(h:nV v):PS v:=⟨h.1,[],by simp,h.2⟩
theorem Ec{k n s:Int}{t:Str}(hk:oO k)(a:oO n)(b:oO s)(c:t.length<=20):nV (af.mk k n s t [] [] []):=
 ⟨dQ.2 ⟨AB hk.1 hk.2,AB a.1 a.2,AB b.1 b.2,akq (s:=t) (by omega),pU,pU,pU⟩,BL⟩
theorem jW{n:Int}(a:0<=n)(b:n<=1000):oO n:=⟨by omega,by omega⟩
theorem afr{xs:List af}(b:xs.length<=8)(a:∀x,x∈xs->nV x):nV (af.mk 3 0 0 [] xs [] []):=
 ⟨dQ.2 ⟨AB (n:=3) (by omega) (by omega),AB (n:=0) (by omega) (by omega),AB (n:=0) (by omega) (by omega),qh,dB (t:=.base .val) (xs:=xs) (by omega) λx h=>(a x h).1,pU,pU⟩,.mk (λr h=>by cases h) λx h=>(a x h).2⟩
theorem Yh{c:aS}(h:bJ c):Dr ((nC c).bind λr=>some (r.1,af.mk 1 r.2 0 [] [] [] [])) nV:=
 Dr.bind (BO h) λc1 n a b=>.ret a (Ec (jW (by omega) (by omega)) b (jW (by omega) (by omega)) (by simp))
theorem af8{c:aS}(h:bJ c):Dr ((xO c).bind λr=>some (r.1,af.mk 2 0 0 r.2 [] [] [])) nV:=
 Dr.bind (adP h) λc1 n a b=>.ret a (Ec (jW (by omega) (by omega)) (jW (by omega) (by omega)) (jW (by omega) (by omega)) b)
theorem Xw:∀(n:Nat),(∀ {c:aS} (b:Nat),bJ c->1<=b->b<=3->2*b<=n->Dr ((eG n).1 c (b:Int)) nV)/\∀ {c:aS} (b:Nat),bJ c->1<=b->b<=3->2*b<=n+1->Dr ((eG n).2 c (b:Int)) nV
 | 0=>⟨λb _ f _ h=>absurd h (by omega),λb _ f _ h=>absurd h (by omega)⟩
 | n+1=>by
  obtain⟨g,j⟩:=Xw n;refine⟨λ{c} b h f o w=>?_,λ{c} b h f o w=>?_⟩
  ·show Dr (xR (eG n).1 (eG n).2 c b) nV
   unfold xR;simp only[aC];refine Dr.bind (DZ h _ (by simp)) λc1 m a y=>?_
   obtain⟨m,rfl,G⟩:∃k:Nat,m=(k:Int)/\k<=8:=by
    simp at y;exact⟨m.toNat,by omega,by omega⟩
   refine Dr.of (gY (λ(s:aS×List af) (i:Nat)=>((s.1.b,s.1.i,s.1.h,(b:Int),0,0,0,[],[],[],[],3,0,0,[],s.2,[],[],(m:Int),(i:Int)):(List Int)×Int×Int×Int×Int×Int×Int×Str×(List af)×(List Str)×(List aB)×Int×Int×Int×Str×(List af)×(List Str)×(List aB)×Int×Int)) m
    (λi s=>bJ s.1/\s.2.length=i/\∀x,x∈s.2->nV x) (λ(r:aS×af)=>bJ r.1/\nV r.2) (λi s hi l=>?_) (λs l=>?_) (c1,[]) ⟨a,rfl,λx d=>(by cases d)⟩)
   ·obtain⟨hc,p,d⟩:=l;obtain⟨z,q,A,B,C⟩:=j b hc f o (by omega);simp only[cnt_lt hi,ac,A,zA,bI (show s.2.length+[q].length<=34359738368 by simp;omega),qB hi (show m<=1048576 by omega)];refine⟨(z,s.2++[q]),rfl,B,by simp[p],λx e=>?_⟩;rcases List.mem_append.1 e with e | e
    ·exact d x e
    ·rw[List.mem_singleton.1 e];exact C
   ·obtain⟨hc,p,d⟩:=l;exact⟨(s.1,af.mk 3 0 0 [] s.2 [] []),by simp only[dS,aa],hc,afr (by omega) d⟩
  ·show Dr (xQ (eG n).1 (eG n).2 c b) nV
   unfold xQ iF bg;simp only[aC,zA];refine Dr.bif (λt=>?_) λ_=>Dr.bind (oZ h 4) λc1 x a _=>Dr.bif (λ_=>af8 a) λ_=>Yh a
   have t:1<(b:Int):=by simpa using t
   have D:w64 ((b:Int)-1)=((b-1:Nat):Int):=by rw[bQ (by omega) (by omega)];omega
   rw[D];refine Dr.bind (oZ h 4) λc1 x a _=>Dr.bif (λ_=>?_) λ_=>Dr.bind (oZ a 4) λc2 x u _=>Dr.bif (λ_=>af8 u) λ_=>Yh u
   exact Dr.bind (g (b-1) a (by omega) (by omega) (by omega)) λc3 v E F=>.ret E F
theorem afs{c:aS}(h:bJ c):Dr (zS c 3) nV:=(Xw (siz c+9)).1 3 h (by omega) (by omega) (by omega)
theorem ZH{c:aS}(h:bJ c):Dr (xP c) nV:=by
 unfold xP bg;simp only[aC,zA];refine Dr.bind (dH h 9) λc1 n k f=>?_
 have t:=f.2 (by omega);obtain⟨m,rfl⟩:=vk f.1;refine Dr.of (gY (λ(s:aS×List af) (i:Nat)=>((s.1.b,s.1.i,s.1.h,0,0,0,[],[],[],[],3,0,0,[],s.2,[],[],(m:Int),(i:Int)):(List Int)×Int×Int×Int×Int×Int×Str×(List af)×(List Str)×(List aB)×Int×Int×Int×Str×(List af)×(List Str)×(List aB)×Int×Int)) m
  (λi s=>bJ s.1/\s.2.length=i/\∀x,x∈s.2->nV x) (λ(r:aS×af)=>bJ r.1/\nV r.2) (λi s hi e=>?_) (λs e=>?_) (c1,[]) ⟨k,rfl,λx a=>(by cases a)⟩)
 ·obtain⟨hc,g,a⟩:=e;obtain⟨l,j,o,p,q⟩:=BO hc;simp only[cnt_lt hi,ac,o,zA,bI (show s.2.length+[af.mk 1 j 0 [] [] [] []].length<=34359738368 by simp;omega),qB hi (show m<=1048576 by omega)];refine⟨(l,s.2++[af.mk 1 j 0 [] [] [] []]),rfl,p,by simp[g],λx d=>?_⟩;rcases List.mem_append.1 d with d | d
  ·exact a x d
  ·rw[List.mem_singleton.1 d];exact Ec (jW (by omega) (by omega)) q (jW (by omega) (by omega)) (by simp)
 ·obtain⟨hc,g,a⟩:=e;exact⟨(s.1,af.mk 3 0 0 [] s.2 [] []),by simp only[dS,aa],hc,afr (by omega) a⟩
theorem adA{c:aS}(h:bJ c):Dr (KF c) PS:=by
 unfold KF bg iF kS aF;simp only[aC,zA];have up:∀ {x:Option (aS×af)},Dr x nV->Dr x PS:=λh=>h.mono λy g=>g.val
 refine Dr.bind (dH h 10) λc1 x d _=>Dr.bif (λ_=>up (Yh d)) λ_=>Dr.bif (λ_=>up (Yh d)) λ_=>Dr.bif (λ_=>up (Yh d)) λ_=>Dr.bif (λ_=>up (af8 d)) λ_=>Dr.bif (λ_=>?_) λ_=>Dr.bif (λ_=>?_) λ_=>Dr.bif (λ_=>?_) λ_=>Dr.bif (λ_=>?_) λ_=>?_
 ·exact Dr.bind (afs d) λc2 v e f=>.ret e f.val
 ·exact Dr.bind (ZH d) λc2 v e f=>.ret e f.val
 ·exact Dr.bind (BO d) λc2 a e f=>Dr.bind (BO e) λc3 b i j=>.ret i (Ec (jW (by omega) (by omega)) f j (by simp)).val
 ·refine Dr.bind (dH d 8) λc2 a e f=>.ret e (Ec (jW (by omega) (by omega)) ?_ (jW (by omega) (by omega)) (by simp)).val
  have:=f.2 (by omega);show oO (w64 (1+a))
  rw[bQ (by omega) (by omega)];exact jW (by omega) (by omega)
 ·exact Dr.bind (Rn d) λc2 v e f=>.ret e f.val
theorem Yt:∀(xs:List Int) {c:aS},bJ c->Dr (mZ c xs) λys=>ys.length=xs.length/\∀n,n∈ys->oO n
 | [],c,h=>.ret h ⟨rfl,λn b=>by cases b⟩
 | x::r,c,h=>by
  unfold mZ;refine Dr.bind (dH h 4) λc1 a f d=>Dr.bind (Yt r f) λc2 ys g e=>.ret g ⟨by simp[e.1],λn b=>?_⟩
  have:=d.2 (by omega);rcases bh.1 b with b | b
  ·rw[b];exact jW d.1 (by show a<=1000;omega)
  ·exact e.2 n b
theorem aaW:∀(rs:List aB) {c:aS},bJ c->(∀r,r∈rs->Q5 r)->Dr (lV c rs) λqs=>qs.length=rs.length/\∀r,r∈qs->Q5 r
 | [],c,h,_=>.ret h ⟨rfl,λn g=>by cases g⟩
 | x::r,c,h,b=>by
  unfold lV;have d:=b x aw;refine Dr.bind (Yt x.cells h) λc1 ys i e=>Dr.bind (aaW r i λy j=>b y (ar _ j)) λc2 qs k f=>.ret k ⟨by simp[f.1],λq a=>?_⟩
  rcases bh.1 a with rfl | a
  ·exact⟨by show ys.length<=4;rw[e.1];exact d.1,e.2,d.2.2⟩
  ·exact f.2 q a
theorem abZ{v:af}{a:Int}(h:YG v)(q:0<=a)(u:a<=1000):∃y,ny a v=some y/\PS y:=by
 have hf:=h.val.fit;have hk:(v.kind != 5)=false:=by rw[h.k];rfl
 have m:decide (a<0)=false:=ae (by omega);unfold ny aF;simp only[aC,hk,m,aa,aaU v hf,zA,iG v hf];cases vld v with
 | false=>exact⟨_,rfl,(Ec (jW (by omega) (by omega)) (jW (by omega) (by omega)) (jW (by omega) (by omega)) (by simp)).val⟩
 | true=>
  have hlen:=h.len;simp only[aR,aa];refine gY (λ(s:List aB) (i:Nat)=>((a,0,0,0,[],[],[],[],v.kind,v.n,v.step,v.text,v.list,v.columns,s,(i:Int)):Int×Int×Int×Int×Str×(List af)×(List Str)×(List aB)×Int×Int×Int×Str×(List af)×(List Str)×(List aB)×Int)) v.rows.length
   (λi s=>s.length=v.rows.length/\∀r,r∈s->Q5 r) _ (λi s hi e=>?_) (λs e=>?_) v.rows ⟨rfl,h.rows⟩
  ·obtain⟨g,d⟩:=e;obtain⟨x,hget⟩:∃x,s[i]?=some x:=⟨_,zF (by omega)⟩;have j:=d x (zG hget);have b:decide ((i:Int)<(s.length:Int))=true:=by simp;omega
   simp only[b,ac,aP,hget,zA,aE,qB hi (show v.rows.length<=1048576 by omega)];refine⟨s.set i (aB.mk x.cells [aj.mk a (i:Int)]),rfl,by rw[List.length_set];exact g,λr f=>?_⟩;rcases mem_set f with f | rfl
   ·exact d r f
   ·refine⟨j.1,j.2.1,by simp,dB (by simp) λo p=>?_⟩;rw[List.mem_singleton.1 p,Ew];exact⟨AB (by show -1000000000<=a;omega) (by show a<=1000000000;omega),AB (by show -1000000000<=(i:Int);omega) (by show (i:Int)<=1000000000;omega)⟩
  ·obtain⟨g,d⟩:=e;have b:decide (((v.rows.length:Nat):Int)<(s.length:Int))=false:=by simp;omega
   exact⟨af.mk v.kind v.n v.step v.text v.list v.columns s,by simp only[b,aa],YG.val ⟨h.k,h.n,h.s,h.t,h.l,h.c,by show s.length<=5;omega,d⟩⟩
theorem ab1{c:aS}(h:bJ c){a:Int}(e:0<=a)(f:a<=1000):Dr (qR c a) PS:=by
 unfold qR;refine Dr.bind (Rn h) λc1 v g b=>Dr.bind (aaW v.rows g b.rows) λc2 rs i d=>Dr.pbind (abZ ⟨b.k,b.n,b.s,b.t,b.l,b.c,?_,d.2⟩ e f) λy j=>.ret i j
 show rs.length<=5
 rw[d.1];exact b.len
def VX(l:List au):Prop:=l.length<=4/\∀b,b∈l->b.name≠[122,122]/\PS b.value
theorem ad5{c:aS}(h:bJ c):Dr (jR c) VX:=by
 unfold jR;simp only[aC];refine Dr.bind (dH h 5) λc1 n A u=>?_
 have N:=u.2 (by omega);obtain⟨m,rfl⟩:=vk u.1;have nm:∀s,s∈([[97],[98],[99]]:List Str)->s≠[122,122]:=λs d=>(aax.2 s d).2
 refine Dr.of (gY (λ(s:aS×List au) (i:Nat)=>((s.1.b,s.1.i,s.1.h,s.2,(m:Int),(i:Int)):(List Int)×Int×Int×(List au)×Int×Int)) m
  (λi s=>bJ s.1/\s.2.length=i/\∀b,b∈s.2->b.name≠[122,122]/\PS b.value) (λ(r:aS×List au)=>bJ r.1/\VX r.2) (λi s hi d=>?_) (λs d=>?_) (c1,[]) ⟨A,rfl,λx e=>(by cases e)⟩)
 ·obtain⟨hc,j,e⟩:=d;obtain⟨O,w,B,C,D⟩:=adA hc;obtain⟨P,E,F,y⟩:=uy C 3;have more:∀ {v:af} {t:Str},PS v->t∈([[97],[98],[99]]:List Str)->∀b,b∈s.2++[au.mk t v]->b.name≠[122,122]/\PS b.value:=λhv G b f=>by
   rcases List.mem_append.1 f with f | f
   ·exact e b f
   ·rw[List.mem_singleton.1 f];exact⟨nm _ G,hv⟩
  simp only[cnt_lt hi,ac,B,F,zA];cases E with
  | false=>
   obtain⟨k,g,l,o,p⟩:=KL y [[97],[98],[99]] (by simp);simp only[aa,l,zA,bI (show s.2.length+[au.mk g w].length<=34359738368 by simp;omega),qB hi (show m<=1048576 by omega)];exact⟨(k,s.2++[au.mk g w]),rfl,o,by simp[j],more D p⟩
  | true=>
   obtain⟨Q,q,H,I,R,J⟩:=gV y 3;have:=J (by omega);have K:w64 (1+q)=1+q:=bQ (by omega) (by omega);obtain⟨S,z,L,k9,M⟩:=ab1 I (a:=1+q) (by omega) (by omega);obtain⟨k,g,l,o,p⟩:=KL k9 [[97],[98],[99]] (by simp);simp only[ac,H,K,L,l,zA,bI (show s.2.length+[au.mk g z].length<=34359738368 by simp;omega),qB hi (show m<=1048576 by omega)];exact⟨(k,s.2++[au.mk g z]),rfl,o,by simp[j],more M p⟩
 ·obtain⟨hc,j,e⟩:=d;exact⟨(s.1,s.2),by simp only[dS,aa],hc,by show s.2.length<=4;omega,e⟩
def RdD(x:aG):Prop:=Fit B20 (.base .read) x/\zl [] x.result/\vld x.result=true
def abG(l:List aG):Prop:=l.length<=3/\∀r,r∈l->RdD r
theorem agL{c:aS}(h:bJ c):Dr (lI c) abG:=by
 unfold lI bg;simp only[aC,zA];refine Dr.bind (dH h 4) λc1 n u o=>?_
 have A:=o.2 (by omega);obtain⟨m,rfl⟩:=vk o.1;refine Dr.of (gY (λ(s:aS×List aG) (i:Nat)=>((s.1.b,s.1.i,s.1.h,s.2,(m:Int),(i:Int)):(List Int)×Int×Int×(List aG)×Int×Int)) m
  (λi s=>bJ s.1/\s.2.length=i/\∀r,r∈s.2->RdD r) (λ(r:aS×List aG)=>bJ r.1/\abG r.2) (λi s hi l=>?_) (λs l=>?_) (c1,[]) ⟨u,rfl,λx f=>(by cases f)⟩)
 ·obtain⟨hc,p,f⟩:=l;obtain⟨c',r,e,kc,j,q,k,t⟩:=acB hc;have v:w64 (50+(i:Int))=50+(i:Int):=bQ (by omega) (by omega);have hv:nV (af.mk 1 (50+(i:Int)) 0 [] [] [] []):=Ec (jW (by omega) (by omega)) (jW (by omega) (by omega)) (jW (by omega) (by omega)) (by simp);have a:vld (af.mk 1 (50+(i:Int)) 0 [] [] [] [])=true:=(iW (P:=[]) (n:=50+(i:Int)) (by unfold nB;simp only[zI,decide_eq_true_eq];omega)).2;have w:∀x:aG,gd (s.2.length+[x].length)=some ():=λx=>bI (by simp;omega)
  have z:cu B20 (.int .i64 0):=AB (by omega) (by omega);have more:∀ {x:aG},RdD x->∀y,y∈s.2++[x]->RdD y:=λd y g=>by
   rcases List.mem_append.1 g with g | g
   ·exact f y g
   ·rw[List.mem_singleton.1 g];exact d
  simp only[cnt_lt hi,ac,e,v,w,zA,qB hi (show m<=1048576 by omega)];have fin:∀x:aG,RdD x->∃s':aS×List aG,(some (.inl (c'.b,c'.i,c'.h,s.2++[x],(m:Int),((i+1:Nat):Int))):Option (((List Int)×Int×Int×(List aG)×Int×Int)⊕(aS×List aG)))=some (.inl (s'.1.b,s'.1.i,s'.1.h,s'.2,(m:Int),((i+1:Nat):Int)))/\bJ s'.1/\s'.2.length=i+1/\∀r,r∈s'.2->RdD r:=
   λx d=>⟨(c',s.2++[x]),rfl,kc,by simp[p],more d⟩
  cases (r.kind != 2)<;>cases (r.kind != 3)<;>simp only[ac,aa]
  ·exact fin _ ⟨Fz j q k t hv.1,hv.2,a⟩
  ·exact fin _ ⟨Fz j q k qh hv.1,hv.2,a⟩
  ·exact fin _ ⟨Fz j z k t hv.1,hv.2,a⟩
  ·exact fin _ ⟨Fz j z k qh hv.1,hv.2,a⟩
 ·obtain⟨hc,p,f⟩:=l;exact⟨(s.1,s.2),by simp only[dS,aa],hc,by show s.2.length<=3;omega,f⟩
theorem ady{c:aS}(h:bJ c):Dr (lJ c) λw=>w.files.length<=3:=by
 unfold lJ;refine Dr.bind (dH h 20) λc1 a t _=>Dr.bind (dH t 1000) λc2 b u _=>Dr.bind (oZ u 10) λc3 x q _=>?_
 refine Dr.bif (λ_=>?_) λ_=>?_
 ·refine Dr.bind (dH q 2) λc4 d v _=>?_
  refine Dr.of (gY (λ(s:aS×List fJ) (i:Nat)=>((s.1.b,s.1.i,s.1.h,0,0,[],w64 (999+d),b,s.2,[[102],[103],[104]],((3:Nat):Int),(i:Int)):(List Int)×Int×Int×Int×Int×(List fJ)×Int×Int×(List fJ)×(List Str)×Int×Int)) 3
   (λi s=>bJ s.1/\s.2.length<=i) (λ(r:aS×bT)=>bJ r.1/\r.2.files.length<=3) (λi s hi e=>?_) (λs e=>?_) (c4,[]) ⟨v,aD _⟩)
  ·obtain⟨hc,f⟩:=e;obtain⟨x,hget⟩:∃x,([[102],[103],[104]]:List Str)[i]?=some x:=⟨_,zF (by simpa using hi)⟩;obtain⟨k,l,m,g⟩:=uy hc 3;simp only[cnt_lt hi,ac,aP,hget,zA,aE,m,qB hi (show 3<=1048576 by omega)];cases l with
   | true=>exact⟨(k,s.2),rfl,g,by show s.2.length<=i+1;omega⟩
   | false=>
    obtain⟨n,j,o,p,_⟩:=gV g 9;simp only[Bool.not_false,ac,o,zA,bI (show s.2.length+[fJ.mk x j].length<=34359738368 by simp;omega)];exact⟨(n,s.2++[fJ.mk x j]),rfl,p,by simp;omega⟩
  ·obtain⟨hc,f⟩:=e;exact⟨(s.1,bT.mk (w64 (999+d)) b s.2),by simp only[dS,aa],hc,f⟩
 ·refine Dr.of (gY (λ(s:aS×List fJ) (i:Nat)=>((s.1.b,s.1.i,s.1.h,0,0,[],a,b,s.2,[[102],[103],[104]],((3:Nat):Int),(i:Int)):(List Int)×Int×Int×Int×Int×(List fJ)×Int×Int×(List fJ)×(List Str)×Int×Int)) 3
   (λi s=>bJ s.1/\s.2.length<=i) (λ(r:aS×bT)=>bJ r.1/\r.2.files.length<=3) (λi s hi e=>?_) (λs e=>?_) (c3,[]) ⟨q,aD _⟩)
  ·obtain⟨hc,f⟩:=e;obtain⟨x,hget⟩:∃x,([[102],[103],[104]]:List Str)[i]?=some x:=⟨_,zF (by simpa using hi)⟩;obtain⟨k,l,m,g⟩:=uy hc 3;simp only[cnt_lt hi,ac,aP,hget,zA,aE,m,qB hi (show 3<=1048576 by omega)];cases l with
   | true=>exact⟨(k,s.2),rfl,g,by show s.2.length<=i+1;omega⟩
   | false=>
    obtain⟨n,j,o,p,_⟩:=gV g 9;simp only[Bool.not_false,ac,o,zA,bI (show s.2.length+[fJ.mk x j].length<=34359738368 by simp;omega)];exact⟨(n,s.2++[fJ.mk x j]),rfl,p,by simp;omega⟩
  ·obtain⟨hc,f⟩:=e;exact⟨(s.1,bT.mk a b s.2),by simp only[dS,aa],hc,f⟩
structure aaA(y:ak×(List au)×(List aG)×bT×Int×Int):Prop where
 e:WtE 10300 y.1
 s:VX y.2.1
 t:abG y.2.2.1
 w:y.2.2.2.1.files.length<=3
theorem Kt(a:List Int)(h:(a.length:Int)<=1048576):∃y,oU a=some y/\aaA y:=by
 obtain⟨c0,D,k0⟩:=akN a h;unfold oU;simp only[bV,D,zA];have rest:∀ {c:aS} {e:ak},bJ c->WtE 10300 e->∃y,((jR c).bind λg=>(lI g.1).bind λi=>(lJ i.1).bind λj=>(aU j.1 9).bind λb=>(aU b.1 5).bind λd=>
   some (e,g.2,i.2,j.2,w64 (1+b.2),w64 (1+d.2)))=some y/\aaA y:=λ{c e} hc n=>by
  obtain⟨c1,s,o,p,q⟩:=ad5 hc;obtain⟨c2,t,r,m,E⟩:=agL p;obtain⟨c3,w,l,k,u⟩:=ady m;obtain⟨c4,x,v,A,_⟩:=gV k 9;obtain⟨J,z,F,K,_⟩:=gV A 5;simp only[o,r,l,v,F,zA];exact⟨_,rfl,n,q,E,u⟩
 obtain⟨c1,e,o,p,q⟩:=aap k0;obtain⟨c2,G,r,m⟩:=uy p 10;simp only[o,r,zA];have bent:∀ {c:aS} {e:ak},bJ c->WtE 10300 e->∃y,((dP c 16).bind λB=>bif B.2 then
   (wz B.1).bind λC=>(jR C.1).bind λg=>(lI g.1).bind λi=>(lJ i.1).bind λj=>(aU j.1 9).bind λb=>(aU b.1 5).bind λd=>some (C.2,g.2,i.2,j.2,w64 (1+b.2),w64 (1+d.2))
   else (jR B.1).bind λg=>(lI g.1).bind λi=>(lJ i.1).bind λj=>(aU j.1 9).bind λb=>(aU b.1 5).bind λd=>some (e,g.2,i.2,j.2,w64 (1+b.2),w64 (1+d.2)))=some y/\aaA y:=λ{c e} hc n=>by
  obtain⟨c3,H,l,k⟩:=uy hc 16;simp only[l,zA];cases H with
  | true=>
   obtain⟨c4,f,v,A,I⟩:=aik k;simp only[ac,v,zA];exact rest A I
  | false=>exact rest k n
 cases G with
 | true=>
  obtain⟨c3,f,l,k,u⟩:=ahF m;simp only[ac,l,zA];exact bent k u
 | false=>exact bent m q
inductive Steps:aA->aA->Prop
 | refl (m):Steps m m
 | over (m):Steps m (ovr m)
 | tick (m):Steps m (tick m)
 | eff (m r) (h:r.time=0):Steps m (Df m r).1
 | trans {a b c} (h:Steps a b) (k:Steps b c):Steps a c
theorem akr(m:aA):Steps m (ovr m):=.over m
theorem agP(m:aA):Steps m (tick m):=.tick m
theorem TU(m:aA)(r:aG)(h:r.time=0):Steps m (Df m r).1:=.eff m r h
theorem YR{α:Type}{f:aA->α->aA×af}:∀(xs:List α) (m:aA),(∀m x,x∈xs->Steps m (f m x).1)->Steps m (evL f m xs).1
 | [],m,_=>.refl m
 | x::r,m,h=>by
  have a:=h m x aw;unfold evL;cases b:(f m x).1.over with
  | true=>exact a
  | false=>exact a.trans (YR r _ λm y c=>h m y (ar _ c))
theorem YQ{m:aA}(p:aA×af)(k:aA->af->aA×af)(h:Steps m p.1)(hk:∀v,Steps p.1 (k p.1 v).1):Steps m (thn p k).1:=by
 unfold thn;cases p.1.over with
 | true=>exact h
 | false=>exact h.trans (hk _)
theorem adV{m:aA}(t:Str)(p:aA×List af)(h:Steps m p.1):Steps m (sW t p).1:=by
 unfold sW;cases p.1.over with
 | true=>exact h
 | false=>
  cases !Ou t with
  | true=>exact h
  | false=>
   cases t==[99,108,111,99,107]with
   | true=>exact h.trans (TU _ _ rfl)
   | false=>
    cases (p.2.getD 0 zV).kind==6 with
    | true=>exact h
    | false=>
     cases t==[99,104,97,110,99,101]with
     | true=>
      cases (p.2.getD 0 zV).kind==1 with
      | true=>exact h.trans (TU _ _ rfl)
      | false=>exact h
     | false=>
      cases (p.2.getD 0 zV).kind==2 with
      | true=>exact h.trans (TU _ _ rfl)
      | false=>exact h
theorem aks{f:aA->ak->List au->aA×af}{d:Nat}{e:ak}(b:ShX d e)(hf:∀m x c,x∈e.args->Steps m (f m x c).1)(m:aA)(c:List au):Steps m (evB f m e c).1:=by
 cases b with
 | mk d _ k0 k9 num tx tl al op two three cl A=>
 unfold evB;cases (m.over||(m.steps==200))with
 | true=>exact akr m
 | false=>
 have a:=agP m;have g:∀c,Steps m (evL (λm x=>f m x c) (tick m) e.args).1:=λc=>a.trans (YR _ _ λm x b=>hf m x c b)
 simp only[aa];by_cases j:e.kind=1
 ·rw[j];exact a
 by_cases k:e.kind=2
 ·rw[k];exact a
 by_cases l:e.kind=3
 ·rw[l];exact a
 by_cases n:e.kind=4
 ·rw[n];simp only[show ((4:Int)==1)=false from rfl,show ((4:Int)==2)=false from rfl,show ((4:Int)==3)=false from rfl,beq_self_eq_true,aa,ac];rw[o9];exact g c
 by_cases o:e.kind=5
 ·rw[o];simp only[show ((5:Int)==1)=false from rfl,show ((5:Int)==2)=false from rfl,show ((5:Int)==3)=false from rfl,show ((5:Int)==4)=false from rfl,beq_self_eq_true,aa,ac];exact adV _ _ (g c)
 by_cases h:e.kind=7
 ·have p:=two (.inl h);rw[h];simp only[show ((7:Int)==1)=false from rfl,show ((7:Int)==2)=false from rfl,show ((7:Int)==3)=false from rfl,show ((7:Int)==4)=false from rfl,show ((7:Int)==5)=false from rfl,beq_self_eq_true,aa,ac];exact YQ _ _ (a.trans (hf _ _ _ (dw (by omega)))) λv=>hf _ _ _ (dw (by omega))
 by_cases i:e.kind=8
 ·have B:=three i;rw[i];simp only[show ((8:Int)==1)=false from rfl,show ((8:Int)==2)=false from rfl,show ((8:Int)==3)=false from rfl,show ((8:Int)==4)=false from rfl,show ((8:Int)==5)=false from rfl,show ((8:Int)==7)=false from rfl,beq_self_eq_true,aa,ac];refine YQ _ _ (a.trans (hf _ _ _ (dw (by omega)))) λv=>?_
  cases v.kind==6 with
  | true=>exact .refl _
  | false=>
   cases Hl v with
   | true=>exact hf _ _ _ (dw (by omega))
   | false=>exact hf _ _ _ (dw (by omega))
 by_cases k9':e.kind=9
 ·have p:=two (.inr k9');rw[k9'];simp only[show ((9:Int)==1)=false from rfl,show ((9:Int)==2)=false from rfl,show ((9:Int)==3)=false from rfl,show ((9:Int)==4)=false from rfl,show ((9:Int)==5)=false from rfl,show ((9:Int)==7)=false from rfl,show ((9:Int)==8)=false from rfl,beq_self_eq_true,aa,ac];refine YQ _ _ (a.trans (hf _ _ _ (dw (by omega)))) λv=>?_
  cases v.kind==6 with
  | true=>exact .refl _
  | false=>
   cases v.kind != 3 with
   | true=>exact .refl _
   | false=>
    simp only[aa];rw[o9];exact YR _ _ λm x _=>hf _ _ _ (dw (by omega))
 have q:(e.kind==1)=false:=by simpa using j
 have r:(e.kind==2)=false:=by simpa using k
 have s:(e.kind==3)=false:=by simpa using l
 have t:(e.kind==4)=false:=by simpa using n
 have u:(e.kind==5)=false:=by simpa using o
 have w:(e.kind==7)=false:=by simpa using h
 have y:(e.kind==8)=false:=by simpa using i
 have z:(e.kind==9)=false:=by simpa using k9'
 simp only[q,r,s,t,u,w,y,z,aa];rw[o9];exact g c
theorem aki:∀(d:Nat) (e:ak) (m:aA) (c:List au),ShX d e->Steps m (ev m e c).1
 | 0,e,m,c,a=>by cases a
 | d+1,e,m,c,a=>by
  rw[X9 m e c a];refine aks a (λm x c b=>?_) m c;cases a with
  | mk d _ k0 k9 num tx tl al op two three cl f=>exact aki d x m c (f x b)
structure RdI(m:aA):Prop where
 num:∀(j:Nat) (x:aG),m.reads[j]?=some x->x.time=((m.reads.take j).countP (qx x):Nat)
 res:∀x,x∈m.reads->(rdE m.tape x).getD (resV m.w m.cell m.version x)=x.result
theorem acD{m g:aA}(h:Steps m g):RdI m->RdI g:=by
 induction h with
 | refl m=>exact id
 | over m=>exactλh=>⟨h.num,h.res⟩
 | tick m=>exactλh=>⟨h.num,h.res⟩
 | eff m r i=>
  intro h;refine⟨λj x a=>?_,λx b=>?_⟩
  ·have a:(m.reads++[aG.mk r.kind r.n (zk m r).time r.text (Gy m r)])[j]?=some x:=a;show x.time=(((m.reads++[aG.mk r.kind r.n (zk m r).time r.text (Gy m r)]).take j).countP (qx x):Nat)
   by_cases c:j<m.reads.length
   ·rw[amE c]at a;rw[List.take_append_of_le_length (by omega)];exact h.num j x a
   ·have d:j=m.reads.length:=by
     have:=(zC.1 a).1;simp at this;omega
    subst d;rw[amD (aD _),Nat.sub_self]at a;cases a
    rw[List.take_left];show r.time+(m.reads.countP (qx r):Nat)=_
    rw[i,Int.zero_add];rfl
  ·have b:x∈m.reads++[aG.mk r.kind r.n (zk m r).time r.text (Gy m r)]:=b;rcases List.mem_append.1 b with b | b
   ·exact h.res x b
   ·rw[List.mem_singleton.1 b];rfl
 | trans h k e f=>exactλq=>f (e q)
theorem agt{a:List Int}(c:cu B47 (.list (.base .u8) a)){k:Option Bool}(hk:(a.length:Int)<=1048576->k=some true):((big a).bind λb=>bif b then some (true)else k)=some true:=by
 unfold big;rw[zA];by_cases h:(a.length:Int)>1048576
 ·rw[aq h];rfl
 ·rw[ae h];exact hk (by omega)
theorem aa6:∀(l:List au),(∀b,b∈l->PS b.value)->∃P:List aj,P.length<=20*l.length/\∀b,b∈l->VOk P b.value
 | [],_=>⟨[],by simp,λb a=>by cases a⟩
 | x::r,h=>by
  obtain⟨P,e,hp⟩:=(h x aw).org;obtain⟨Q,f,d⟩:=aa6 r λb a=>h b (ar _ a)
  refine⟨P++Q,by simp only[a8,amr];omega,λb a=>?_⟩;rcases bh.1 a with rfl | a
  ·exact⟨(h b aw).fit,D7 (λo c=>amk _ c) hp⟩
  ·exact⟨(d b a).fit,D7 (λo c=>amj _ c) (d b a).org⟩
theorem ahm{P:List aj}{o:fB}(h:abH P o):cu B20 (.list (.base .read) o.reads):=dB (by have:=h.len;have:=h.s2;omega) λr a=>(h.rd r a).1
theorem aeE{r:aG}(h:Fit B20 (.base .read) r):Fit B20 (.base .val) r.result:=(Bg.1 h).2.2.2.2
theorem Ue{P:List aj}{o:fB}(h:abH P o):tZ o o=some true:=by
 unfold tZ;simp only[aC,beq_self_eq_true,ac,Ai _ _ h.v.fit,Pm,zA,Uc _ _ (ahm h)]
theorem aeG(o:fB):Ir o=o:=by
 obtain⟨v,r,s⟩:=o;cases v;rfl
theorem run_eq{X ρ:Type}{f:X->Option (X⊕ρ)}{x:X}{e:ρ}(h:∃r,aN f x=some r/\r=e):aN f x=some e:=by
 obtain⟨_,h,rfl⟩:=h;exact h
theorem agU{e e':ak}(l:ShX 40 e)(d:ShX 40 e'){c c':List au}{σ:Str->Str->Prop}(q:VY σ e e')(hc:PU σ c c')(t:List aG)(w:bT)(a b:Int):ev0 e' c' t w a b=ev0 e c t w a b:=by
 unfold ev0;generalize f:aA.mk t w a b [] 0 false=m;have u:RdI m:=by subst f;exact⟨λj x h=>by simp at h,λx h=>by cases h⟩
 have g:=Pj 40 e m c l;have n:=acD (aki 40 e m c l) u;have y:Fine t w a b m (ev m e c).1:=by
  refine⟨by subst f;rfl,by subst f;rfl,λx d=>?_⟩;have:=n.res x d;rw[g.t,g.w,g.c,g.v]at this;subst f;exact this
 have h:=af2 40 e e' m c c' σ l d q hc y;have z:sw t w m=m:=by subst f;rfl
 have A:swP t w (ev m e c)=ev m e c:=by
  have i:=g.t;have k:=g.w;generalize ev m e c=p at i k ⊢;subst f;obtain⟨⟨t',w',a',b',r,s,o⟩,v⟩:=p;have i:t'=t:=i;have k:w'=w:=k;subst i k;rfl
 rw[z,A]at h;exact h
