import Derived.Test.YtjbajpfonnnfoaaGreatDoorNode0
import Derived.Test.YtjbajpfonnnfoaaGreatDoorEv1
set_option linter.unusedSimpArgs false
set_option linter.unusedVariables false
/- Plain laws: drawing, step by step; drawn expressions are small. -/
namespace Go.Proofs.YtjbajpfonnnfoaaGreatDoor
open Go.Abs Go.Proofs
def Dr{α:Type}(x:Option (aS×α))(P:α->Prop):Prop:=∃c y,x=some (c,y)/\bM c/\P y
theorem Dr.bind{α β:Type}{x:Option (aS×α)}{P:α->Prop}{f:aS×α->Option (aS×β)}{Q:β->Prop}(a:Dr x P)(hf:∀c y,bM c->P y->Dr (f (c,y)) Q):Dr (x.bind f) Q:=by
 obtain⟨c,y,e,k,p⟩:=a;rw[e];exact hf c y k p
theorem Dr.pbind{α β:Type}{x:Option α}{P:α->Prop}{f:α->Option (aS×β)}{Q:β->Prop}(a:∃y,x=some y/\P y)(hf:∀y,P y->Dr (f y) Q):Dr (x.bind f) Q:=by
 obtain⟨y,e,p⟩:=a;rw[e];exact hf y p
theorem Dr.gd{n:Nat}{β:Type}{f:Unit->Option (aS×β)}{Q:β->Prop}(h:n<=34359738368)(hf:Dr (f ()) Q):Dr ((gd n).bind f) Q:=by
 rw[bK h];exact hf
theorem Dr.bif{β:Type}{b:Bool}{x y:Option (aS×β)}{Q:β->Prop}(a:b=true->Dr x Q)(c:b=false->Dr y Q):Dr (bif b then x else y) Q:=by
 cases b with
 | true=>exact a rfl
 | false=>exact c rfl
theorem Dr.ret{β:Type}{c:aS}{y:β}{Q:β->Prop}(h:bM c)(a:Q y):Dr (some (c,y)) Q:=⟨c,y,rfl,h,a⟩
theorem Dr.of{β:Type}{x:Option (aS×β)}{Q:β->Prop}(h:∃r,x=some r/\bM r.1/\Q r.2):Dr x Q:=by
 obtain⟨⟨c,y⟩,e,k,q⟩:=h;exact⟨c,y,e,k,q⟩
theorem Dr.mono{β:Type}{x:Option (aS×β)}{P Q:β->Prop}(h:Dr x P)(a:∀y,P y->Q y):Dr x Q:=by
 obtain⟨c,y,e,k,p⟩:=h;exact⟨c,y,e,k,a y p⟩
theorem dD{c:aS}(h:bM c)(n:Int):Dr (aU c n) λx=>0<=x/\(0<n->x<n):=by
 obtain⟨c',x,e,k,p,q⟩:=gW h n;exact⟨c',x,e,k,p,q⟩
theorem oP{c:aS}(h:bM c)(n:Int):Dr (dO c n) λ_=>True:=by
 obtain⟨c',x,e,k⟩:=uq h n;exact⟨c',x,e,k,trivial⟩
theorem oO{c:aS}(h:bM c)(xs:List Str)(a:xs≠[]):Dr (iY c xs) λs=>s∈xs:=by
 obtain⟨c',x,e,k,p⟩:=Kz h xs a;exact⟨c',x,e,k,p⟩
theorem DI{c:aS}(h:bM c)(xs:List Int)(a:xs≠[]):Dr (lW c xs) λs=>s∈xs:=by
 obtain⟨c',x,e,k,p⟩:=Zf h xs a;exact⟨c',x,e,k,p⟩
@[simp] abbrev OkT(t:Str):Prop:=t.length<=120/\t≠[122,122]
mutual
def wzE:au->Nat
 | ⟨_,_,t,a⟩=>(if OkT t then 1 else 18446744073709551616)+wzL a
def wzL:List au->Nat
 | []=>0
 | x::r=>wzE x+wzL r
end
theorem Yt(a b:List au):wzL (a++b)=wzL a+wzL b:=by
 induction a with
 | nil=>simp[wzL]
 | cons x r ih=>simp only[List.cons_append,wzL,ih,Nat.add_assoc]
theorem mg{k n:Int}{t:Str}{a:List au}(h:OkT t):wzE ⟨k,n,t,a⟩=1+wzL a:=by
 show (if OkT t then 1 else 18446744073709551616)+wzL a=_
 rw[if_pos h]
theorem aai{e:au}(h:wzE e<=1048576):OkT e.text:=by
 obtain⟨k,n,t,a⟩:=e;have h:(if OkT t then 1 else 18446744073709551616)+wzL a<=1048576:=h;show OkT t
 by_cases b:OkT t
 ·exact b
 ·rw[if_neg b]at h;omega
theorem ahM{e:au}(h:wzE e<=1048576):wzE e=1+wzL e.args:=by
 have:=aai h;obtain⟨k,n,t,a⟩:=e;exact mg this
mutual
theorem aah:∀e:au,wtE e<=wzE e
 | ⟨k,n,t,a⟩=>by
  have h:=ac0 a;show (if t.length<=120 then 1 else 18446744073709551616)+wtL a<=(if OkT t then 1 else 18446744073709551616)+wzL a
  by_cases b:OkT t
  ·rw[if_pos b,if_pos b.1];omega
  ·rw[if_neg b];split<;>omega
theorem ac0:∀l:List au,wtL l<=wzL l
 | []=>ar _
 | x::r=>by
  have a:=aah x;have b:=ac0 r;show wtE x+wtL r<=wzE x+wzL r
  omega
end
abbrev WtE(n:Nat)(e:au):Prop:=wzE e<=n
theorem ac1{n:Nat}:∀ {xs:List au},(∀x,x∈xs->wzE x<=n)->wzL xs<=n*xs.length
 | [],_=>by simp[wzL]
 | x::r,h=>by
  have b:=h x aq;have c:=ac1 (xs:=r) λy a=>h y (ao _ a)
  simp only[wzL,List.length_cons,Nat.mul_add,Nat.mul_one];omega
theorem w0{k n:Int}{s:Str}{m:Nat}(h:OkT s)(a:1<=m):WtE m (au.mk k n s []):=by
 show wzE _<=m
 rw[mg h];simp[wzL];omega
theorem w1{k n:Int}{s:Str}{a:au}{x m:Nat}(h:OkT s)(b:WtE x a)(c:1+x<=m):WtE m (au.mk k n s [a]):=by
 show wzE _<=m
 rw[mg h];simp only[wzL];exact Nat.le_trans (Nat.add_le_add_left b 1) c
theorem w2{k n:Int}{s:Str}{a b:au}{x y m:Nat}(h:OkT s)(c:WtE x a)(d:WtE y b)(e:1+x+y<=m):WtE m (au.mk k n s [a,b]):=by
 show wzE _<=m
 rw[mg h];simp only[wzL];have c:wzE a<=x:=c;have d:wzE b<=y:=d;omega
theorem w3{k n:Int}{s:Str}{a b c:au}{x y z m:Nat}(h:OkT s)(d:WtE x a)(e:WtE y b)(hc:WtE z c)(f:1+x+y+z<=m):WtE m (au.mk k n s [a,b,c]):=by
 show wzE _<=m
 rw[mg h];simp only[wzL];have d:wzE a<=x:=d;have e:wzE b<=y:=e;have hc:wzE c<=z:=hc;omega
theorem wS{k n:Int}{s:Str}{xs:List au}{x m:Nat}(h:OkT s)(a:∀e,e∈xs->WtE x e)(b:1+x*xs.length<=m):WtE m (au.mk k n s xs):=by
 show wzE _<=m
 rw[mg h];exact Nat.le_trans (Nat.add_le_add_left (ac1 a) 1) b
theorem wM{e:au}{x m:Nat}(h:WtE x e)(a:x<=m):WtE m e:=Nat.le_trans h a
def yF(b:List Str):Prop:=b≠[]/\∀s,s∈b->s.length<=20/\s≠[122,122]
theorem KI{c:aS}{b:List Str}(h:bM c)(e:yF b):Dr (rP c b) (WtE 1):=by
 unfold rP gG vU;simp only[dA,zA];refine Dr.bind (dD h 5) λc1 x f i=>?_
 refine Dr.bif (λ_=>?_) λ_=>?_
 ·refine Dr.bind (oO f _ (by simp)) λc2 s d a=>.ret d (w0 ?_ (by omega))
  simp at a;rcases a with rfl | rfl | rfl | rfl<;>simp
 have num:Dr ((aU c1 6).bind λg=>some (g.1,au.mk 1 g.2 [] [])) (WtE 1):=Dr.bind (dD f 6) λc2 x d a=>.ret d (w0 (by simp) (by omega))
 refine Dr.bif (λ_=>num) λ_=>Dr.bif (λ_=>num) λ_=>?_
 refine Dr.bind (oO f _ e.1) λc2 s d a=>.ret d (w0 (s:=s) ⟨by have:=(e.2 s a).1;omega,(e.2 s a).2⟩ (by omega))
theorem mem_set{α:Type}{xs:List α}{i:Nat}{x y:α}(h:y∈xs.set i x):y∈xs\/y=x:=by
 rcases List.mem_or_eq_of_mem_set h with h | h
 ·exact .inl h
 ·exact .inr h
theorem BA{c:aS}{b:List Str}(h:bM c)(u:yF b):Dr (mZ c b) (WtE 4):=by
 unfold mZ;simp only[dA];refine Dr.bind (dD h 4) λc1 n v l=>?_
 have E:=l.2 (by omega);obtain⟨m,rfl⟩:=uT l.1;refine Dr.of (ig (λ(s:aS×List au) (i:Nat)=>((s.1.b,s.1.i,s.1.h,b,0,0,[],[],4,0,[],s.2,(m:Int),(i:Int)):(List Int)×Int×Int×(List Str)×Int×Int×Str×(List au)×Int×Int×Str×(List au)×Int×Int)) m
  (λi s=>bM s.1/\s.2.length=i/\∀x,x∈s.2->WtE 1 x) (λ(r:aS×au)=>bM r.1/\WtE 4 r.2) (λi s o k=>?_) (λs k=>?_) (c1,[]) ⟨v,rfl,λx d=>(by cases d)⟩)
 ·obtain⟨hc,g,d⟩:=k;obtain⟨c2,j,w,y,F,G⟩:=gW hc 5;have p:gG j=some (au.mk 1 j [] []):=rfl;have q:WtE 1 (au.mk 1 j [] []):=w0 (by simp) (by omega);generalize au.mk 1 j [] []=e at p q;obtain⟨c4,z,A,t⟩:=uq y 4;have hmem:∀x,x∈s.2++[e]->WtE 1 x:=λx a=>by
   rcases List.mem_append.1 a with a | a
   ·exact d x a
   ·rw[List.mem_singleton.1 a];exact q
  simp only[cnt_lt o,ab,w,p,A,zA,bK (show s.2.length+[e].length<=34359738368 by simp;omega),qG o (show m<=1048576 by omega)];cases z with
  | false=>exact⟨(c4,s.2++[e]),rfl,t,by simp[g],hmem⟩
  | true=>
   obtain⟨B,f,C,D,hf⟩:=KI t u;have hget:(s.2++[e])[i]?=some e:=by rw[<- g];simp
   simp only[ab,C,zA,aQ,hget,aw];refine⟨(B,(s.2++[e]).set i f),rfl,D,by simp[g],λx a=>?_⟩;rcases mem_set a with a | rfl
   ·exact hmem x a
   ·exact hf
 ·obtain⟨hc,g,d⟩:=k;exact⟨(s.1,au.mk 4 0 [] s.2),by simp only[dQ,aa],hc,wS (by simp) d (by omega)⟩
theorem IZ{c:aS}(h:bM c):Dr (og c) (WtE 1):=by
 unfold og;refine Dr.bind (oO h _ (by simp)) λc2 s b a=>.ret b (w0 ?_ (by omega))
 simp at a;rcases a with rfl | rfl | rfl | rfl<;>simp
theorem Ls{c:aS}(h:bM c):Dr (qX c) (WtE 12):=by
 unfold qX gG;simp only[dA,zA];refine Dr.bind (dD h 4) λc1 n o j=>?_
 have w:=j.2 (by omega);obtain⟨m,rfl⟩:=uT j.1;refine Dr.of (ig (λ(s:aS×List au) (i:Nat)=>((s.1.b,s.1.i,s.1.h,0,0,[],[],4,0,[],s.2,(m:Int),(i:Int)):(List Int)×Int×Int×Int×Int×Str×(List au)×Int×Int×Str×(List au)×Int×Int)) m
  (λi s=>bM s.1/\s.2.length=i/\∀x,x∈s.2->WtE 3 x) (λ(r:aS×au)=>bM r.1/\WtE 12 r.2) (λi s k e=>?_) (λs e=>?_) (c1,[]) ⟨o,rfl,λx a=>(by cases a)⟩)
 ·obtain⟨hc,l,a⟩:=e;obtain⟨c2,f,p,q,y,z⟩:=gW hc 3;obtain⟨c4,g,t,u,A,B⟩:=gW q 4;have v:WtE 3 (au.mk 4 0 [] [au.mk 1 f [] [],au.mk 1 g [] []]):=w2 (by simp) (w0 (by simp) (ar _)) (w0 (by simp) (ar _)) (by omega);simp only[cnt_lt k,ab,p,t,zA,bK (show s.2.length+[au.mk 4 0 [] [au.mk 1 f [] [],au.mk 1 g [] []]].length<=34359738368 by simp;omega),qG k (show m<=1048576 by omega)];refine⟨(c4,s.2++[au.mk 4 0 [] [au.mk 1 f [] [],au.mk 1 g [] []]]),rfl,u,by simp[l],λx d=>?_⟩;rcases List.mem_append.1 d with d | d
  ·exact a x d
  ·rw[List.mem_singleton.1 d];exact v
 ·obtain⟨hc,l,a⟩:=e;exact⟨(s.1,_),by simp only[dQ,aa];rfl,hc,w2 (by simp) (w0 (by simp) (ar _)) (wS (x:=3) (m:=10) (by simp) a (by omega)) (by omega)⟩
theorem wu{c:aS}{a b:au}{n:Nat}(h:bM c)(e:WtE n a)(f:WtE n b):Dr ((dO c 2).bind λr=>bif r.2 then some (r.1,a)else some (r.1,b)) (WtE n):=
 Dr.bind (oP h 2) λc1 x d _=>Dr.bif (λ_=>.ret d e) λ_=>.ret d f
theorem Xe:∀(n:Nat) {a:aS} {b:List Str} (c:Int),bM a->yF b->b.length+2*c.toNat<=1000->c<=n->1<=n->c<=10->Dr (kS n a b c) (WtE (40*4 ^ c.toNat))
 | 0,a,b,c,_,_,_,_,h,_=>absurd h (by omega)
 | n+1,a,b,c,h,p,U,hc,_,Q=>by
  show Dr (Hr (kS n) a b c) _
  unfold Hr gG rO;simp only[dA,zA];have hp:∀k:Nat,1<=4 ^ k:=λk=>Nat.one_le_pow _ _ (by omega)
  refine Dr.bif (λ_=>Dr.bind (KI h p) λc1 x j J=>.ret j (wM J (by have:=hp c.toNat;omega))) λC=>?_
  have C:2<=c:=by simp at C;exact C
  have R:w64 (c-1)=c-1:=bQ (by omega) (by omega);rw[R];have ih:∀ {a:aS} {b':List Str},bM a->yF b'->b'.length<=b.length+2->Dr (kS n a b' (c-1)) (WtE (40*4 ^ (c-1).toNat)):=λD E S=>Xe n (c-1) D E (by omega) (by omega) (by omega) (by omega)
  have L:40*4 ^ c.toNat=4*(40*4 ^ (c-1).toNat):=by
   rw[show c.toNat=(c-1).toNat+1 by omega,Nat.pow_succ];omega
  have F:40<=40*4 ^ (c-1).toNat:=by have:=hp (c-1).toNat;omega
  rw[L];generalize 40*4 ^ (c-1).toNat=K at ih F;clear L;have ihb:∀ {a:aS},bM a->Dr (kS n a b (c-1)) (WtE K):=λD=>ih D p (by omega)
  obtain⟨B,G,hb0m⟩:∃B,idx b 0=some B/\B∈b:=by
   cases H:b with
   | nil=>exact absurd H p.1
   | cons x r=>exact⟨x,rfl,aq⟩
  have names:∀s,s∈[[117],[118],B]->s.length<=20/\s≠[122,122]:=λs M=>by
   simp only[ba,List.not_mem_nil,or_false]at M;rcases M with rfl | rfl | rfl
   ·simp
   ·simp
   ·exact p.2 _ hb0m
  simp only[G,zA];refine Dr.bind (dD h 13) λc1 x j J=>?_
  have op:Dr ((aU c1 5).bind λN=>(kS n N.1 b (c-1)).bind λO=>(kS n O.1 b (c-1)).bind λP=>some (P.1,au.mk 6 (w64 (1+N.2)) [] [O.2,P.2])) (WtE (4*K)):=
   Dr.bind (dD j 5) λc2 y e d=>Dr.bind (ihb e) λc3 u i l=>Dr.bind (ihb i) λc4 v f g=>.ret f (w2 (by simp) l g (by omega))
  refine Dr.bif (λ_=>op) λ_=>Dr.bif (λ_=>op) λ_=>Dr.bif (λ_=>?_) λ_=>Dr.bif (λ_=>?_) λ_=>Dr.bif (λ_=>?_) λ_=>Dr.bif (λ_=>?_) λ_=>
   Dr.bif (λ_=>?_) λ_=>Dr.bif (λ_=>?_) λ_=>Dr.bif (λ_=>?_) λ_=>Dr.bif (λ_=>?_) λ_=>Dr.bif (λ_=>?_) λ_=>Dr.bif (λ_=>?_) λ_=>?_
  ·refine Dr.bind (oO j _ (by simp)) λc2 s e d=>Dr.bind (ihb e) λc3 u i l=>Dr.gd (by simp;omega) ?_
   have ls:=names s d;refine Dr.bind (ih i ⟨by simp,λt o=>?_⟩ (by rw[a6];simp only[List.length_cons,List.length_nil];omega)) λc4 v f g=>.ret f (w2 (s:=s) ⟨by have:=ls.1;omega,ls.2⟩ l g (by omega))
   rcases List.mem_append.1 o with o | o
   ·rw[List.mem_singleton.1 o];exact ls
   ·exact p.2 t o
  ·exact Dr.bind (ihb j) λc2 u e d=>Dr.bind (ihb e) λc3 v i l=>Dr.bind (ihb i) λc4 w f g=>.ret f (w3 (by simp) d l g (by omega))
  ·refine Dr.bind (oO j _ (by simp)) λc2 s e d=>Dr.bind (BA e p) λc3 u i l=>Dr.gd (by simp;omega) ?_
   have ls:=names s d;refine Dr.bind (ih i ⟨by simp,λt o=>?_⟩ (by rw[a6];simp only[List.length_cons,List.length_nil];omega)) λc4 v f g=>.ret f (w2 (s:=s) ⟨by have:=ls.1;omega,ls.2⟩ l g (by omega))
   rcases List.mem_append.1 o with o | o
   ·simp only[ba,List.not_mem_nil,or_false,or_self]at o;rw[o];exact ls
   ·exact p.2 t o
  ·exact Dr.bind (BA j p) λc2 u e d=>.ret e (wM d (by omega))
  ·refine Dr.bind (oO j _ (by simp)) λc2 s e d=>Dr.bind (BA e p) λc3 u i l=>Dr.bind (ihb i) λc4 v f g=>wu f (w1 ?_ l (by omega)) (w1 ?_ g (by omega))
   all_goals
    simp at d
    rcases d with rfl | rfl<;>simp
  ·refine Dr.bind (oO j _ (by simp)) λc2 s e d=>Dr.bind (dD e 4) λc3 y i l=>Dr.bind (BA i p) λc4 u f g=>Dr.bind (dD f 9) λI z q A=>Dr.bind (dD q 4) λV W T X=>
    wu T (w2 ?_ (w0 (by simp) (ar _)) g (by omega)) (w2 ?_ (w0 (by simp) (ar _)) (w2 (m:=3) (by simp) (w0 (by simp) (ar _)) (w0 (by simp) (ar _)) (by omega)) (by omega))
   all_goals
    simp at d
    rcases d with rfl | rfl | rfl | rfl<;>simp
  ·exact Dr.bind (IZ j) λc2 s e d=>Dr.bind (dD e 3) λc3 y i l=>Dr.bind (Ls i) λc4 u f g=>Dr.bind (ihb f) λI v q A=>
    wu q (w3 (by simp) d (w0 (by simp) (ar _)) g (by omega)) (w3 (by simp) d (w0 (by simp) (ar _)) A (by omega))
  ·exact Dr.bind (IZ j) λc2 s e d=>Dr.bind (IZ e) λc3 y i l=>Dr.bind (Ls i) λc4 u f g=>Dr.bind (ihb f) λI v q A=>
    wu q (w3 (by simp) d l g (by omega)) (w3 (by simp) d l A (by omega))
  ·exact Dr.bind (Ls j) λc4 u f g=>Dr.bind (ihb f) λI v q A=>wu q (w1 (by simp) g (by omega)) (w1 (by simp) A (by omega))
  ·exact Dr.bind (dD j 6) λc2 y e d=>.ret e (w1 (by simp) (w0 (by simp) (ar _)) (by omega))
  ·refine Dr.bind (oO j _ (by simp)) λc2 s e d=>wu e (w0 (by simp) (by omega)) (w1 (by simp) (w0 ?_ (ar _)) (by omega))
   simp at d;rcases d with rfl | rfl | rfl<;>simp
theorem aax(n:Int):1<=siz n:=by
 cases n with
 | ofNat a=>show 1<=SizeOf.sizeOf (Int.ofNat a);rw[Int.ofNat.sizeOf_spec];omega
 | negSucc a=>show 1<=SizeOf.sizeOf (Int.negSucc a);rw[Int.negSucc.sizeOf_spec];omega
theorem aaw{α:Type}[SizeOf α](l:List α):1<=siz l:=by
 cases l with
 | nil=>simp[siz]
 | cons x r=>simp only[siz];rw[List.cons.sizeOf_spec];omega
theorem af7(c:aS):4<=siz c:=by
 cases c with
 | mk b i h=>
  have a:=aaw b;have d:=aax i;have e:=aax h;simp only[siz]at *;rw[aS.mk.sizeOf_spec];omega
theorem agX{a:aS}{b:List Str}(c:Int)(h:bM a)(d:yF b)(g:b.length<=100)(i:0<=c)(j:c<=4):Dr (EQ a b c) (WtE 10240):=by
 have k:=af7 a;have l:=aaw b;refine (Xe (siz a+siz b+1) c h d (by omega) (by omega) (by omega) (by omega)).mono λe f=>wM f ?_
 have:4 ^ c.toNat<=4 ^ 4:=Nat.pow_le_pow_right (by omega) (by omega);omega
theorem aad:yF [[97],[98],[99]]:=⟨by simp,λs a=>by
 simp only[ba,List.not_mem_nil,or_false]at a;rcases a with rfl | rfl | rfl<;>simp⟩
theorem akG:yF [[97]]:=⟨by simp,λs a=>by rw[List.mem_singleton.1 a];simp⟩
theorem VO{e:au}{n:Nat}(h:WtE n e)(a:n<=1048576):∃v,eF e=some v/\True:=by
 obtain⟨v,_,b,_⟩:=I9 e (Nat.le_trans (aah e) (Nat.le_trans h a));exact⟨v,b,trivial⟩
theorem aaY{c:aS}(h:bM c):Dr (zK c) (WtE 10240):=by
 unfold zK;simp only[dA];refine Dr.bind (dD h 4) λc1 x d g=>?_
 have:=g.2 (by omega);have i:w64 (1+x)=1+x:=bQ (by omega) (by omega);show Dr ((EQ c1 [[97],[98],[99]] (w64 (1+x))).bind _) _
 rw[i];refine Dr.bind (agX _ d aad (by simp) (by omega) (by omega)) λc2 e a b=>Dr.pbind (VO b (by omega)) λv _=>Dr.bif (λ_=>?_) λ_=>.ret a b
 exact Dr.bind (KI a aad) λc3 f j k=>.ret j (wM k (by omega))
theorem ac2{e:au}{k n:Int}{s:Str}{m:Nat}(h:WtE m e)(b:m<=1048576)(a:OkT s):WtE m (au.mk k n s e.args):=by
 have h:wzE e<=m:=h;have c:=ahM (e:=e) (by omega);show wzE _<=m
 rw[mg a];omega
theorem ahC{c:aS}(h:bM c):Dr (vW c) (WtE 10300):=by
 unfold vW gG rO;simp only[dA,zA];refine Dr.bind (aaY h) λc1 e o g=>Dr.bind (dD o 12) λc2 x j t=>?_
 have p1':wzE e<=10240:=g;have k:=aai (e:=e) (by omega);have u:=GN (e:=e);have p:=aah e;refine Dr.bif (λ_=>?_) λ_=>Dr.bif (λ_=>?_) λ_=>Dr.bif (λ_=>?_) λ_=>Dr.bif (λ_=>?_) λ_=>Dr.bif (λ_=>?_) λ_=>.ret j (wM g (by omega))
 ·exact Dr.bind (dD j 11) λc3 y a d=>.ret a (wM (ac2 g (by omega) k) (by omega))
 ·refine Dr.bind (KI j akG) λc3 f a d=>Dr.gd (by simp;omega) (.ret a ?_)
  have v:=ahM (e:=e) (by omega);have d:wzE f<=1:=d;show wzE _<=10300
  rw[mg k,Yt];simp only[wzL];show 1+(wzL e.args+(wzE f+0))<=10300
  omega
 ·refine Dr.bind (oO j _ (by simp)) λc3 s a d=>.ret a (wM (ac2 g (by omega) ?_) (by omega))
  simp at d;rcases d with rfl | rfl | rfl | rfl<;>simp
 ·exact Dr.bind (DI j _ (by simp)) λc3 s a d=>.ret a (wM (ac2 g (by omega) k) (by omega))
 ·refine Dr.of (ig (λ(s:au) (i:Nat)=>((c2.b,c2.i,c2.h,0,0,[],[],s.kind,s.n,s.text,s.args,(i:Int)):(List Int)×Int×Int×Int×Int×Str×(List au)×Int×Int×Str×(List au)×Int)) 7
   (λi s=>WtE (10240+2*i) s) (λ(r:aS×au)=>bM r.1/\WtE 10300 r.2) (λi s w l=>?_) (λs l=>?_) e g)
  ·have m:decide ((i:Int)<7)=true:=by simp;omega
   have q:w64 ((i:Int)+1)=((i+1:Nat):Int):=by rw[bQ (by omega) (by omega)];omega
   have eta:au.mk s.kind s.n s.text s.args=s:=by cases s;rfl
   simp only[m,ab,zA,q,eta];exact⟨au.mk 6 1 [] [s,au.mk 1 (i:Int) [] []],rfl,w2 (by simp) l (w0 (by simp) (ar _)) (by omega)⟩
  ·have m:decide (((7:Nat):Int)<7)=false:=by simp
   have eta:au.mk s.kind s.n s.text s.args=s:=by cases s;rfl
   simp only[m,aa,eta];exact⟨(c2,s),rfl,j,wM l (by omega)⟩
theorem Z4{c:aS}(h:bM c):Dr (uj c) (WtE 10300):=by
 unfold uj gG rO lH;simp only[dA,zA];have fin:∀ {c:aS} {e:au},bM c->WtE 10300 e->Dr ((eF e).bind λv=>bif !v then some (c,au.mk 5 0 [99,108,111,99,107] [])else some (c,e)) (WtE 10300):=λhc i=>
  Dr.pbind (VO i (by omega)) λv _=>Dr.bif (λ_=>.ret hc (w0 (by simp) (by omega))) λ_=>.ret hc i
 refine Dr.bind (aaY h) λc1 e k d=>Dr.bind (oP k 3) λc2 x j _=>Dr.bif (λ_=>?_) λ_=>?_
 ·refine Dr.bind (dD j 5) λc3 y l o=>Dr.bind (oP l 4) λc4 z a _=>?_
  have b:WtE 10250 (au.mk 6 1 [] [au.mk 5 0 [99,108,111,99,107] [],au.mk 6 1 [] [au.mk 5 0 [99,104,97,110,99,101] [au.mk 1 y [] []],e]]):=
   w2 (by simp) (w0 (by simp) (ar _)) (w2 (m:=10243) (by simp) (w1 (m:=2) (by simp) (w0 (by simp) (ar _)) (by omega)) d (by omega)) (by omega)
  refine Dr.bif (λ_=>?_) λ_=>fin a (wM b (by omega))
  exact Dr.bind (BA a akG) λn u f g=>fin f (w2 (by simp) g b (by omega))
 ·refine Dr.bind (oP j 4) λc4 z a _=>Dr.bif (λ_=>?_) λ_=>fin a (wM d (by omega))
  exact Dr.bind (BA a akG) λn u f g=>fin f (w2 (by simp) g d (by omega))
theorem ag0{c:aS}(h:bM c):Dr (EO c) (WtE 10300):=by
 unfold EO gG rO lH vU;simp only[dA,zA];refine Dr.bind (dD h 4) λc1 n o g=>?_
 have u:=g.2 (by omega);obtain⟨m,rfl⟩:=uT g.1;have p:w64 (5+(m:Int))=((m+5:Nat):Int):=by rw[bQ (by omega) (by omega)];omega
 show Dr (aO _ (c1.b,c1.i,c1.h,0,0,[],[],4,0,[],[],w64 (5+(m:Int)),0)) _
 rw[p];refine Dr.of (ig (λ(s:List au) (i:Nat)=>((c1.b,c1.i,c1.h,0,0,[],[],4,0,[],s,((m+5:Nat):Int),(i:Int)):(List Int)×Int×Int×Int×Int×Str×(List au)×Int×Int×Str×(List au)×Int×Int)) (m+5)
  (λi s=>s.length=i/\∀x,x∈s->WtE 1 x) (λ(r:aS×au)=>bM r.1/\WtE 10300 r.2) (λi s j f=>?_) (λs f=>?_) [] ⟨rfl,λx a=>(by cases a)⟩)
 ·obtain⟨k,a⟩:=f;simp only[cnt_lt j,ab,zA,bK (show s.length+[au.mk 1 (i:Int) [] []].length<=34359738368 by simp;omega),qG j (show m+5<=1048576 by omega)];refine⟨s++[au.mk 1 (i:Int) [] []],rfl,by simp[k],λx d=>?_⟩;rcases List.mem_append.1 d with d | d
  ·exact a x d
  ·rw[List.mem_singleton.1 d];exact w0 (by simp) (ar _)
 ·obtain⟨k,a⟩:=f;have e:WtE 20 (au.mk 4 0 [] s):=wS (x:=1) (by simp) a (by omega);obtain⟨c2,q,t,l⟩:=uq o 2;simp only[dQ,aa,t,zA];cases q with
  | true=>exact⟨(c2,_),rfl,l,w2 (by simp) e (w2 (m:=50) (by simp) e (w2 (m:=3) (by simp) (w0 (by simp) (ar _)) (w0 (by simp) (ar _)) (by omega)) (by omega)) (by omega)⟩
  | false=>exact⟨(c2,_),rfl,l,w2 (by simp) e (w2 (m:=50) (by simp) e (w0 (m:=1) (by simp) (ar _)) (by omega)) (by omega)⟩
theorem DL{P Q:List aj}(hPQ:∀o,o∈P->o∈Q){v:af}(h:yR P v):yR Q v:=by
 induction h with
 | mk b d ih=>exact .mk (λr a o c=>hPQ o (b r a o c)) ih
def oL(n:Int):Prop:=-1000000000<=n/\n<=1000000000
structure Pm(v:af):Prop where
 fit:Fit B20 (.base .val) v
 org:∃P:List aj,P.length<=20/\yR P v
def QH(r:aB):Prop:=r.cells.length<=4/\(∀n,n∈r.cells->oL n)/\r.orig.length<=2/\bZ B20 (.list (.base .origin) r.orig)
structure Yp(v:af):Prop where
 k:v.kind=5
 n:v.n=0
 s:v.step=0
 t:v.text=[]
 l:v.list=[]
 c:bZ B20 (.list (.base .str) v.columns)
 len:v.rows.length<=5
 rows:∀r,r∈v.rows->QH r
theorem agw{r:aB}(h:QH r):Fit B20 (.base .row) r:=by
 rw[iy];exact⟨dh (by have:=h.1;omega) λn a=>λd b=>(by rw[List.mem_singleton.1 b];exact nU (dL (h.2.1 n a).1 (h.2.1 n a).2)),h.2.2.2⟩
theorem Yp.val{v:af}(h:Yp v):Pm v:=by
 refine⟨?_,v.rows.flatMap (·.orig),?_,.mk (λr b o d=>List.mem_flatMap.2 ⟨r,b,d⟩) λx a=>by rw[h.l]at a;cases a⟩
 ·rw[dK,h.k,h.n,h.s,h.t,h.l];exact⟨Ai (by omega) (by omega),Ai (by omega) (by omega),Ai (by omega) (by omega),qm,pU,h.c,dh (by have:=h.len;omega) λr b=>agw (h.rows r b)⟩
 ·have key:∀rs:List aB,(∀r,r∈rs->QH r)->(rs.flatMap (·.orig)).length<=2*rs.length:=by
   intro rs;induction rs with
   | nil=>intro _;simp
   | cons r rs ih=>
    intro hh;have e:=(hh r aq).2.2.1;have f:=ih λx a=>hh x (ao _ a)
    simp only[List.flatMap_cons,a6,List.length_cons];omega
  have:=key v.rows h.rows;have:=h.len;omega
theorem Bv{c:aS}(h:bM c):Dr (mX c) oL:=by
 unfold mX;refine Dr.bind (oP h 12) λc1 x d _=>Dr.bif (λ_=>?_) λ_=>?_
 ·refine Dr.bind (DI d _ (by simp)) λc2 n b a=>.ret b ?_
  simp at a;rcases a with rfl | rfl | rfl | rfl | rfl<;>exact⟨by omega,by omega⟩
 ·refine Dr.bind (dD d 12) λc2 n b a=>.ret b ?_
  have:=a.2 (by omega);show oL (w64 (n-3))
  rw[bQ (by omega) (by omega)];exact⟨by omega,by omega⟩
theorem adl{c:aS}(h:bM c):Dr (xB c) λs=>s.length<=20:=by
 unfold xB;refine Dr.bind (oO h _ (by simp)) λc2 s b a=>.ret b ?_
 simp at a;rcases a with rfl | rfl | rfl | rfl | rfl | rfl | rfl<;>simp
theorem aaW{c:aS}(h:bM c):Dr (EJ c) λl=>l.length<=2/\bZ B20 (.list (.base .origin) l):=by
 unfold EJ;refine Dr.bind (dD h 3) λc1 n q j=>?_
 have A:=j.2 (by omega);obtain⟨m,rfl⟩:=uT j.1;refine Dr.of (ig (λ(s:aS×List aj×Nat) (i:Nat)=>((s.1.b,s.1.i,s.1.h,s.2.1,(s.2.2:Int),(m:Int),(i:Int)):(List Int)×Int×Int×(List aj)×Int×Int×Int)) m
  (λi s=>bM s.1/\s.2.1.length=i/\s.2.2<=1+2*i/\∀o,o∈s.2.1->oL o.cell/\oL o.row) (λ(r:aS×List aj)=>bM r.1/\r.2.length<=2/\bZ B20 (.list (.base .origin) r.2)) (λi s k g=>?_) (λs g=>?_) (c1,[],1) ⟨q,rfl,by show 1<=1+2*0;omega,λo a=>(by cases a)⟩)
 ·obtain⟨hc,p,hk,e⟩:=g;obtain⟨c2,d,t,u,B,v⟩:=gW hc 2;have:=v (by omega);obtain⟨c4,f,w,x,C,y⟩:=gW u 2;have:=y (by omega);have w1:w64 (d*2)=d*2:=bQ (by omega) (by omega);have w2:w64 ((i:Int)+d*2)=(i:Int)+d*2:=bQ (by omega) (by omega);have w3:w64 ((s.2.2:Int)+1)=(s.2.2:Int)+1:=bQ (by omega) (by omega);have z:w64 ((s.2.2:Int)+1+f)=((s.2.2+1+f.toNat:Nat):Int):=by rw[bQ (by omega) (by omega)];omega
  simp only[cnt_lt k,ab,t,w,w1,w2,w3,z,zA,bK (show s.2.1.length+[aj.mk (s.2.2:Int) ((i:Int)+d*2)].length<=34359738368 by simp;omega),qG k (show m<=1048576 by omega)];refine⟨(c4,s.2.1++[aj.mk (s.2.2:Int) ((i:Int)+d*2)],s.2.2+1+f.toNat),rfl,x,by simp[p],by show s.2.2+1+f.toNat<=_;omega,λo a=>?_⟩;rcases List.mem_append.1 a with a | a
  ·exact e o a
  ·rw[List.mem_singleton.1 a];exact⟨⟨by show -1000000000<=(s.2.2:Int);omega,by show (s.2.2:Int)<=1000000000;omega⟩,⟨by show -1000000000<=(i:Int)+d*2;omega,by show (i:Int)+d*2<=1000000000;omega⟩⟩
 ·obtain⟨hc,p,hk,e⟩:=g;refine⟨(s.1,s.2.1),by simp only[dQ,aa],hc,by show s.2.1.length<=2;omega,dh (by show (s.2.1.length:Int)<=1048576;omega) λo a=>?_⟩;rw[Ed];exact⟨Ai (e o a).1.1 (e o a).1.2,Ai (e o a).2.1 (e o a).2.2⟩
theorem Xp{ρ σ:Type}{L:Option ρ}{f:σ->ρ}{I:σ->Prop}(h:∃r,L=some r/\∃s',r=f s'/\I s'):∃s',L=some (f s')/\I s':=by
 obtain⟨r,a,s',rfl,b⟩:=h;exact⟨s',a,b⟩
theorem afq{α:Type}(xs:List α)(i:Nat)(h:i<=xs.length):cutAt xs (i:Int)=some i:=by
 unfold cutAt;rw[if_pos ⟨by omega,by omega⟩];simp
theorem Rk:∀(xs:List Str),xs.length<=4->(∀s,s∈xs->s.length<=4)->bZ B20 (.list (.base .str) xs):=λxs c a=>
 dh (by omega) λs h=>λd b=>by rw[List.mem_singleton.1 b];exact ajI (by have:=a s h;omega)
theorem QO{c:aS}(h:bM c):Dr (kR c) Yp:=by
 unfold kR;refine Dr.bind (dD h 3) λc1 n U S=>?_
 have a:=S.2 (by omega);obtain⟨w,rfl⟩:∃w:Nat,n=(w:Int):=uT S.1;have V:w64 (1+(w:Int))=((w+1:Nat):Int):=by rw[bQ (by omega) (by omega)];omega
 have hcut:cutAt ([[97],[98],[99],[120]]:List Str) ((w+1:Nat):Int)=some (w+1):=afq _ _ (by simp;omega);have E:gd (0+(([[97],[98],[99],[120]]:List Str).take (w+1)).length)=some ():=bK (by simp;omega);simp only[hcut,E,V,zA,List.nil_append];have t:∀s,s∈([[97],[98],[99],[120]]:List Str)->s.length<=4:=λs d=>by
  simp only[ba,List.not_mem_nil,or_false]at d;rcases d with rfl | rfl | rfl | rfl<;>simp
 have hlen:(([[97],[98],[99],[120]]:List Str).take (w+1)).length=w+1:=by rw[a8];simp;omega
 refine Dr.bind (oP U 5) λc2 x T _=>?_
 refine Dr.bif (λ_=>?_) λ_=>?_
 ·obtain⟨F,v⟩:∃F,(([[97],[98],[99],[120]]:List Str).take (w+1))[0]?=some F:=⟨_,zF (by omega)⟩;have G:idx (([[97],[98],[99],[120]]:List Str).take (w+1)) 0=some F:=v;have H:cutAt ((([[97],[98],[99],[120]]:List Str).take (w+1)).set 0 [120]) 1=some 1:=afq _ 1 (by rw[List.length_set,hlen];omega);simp only[G,v,H,zA];have hcols:bZ B20 (.list (.base .str) (((([[97],[98],[99],[120]]:List Str).take (w+1)).set 0 [120]).take 1)):=Rk _ (by rw[a8];omega) λs d=>by
   rcases mem_set (List.mem_of_mem_take d)with d | rfl
   ·exact t s (List.mem_of_mem_take d)
   ·simp
  generalize ((([[97],[98],[99],[120]]:List Str).take (w+1)).set 0 [120]).take 1=cols at hcols;refine Dr.bind (dD T 6) λc3 m J y=>?_
  have W:=y.2 (by omega);obtain⟨m,rfl⟩:=uT y.1;show Dr (aO _ (c3.b,c3.i,c3.h,0,0,0,[],[],[],[],((1:Nat):Int),5,0,0,[],[],cols,[],(m:Int),0)) Yp
  have K:(1:Nat)<=4:=by omega
  generalize (1:Nat)=u at K;refine Dr.of (ig (λ(s:aS×List aB) (i:Nat)=>((s.1.b,s.1.i,s.1.h,0,0,0,[],[],[],[],(u:Int),5,0,0,[],[],cols,s.2,(m:Int),(i:Int)):(List Int)×Int×Int×Int×Int×Int×Str×(List af)×(List Str)×(List aB)×Int×Int×Int×Int×Str×(List af)×(List Str)×(List aB)×Int×Int)) m
   (λi s=>bM s.1/\s.2.length=i/\∀r,r∈s.2->QH r) (λ(r:aS×af)=>bM r.1/\Yp r.2) (λi s A d=>?_) (λs d=>?_) (c3,[]) ⟨J,rfl,λr e=>(by cases e)⟩)
  ·obtain⟨hc,B,o⟩:=d;obtain⟨L,p,M,N,C⟩:=aaW hc;simp only[cnt_lt A,ab,M,zA];refine Xp (f:=λs':aS×List aB=>(.inl (s'.1.b,s'.1.i,s'.1.h,0,0,0,[],[],[],[],(u:Int),5,0,0,[],[],cols,s'.2,(m:Int),((i+1:Nat):Int)):((List Int)×Int×Int×Int×Int×Int×Str×(List af)×(List Str)×(List aB)×Int×Int×Int×Int×Str×(List af)×(List Str)×(List aB)×Int×Int)⊕(aS×af))) (I:=λs'=>bM s'.1/\s'.2.length=i+1/\∀r,r∈s'.2->QH r)
    (ig (λ(z:aS×List Int) (k:Nat)=>((z.1.b,z.1.i,z.1.h,0,0,0,[],[],[],[],(u:Int),5,0,0,[],[],cols,s.2,(m:Int),(i:Int),z.2,p,(k:Int)):(List Int)×Int×Int×Int×Int×Int×Str×(List af)×(List Str)×(List aB)×Int×Int×Int×Int×Str×(List af)×(List Str)×(List aB)×Int×Int×(List Int)×(List aj)×Int)) u
     (λk z=>bM z.1/\z.2.length=k/\∀n,n∈z.2->oL n) _ (λk z hk q=>?_) (λz q=>?_) (L,[]) ⟨N,rfl,λn a=>(by cases a)⟩)
   ·obtain⟨g,l,j⟩:=q;obtain⟨O,D,P,Q,R⟩:=Bv g;simp only[cnt_lt hk,ab,P,zA,bK (show z.2.length+[D].length<=34359738368 by simp;omega),qG hk (show u<=1048576 by omega)];refine⟨(O,z.2++[D]),rfl,Q,by simp[l],λn a=>?_⟩;rcases List.mem_append.1 a with a | a
    ·exact j n a
    ·rw[List.mem_singleton.1 a];exact R
   ·obtain⟨g,l,j⟩:=q;simp only[dQ,aa,zA,bK (show s.2.length+[aB.mk z.2 p].length<=34359738368 by simp;omega),qG A (show m<=1048576 by omega)];refine⟨_,rfl,(z.1,s.2++[aB.mk z.2 p]),rfl,g,by simp[B],λr e=>?_⟩;rcases List.mem_append.1 e with e | e
    ·exact o r e
    ·rw[List.mem_singleton.1 e];exact⟨by show z.2.length<=4;omega,j,C.1,C.2⟩
  ·obtain⟨hc,B,o⟩:=d;exact⟨(s.1,_),by simp only[dQ,aa];rfl,hc,⟨rfl,rfl,rfl,rfl,rfl,hcols,by show s.2.length<=5;omega,o⟩⟩
 ·have hcols:bZ B20 (.list (.base .str) (([[97],[98],[99],[120]]:List Str).take (w+1))):=Rk _ (by rw[hlen];omega) λs d=>t s (List.mem_of_mem_take d)
  generalize ([[97],[98],[99],[120]]:List Str).take (w+1)=cols at hcols;refine Dr.bind (dD T 6) λc3 m J y=>?_
  have W:=y.2 (by omega);obtain⟨m,rfl⟩:=uT y.1;have K:w+1<=4:=by omega
  generalize w+1=u at K;refine Dr.of (ig (λ(s:aS×List aB) (i:Nat)=>((s.1.b,s.1.i,s.1.h,0,0,0,[],[],[],[],(u:Int),5,0,0,[],[],cols,s.2,(m:Int),(i:Int)):(List Int)×Int×Int×Int×Int×Int×Str×(List af)×(List Str)×(List aB)×Int×Int×Int×Int×Str×(List af)×(List Str)×(List aB)×Int×Int)) m
   (λi s=>bM s.1/\s.2.length=i/\∀r,r∈s.2->QH r) (λ(r:aS×af)=>bM r.1/\Yp r.2) (λi s A d=>?_) (λs d=>?_) (c3,[]) ⟨J,rfl,λr e=>(by cases e)⟩)
  ·obtain⟨hc,B,o⟩:=d;obtain⟨L,p,M,N,C⟩:=aaW hc;simp only[cnt_lt A,ab,M,zA];refine Xp (f:=λs':aS×List aB=>(.inl (s'.1.b,s'.1.i,s'.1.h,0,0,0,[],[],[],[],(u:Int),5,0,0,[],[],cols,s'.2,(m:Int),((i+1:Nat):Int)):((List Int)×Int×Int×Int×Int×Int×Str×(List af)×(List Str)×(List aB)×Int×Int×Int×Int×Str×(List af)×(List Str)×(List aB)×Int×Int)⊕(aS×af))) (I:=λs'=>bM s'.1/\s'.2.length=i+1/\∀r,r∈s'.2->QH r)
    (ig (λ(z:aS×List Int) (k:Nat)=>((z.1.b,z.1.i,z.1.h,0,0,0,[],[],[],[],(u:Int),5,0,0,[],[],cols,s.2,(m:Int),(i:Int),z.2,p,(k:Int)):(List Int)×Int×Int×Int×Int×Int×Str×(List af)×(List Str)×(List aB)×Int×Int×Int×Int×Str×(List af)×(List Str)×(List aB)×Int×Int×(List Int)×(List aj)×Int)) u
     (λk z=>bM z.1/\z.2.length=k/\∀n,n∈z.2->oL n) _ (λk z hk q=>?_) (λz q=>?_) (L,[]) ⟨N,rfl,λn a=>(by cases a)⟩)
   ·obtain⟨g,l,j⟩:=q;obtain⟨O,D,P,Q,R⟩:=Bv g;simp only[cnt_lt hk,ab,P,zA,bK (show z.2.length+[D].length<=34359738368 by simp;omega),qG hk (show u<=1048576 by omega)];refine⟨(O,z.2++[D]),rfl,Q,by simp[l],λn a=>?_⟩;rcases List.mem_append.1 a with a | a
    ·exact j n a
    ·rw[List.mem_singleton.1 a];exact R
   ·obtain⟨g,l,j⟩:=q;simp only[dQ,aa,zA,bK (show s.2.length+[aB.mk z.2 p].length<=34359738368 by simp;omega),qG A (show m<=1048576 by omega)];refine⟨_,rfl,(z.1,s.2++[aB.mk z.2 p]),rfl,g,by simp[B],λr e=>?_⟩;rcases List.mem_append.1 e with e | e
    ·exact o r e
    ·rw[List.mem_singleton.1 e];exact⟨by show z.2.length<=4;omega,j,C.1,C.2⟩
  ·obtain⟨hc,B,o⟩:=d;exact⟨(s.1,_),by simp only[dQ,aa];rfl,hc,⟨rfl,rfl,rfl,rfl,rfl,hcols,by show s.2.length<=5;omega,o⟩⟩
def nR(v:af):Prop:=Fit B20 (.base .val) v/\yR [] v
theorem nR.val{v:af}(h:nR v):Pm v:=⟨h.1,[],by simp,h.2⟩
theorem DW{k n s:Int}{t:Str}(hk:oL k)(a:oL n)(b:oL s)(c:t.length<=20):nR (af.mk k n s t [] [] []):=
 ⟨dK.2 ⟨Ai hk.1 hk.2,Ai a.1 a.2,Ai b.1 b.2,ajI (s:=t) (by omega),pU,pU,pU⟩,Bo⟩
theorem jU{n:Int}(a:0<=n)(b:n<=1000):oL n:=⟨by omega,by omega⟩
theorem aeH{xs:List af}(b:xs.length<=8)(a:∀x,x∈xs->nR x):nR (af.mk 3 0 0 [] xs [] []):=
 ⟨dK.2 ⟨Ai (n:=3) (by omega) (by omega),Ai (n:=0) (by omega) (by omega),Ai (n:=0) (by omega) (by omega),qm,dh (t:=.base .val) (xs:=xs) (by omega) λx h=>(a x h).1,pU,pU⟩,.mk (λr h=>by cases h) λx h=>(a x h).2⟩
theorem XZ{c:aS}(h:bM c):Dr ((mX c).bind λr=>some (r.1,af.mk 1 r.2 0 [] [] [] [])) nR:=
 Dr.bind (Bv h) λc1 n a b=>.ret a (DW (jU (by omega) (by omega)) b (jU (by omega) (by omega)) (by simp))
theorem afm{c:aS}(h:bM c):Dr ((xB c).bind λr=>some (r.1,af.mk 2 0 0 r.2 [] [] [])) nR:=
 Dr.bind (adl h) λc1 n a b=>.ret a (DW (jU (by omega) (by omega)) (jU (by omega) (by omega)) (jU (by omega) (by omega)) b)
theorem Xi:∀(n:Nat),(∀ {c:aS} (b:Nat),bM c->1<=b->b<=3->2*b<=n->Dr ((eu n).1 c (b:Int)) nR)/\∀ {c:aS} (b:Nat),bM c->1<=b->b<=3->2*b<=n+1->Dr ((eu n).2 c (b:Int)) nR
 | 0=>⟨λb _ f _ h=>absurd h (by omega),λb _ f _ h=>absurd h (by omega)⟩
 | n+1=>by
  obtain⟨g,j⟩:=Xi n;refine⟨λ{c} b h f o y=>?_,λ{c} b h f o y=>?_⟩
  ·show Dr (xG (eu n).1 (eu n).2 c b) nR
   unfold xG;simp only[aC];refine Dr.bind (DI h _ (by simp)) λc1 m a z=>?_
   obtain⟨m,rfl,H⟩:∃k:Nat,m=(k:Int)/\k<=8:=by
    simp at z;exact⟨m.toNat,by omega,by omega⟩
   refine Dr.of (ig (λ(s:aS×List af) (i:Nat)=>((s.1.b,s.1.i,s.1.h,(b:Int),0,0,0,[],[],[],[],3,0,0,[],s.2,[],[],(m:Int),(i:Int)):(List Int)×Int×Int×Int×Int×Int×Int×Str×(List af)×(List Str)×(List aB)×Int×Int×Int×Str×(List af)×(List Str)×(List aB)×Int×Int)) m
    (λi s=>bM s.1/\s.2.length=i/\∀x,x∈s.2->nR x) (λ(r:aS×af)=>bM r.1/\nR r.2) (λi s p l=>?_) (λs l=>?_) (c1,[]) ⟨a,rfl,λx d=>(by cases d)⟩)
   ·obtain⟨hc,q,d⟩:=l;obtain⟨A,t,B,C,D⟩:=j b hc f o (by omega);simp only[cnt_lt p,ab,B,zA,bK (show s.2.length+[t].length<=34359738368 by simp;omega),qG p (show m<=1048576 by omega)];refine⟨(A,s.2++[t]),rfl,C,by simp[q],λx e=>?_⟩;rcases List.mem_append.1 e with e | e
    ·exact d x e
    ·rw[List.mem_singleton.1 e];exact D
   ·obtain⟨hc,q,d⟩:=l;exact⟨(s.1,af.mk 3 0 0 [] s.2 [] []),by simp only[dQ,aa],hc,aeH (by omega) d⟩
  ·show Dr (xE (eu n).1 (eu n).2 c b) nR
   unfold xE iI bF;simp only[aC,zA];refine Dr.bif (λu=>?_) λ_=>Dr.bind (oP h 4) λc1 x a _=>Dr.bif (λ_=>afm a) λ_=>XZ a
   have u:1<(b:Int):=by simpa using u
   have E:w64 ((b:Int)-1)=((b-1:Nat):Int):=by rw[bQ (by omega) (by omega)];omega
   rw[E];refine Dr.bind (oP h 4) λc1 x a _=>Dr.bif (λ_=>?_) λ_=>Dr.bind (oP a 4) λc2 x w _=>Dr.bif (λ_=>afm w) λ_=>XZ w
   exact Dr.bind (g (b-1) a (by omega) (by omega) (by omega)) λc3 v F G=>.ret F G
theorem aeI{c:aS}(h:bM c):Dr (zh c 3) nR:=(Xi (siz c+9)).1 3 h (by omega) (by omega) (by omega)
theorem Zm{c:aS}(h:bM c):Dr (xC c) nR:=by
 unfold xC bF;simp only[aC,zA];refine Dr.bind (dD h 9) λc1 n l f=>?_
 have u:=f.2 (by omega);obtain⟨m,rfl⟩:=uT f.1;refine Dr.of (ig (λ(s:aS×List af) (i:Nat)=>((s.1.b,s.1.i,s.1.h,0,0,0,[],[],[],[],3,0,0,[],s.2,[],[],(m:Int),(i:Int)):(List Int)×Int×Int×Int×Int×Int×Str×(List af)×(List Str)×(List aB)×Int×Int×Int×Str×(List af)×(List Str)×(List aB)×Int×Int)) m
  (λi s=>bM s.1/\s.2.length=i/\∀x,x∈s.2->nR x) (λ(r:aS×af)=>bM r.1/\nR r.2) (λi s g e=>?_) (λs e=>?_) (c1,[]) ⟨l,rfl,λx a=>(by cases a)⟩)
 ·obtain⟨hc,j,a⟩:=e;obtain⟨o,k,p,q,t⟩:=Bv hc;simp only[cnt_lt g,ab,p,zA,bK (show s.2.length+[af.mk 1 k 0 [] [] [] []].length<=34359738368 by simp;omega),qG g (show m<=1048576 by omega)];refine⟨(o,s.2++[af.mk 1 k 0 [] [] [] []]),rfl,q,by simp[j],λx d=>?_⟩;rcases List.mem_append.1 d with d | d
  ·exact a x d
  ·rw[List.mem_singleton.1 d];exact DW (jU (by omega) (by omega)) t (jU (by omega) (by omega)) (by simp)
 ·obtain⟨hc,j,a⟩:=e;exact⟨(s.1,af.mk 3 0 0 [] s.2 [] []),by simp only[dQ,aa],hc,aeH (by omega) a⟩
theorem ac5{c:aS}(h:bM c):Dr (Kr c) Pm:=by
 unfold Kr bF iI kQ aF;simp only[aC,zA];have up:∀ {x:Option (aS×af)},Dr x nR->Dr x Pm:=λh=>h.mono λy g=>g.val
 refine Dr.bind (dD h 10) λc1 x d _=>Dr.bif (λ_=>up (XZ d)) λ_=>Dr.bif (λ_=>up (XZ d)) λ_=>Dr.bif (λ_=>up (XZ d)) λ_=>Dr.bif (λ_=>up (afm d)) λ_=>Dr.bif (λ_=>?_) λ_=>Dr.bif (λ_=>?_) λ_=>Dr.bif (λ_=>?_) λ_=>Dr.bif (λ_=>?_) λ_=>?_
 ·exact Dr.bind (aeI d) λc2 v e f=>.ret e f.val
 ·exact Dr.bind (Zm d) λc2 v e f=>.ret e f.val
 ·exact Dr.bind (Bv d) λc2 a e f=>Dr.bind (Bv e) λc3 b i j=>.ret i (DW (jU (by omega) (by omega)) f j (by simp)).val
 ·refine Dr.bind (dD d 8) λc2 a e f=>.ret e (DW (jU (by omega) (by omega)) ?_ (jU (by omega) (by omega)) (by simp)).val
  have:=f.2 (by omega);show oL (w64 (1+a))
  rw[bQ (by omega) (by omega)];exact jU (by omega) (by omega)
 ·exact Dr.bind (QO d) λc2 v e f=>.ret e f.val
theorem Yc:∀(xs:List Int) {c:aS},bM c->Dr (mV c xs) λys=>ys.length=xs.length/\∀n,n∈ys->oL n
 | [],c,h=>.ret h ⟨rfl,λn b=>by cases b⟩
 | x::r,c,h=>by
  unfold mV;refine Dr.bind (dD h 4) λc1 a f d=>Dr.bind (Yc r f) λc2 ys g e=>.ret g ⟨by simp[e.1],λn b=>?_⟩
  have:=d.2 (by omega);rcases ba.1 b with b | b
  ·rw[b];exact jU d.1 (by show a<=1000;omega)
  ·exact e.2 n b
theorem aaz:∀(rs:List aB) {c:aS},bM c->(∀r,r∈rs->QH r)->Dr (lS c rs) λqs=>qs.length=rs.length/\∀r,r∈qs->QH r
 | [],c,h,_=>.ret h ⟨rfl,λn g=>by cases g⟩
 | x::r,c,h,b=>by
  unfold lS;have d:=b x aq;refine Dr.bind (Yc x.cells h) λc1 ys i e=>Dr.bind (aaz r i λy j=>b y (ao _ j)) λc2 qs k f=>.ret k ⟨by simp[f.1],λq a=>?_⟩
  rcases ba.1 a with rfl | a
  ·exact⟨by show ys.length<=4;rw[e.1];exact d.1,e.2,d.2.2⟩
  ·exact f.2 q a
theorem abw{v:af}{a:Int}(h:Yp v)(u:0<=a)(w:a<=1000):∃y,mW a v=some y/\Pm y:=by
 have hf:=h.val.fit;have hk:(v.kind != 5)=false:=by rw[h.k];rfl
 have m:decide (a<0)=false:=ac (by omega);unfold mW aF;simp only[aC,hk,m,aa,J8 v hf,zA,iJ v hf];cases vld v with
 | false=>exact⟨_,rfl,(DW (jU (by omega) (by omega)) (jU (by omega) (by omega)) (jU (by omega) (by omega)) (by simp)).val⟩
 | true=>
  have hlen:=h.len;simp only[aL,aa];refine ig (λ(s:List aB) (i:Nat)=>((a,0,0,0,[],[],[],[],v.kind,v.n,v.step,v.text,v.list,v.columns,s,(i:Int)):Int×Int×Int×Int×Str×(List af)×(List Str)×(List aB)×Int×Int×Int×Str×(List af)×(List Str)×(List aB)×Int)) v.rows.length
   (λi s=>s.length=v.rows.length/\∀r,r∈s->QH r) _ (λi s p e=>?_) (λs e=>?_) v.rows ⟨rfl,h.rows⟩
  ·obtain⟨g,d⟩:=e;obtain⟨x,hget⟩:∃x,s[i]?=some x:=⟨_,zF (by omega)⟩;have j:=d x (zG hget);have b:decide ((i:Int)<(s.length:Int))=true:=by simp;omega
   simp only[b,ab,aQ,hget,zA,aw,qG p (show v.rows.length<=1048576 by omega)];refine⟨s.set i (aB.mk x.cells [aj.mk a (i:Int)]),rfl,by rw[List.length_set];exact g,λr f=>?_⟩;rcases mem_set f with f | rfl
   ·exact d r f
   ·refine⟨j.1,j.2.1,by simp,dh (by simp) λo q=>?_⟩;rw[List.mem_singleton.1 q,Ed];exact⟨Ai (by show -1000000000<=a;omega) (by show a<=1000000000;omega),Ai (by show -1000000000<=(i:Int);omega) (by show (i:Int)<=1000000000;omega)⟩
  ·obtain⟨g,d⟩:=e;have b:decide (((v.rows.length:Nat):Int)<(s.length:Int))=false:=by simp;omega
   exact⟨af.mk v.kind v.n v.step v.text v.list v.columns s,by simp only[b,aa],Yp.val ⟨h.k,h.n,h.s,h.t,h.l,h.c,by show s.length<=5;omega,d⟩⟩
theorem abx{c:aS}(h:bM c){a:Int}(e:0<=a)(f:a<=1000):Dr (qW c a) Pm:=by
 unfold qW;refine Dr.bind (QO h) λc1 v g b=>Dr.bind (aaz v.rows g b.rows) λc2 rs i d=>Dr.pbind (abw ⟨b.k,b.n,b.s,b.t,b.l,b.c,?_,d.2⟩ e f) λy j=>.ret i j
 show rs.length<=5
 rw[d.1];exact b.len
def VK(l:List ak):Prop:=l.length<=4/\∀b,b∈l->b.name≠[122,122]/\Pm b.value
theorem adA{c:aS}(h:bM c):Dr (jO c) VK:=by
 unfold jO;simp only[aC];refine Dr.bind (dD h 5) λc1 n B w=>?_
 have P:=w.2 (by omega);obtain⟨m,rfl⟩:=uT w.1;have nm:∀s,s∈([[97],[98],[99]]:List Str)->s≠[122,122]:=λs d=>(aad.2 s d).2
 refine Dr.of (ig (λ(s:aS×List ak) (i:Nat)=>((s.1.b,s.1.i,s.1.h,s.2,(m:Int),(i:Int)):(List Int)×Int×Int×(List ak)×Int×Int)) m
  (λi s=>bM s.1/\s.2.length=i/\∀b,b∈s.2->b.name≠[122,122]/\Pm b.value) (λ(r:aS×List ak)=>bM r.1/\VK r.2) (λi s j d=>?_) (λs d=>?_) (c1,[]) ⟨B,rfl,λx e=>(by cases e)⟩)
 ·obtain⟨hc,k,e⟩:=d;obtain⟨Q,y,C,D,E⟩:=ac5 hc;obtain⟨R,F,G,z⟩:=uq D 3;have more:∀ {v:af} {t:Str},Pm v->t∈([[97],[98],[99]]:List Str)->∀b,b∈s.2++[ak.mk t v]->b.name≠[122,122]/\Pm b.value:=λH I b f=>by
   rcases List.mem_append.1 f with f | f
   ·exact e b f
   ·rw[List.mem_singleton.1 f];exact⟨nm _ I,H⟩
  simp only[cnt_lt j,ab,C,G,zA];cases F with
  | false=>
   obtain⟨l,g,o,p,q⟩:=Kz z [[97],[98],[99]] (by simp);simp only[aa,o,zA,bK (show s.2.length+[ak.mk g y].length<=34359738368 by simp;omega),qG j (show m<=1048576 by omega)];exact⟨(l,s.2++[ak.mk g y]),rfl,p,by simp[k],more E q⟩
  | true=>
   obtain⟨S,u,J,K,T,L⟩:=gW z 3;have:=L (by omega);have M:w64 (1+u)=1+u:=bQ (by omega) (by omega);obtain⟨U,A,N,k9,O⟩:=abx K (a:=1+u) (by omega) (by omega);obtain⟨l,g,o,p,q⟩:=Kz k9 [[97],[98],[99]] (by simp);simp only[ab,J,M,N,o,zA,bK (show s.2.length+[ak.mk g A].length<=34359738368 by simp;omega),qG j (show m<=1048576 by omega)];exact⟨(l,s.2++[ak.mk g A]),rfl,p,by simp[k],more O q⟩
 ·obtain⟨hc,k,e⟩:=d;exact⟨(s.1,s.2),by simp only[dQ,aa],hc,by show s.2.length<=4;omega,e⟩
def RdD(x:aG):Prop:=Fit B20 (.base .read) x/\yR [] x.result/\vld x.result=true
def abb(l:List aG):Prop:=l.length<=3/\∀r,r∈l->RdD r
theorem afX{c:aS}(h:bM c):Dr (lF c) abb:=by
 unfold lF bF;simp only[aC,zA];refine Dr.bind (dD h 4) λc1 n w p=>?_
 have C:=p.2 (by omega);obtain⟨m,rfl⟩:=uT p.1;refine Dr.of (ig (λ(s:aS×List aG) (i:Nat)=>((s.1.b,s.1.i,s.1.h,s.2,(m:Int),(i:Int)):(List Int)×Int×Int×(List aG)×Int×Int)) m
  (λi s=>bM s.1/\s.2.length=i/\∀r,r∈s.2->RdD r) (λ(r:aS×List aG)=>bM r.1/\abb r.2) (λi s q o=>?_) (λs o=>?_) (c1,[]) ⟨w,rfl,λx g=>(by cases g)⟩)
 ·obtain⟨hc,t,g⟩:=o;obtain⟨c',r,e,kc,k,u,l,v⟩:=ab2 hc;have A:w64 (50+(i:Int))=50+(i:Int):=bQ (by omega) (by omega);have d:nR (af.mk 1 (50+(i:Int)) 0 [] [] [] []):=DW (jU (by omega) (by omega)) (jU (by omega) (by omega)) (jU (by omega) (by omega)) (by simp);have a:vld (af.mk 1 (50+(i:Int)) 0 [] [] [] [])=true:=(iO (P:=[]) (n:=50+(i:Int)) (by unfold nB;simp only[zI,decide_eq_true_eq];omega)).2;have B:∀x:aG,gd (s.2.length+[x].length)=some ():=λx=>bK (by simp;omega)
  have z:bZ B20 (.int .i64 0):=Ai (by omega) (by omega);have more:∀ {x:aG},RdD x->∀y,y∈s.2++[x]->RdD y:=λf y j=>by
   rcases List.mem_append.1 j with j | j
   ·exact g y j
   ·rw[List.mem_singleton.1 j];exact f
  simp only[cnt_lt q,ab,e,A,B,zA,qG q (show m<=1048576 by omega)];have fin:∀x:aG,RdD x->∃s':aS×List aG,(some (.inl (c'.b,c'.i,c'.h,s.2++[x],(m:Int),((i+1:Nat):Int))):Option (((List Int)×Int×Int×(List aG)×Int×Int)⊕(aS×List aG)))=some (.inl (s'.1.b,s'.1.i,s'.1.h,s'.2,(m:Int),((i+1:Nat):Int)))/\bM s'.1/\s'.2.length=i+1/\∀r,r∈s'.2->RdD r:=
   λx f=>⟨(c',s.2++[x]),rfl,kc,by simp[t],more f⟩
  cases (r.kind != 2)<;>cases (r.kind != 3)<;>simp only[ab,aa]
  ·exact fin _ ⟨EW k u l v d.1,d.2,a⟩
  ·exact fin _ ⟨EW k u l qm d.1,d.2,a⟩
  ·exact fin _ ⟨EW k z l v d.1,d.2,a⟩
  ·exact fin _ ⟨EW k z l qm d.1,d.2,a⟩
 ·obtain⟨hc,t,g⟩:=o;exact⟨(s.1,s.2),by simp only[dQ,aa],hc,by show s.2.length<=3;omega,g⟩
theorem ac3{c:aS}(h:bM c):Dr (lG c) λw=>w.files.length<=3:=by
 unfold lG;refine Dr.bind (dD h 20) λc1 a u _=>Dr.bind (dD u 1000) λc2 b v _=>Dr.bind (oP v 10) λc3 x t _=>?_
 refine Dr.bif (λ_=>?_) λ_=>?_
 ·refine Dr.bind (dD t 2) λc4 d y _=>?_
  refine Dr.of (ig (λ(s:aS×List fP) (i:Nat)=>((s.1.b,s.1.i,s.1.h,0,0,[],w64 (999+d),b,s.2,[[102],[103],[104]],((3:Nat):Int),(i:Int)):(List Int)×Int×Int×Int×Int×(List fP)×Int×Int×(List fP)×(List Str)×Int×Int)) 3
   (λi s=>bM s.1/\s.2.length<=i) (λ(r:aS×bV)=>bM r.1/\r.2.files.length<=3) (λi s e f=>?_) (λs f=>?_) (c4,[]) ⟨y,ar _⟩)
  ·obtain⟨hc,g⟩:=f;obtain⟨x,hget⟩:∃x,([[102],[103],[104]]:List Str)[i]?=some x:=⟨_,zF (by simpa using e)⟩;obtain⟨l,m,n,j⟩:=uq hc 3;simp only[cnt_lt e,ab,aQ,hget,zA,aw,n,qG e (show 3<=1048576 by omega)];cases m with
   | true=>exact⟨(l,s.2),rfl,j,by show s.2.length<=i+1;omega⟩
   | false=>
    obtain⟨o,k,p,q,_⟩:=gW j 9;simp only[Bool.not_false,ab,p,zA,bK (show s.2.length+[fP.mk x k].length<=34359738368 by simp;omega)];exact⟨(o,s.2++[fP.mk x k]),rfl,q,by simp;omega⟩
  ·obtain⟨hc,g⟩:=f;exact⟨(s.1,bV.mk (w64 (999+d)) b s.2),by simp only[dQ,aa],hc,g⟩
 ·refine Dr.of (ig (λ(s:aS×List fP) (i:Nat)=>((s.1.b,s.1.i,s.1.h,0,0,[],a,b,s.2,[[102],[103],[104]],((3:Nat):Int),(i:Int)):(List Int)×Int×Int×Int×Int×(List fP)×Int×Int×(List fP)×(List Str)×Int×Int)) 3
   (λi s=>bM s.1/\s.2.length<=i) (λ(r:aS×bV)=>bM r.1/\r.2.files.length<=3) (λi s e f=>?_) (λs f=>?_) (c3,[]) ⟨t,ar _⟩)
  ·obtain⟨hc,g⟩:=f;obtain⟨x,hget⟩:∃x,([[102],[103],[104]]:List Str)[i]?=some x:=⟨_,zF (by simpa using e)⟩;obtain⟨l,m,n,j⟩:=uq hc 3;simp only[cnt_lt e,ab,aQ,hget,zA,aw,n,qG e (show 3<=1048576 by omega)];cases m with
   | true=>exact⟨(l,s.2),rfl,j,by show s.2.length<=i+1;omega⟩
   | false=>
    obtain⟨o,k,p,q,_⟩:=gW j 9;simp only[Bool.not_false,ab,p,zA,bK (show s.2.length+[fP.mk x k].length<=34359738368 by simp;omega)];exact⟨(o,s.2++[fP.mk x k]),rfl,q,by simp;omega⟩
  ·obtain⟨hc,g⟩:=f;exact⟨(s.1,bV.mk a b s.2),by simp only[dQ,aa],hc,g⟩
structure aaf(y:au×(List ak)×(List aG)×bV×Int×Int):Prop where
 e:WtE 10300 y.1
 s:VK y.2.1
 t:abb y.2.2.1
 w:y.2.2.2.1.files.length<=3
theorem J4(a:List Int)(h:(a.length:Int)<=1048576):∃y,oN a=some y/\aaf y:=by
 obtain⟨c0,D,k0⟩:=aj7 a h;unfold oN;simp only[dA,D,zA];have rest:∀ {c:aS} {e:au},bM c->WtE 10300 e->∃y,((jO c).bind λg=>(lF g.1).bind λi=>(lG i.1).bind λj=>(aU j.1 9).bind λb=>(aU b.1 5).bind λd=>
   some (e,g.2,i.2,j.2,w64 (1+b.2),w64 (1+d.2)))=some y/\aaf y:=λ{c e} hc n=>by
  obtain⟨c1,s,o,p,q⟩:=adA hc;obtain⟨c2,t,r,m,E⟩:=afX p;obtain⟨c3,w,l,k,u⟩:=ac3 m;obtain⟨c4,x,v,A,_⟩:=gW k 9;obtain⟨J,z,F,K,_⟩:=gW A 5;simp only[o,r,l,v,F,zA];exact⟨_,rfl,n,q,E,u⟩
 obtain⟨c1,e,o,p,q⟩:=Z4 k0;obtain⟨c2,G,r,m⟩:=uq p 10;simp only[o,r,zA];have bent:∀ {c:aS} {e:au},bM c->WtE 10300 e->∃y,((dO c 16).bind λB=>bif B.2 then
   (vW B.1).bind λC=>(jO C.1).bind λg=>(lF g.1).bind λi=>(lG i.1).bind λj=>(aU j.1 9).bind λb=>(aU b.1 5).bind λd=>some (C.2,g.2,i.2,j.2,w64 (1+b.2),w64 (1+d.2))
   else (jO B.1).bind λg=>(lF g.1).bind λi=>(lG i.1).bind λj=>(aU j.1 9).bind λb=>(aU b.1 5).bind λd=>some (e,g.2,i.2,j.2,w64 (1+b.2),w64 (1+d.2)))=some y/\aaf y:=λ{c e} hc n=>by
  obtain⟨c3,H,l,k⟩:=uq hc 16;simp only[l,zA];cases H with
  | true=>
   obtain⟨c4,f,v,A,I⟩:=ahC k;simp only[ab,v,zA];exact rest A I
  | false=>exact rest k n
 cases G with
 | true=>
  obtain⟨c3,f,l,k,u⟩:=ag0 m;simp only[ab,l,zA];exact bent k u
 | false=>exact bent m q
inductive Steps:aA->aA->Prop
 | refl (m):Steps m m
 | over (m):Steps m (ovr m)
 | tick (m):Steps m (tick m)
 | eff (m r) (h:r.time=0):Steps m (Cj m r).1
 | trans {a b c} (h:Steps a b) (k:Steps b c):Steps a c
theorem ajJ(m:aA):Steps m (ovr m):=.over m
theorem af2(m:aA):Steps m (tick m):=.tick m
theorem TA(m:aA)(r:aG)(h:r.time=0):Steps m (Cj m r).1:=.eff m r h
theorem YB{α:Type}{f:aA->α->aA×af}:∀(xs:List α) (m:aA),(∀m x,x∈xs->Steps m (f m x).1)->Steps m (evL f m xs).1
 | [],m,_=>.refl m
 | x::r,m,h=>by
  have a:=h m x aq;unfold evL;cases b:(f m x).1.over with
  | true=>exact a
  | false=>exact a.trans (YB r _ λm y c=>h m y (ao _ c))
theorem YA{m:aA}(p:aA×af)(k:aA->af->aA×af)(h:Steps m p.1)(hk:∀v,Steps p.1 (k p.1 v).1):Steps m (thn p k).1:=by
 unfold thn;cases p.1.over with
 | true=>exact h
 | false=>exact h.trans (hk _)
theorem adr{m:aA}(t:Str)(p:aA×List af)(h:Steps m p.1):Steps m (nV t p).1:=by
 unfold nV;cases p.1.over with
 | true=>exact h
 | false=>
  cases !CQ t with
  | true=>exact h
  | false=>
   cases t==[99,108,111,99,107]with
   | true=>exact h.trans (TA _ _ rfl)
   | false=>
    cases (p.2.getD 0 zV).kind==6 with
    | true=>exact h
    | false=>
     cases t==[99,104,97,110,99,101]with
     | true=>
      cases (p.2.getD 0 zV).kind==1 with
      | true=>exact h.trans (TA _ _ rfl)
      | false=>exact h
     | false=>
      cases (p.2.getD 0 zV).kind==2 with
      | true=>exact h.trans (TA _ _ rfl)
      | false=>exact h
theorem ajK{f:aA->au->List ak->aA×af}{d:Nat}{e:au}(b:ShX d e)(hf:∀m x c,x∈e.args->Steps m (f m x c).1)(m:aA)(c:List ak):Steps m (evB f m e c).1:=by
 cases b with
 | mk d _ k0 k9 num tx tl al op two three cl A=>
 unfold evB;cases (m.over||(m.steps==200))with
 | true=>exact ajJ m
 | false=>
 have a:=af2 m;have g:∀c,Steps m (evL (λm x=>f m x c) (tick m) e.args).1:=λc=>a.trans (YB _ _ λm x b=>hf m x c b)
 simp only[aa];by_cases j:e.kind=1
 ·rw[j];exact a
 by_cases k:e.kind=2
 ·rw[k];exact a
 by_cases l:e.kind=3
 ·rw[l];exact a
 by_cases n:e.kind=4
 ·rw[n];simp only[show ((4:Int)==1)=false from rfl,show ((4:Int)==2)=false from rfl,show ((4:Int)==3)=false from rfl,beq_self_eq_true,aa,ab];rw[nN];exact g c
 by_cases o:e.kind=5
 ·rw[o];simp only[show ((5:Int)==1)=false from rfl,show ((5:Int)==2)=false from rfl,show ((5:Int)==3)=false from rfl,show ((5:Int)==4)=false from rfl,beq_self_eq_true,aa,ab];exact adr _ _ (g c)
 by_cases h:e.kind=7
 ·have p:=two (.inl h);rw[h];simp only[show ((7:Int)==1)=false from rfl,show ((7:Int)==2)=false from rfl,show ((7:Int)==3)=false from rfl,show ((7:Int)==4)=false from rfl,show ((7:Int)==5)=false from rfl,beq_self_eq_true,aa,ab];exact YA _ _ (a.trans (hf _ _ _ (dJ (by omega)))) λv=>hf _ _ _ (dJ (by omega))
 by_cases i:e.kind=8
 ·have B:=three i;rw[i];simp only[show ((8:Int)==1)=false from rfl,show ((8:Int)==2)=false from rfl,show ((8:Int)==3)=false from rfl,show ((8:Int)==4)=false from rfl,show ((8:Int)==5)=false from rfl,show ((8:Int)==7)=false from rfl,beq_self_eq_true,aa,ab];refine YA _ _ (a.trans (hf _ _ _ (dJ (by omega)))) λv=>?_
  cases v.kind==6 with
  | true=>exact .refl _
  | false=>
   cases Em v with
   | true=>exact hf _ _ _ (dJ (by omega))
   | false=>exact hf _ _ _ (dJ (by omega))
 by_cases k9':e.kind=9
 ·have p:=two (.inr k9');rw[k9'];simp only[show ((9:Int)==1)=false from rfl,show ((9:Int)==2)=false from rfl,show ((9:Int)==3)=false from rfl,show ((9:Int)==4)=false from rfl,show ((9:Int)==5)=false from rfl,show ((9:Int)==7)=false from rfl,show ((9:Int)==8)=false from rfl,beq_self_eq_true,aa,ab];refine YA _ _ (a.trans (hf _ _ _ (dJ (by omega)))) λv=>?_
  cases v.kind==6 with
  | true=>exact .refl _
  | false=>
   cases v.kind != 3 with
   | true=>exact .refl _
   | false=>
    simp only[aa];rw[nN];exact YB _ _ λm x _=>hf _ _ _ (dJ (by omega))
 have q:(e.kind==1)=false:=by simpa using j
 have r:(e.kind==2)=false:=by simpa using k
 have s:(e.kind==3)=false:=by simpa using l
 have t:(e.kind==4)=false:=by simpa using n
 have u:(e.kind==5)=false:=by simpa using o
 have w:(e.kind==7)=false:=by simpa using h
 have y:(e.kind==8)=false:=by simpa using i
 have z:(e.kind==9)=false:=by simpa using k9'
 simp only[q,r,s,t,u,w,y,z,aa];rw[nN];exact g c
theorem ajz:∀(d:Nat) (e:au) (m:aA) (c:List ak),ShX d e->Steps m (ev m e c).1
 | 0,e,m,c,a=>by cases a
 | d+1,e,m,c,a=>by
  rw[RN m e c a];refine ajK a (λm x c b=>?_) m c;cases a with
  | mk d _ k0 k9 num tx tl al op two three cl f=>exact ajz d x m c (f x b)
structure RdI(m:aA):Prop where
 num:∀(j:Nat) (x:aG),m.reads[j]?=some x->x.time=((m.reads.take j).countP (qB x):Nat)
 res:∀x,x∈m.reads->(rdE m.tape x).getD (resV m.w m.cell m.version x)=x.result
theorem ab4{m g:aA}(h:Steps m g):RdI m->RdI g:=by
 induction h with
 | refl m=>exact id
 | over m=>exactλh=>⟨h.num,h.res⟩
 | tick m=>exactλh=>⟨h.num,h.res⟩
 | eff m r i=>
  intro h;refine⟨λj x a=>?_,λx b=>?_⟩
  ·have a:(m.reads++[aG.mk r.kind r.n (qF m r).time r.text (Ci m r)])[j]?=some x:=a;show x.time=(((m.reads++[aG.mk r.kind r.n (qF m r).time r.text (Ci m r)]).take j).countP (qB x):Nat)
   by_cases c:j<m.reads.length
   ·rw[List.getElem?_append_left c]at a;rw[List.take_append_of_le_length (by omega)];exact h.num j x a
   ·have d:j=m.reads.length:=by
     have:=(zC.1 a).1;simp at this;omega
    subst d;rw[List.getElem?_append_right (ar _),Nat.sub_self]at a;cases a
    rw[List.take_left];show r.time+(m.reads.countP (qB r):Nat)=_
    rw[i,Int.zero_add];rfl
  ·have b:x∈m.reads++[aG.mk r.kind r.n (qF m r).time r.text (Ci m r)]:=b;rcases List.mem_append.1 b with b | b
   ·exact h.res x b
   ·rw[List.mem_singleton.1 b];rfl
 | trans h k e f=>exactλq=>f (e q)
theorem afG{a:List Int}(c:bZ B47 (.list (.base .u8) a)){k:Option Bool}(hk:(a.length:Int)<=1048576->k=some true):((big a).bind λb=>bif b then some (true)else k)=some true:=by
 unfold big;rw[zA];by_cases h:(a.length:Int)>1048576
 ·rw[ae h];rfl
 ·rw[ac h];exact hk (by omega)
theorem aaG:∀(l:List ak),(∀b,b∈l->Pm b.value)->∃P:List aj,P.length<=20*l.length/\∀b,b∈l->VOk P b.value
 | [],_=>⟨[],by simp,λb a=>by cases a⟩
 | x::r,h=>by
  obtain⟨P,e,hp⟩:=(h x aq).org;obtain⟨Q,f,d⟩:=aaG r λb a=>h b (ao _ a)
  refine⟨P++Q,by simp only[a6,List.length_cons];omega,λb a=>?_⟩;rcases ba.1 a with rfl | a
  ·exact⟨(h b aq).fit,DL (λo c=>List.mem_append_left _ c) hp⟩
  ·exact⟨(d b a).fit,DL (λo c=>List.mem_append_right _ c) (d b a).org⟩
theorem agF{P:List aj}{o:dX}(h:abd P o):bZ B20 (.list (.base .read) o.reads):=dh (by have:=h.len;have:=h.s2;omega) λr a=>(h.rd r a).1
theorem ad2{r:aG}(h:Fit B20 (.base .read) r):Fit B20 (.base .val) r.result:=(AA.1 h).2.2.2.2
theorem Ez{P:List aj}{o:dX}(h:abd P o):o8 o o=some true:=by
 unfold o8;simp only[aC,beq_self_eq_true,ab,zS _ _ h.v.fit,OY,zA,TJ _ _ (agF h)]
theorem akY(o:dX):dX.mk (af.mk o.value.kind o.value.n o.value.step o.value.text o.value.list o.value.columns o.value.rows) o.reads o.steps=o:=by
 obtain⟨v,r,s⟩:=o;cases v;rfl
theorem WG(o:dX):Bj o=o:=by
 obtain⟨v,r,s⟩:=o;cases v;rfl
theorem run_eq{X ρ:Type}{f:X->Option (X⊕ρ)}{x:X}{e:ρ}(h:∃r,aO f x=some r/\r=e):aO f x=some e:=by
 obtain⟨_,h,rfl⟩:=h;exact h
theorem af9{e e':au}(l:ShX 40 e)(d:ShX 40 e'){c c':List ak}{σ:Str->Str->Prop}(q:Yr σ e e')(hc:SG σ c c')(t:List aG)(w:bV)(a b:Int):ev0 e' c' t w a b=ev0 e c t w a b:=by
 unfold ev0;generalize f:aA.mk t w a b [] 0 false=m;have u:RdI m:=by subst f;exact⟨λj x h=>by simp at h,λx h=>by cases h⟩
 have g:=IW 40 e m c l;have n:=ab4 (ajz 40 e m c l) u;have y:Fine t w a b m (ev m e c).1:=by
  refine⟨by subst f;rfl,by subst f;rfl,λx d=>?_⟩;have:=n.res x d;rw[g.t,g.w,g.c,g.v]at this;subst f;exact this
 have h:=afh 40 e e' m c c' σ l d q hc y;have z:sw t w m=m:=by subst f;rfl
 have A:swP t w (ev m e c)=ev m e c:=by
  have i:=g.t;have k:=g.w;generalize ev m e c=p at i k ⊢;subst f;obtain⟨⟨t',w',a',b',r,s,o⟩,v⟩:=p;have i:t'=t:=i;have k:w'=w:=k;subst i k;rfl
 rw[z,A]at h;exact h
