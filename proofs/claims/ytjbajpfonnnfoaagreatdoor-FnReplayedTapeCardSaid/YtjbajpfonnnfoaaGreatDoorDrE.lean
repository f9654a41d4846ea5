import Derived.Test.YtjbajpfonnnfoaaGreatDoorNode0
import Derived.Test.YtjbajpfonnnfoaaGreatDoorEv1
set_option linter.unusedSimpArgs false
set_option linter.unusedVariables false
/- Plain laws: drawing, step by step; drawn expressions are small. -/
namespace Go.Proofs.YtjbajpfonnnfoaaGreatDoor
open Go.Abs Go.Proofs
def Dr{α:Type}(x:Option (aS×α))(P:α->Prop):Prop:=∃c y,x=some (c,y)/\bK c/\P y
theorem Dr.bind{α β:Type}{x:Option (aS×α)}{P:α->Prop}{f:aS×α->Option (aS×β)}{Q:β->Prop}(a:Dr x P)(hf:∀c y,bK c->P y->Dr (f (c,y)) Q):Dr (x.bind f) Q:=by
 obtain⟨c,y,e,k,p⟩:=a;rw[e];exact hf c y k p
theorem Dr.pbind{α β:Type}{x:Option α}{P:α->Prop}{f:α->Option (aS×β)}{Q:β->Prop}(a:∃y,x=some y/\P y)(hf:∀y,P y->Dr (f y) Q):Dr (x.bind f) Q:=by
 obtain⟨y,e,p⟩:=a;rw[e];exact hf y p
theorem Dr.gd{n:Nat}{β:Type}{f:Unit->Option (aS×β)}{Q:β->Prop}(h:n<=34359738368)(hf:Dr (f ()) Q):Dr ((gd n).bind f) Q:=by
 rw[bP h];exact hf
theorem Dr.bif{β:Type}{b:Bool}{x y:Option (aS×β)}{Q:β->Prop}(a:b=true->Dr x Q)(c:b=false->Dr y Q):Dr (bif b then x else y) Q:=by
 cases b with
 | true=>exact a rfl
 | false=>exact c rfl
theorem Dr.ret{β:Type}{c:aS}{y:β}{Q:β->Prop}(h:bK c)(a:Q y):Dr (some (c,y)) Q:=⟨c,y,rfl,h,a⟩
theorem Dr.of{β:Type}{x:Option (aS×β)}{Q:β->Prop}(h:∃r,x=some r/\bK r.1/\Q r.2):Dr x Q:=by
 obtain⟨⟨c,y⟩,e,k,q⟩:=h;exact⟨c,y,e,k,q⟩
theorem Dr.mono{β:Type}{x:Option (aS×β)}{P Q:β->Prop}(h:Dr x P)(a:∀y,P y->Q y):Dr x Q:=by
 obtain⟨c,y,e,k,p⟩:=h;exact⟨c,y,e,k,a y p⟩
theorem dB{c:aS}(h:bK c)(n:Int):Dr (aU c n) fun x=>0<=x/\(0<n->x<n):=by
 obtain⟨c',x,e,k,p,q⟩:=gX h n;exact⟨c',x,e,k,p,q⟩
theorem oW{c:aS}(h:bK c)(n:Int):Dr (dO c n) fun _=>True:=by
 obtain⟨c',x,e,k⟩:=uF h n;exact⟨c',x,e,k,trivial⟩
theorem oV{c:aS}(h:bK c)(xs:List Str)(a:xs≠[]):Dr (iY c xs) fun s=>s∈xs:=by
 obtain⟨c',x,e,k,p⟩:=Kz h xs a;exact⟨c',x,e,k,p⟩
theorem DN{c:aS}(h:bK c)(xs:List Int)(a:xs≠[]):Dr (l9 c xs) fun s=>s∈xs:=by
 obtain⟨c',x,e,k,p⟩:=Y9 h xs a;exact⟨c',x,e,k,p⟩
abbrev WtE(n:Nat)(e:aA):Prop:=wtE e<=n
theorem acZ{n:Nat}:∀ {xs:List aA},(∀x,x∈xs->wtE x<=n)->wtL xs<=n*xs.length
 | [],_=>by simp[wtL]
 | x::r,h=>by
  have b:=h x aq;have c:=acZ (xs:=r) fun y a=>h y (ao _ a)
  simp only[wtL,List.length_cons,Nat.mul_add,Nat.mul_one];omega
theorem w0{k n:Int}{s:Str}{m:Nat}(h:s.length<=120)(a:1<=m):WtE m (aA.mk k n s []):=by
 show wtE _<=m
 rw[mG h];simp[wtL];omega
theorem w1{k n:Int}{s:Str}{a:aA}{x m:Nat}(h:s.length<=120)(b:WtE x a)(c:1+x<=m):WtE m (aA.mk k n s [a]):=by
 show wtE _<=m
 rw[mG h,SN];exact Nat.le_trans (Nat.add_le_add_left b 1) c
theorem w2{k n:Int}{s:Str}{a b:aA}{x y m:Nat}(h:s.length<=120)(c:WtE x a)(d:WtE y b)(e:1+x+y<=m):WtE m (aA.mk k n s [a,b]):=by
 show wtE _<=m
 rw[mG h,afR];have c:wtE a<=x:=c;have d:wtE b<=y:=d;omega
theorem w3{k n:Int}{s:Str}{a b c:aA}{x y z m:Nat}(h:s.length<=120)(d:WtE x a)(e:WtE y b)(hc:WtE z c)(f:1+x+y+z<=m):WtE m (aA.mk k n s [a,b,c]):=by
 show wtE _<=m
 rw[mG h,aa8];have d:wtE a<=x:=d;have e:wtE b<=y:=e;have hc:wtE c<=z:=hc;omega
theorem wS{k n:Int}{s:Str}{xs:List aA}{x m:Nat}(h:s.length<=120)(a:∀e,e∈xs->WtE x e)(b:1+x*xs.length<=m):WtE m (aA.mk k n s xs):=by
 show wtE _<=m
 rw[mG h];exact Nat.le_trans (Nat.add_le_add_left (acZ a) 1) b
theorem wM{e:aA}{x m:Nat}(h:WtE x e)(a:x<=m):WtE m e:=Nat.le_trans h a
def yI(b:List Str):Prop:=b≠[]/\∀s,s∈b->s.length<=20
theorem KJ{c:aS}{b:List Str}(h:bK c)(f:yI b):Dr (rU c b) (WtE 1):=by
 unfold rU gJ wu;simp only[dJ,zA];refine Dr.bind (dB h 5) fun c1 x e i=>?_
 refine Dr.bif (fun _=>?_) fun _=>?_
 ·refine Dr.bind (oV e _ (by simp)) fun c2 s a d=>.ret a (w0 ?_ (by omega))
  simp at d;rcases d with rfl | rfl | rfl | rfl<;>simp
 have num:Dr ((aU c1 6).bind fun g=>some (g.1,aA.mk 1 g.2 [] [])) (WtE 1):=Dr.bind (dB e 6) fun c2 x a d=>.ret a (w0 (by simp) (by omega))
 refine Dr.bif (fun _=>num) fun _=>Dr.bif (fun _=>num) fun _=>?_
 refine Dr.bind (oV e _ f.1) fun c2 s a d=>.ret a (w0 (by have:=f.2 s d;show s.length<=120;omega) (by omega))
theorem mem_set{α:Type}{xs:List α}{i:Nat}{x y:α}(h:y∈xs.set i x):y∈xs\/y=x:=by
 rcases List.mem_or_eq_of_mem_set h with h | h
 ·exact .inl h
 ·exact .inr h
theorem BG{c:aS}{b:List Str}(h:bK c)(u:yI b):Dr (nD c b) (WtE 4):=by
 unfold nD;simp only[dJ];refine Dr.bind (dB h 4) fun c1 n v l=>?_
 have E:=l.2 (by omega);obtain⟨m,rfl⟩:=uZ l.1;refine Dr.of (ig (fun (s:aS×List aA) (i:Nat)=>((s.1.b,s.1.i,s.1.h,b,0,0,[],[],4,0,[],s.2,(m:Int),(i:Int)):(List Int)×Int×Int×(List Str)×Int×Int×Str×(List aA)×Int×Int×Str×(List aA)×Int×Int)) m
  (fun i s=>bK s.1/\s.2.length=i/\∀x,x∈s.2->WtE 1 x) (fun (r:aS×aA)=>bK r.1/\WtE 4 r.2) (fun i s o k=>?_) (fun s k=>?_) (c1,[]) ⟨v,rfl,fun x d=>(by cases d)⟩)
 ·obtain⟨hc,g,d⟩:=k;obtain⟨c2,j,w,y,F,G⟩:=gX hc 5;have p:gJ j=some (aA.mk 1 j [] []):=rfl;have q:WtE 1 (aA.mk 1 j [] []):=w0 (by simp) (by omega);generalize aA.mk 1 j [] []=e at p q;obtain⟨c4,z,A,t⟩:=uF y 4;have hmem:∀x,x∈s.2++[e]->WtE 1 x:=fun x a=>by
   rcases List.mem_append.1 a with a | a
   ·exact d x a
   ·rw[List.mem_singleton.1 a];exact q
  simp only[cnt_lt o,ab,w,p,A,zA,bP (show s.2.length+[e].length<=34359738368 by simp;omega),qH o (show m<=1048576 by omega)];cases z with
  | false=>exact⟨(c4,s.2++[e]),rfl,t,by simp[g],hmem⟩
  | true=>
   obtain⟨B,f,C,D,hf⟩:=KJ t u;have hget:(s.2++[e])[i]?=some e:=by rw[<- g];simp
   simp only[ab,C,zA,aQ,hget,aw];refine⟨(B,(s.2++[e]).set i f),rfl,D,by simp[g],fun x a=>?_⟩;rcases mem_set a with a | rfl
   ·exact hmem x a
   ·exact hf
 ·obtain⟨hc,g,d⟩:=k;exact⟨(s.1,aA.mk 4 0 [] s.2),by simp only[dF,aa],hc,wS (by simp) d (by omega)⟩
theorem IZ{c:aS}(h:bK c):Dr (oh c) (WtE 1):=by
 unfold oh;refine Dr.bind (oV h _ (by simp)) fun c2 s b a=>.ret b (w0 ?_ (by omega))
 simp at a;rcases a with rfl | rfl | rfl | rfl<;>simp
theorem Ls{c:aS}(h:bK c):Dr (rf c) (WtE 12):=by
 unfold rf gJ;simp only[dJ,zA];refine Dr.bind (dB h 4) fun c1 n o j=>?_
 have w:=j.2 (by omega);obtain⟨m,rfl⟩:=uZ j.1;refine Dr.of (ig (fun (s:aS×List aA) (i:Nat)=>((s.1.b,s.1.i,s.1.h,0,0,[],[],4,0,[],s.2,(m:Int),(i:Int)):(List Int)×Int×Int×Int×Int×Str×(List aA)×Int×Int×Str×(List aA)×Int×Int)) m
  (fun i s=>bK s.1/\s.2.length=i/\∀x,x∈s.2->WtE 3 x) (fun (r:aS×aA)=>bK r.1/\WtE 12 r.2) (fun i s k e=>?_) (fun s e=>?_) (c1,[]) ⟨o,rfl,fun x a=>(by cases a)⟩)
 ·obtain⟨hc,l,a⟩:=e;obtain⟨c2,f,p,q,y,z⟩:=gX hc 3;obtain⟨c4,g,t,u,A,B⟩:=gX q 4;have v:WtE 3 (aA.mk 4 0 [] [aA.mk 1 f [] [],aA.mk 1 g [] []]):=w2 (by simp) (w0 (by simp) (ar _)) (w0 (by simp) (ar _)) (by omega);simp only[cnt_lt k,ab,p,t,zA,bP (show s.2.length+[aA.mk 4 0 [] [aA.mk 1 f [] [],aA.mk 1 g [] []]].length<=34359738368 by simp;omega),qH k (show m<=1048576 by omega)];refine⟨(c4,s.2++[aA.mk 4 0 [] [aA.mk 1 f [] [],aA.mk 1 g [] []]]),rfl,u,by simp[l],fun x d=>?_⟩;rcases List.mem_append.1 d with d | d
  ·exact a x d
  ·rw[List.mem_singleton.1 d];exact v
 ·obtain⟨hc,l,a⟩:=e;exact⟨(s.1,_),by simp only[dF,aa];rfl,hc,w2 (by simp) (w0 (by simp) (ar _)) (wS (x:=3) (m:=10) (by simp) a (by omega)) (by omega)⟩
theorem wI{c:aS}{a b:aA}{n:Nat}(h:bK c)(e:WtE n a)(f:WtE n b):Dr ((dO c 2).bind fun r=>bif r.2 then some (r.1,a)else some (r.1,b)) (WtE n):=
 Dr.bind (oW h 2) fun c1 x d _=>Dr.bif (fun _=>.ret d e) fun _=>.ret d f
theorem Xc:∀(n:Nat) {a:aS} {b:List Str} (c:Int),bK a->yI b->b.length+2*c.toNat<=1000->c<=n->1<=n->c<=10->Dr (kW n a b c) (WtE (40*4 ^ c.toNat))
 | 0,a,b,c,_,_,_,_,h,_=>absurd h (by omega)
 | n+1,a,b,c,h,p,U,hc,_,Q=>by
  show Dr (Hu (kW n) a b c) _
  unfold Hu gJ rQ;simp only[dJ,zA];have hp:∀k:Nat,1<=4 ^ k:=fun k=>Nat.one_le_pow _ _ (by omega)
  refine Dr.bif (fun _=>Dr.bind (KJ h p) fun c1 x j J=>.ret j (wM J (by have:=hp c.toNat;omega))) fun C=>?_
  have C:2<=c:=by simp at C;exact C
  have R:w64 (c-1)=c-1:=bT (by omega) (by omega);rw[R];have ih:∀ {a:aS} {b':List Str},bK a->yI b'->b'.length<=b.length+2->Dr (kW n a b' (c-1)) (WtE (40*4 ^ (c-1).toNat)):=fun D E S=>Xc n (c-1) D E (by omega) (by omega) (by omega) (by omega)
  have L:40*4 ^ c.toNat=4*(40*4 ^ (c-1).toNat):=by
   rw[show c.toNat=(c-1).toNat+1 by omega,Nat.pow_succ];omega
  have F:40<=40*4 ^ (c-1).toNat:=by have:=hp (c-1).toNat;omega
  rw[L];generalize 40*4 ^ (c-1).toNat=K at ih F;clear L;have ihb:∀ {a:aS},bK a->Dr (kW n a b (c-1)) (WtE K):=fun D=>ih D p (by omega)
  obtain⟨B,G,hb0m⟩:∃B,idx b 0=some B/\B∈b:=by
   cases H:b with
   | nil=>exact absurd H p.1
   | cons x r=>exact⟨x,rfl,aq⟩
  have names:∀s,s∈[[117],[118],B]->s.length<=20:=fun s M=>by
   simp only[ba,List.not_mem_nil,or_false]at M;rcases M with rfl | rfl | rfl
   ·simp
   ·simp
   ·exact p.2 _ hb0m
  simp only[G,zA];refine Dr.bind (dB h 13) fun c1 x j J=>?_
  have op:Dr ((aU c1 5).bind fun N=>(kW n N.1 b (c-1)).bind fun O=>(kW n O.1 b (c-1)).bind fun P=>some (P.1,aA.mk 6 (w64 (1+N.2)) [] [O.2,P.2])) (WtE (4*K)):=
   Dr.bind (dB j 5) fun c2 y e d=>Dr.bind (ihb e) fun c3 u i l=>Dr.bind (ihb i) fun c4 v f g=>.ret f (w2 (by simp) l g (by omega))
  refine Dr.bif (fun _=>op) fun _=>Dr.bif (fun _=>op) fun _=>Dr.bif (fun _=>?_) fun _=>Dr.bif (fun _=>?_) fun _=>Dr.bif (fun _=>?_) fun _=>Dr.bif (fun _=>?_) fun _=>
   Dr.bif (fun _=>?_) fun _=>Dr.bif (fun _=>?_) fun _=>Dr.bif (fun _=>?_) fun _=>Dr.bif (fun _=>?_) fun _=>Dr.bif (fun _=>?_) fun _=>Dr.bif (fun _=>?_) fun _=>?_
  ·refine Dr.bind (oV j _ (by simp)) fun c2 s e d=>Dr.bind (ihb e) fun c3 u i l=>Dr.gd (by simp;omega) ?_
   have ls:=names s d;refine Dr.bind (ih i ⟨by simp,fun t o=>?_⟩ (by rw[a6];simp only[List.length_cons,List.length_nil];omega)) fun c4 v f g=>.ret f (w2 (by show s.length<=_;omega) l g (by omega))
   rcases List.mem_append.1 o with o | o
   ·rw[List.mem_singleton.1 o];exact ls
   ·exact p.2 t o
  ·exact Dr.bind (ihb j) fun c2 u e d=>Dr.bind (ihb e) fun c3 v i l=>Dr.bind (ihb i) fun c4 w f g=>.ret f (w3 (by simp) d l g (by omega))
  ·refine Dr.bind (oV j _ (by simp)) fun c2 s e d=>Dr.bind (BG e p) fun c3 u i l=>Dr.gd (by simp;omega) ?_
   have ls:=names s d;refine Dr.bind (ih i ⟨by simp,fun t o=>?_⟩ (by rw[a6];simp only[List.length_cons,List.length_nil];omega)) fun c4 v f g=>.ret f (w2 (by show s.length<=_;omega) l g (by omega))
   rcases List.mem_append.1 o with o | o
   ·simp only[ba,List.not_mem_nil,or_false,or_self]at o;rw[o];exact ls
   ·exact p.2 t o
  ·exact Dr.bind (BG j p) fun c2 u e d=>.ret e (wM d (by omega))
  ·refine Dr.bind (oV j _ (by simp)) fun c2 s e d=>Dr.bind (BG e p) fun c3 u i l=>Dr.bind (ihb i) fun c4 v f g=>wI f (w1 ?_ l (by omega)) (w1 ?_ g (by omega))
   all_goals
    simp at d
    rcases d with rfl | rfl<;>simp
  ·refine Dr.bind (oV j _ (by simp)) fun c2 s e d=>Dr.bind (dB e 4) fun c3 y i l=>Dr.bind (BG i p) fun c4 u f g=>Dr.bind (dB f 9) fun I z q A=>Dr.bind (dB q 4) fun V W T X=>
    wI T (w2 ?_ (w0 (by simp) (ar _)) g (by omega)) (w2 ?_ (w0 (by simp) (ar _)) (w2 (m:=3) (by simp) (w0 (by simp) (ar _)) (w0 (by simp) (ar _)) (by omega)) (by omega))
   all_goals
    simp at d
    rcases d with rfl | rfl | rfl | rfl<;>simp
  ·exact Dr.bind (IZ j) fun c2 s e d=>Dr.bind (dB e 3) fun c3 y i l=>Dr.bind (Ls i) fun c4 u f g=>Dr.bind (ihb f) fun I v q A=>
    wI q (w3 (by simp) d (w0 (by simp) (ar _)) g (by omega)) (w3 (by simp) d (w0 (by simp) (ar _)) A (by omega))
  ·exact Dr.bind (IZ j) fun c2 s e d=>Dr.bind (IZ e) fun c3 y i l=>Dr.bind (Ls i) fun c4 u f g=>Dr.bind (ihb f) fun I v q A=>
    wI q (w3 (by simp) d l g (by omega)) (w3 (by simp) d l A (by omega))
  ·exact Dr.bind (Ls j) fun c4 u f g=>Dr.bind (ihb f) fun I v q A=>wI q (w1 (by simp) g (by omega)) (w1 (by simp) A (by omega))
  ·exact Dr.bind (dB j 6) fun c2 y e d=>.ret e (w1 (by simp) (w0 (by simp) (ar _)) (by omega))
  ·refine Dr.bind (oV j _ (by simp)) fun c2 s e d=>wI e (w0 (by simp) (by omega)) (w1 (by simp) (w0 ?_ (ar _)) (by omega))
   simp at d;rcases d with rfl | rfl | rfl<;>simp
theorem aas(n:Int):1<=siz n:=by
 cases n with
 | ofNat a=>show 1<=SizeOf.sizeOf (Int.ofNat a);rw[Int.ofNat.sizeOf_spec];omega
 | negSucc a=>show 1<=SizeOf.sizeOf (Int.negSucc a);rw[Int.negSucc.sizeOf_spec];omega
theorem aar{α:Type}[SizeOf α](l:List α):1<=siz l:=by
 cases l with
 | nil=>simp[siz]
 | cons x r=>simp only[siz];rw[List.cons.sizeOf_spec];omega
theorem af8(c:aS):4<=siz c:=by
 cases c with
 | mk b i h=>
  have a:=aar b;have d:=aas i;have e:=aas h;simp only[siz]at *;rw[aS.mk.sizeOf_spec];omega
theorem agX{a:aS}{b:List Str}(c:Int)(h:bK a)(d:yI b)(g:b.length<=100)(i:0<=c)(j:c<=4):Dr (EU a b c) (WtE 10240):=by
 have k:=af8 a;have l:=aar b;refine (Xc (siz a+siz b+1) c h d (by omega) (by omega) (by omega) (by omega)).mono fun e f=>wM f ?_
 have:4 ^ c.toNat<=4 ^ 4:=Nat.pow_le_pow_right (by omega) (by omega);omega
theorem Z4:yI [[97],[98],[99]]:=⟨by simp,fun s a=>by
 simp only[ba,List.not_mem_nil,or_false]at a;rcases a with rfl | rfl | rfl<;>simp⟩
theorem akz:yI [[97]]:=⟨by simp,fun s a=>by rw[List.mem_singleton.1 a];simp⟩
theorem VH{e:aA}{n:Nat}(h:WtE n e)(a:n<=1048576):∃v,fA e=some v/\True:=by
 obtain⟨v,_,b,_⟩:=Ja e (Nat.le_trans h a);exact⟨v,b,trivial⟩
theorem aaT{c:aS}(h:bK c):Dr (zO c) (WtE 10240):=by
 unfold zO;simp only[dJ];refine Dr.bind (dB h 4) fun c1 x d g=>?_
 have:=g.2 (by omega);have i:w64 (1+x)=1+x:=bT (by omega) (by omega);show Dr ((EU c1 [[97],[98],[99]] (w64 (1+x))).bind _) _
 rw[i];refine Dr.bind (agX _ d Z4 (by simp) (by omega) (by omega)) fun c2 e a b=>Dr.pbind (VH b (by omega)) fun v _=>Dr.bif (fun _=>?_) fun _=>.ret a b
 exact Dr.bind (KJ a Z4) fun c3 f j k=>.ret j (wM k (by omega))
theorem acY{e:aA}{k n:Int}{s:Str}{m:Nat}(h:WtE m e)(b:m<=1048576)(a:s.length<=120):WtE m (aA.mk k n s e.args):=by
 have h:wtE e<=m:=h;have c:=aac (e:=e) (by omega);show wtE _<=m
 rw[mG a];omega
theorem ahC{c:aS}(h:bK c):Dr (wB c) (WtE 10300):=by
 unfold wB gJ rQ;simp only[dJ,zA];refine Dr.bind (aaT h) fun c1 e o g=>Dr.bind (dB o 12) fun c2 x j q=>?_
 have p1':wtE e<=10240:=g;have k:=Em (e:=e) (by omega);have t:=KY (e:=e);refine Dr.bif (fun _=>?_) fun _=>Dr.bif (fun _=>?_) fun _=>Dr.bif (fun _=>?_) fun _=>Dr.bif (fun _=>?_) fun _=>Dr.bif (fun _=>?_) fun _=>.ret j (wM g (by omega))
 ·exact Dr.bind (dB j 11) fun c3 y a d=>.ret a (wM (acY g (by omega) k) (by omega))
 ·refine Dr.bind (KJ j akz) fun c3 f a d=>Dr.gd (by simp;omega) (.ret a ?_)
  have u:=aac (e:=e) (by omega);have d:wtE f<=1:=d;show wtE _<=10300
  rw[mG k,Dc,SN];show 1+(wtL e.args+wtE f)<=10300
  omega
 ·refine Dr.bind (oV j _ (by simp)) fun c3 s a d=>.ret a (wM (acY g (by omega) ?_) (by omega))
  simp at d;rcases d with rfl | rfl | rfl | rfl<;>simp
 ·exact Dr.bind (DN j _ (by simp)) fun c3 s a d=>.ret a (wM (acY g (by omega) k) (by omega))
 ·refine Dr.of (ig (fun (s:aA) (i:Nat)=>((c2.b,c2.i,c2.h,0,0,[],[],s.kind,s.n,s.text,s.args,(i:Int)):(List Int)×Int×Int×Int×Int×Str×(List aA)×Int×Int×Str×(List aA)×Int)) 7
   (fun i s=>WtE (10240+2*i) s) (fun (r:aS×aA)=>bK r.1/\WtE 10300 r.2) (fun i s v l=>?_) (fun s l=>?_) e g)
  ·have m:decide ((i:Int)<7)=true:=by simp;omega
   have p:w64 ((i:Int)+1)=((i+1:Nat):Int):=by rw[bT (by omega) (by omega)];omega
   have eta:aA.mk s.kind s.n s.text s.args=s:=by cases s;rfl
   simp only[m,ab,zA,p,eta];exact⟨aA.mk 6 1 [] [s,aA.mk 1 (i:Int) [] []],rfl,w2 (by simp) l (w0 (by simp) (ar _)) (by omega)⟩
  ·have m:decide (((7:Nat):Int)<7)=false:=by simp
   have eta:aA.mk s.kind s.n s.text s.args=s:=by cases s;rfl
   simp only[m,aa,eta];exact⟨(c2,s),rfl,j,wM l (by omega)⟩
theorem ZT{c:aS}(h:bK c):Dr (uy c) (WtE 10300):=by
 unfold uy gJ rQ lN;simp only[dJ,zA];have fin:∀ {c:aS} {e:aA},bK c->WtE 10300 e->Dr ((fA e).bind fun v=>bif !v then some (c,aA.mk 5 0 [99,108,111,99,107] [])else some (c,e)) (WtE 10300):=fun hc i=>
  Dr.pbind (VH i (by omega)) fun v _=>Dr.bif (fun _=>.ret hc (w0 (by simp) (by omega))) fun _=>.ret hc i
 refine Dr.bind (aaT h) fun c1 e k d=>Dr.bind (oW k 3) fun c2 x j _=>Dr.bif (fun _=>?_) fun _=>?_
 ·refine Dr.bind (dB j 5) fun c3 y l o=>Dr.bind (oW l 4) fun c4 z a _=>?_
  have b:WtE 10250 (aA.mk 6 1 [] [aA.mk 5 0 [99,108,111,99,107] [],aA.mk 6 1 [] [aA.mk 5 0 [99,104,97,110,99,101] [aA.mk 1 y [] []],e]]):=
   w2 (by simp) (w0 (by simp) (ar _)) (w2 (m:=10243) (by simp) (w1 (m:=2) (by simp) (w0 (by simp) (ar _)) (by omega)) d (by omega)) (by omega)
  refine Dr.bif (fun _=>?_) fun _=>fin a (wM b (by omega))
  exact Dr.bind (BG a akz) fun n u f g=>fin f (w2 (by simp) g b (by omega))
 ·refine Dr.bind (oW j 4) fun c4 z a _=>Dr.bif (fun _=>?_) fun _=>fin a (wM d (by omega))
  exact Dr.bind (BG a akz) fun n u f g=>fin f (w2 (by simp) g d (by omega))
theorem agZ{c:aS}(h:bK c):Dr (ES c) (WtE 10300):=by
 unfold ES gJ rQ lN wu;simp only[dJ,zA];refine Dr.bind (dB h 4) fun c1 n o g=>?_
 have u:=g.2 (by omega);obtain⟨m,rfl⟩:=uZ g.1;have p:w64 (5+(m:Int))=((m+5:Nat):Int):=by rw[bT (by omega) (by omega)];omega
 show Dr (aO _ (c1.b,c1.i,c1.h,0,0,[],[],4,0,[],[],w64 (5+(m:Int)),0)) _
 rw[p];refine Dr.of (ig (fun (s:List aA) (i:Nat)=>((c1.b,c1.i,c1.h,0,0,[],[],4,0,[],s,((m+5:Nat):Int),(i:Int)):(List Int)×Int×Int×Int×Int×Str×(List aA)×Int×Int×Str×(List aA)×Int×Int)) (m+5)
  (fun i s=>s.length=i/\∀x,x∈s->WtE 1 x) (fun (r:aS×aA)=>bK r.1/\WtE 10300 r.2) (fun i s j f=>?_) (fun s f=>?_) [] ⟨rfl,fun x a=>(by cases a)⟩)
 ·obtain⟨k,a⟩:=f;simp only[cnt_lt j,ab,zA,bP (show s.length+[aA.mk 1 (i:Int) [] []].length<=34359738368 by simp;omega),qH j (show m+5<=1048576 by omega)];refine⟨s++[aA.mk 1 (i:Int) [] []],rfl,by simp[k],fun x d=>?_⟩;rcases List.mem_append.1 d with d | d
  ·exact a x d
  ·rw[List.mem_singleton.1 d];exact w0 (by simp) (ar _)
 ·obtain⟨k,a⟩:=f;have e:WtE 20 (aA.mk 4 0 [] s):=wS (x:=1) (by simp) a (by omega);obtain⟨c2,q,t,l⟩:=uF o 2;simp only[dF,aa,t,zA];cases q with
  | true=>exact⟨(c2,_),rfl,l,w2 (by simp) e (w2 (m:=50) (by simp) e (w2 (m:=3) (by simp) (w0 (by simp) (ar _)) (w0 (by simp) (ar _)) (by omega)) (by omega)) (by omega)⟩
  | false=>exact⟨(c2,_),rfl,l,w2 (by simp) e (w2 (m:=50) (by simp) e (w0 (m:=1) (by simp) (ar _)) (by omega)) (by omega)⟩
theorem xX{P Q:List aj}(hPQ:∀o,o∈P->o∈Q){v:af}(h:nY P v):nY Q v:=by
 induction h with
 | mk b d ih=>exact .mk (fun r a o c=>hPQ o (b r a o c)) ih
def oO(n:Int):Prop:=-1000000000<=n/\n<=1000000000
structure Pq(v:af):Prop where
 fit:Fit B20 (.base .val) v
 org:∃P:List aj,P.length<=20/\nY P v
def QL(r:aB):Prop:=r.cells.length<=4/\(∀n,n∈r.cells->oO n)/\r.orig.length<=2/\bQ B20 (.list (.base .origin) r.orig)
structure Yl(v:af):Prop where
 k:v.kind=5
 n:v.n=0
 s:v.step=0
 t:v.text=[]
 l:v.list=[]
 c:bQ B20 (.list (.base .str) v.columns)
 len:v.rows.length<=5
 rows:∀r,r∈v.rows->QL r
theorem agx{r:aB}(h:QL r):Fit B20 (.base .row) r:=by
 rw[iy];exact⟨cO (by have:=h.1;omega) fun n a=>fun d b=>(by rw[List.mem_singleton.1 b];exact nX (dL (h.2.1 n a).1 (h.2.1 n a).2)),h.2.2.2⟩
theorem Yl.val{v:af}(h:Yl v):Pq v:=by
 refine⟨?_,v.rows.flatMap (·.orig),?_,.mk (fun r b o d=>List.mem_flatMap.2 ⟨r,b,d⟩) fun x a=>by rw[h.l]at a;cases a⟩
 ·rw[dP,h.k,h.n,h.s,h.t,h.l];exact⟨Am (by omega) (by omega),Am (by omega) (by omega),Am (by omega) (by omega),qw,qc,h.c,cO (by have:=h.len;omega) fun r b=>agx (h.rows r b)⟩
 ·have key:∀rs:List aB,(∀r,r∈rs->QL r)->(rs.flatMap (·.orig)).length<=2*rs.length:=by
   intro rs;induction rs with
   | nil=>intro _;simp
   | cons r rs ih=>
    intro hh;have e:=(hh r aq).2.2.1;have f:=ih fun x a=>hh x (ao _ a)
    simp only[List.flatMap_cons,a6,List.length_cons];omega
  have:=key v.rows h.rows;have:=h.len;omega
theorem BD{c:aS}(h:bK c):Dr (ny c) oO:=by
 unfold ny;refine Dr.bind (oW h 12) fun c1 x d _=>Dr.bif (fun _=>?_) fun _=>?_
 ·refine Dr.bind (DN d _ (by simp)) fun c2 n b a=>.ret b ?_
  simp at a;rcases a with rfl | rfl | rfl | rfl | rfl<;>exact⟨by omega,by omega⟩
 ·refine Dr.bind (dB d 12) fun c2 n b a=>.ret b ?_
  have:=a.2 (by omega);show oO (w64 (n-3))
  rw[bT (by omega) (by omega)];exact⟨by omega,by omega⟩
theorem adh{c:aS}(h:bK c):Dr (xK c) fun s=>s.length<=20:=by
 unfold xK;refine Dr.bind (oV h _ (by simp)) fun c2 s b a=>.ret b ?_
 simp at a;rcases a with rfl | rfl | rfl | rfl | rfl | rfl | rfl<;>simp
theorem aaS{c:aS}(h:bK c):Dr (EN c) fun l=>l.length<=2/\bQ B20 (.list (.base .origin) l):=by
 unfold EN;refine Dr.bind (dB h 3) fun c1 n q j=>?_
 have A:=j.2 (by omega);obtain⟨m,rfl⟩:=uZ j.1;refine Dr.of (ig (fun (s:aS×List aj×Nat) (i:Nat)=>((s.1.b,s.1.i,s.1.h,s.2.1,(s.2.2:Int),(m:Int),(i:Int)):(List Int)×Int×Int×(List aj)×Int×Int×Int)) m
  (fun i s=>bK s.1/\s.2.1.length=i/\s.2.2<=1+2*i/\∀o,o∈s.2.1->oO o.cell/\oO o.row) (fun (r:aS×List aj)=>bK r.1/\r.2.length<=2/\bQ B20 (.list (.base .origin) r.2)) (fun i s k g=>?_) (fun s g=>?_) (c1,[],1) ⟨q,rfl,by show 1<=1+2*0;omega,fun o a=>(by cases a)⟩)
 ·obtain⟨hc,p,hk,e⟩:=g;obtain⟨c2,d,t,u,B,v⟩:=gX hc 2;have:=v (by omega);obtain⟨c4,f,w,x,C,y⟩:=gX u 2;have:=y (by omega);have w1:w64 (d*2)=d*2:=bT (by omega) (by omega);have w2:w64 ((i:Int)+d*2)=(i:Int)+d*2:=bT (by omega) (by omega);have w3:w64 ((s.2.2:Int)+1)=(s.2.2:Int)+1:=bT (by omega) (by omega);have z:w64 ((s.2.2:Int)+1+f)=((s.2.2+1+f.toNat:Nat):Int):=by rw[bT (by omega) (by omega)];omega
  simp only[cnt_lt k,ab,t,w,w1,w2,w3,z,zA,bP (show s.2.1.length+[aj.mk (s.2.2:Int) ((i:Int)+d*2)].length<=34359738368 by simp;omega),qH k (show m<=1048576 by omega)];refine⟨(c4,s.2.1++[aj.mk (s.2.2:Int) ((i:Int)+d*2)],s.2.2+1+f.toNat),rfl,x,by simp[p],by show s.2.2+1+f.toNat<=_;omega,fun o a=>?_⟩;rcases List.mem_append.1 a with a | a
  ·exact e o a
  ·rw[List.mem_singleton.1 a];exact⟨⟨by show -1000000000<=(s.2.2:Int);omega,by show (s.2.2:Int)<=1000000000;omega⟩,⟨by show -1000000000<=(i:Int)+d*2;omega,by show (i:Int)+d*2<=1000000000;omega⟩⟩
 ·obtain⟨hc,p,hk,e⟩:=g;refine⟨(s.1,s.2.1),by simp only[dF,aa],hc,by show s.2.1.length<=2;omega,cO (by show (s.2.1.length:Int)<=1048576;omega) fun o a=>?_⟩;rw[Eg];exact⟨Am (e o a).1.1 (e o a).1.2,Am (e o a).2.1 (e o a).2.2⟩
theorem Xm{ρ σ:Type}{L:Option ρ}{f:σ->ρ}{I:σ->Prop}(h:∃r,L=some r/\∃s',r=f s'/\I s'):∃s',L=some (f s')/\I s':=by
 obtain⟨r,a,s',rfl,b⟩:=h;exact⟨s',a,b⟩
theorem afp{α:Type}(xs:List α)(i:Nat)(h:i<=xs.length):cutAt xs (i:Int)=some i:=by
 unfold cutAt;rw[if_pos ⟨by omega,by omega⟩];simp
theorem Rt:∀(xs:List Str),xs.length<=4->(∀s,s∈xs->s.length<=4)->bQ B20 (.list (.base .str) xs):=fun xs c a=>
 cO (by omega) fun s h=>fun d b=>by rw[List.mem_singleton.1 b];exact ajC (by have:=a s h;omega)
theorem QT{c:aS}(h:bK c):Dr (kV c) Yl:=by
 unfold kV;refine Dr.bind (dB h 3) fun c1 n U S=>?_
 have a:=S.2 (by omega);obtain⟨w,rfl⟩:∃w:Nat,n=(w:Int):=uZ S.1;have V:w64 (1+(w:Int))=((w+1:Nat):Int):=by rw[bT (by omega) (by omega)];omega
 have hcut:cutAt ([[97],[98],[99],[120]]:List Str) ((w+1:Nat):Int)=some (w+1):=afp _ _ (by simp;omega);have E:gd (0+(([[97],[98],[99],[120]]:List Str).take (w+1)).length)=some ():=bP (by simp;omega);simp only[hcut,E,V,zA,List.nil_append];have t:∀s,s∈([[97],[98],[99],[120]]:List Str)->s.length<=4:=fun s d=>by
  simp only[ba,List.not_mem_nil,or_false]at d;rcases d with rfl | rfl | rfl | rfl<;>simp
 have hlen:(([[97],[98],[99],[120]]:List Str).take (w+1)).length=w+1:=by rw[a8];simp;omega
 refine Dr.bind (oW U 5) fun c2 x T _=>?_
 refine Dr.bif (fun _=>?_) fun _=>?_
 ·obtain⟨F,v⟩:∃F,(([[97],[98],[99],[120]]:List Str).take (w+1))[0]?=some F:=⟨_,zF (by omega)⟩;have G:idx (([[97],[98],[99],[120]]:List Str).take (w+1)) 0=some F:=v;have H:cutAt ((([[97],[98],[99],[120]]:List Str).take (w+1)).set 0 [120]) 1=some 1:=afp _ 1 (by rw[List.length_set,hlen];omega);simp only[G,v,H,zA];have hcols:bQ B20 (.list (.base .str) (((([[97],[98],[99],[120]]:List Str).take (w+1)).set 0 [120]).take 1)):=Rt _ (by rw[a8];omega) fun s d=>by
   rcases mem_set (List.mem_of_mem_take d)with d | rfl
   ·exact t s (List.mem_of_mem_take d)
   ·simp
  generalize ((([[97],[98],[99],[120]]:List Str).take (w+1)).set 0 [120]).take 1=cols at hcols;refine Dr.bind (dB T 6) fun c3 m J y=>?_
  have W:=y.2 (by omega);obtain⟨m,rfl⟩:=uZ y.1;show Dr (aO _ (c3.b,c3.i,c3.h,0,0,0,[],[],[],[],((1:Nat):Int),5,0,0,[],[],cols,[],(m:Int),0)) Yl
  have K:(1:Nat)<=4:=by omega
  generalize (1:Nat)=u at K;refine Dr.of (ig (fun (s:aS×List aB) (i:Nat)=>((s.1.b,s.1.i,s.1.h,0,0,0,[],[],[],[],(u:Int),5,0,0,[],[],cols,s.2,(m:Int),(i:Int)):(List Int)×Int×Int×Int×Int×Int×Str×(List af)×(List Str)×(List aB)×Int×Int×Int×Int×Str×(List af)×(List Str)×(List aB)×Int×Int)) m
   (fun i s=>bK s.1/\s.2.length=i/\∀r,r∈s.2->QL r) (fun (r:aS×af)=>bK r.1/\Yl r.2) (fun i s A d=>?_) (fun s d=>?_) (c3,[]) ⟨J,rfl,fun r e=>(by cases e)⟩)
  ·obtain⟨hc,B,o⟩:=d;obtain⟨L,p,M,N,C⟩:=aaS hc;simp only[cnt_lt A,ab,M,zA];refine Xm (f:=fun s':aS×List aB=>(.inl (s'.1.b,s'.1.i,s'.1.h,0,0,0,[],[],[],[],(u:Int),5,0,0,[],[],cols,s'.2,(m:Int),((i+1:Nat):Int)):((List Int)×Int×Int×Int×Int×Int×Str×(List af)×(List Str)×(List aB)×Int×Int×Int×Int×Str×(List af)×(List Str)×(List aB)×Int×Int)⊕(aS×af))) (I:=fun s'=>bK s'.1/\s'.2.length=i+1/\∀r,r∈s'.2->QL r)
    (ig (fun (z:aS×List Int) (k:Nat)=>((z.1.b,z.1.i,z.1.h,0,0,0,[],[],[],[],(u:Int),5,0,0,[],[],cols,s.2,(m:Int),(i:Int),z.2,p,(k:Int)):(List Int)×Int×Int×Int×Int×Int×Str×(List af)×(List Str)×(List aB)×Int×Int×Int×Int×Str×(List af)×(List Str)×(List aB)×Int×Int×(List Int)×(List aj)×Int)) u
     (fun k z=>bK z.1/\z.2.length=k/\∀n,n∈z.2->oO n) _ (fun k z hk q=>?_) (fun z q=>?_) (L,[]) ⟨N,rfl,fun n a=>(by cases a)⟩)
   ·obtain⟨g,l,j⟩:=q;obtain⟨O,D,P,Q,R⟩:=BD g;simp only[cnt_lt hk,ab,P,zA,bP (show z.2.length+[D].length<=34359738368 by simp;omega),qH hk (show u<=1048576 by omega)];refine⟨(O,z.2++[D]),rfl,Q,by simp[l],fun n a=>?_⟩;rcases List.mem_append.1 a with a | a
    ·exact j n a
    ·rw[List.mem_singleton.1 a];exact R
   ·obtain⟨g,l,j⟩:=q;simp only[dF,aa,zA,bP (show s.2.length+[aB.mk z.2 p].length<=34359738368 by simp;omega),qH A (show m<=1048576 by omega)];refine⟨_,rfl,(z.1,s.2++[aB.mk z.2 p]),rfl,g,by simp[B],fun r e=>?_⟩;rcases List.mem_append.1 e with e | e
    ·exact o r e
    ·rw[List.mem_singleton.1 e];exact⟨by show z.2.length<=4;omega,j,C.1,C.2⟩
  ·obtain⟨hc,B,o⟩:=d;exact⟨(s.1,_),by simp only[dF,aa];rfl,hc,⟨rfl,rfl,rfl,rfl,rfl,hcols,by show s.2.length<=5;omega,o⟩⟩
 ·have hcols:bQ B20 (.list (.base .str) (([[97],[98],[99],[120]]:List Str).take (w+1))):=Rt _ (by rw[hlen];omega) fun s d=>t s (List.mem_of_mem_take d)
  generalize ([[97],[98],[99],[120]]:List Str).take (w+1)=cols at hcols;refine Dr.bind (dB T 6) fun c3 m J y=>?_
  have W:=y.2 (by omega);obtain⟨m,rfl⟩:=uZ y.1;have K:w+1<=4:=by omega
  generalize w+1=u at K;refine Dr.of (ig (fun (s:aS×List aB) (i:Nat)=>((s.1.b,s.1.i,s.1.h,0,0,0,[],[],[],[],(u:Int),5,0,0,[],[],cols,s.2,(m:Int),(i:Int)):(List Int)×Int×Int×Int×Int×Int×Str×(List af)×(List Str)×(List aB)×Int×Int×Int×Int×Str×(List af)×(List Str)×(List aB)×Int×Int)) m
   (fun i s=>bK s.1/\s.2.length=i/\∀r,r∈s.2->QL r) (fun (r:aS×af)=>bK r.1/\Yl r.2) (fun i s A d=>?_) (fun s d=>?_) (c3,[]) ⟨J,rfl,fun r e=>(by cases e)⟩)
  ·obtain⟨hc,B,o⟩:=d;obtain⟨L,p,M,N,C⟩:=aaS hc;simp only[cnt_lt A,ab,M,zA];refine Xm (f:=fun s':aS×List aB=>(.inl (s'.1.b,s'.1.i,s'.1.h,0,0,0,[],[],[],[],(u:Int),5,0,0,[],[],cols,s'.2,(m:Int),((i+1:Nat):Int)):((List Int)×Int×Int×Int×Int×Int×Str×(List af)×(List Str)×(List aB)×Int×Int×Int×Int×Str×(List af)×(List Str)×(List aB)×Int×Int)⊕(aS×af))) (I:=fun s'=>bK s'.1/\s'.2.length=i+1/\∀r,r∈s'.2->QL r)
    (ig (fun (z:aS×List Int) (k:Nat)=>((z.1.b,z.1.i,z.1.h,0,0,0,[],[],[],[],(u:Int),5,0,0,[],[],cols,s.2,(m:Int),(i:Int),z.2,p,(k:Int)):(List Int)×Int×Int×Int×Int×Int×Str×(List af)×(List Str)×(List aB)×Int×Int×Int×Int×Str×(List af)×(List Str)×(List aB)×Int×Int×(List Int)×(List aj)×Int)) u
     (fun k z=>bK z.1/\z.2.length=k/\∀n,n∈z.2->oO n) _ (fun k z hk q=>?_) (fun z q=>?_) (L,[]) ⟨N,rfl,fun n a=>(by cases a)⟩)
   ·obtain⟨g,l,j⟩:=q;obtain⟨O,D,P,Q,R⟩:=BD g;simp only[cnt_lt hk,ab,P,zA,bP (show z.2.length+[D].length<=34359738368 by simp;omega),qH hk (show u<=1048576 by omega)];refine⟨(O,z.2++[D]),rfl,Q,by simp[l],fun n a=>?_⟩;rcases List.mem_append.1 a with a | a
    ·exact j n a
    ·rw[List.mem_singleton.1 a];exact R
   ·obtain⟨g,l,j⟩:=q;simp only[dF,aa,zA,bP (show s.2.length+[aB.mk z.2 p].length<=34359738368 by simp;omega),qH A (show m<=1048576 by omega)];refine⟨_,rfl,(z.1,s.2++[aB.mk z.2 p]),rfl,g,by simp[B],fun r e=>?_⟩;rcases List.mem_append.1 e with e | e
    ·exact o r e
    ·rw[List.mem_singleton.1 e];exact⟨by show z.2.length<=4;omega,j,C.1,C.2⟩
  ·obtain⟨hc,B,o⟩:=d;exact⟨(s.1,_),by simp only[dF,aa];rfl,hc,⟨rfl,rfl,rfl,rfl,rfl,hcols,by show s.2.length<=5;omega,o⟩⟩
def nT(v:af):Prop:=Fit B20 (.base .val) v/\nY [] v
theorem nT.val{v:af}(h:nT v):Pq v:=⟨h.1,[],by simp,h.2⟩
theorem DZ{k n s:Int}{t:Str}(hk:oO k)(a:oO n)(b:oO s)(c:t.length<=20):nT (af.mk k n s t [] [] []):=
 ⟨dP.2 ⟨Am hk.1 hk.2,Am a.1 a.2,Am b.1 b.2,ajC (s:=t) (by omega),qc,qc,qc⟩,BA⟩
theorem jX{n:Int}(a:0<=n)(b:n<=1000):oO n:=⟨by omega,by omega⟩
theorem aeG{xs:List af}(b:xs.length<=8)(a:∀x,x∈xs->nT x):nT (af.mk 3 0 0 [] xs [] []):=
 ⟨dP.2 ⟨Am (n:=3) (by omega) (by omega),Am (n:=0) (by omega) (by omega),Am (n:=0) (by omega) (by omega),qw,cO (t:=.base .val) (xs:=xs) (by omega) fun x h=>(a x h).1,qc,qc⟩,.mk (fun r h=>by cases h) fun x h=>(a x h).2⟩
theorem XV{c:aS}(h:bK c):Dr ((ny c).bind fun r=>some (r.1,af.mk 1 r.2 0 [] [] [] [])) nT:=
 Dr.bind (BD h) fun c1 n a b=>.ret a (DZ (jX (by omega) (by omega)) b (jX (by omega) (by omega)) (by simp))
theorem afl{c:aS}(h:bK c):Dr ((xK c).bind fun r=>some (r.1,af.mk 2 0 0 r.2 [] [] [])) nT:=
 Dr.bind (adh h) fun c1 n a b=>.ret a (DZ (jX (by omega) (by omega)) (jX (by omega) (by omega)) (jX (by omega) (by omega)) b)
theorem Xf:∀(n:Nat),(∀ {c:aS} (b:Nat),bK c->1<=b->b<=3->2*b<=n->Dr ((eu n).1 c (b:Int)) nT)/\∀ {c:aS} (b:Nat),bK c->1<=b->b<=3->2*b<=n+1->Dr ((eu n).2 c (b:Int)) nT
 | 0=>⟨fun b _ f _ h=>absurd h (by omega),fun b _ f _ h=>absurd h (by omega)⟩
 | n+1=>by
  obtain⟨g,j⟩:=Xf n;refine⟨fun {c} b h f o y=>?_,fun {c} b h f o y=>?_⟩
  ·show Dr (xO (eu n).1 (eu n).2 c b) nT
   unfold xO;simp only[aC];refine Dr.bind (DN h _ (by simp)) fun c1 m a z=>?_
   obtain⟨m,rfl,H⟩:∃k:Nat,m=(k:Int)/\k<=8:=by
    simp at z;exact⟨m.toNat,by omega,by omega⟩
   refine Dr.of (ig (fun (s:aS×List af) (i:Nat)=>((s.1.b,s.1.i,s.1.h,(b:Int),0,0,0,[],[],[],[],3,0,0,[],s.2,[],[],(m:Int),(i:Int)):(List Int)×Int×Int×Int×Int×Int×Int×Str×(List af)×(List Str)×(List aB)×Int×Int×Int×Str×(List af)×(List Str)×(List aB)×Int×Int)) m
    (fun i s=>bK s.1/\s.2.length=i/\∀x,x∈s.2->nT x) (fun (r:aS×af)=>bK r.1/\nT r.2) (fun i s p l=>?_) (fun s l=>?_) (c1,[]) ⟨a,rfl,fun x d=>(by cases d)⟩)
   ·obtain⟨hc,q,d⟩:=l;obtain⟨A,t,B,C,D⟩:=j b hc f o (by omega);simp only[cnt_lt p,ab,B,zA,bP (show s.2.length+[t].length<=34359738368 by simp;omega),qH p (show m<=1048576 by omega)];refine⟨(A,s.2++[t]),rfl,C,by simp[q],fun x e=>?_⟩;rcases List.mem_append.1 e with e | e
    ·exact d x e
    ·rw[List.mem_singleton.1 e];exact D
   ·obtain⟨hc,q,d⟩:=l;exact⟨(s.1,af.mk 3 0 0 [] s.2 [] []),by simp only[dF,aa],hc,aeG (by omega) d⟩
  ·show Dr (xN (eu n).1 (eu n).2 c b) nT
   unfold xN iH bD;simp only[aC,zA];refine Dr.bif (fun u=>?_) fun _=>Dr.bind (oW h 4) fun c1 x a _=>Dr.bif (fun _=>afl a) fun _=>XV a
   have u:1<(b:Int):=by simpa using u
   have E:w64 ((b:Int)-1)=((b-1:Nat):Int):=by rw[bT (by omega) (by omega)];omega
   rw[E];refine Dr.bind (oW h 4) fun c1 x a _=>Dr.bif (fun _=>?_) fun _=>Dr.bind (oW a 4) fun c2 x w _=>Dr.bif (fun _=>afl w) fun _=>XV w
   exact Dr.bind (g (b-1) a (by omega) (by omega) (by omega)) fun c3 v F G=>.ret F G
theorem aeH{c:aS}(h:bK c):Dr (zo c 3) nT:=(Xf (siz c+9)).1 3 h (by omega) (by omega) (by omega)
theorem Zg{c:aS}(h:bK c):Dr (xM c) nT:=by
 unfold xM bD;simp only[aC,zA];refine Dr.bind (dB h 9) fun c1 n l f=>?_
 have u:=f.2 (by omega);obtain⟨m,rfl⟩:=uZ f.1;refine Dr.of (ig (fun (s:aS×List af) (i:Nat)=>((s.1.b,s.1.i,s.1.h,0,0,0,[],[],[],[],3,0,0,[],s.2,[],[],(m:Int),(i:Int)):(List Int)×Int×Int×Int×Int×Int×Str×(List af)×(List Str)×(List aB)×Int×Int×Int×Str×(List af)×(List Str)×(List aB)×Int×Int)) m
  (fun i s=>bK s.1/\s.2.length=i/\∀x,x∈s.2->nT x) (fun (r:aS×af)=>bK r.1/\nT r.2) (fun i s g e=>?_) (fun s e=>?_) (c1,[]) ⟨l,rfl,fun x a=>(by cases a)⟩)
 ·obtain⟨hc,j,a⟩:=e;obtain⟨o,k,p,q,t⟩:=BD hc;simp only[cnt_lt g,ab,p,zA,bP (show s.2.length+[af.mk 1 k 0 [] [] [] []].length<=34359738368 by simp;omega),qH g (show m<=1048576 by omega)];refine⟨(o,s.2++[af.mk 1 k 0 [] [] [] []]),rfl,q,by simp[j],fun x d=>?_⟩;rcases List.mem_append.1 d with d | d
  ·exact a x d
  ·rw[List.mem_singleton.1 d];exact DZ (jX (by omega) (by omega)) t (jX (by omega) (by omega)) (by simp)
 ·obtain⟨hc,j,a⟩:=e;exact⟨(s.1,af.mk 3 0 0 [] s.2 [] []),by simp only[dF,aa],hc,aeG (by omega) a⟩
theorem ac2{c:aS}(h:bK c):Dr (Kr c) Pq:=by
 unfold Kr bD iH kU aG;simp only[aC,zA];have up:∀ {x:Option (aS×af)},Dr x nT->Dr x Pq:=fun h=>h.mono fun y g=>g.val
 refine Dr.bind (dB h 10) fun c1 x d _=>Dr.bif (fun _=>up (XV d)) fun _=>Dr.bif (fun _=>up (XV d)) fun _=>Dr.bif (fun _=>up (XV d)) fun _=>Dr.bif (fun _=>up (afl d)) fun _=>Dr.bif (fun _=>?_) fun _=>Dr.bif (fun _=>?_) fun _=>Dr.bif (fun _=>?_) fun _=>Dr.bif (fun _=>?_) fun _=>?_
 ·exact Dr.bind (aeH d) fun c2 v e f=>.ret e f.val
 ·exact Dr.bind (Zg d) fun c2 v e f=>.ret e f.val
 ·exact Dr.bind (BD d) fun c2 a e f=>Dr.bind (BD e) fun c3 b i j=>.ret i (DZ (jX (by omega) (by omega)) f j (by simp)).val
 ·refine Dr.bind (dB d 8) fun c2 a e f=>.ret e (DZ (jX (by omega) (by omega)) ?_ (jX (by omega) (by omega)) (by simp)).val
  have:=f.2 (by omega);show oO (w64 (1+a))
  rw[bT (by omega) (by omega)];exact jX (by omega) (by omega)
 ·exact Dr.bind (QT d) fun c2 v e f=>.ret e f.val
theorem X9:∀(xs:List Int) {c:aS},bK c->Dr (mZ c xs) fun ys=>ys.length=xs.length/\∀n,n∈ys->oO n
 | [],c,h=>.ret h ⟨rfl,fun n b=>by cases b⟩
 | x::r,c,h=>by
  unfold mZ;refine Dr.bind (dB h 4) fun c1 a f d=>Dr.bind (X9 r f) fun c2 ys g e=>.ret g ⟨by simp[e.1],fun n b=>?_⟩
  have:=d.2 (by omega);rcases ba.1 b with b | b
  ·rw[b];exact jX d.1 (by show a<=1000;omega)
  ·exact e.2 n b
theorem aav:∀(rs:List aB) {c:aS},bK c->(∀r,r∈rs->QL r)->Dr (lW c rs) fun qs=>qs.length=rs.length/\∀r,r∈qs->QL r
 | [],c,h,_=>.ret h ⟨rfl,fun n g=>by cases g⟩
 | x::r,c,h,b=>by
  unfold lW;have d:=b x aq;refine Dr.bind (X9 x.cells h) fun c1 ys i e=>Dr.bind (aav r i fun y j=>b y (ao _ j)) fun c2 qs k f=>.ret k ⟨by simp[f.1],fun q a=>?_⟩
  rcases ba.1 a with rfl | a
  ·exact⟨by show ys.length<=4;rw[e.1];exact d.1,e.2,d.2.2⟩
  ·exact f.2 q a
theorem abo{v:af}{a:Int}(h:Yl v)(u:0<=a)(w:a<=1000):∃y,ng a v=some y/\Pq y:=by
 have hf:=h.val.fit;have hk:(v.kind != 5)=false:=by rw[h.k];rfl
 have m:decide (a<0)=false:=ac (by omega);unfold ng aG;simp only[aC,hk,m,aa,aat v hf,zA,iI v hf];cases vld v with
 | false=>exact⟨_,rfl,(DZ (jX (by omega) (by omega)) (jX (by omega) (by omega)) (jX (by omega) (by omega)) (by simp)).val⟩
 | true=>
  have hlen:=h.len;simp only[aL,aa];refine ig (fun (s:List aB) (i:Nat)=>((a,0,0,0,[],[],[],[],v.kind,v.n,v.step,v.text,v.list,v.columns,s,(i:Int)):Int×Int×Int×Int×Str×(List af)×(List Str)×(List aB)×Int×Int×Int×Str×(List af)×(List Str)×(List aB)×Int)) v.rows.length
   (fun i s=>s.length=v.rows.length/\∀r,r∈s->QL r) _ (fun i s p e=>?_) (fun s e=>?_) v.rows ⟨rfl,h.rows⟩
  ·obtain⟨g,d⟩:=e;obtain⟨x,hget⟩:∃x,s[i]?=some x:=⟨_,zF (by omega)⟩;have j:=d x (zG hget);have b:decide ((i:Int)<(s.length:Int))=true:=by simp;omega
   simp only[b,ab,aQ,hget,zA,aw,qH p (show v.rows.length<=1048576 by omega)];refine⟨s.set i (aB.mk x.cells [aj.mk a (i:Int)]),rfl,by rw[List.length_set];exact g,fun r f=>?_⟩;rcases mem_set f with f | rfl
   ·exact d r f
   ·refine⟨j.1,j.2.1,by simp,cO (by simp) fun o q=>?_⟩;rw[List.mem_singleton.1 q,Eg];exact⟨Am (by show -1000000000<=a;omega) (by show a<=1000000000;omega),Am (by show -1000000000<=(i:Int);omega) (by show (i:Int)<=1000000000;omega)⟩
  ·obtain⟨g,d⟩:=e;have b:decide (((v.rows.length:Nat):Int)<(s.length:Int))=false:=by simp;omega
   exact⟨af.mk v.kind v.n v.step v.text v.list v.columns s,by simp only[b,aa],Yl.val ⟨h.k,h.n,h.s,h.t,h.l,h.c,by show s.length<=5;omega,d⟩⟩
theorem abp{c:aS}(h:bK c){a:Int}(e:0<=a)(f:a<=1000):Dr (qZ c a) Pq:=by
 unfold qZ;refine Dr.bind (QT h) fun c1 v g b=>Dr.bind (aav v.rows g b.rows) fun c2 rs i d=>Dr.pbind (abo ⟨b.k,b.n,b.s,b.t,b.l,b.c,?_,d.2⟩ e f) fun y j=>.ret i j
 show rs.length<=5
 rw[d.1];exact b.len
def VD(l:List ak):Prop:=l.length<=4/\∀b,b∈l->b.name.length<=20/\Pq b.value
theorem adx{c:aS}(h:bK c):Dr (jR c) VD:=by
 unfold jR;simp only[aC];refine Dr.bind (dB h 5) fun c1 n B w=>?_
 have P:=w.2 (by omega);obtain⟨m,rfl⟩:=uZ w.1;have nm:∀s,s∈([[97],[98],[99]]:List Str)->s.length<=20:=Z4.2;refine Dr.of (ig (fun (s:aS×List ak) (i:Nat)=>((s.1.b,s.1.i,s.1.h,s.2,(m:Int),(i:Int)):(List Int)×Int×Int×(List ak)×Int×Int)) m
  (fun i s=>bK s.1/\s.2.length=i/\∀b,b∈s.2->b.name.length<=20/\Pq b.value) (fun (r:aS×List ak)=>bK r.1/\VD r.2) (fun i s g j=>?_) (fun s j=>?_) (c1,[]) ⟨B,rfl,fun x d=>(by cases d)⟩)
 ·obtain⟨hc,k,d⟩:=j;obtain⟨Q,y,C,D,E⟩:=ac2 hc;obtain⟨R,F,G,z⟩:=uF D 3;have more:∀ {v:af} {t:Str},Pq v->t∈([[97],[98],[99]]:List Str)->∀b,b∈s.2++[ak.mk t v]->b.name.length<=20/\Pq b.value:=fun H I b e=>by
   rcases List.mem_append.1 e with e | e
   ·exact d b e
   ·rw[List.mem_singleton.1 e];exact⟨nm _ I,H⟩
  simp only[cnt_lt g,ab,C,G,zA];cases F with
  | false=>
   obtain⟨l,f,o,p,q⟩:=Kz z [[97],[98],[99]] (by simp);simp only[aa,o,zA,bP (show s.2.length+[ak.mk f y].length<=34359738368 by simp;omega),qH g (show m<=1048576 by omega)];exact⟨(l,s.2++[ak.mk f y]),rfl,p,by simp[k],more E q⟩
  | true=>
   obtain⟨S,u,J,K,T,L⟩:=gX z 3;have:=L (by omega);have M:w64 (1+u)=1+u:=bT (by omega) (by omega);obtain⟨U,A,N,k9,O⟩:=abp K (a:=1+u) (by omega) (by omega);obtain⟨l,f,o,p,q⟩:=Kz k9 [[97],[98],[99]] (by simp);simp only[ab,J,M,N,o,zA,bP (show s.2.length+[ak.mk f A].length<=34359738368 by simp;omega),qH g (show m<=1048576 by omega)];exact⟨(l,s.2++[ak.mk f A]),rfl,p,by simp[k],more O q⟩
 ·obtain⟨hc,k,d⟩:=j;exact⟨(s.1,s.2),by simp only[dF,aa],hc,by show s.2.length<=4;omega,d⟩
def SH(l:List aF):Prop:=l.length<=3/\∀r,r∈l->Fit B20 (.base .read) r/\nY [] r.result
theorem afY{c:aS}(h:bK c):Dr (lK c) SH:=by
 unfold lK bD;simp only[aC,zA];refine Dr.bind (dB h 4) fun c1 n v o=>?_
 have B:=o.2 (by omega);obtain⟨m,rfl⟩:=uZ o.1;refine Dr.of (ig (fun (s:aS×List aF) (i:Nat)=>((s.1.b,s.1.i,s.1.h,s.2,(m:Int),(i:Int)):(List Int)×Int×Int×(List aF)×Int×Int)) m
  (fun i s=>bK s.1/\s.2.length=i/\∀r,r∈s.2->Fit B20 (.base .read) r/\nY [] r.result) (fun (r:aS×List aF)=>bK r.1/\SH r.2) (fun i s p l=>?_) (fun s l=>?_) (c1,[]) ⟨v,rfl,fun x f=>(by cases f)⟩)
 ·obtain⟨hc,q,f⟩:=l;obtain⟨c',r,e,kc,j,t,k,u⟩:=abW hc;have w:w64 (50+(i:Int))=50+(i:Int):=bT (by omega) (by omega);have a:nT (af.mk 1 (50+(i:Int)) 0 [] [] [] []):=DZ (jX (by omega) (by omega)) (jX (by omega) (by omega)) (jX (by omega) (by omega)) (by simp);have A:∀x:aF,gd (s.2.length+[x].length)=some ():=fun x=>bP (by simp;omega)
  have z:bQ B20 (.int .i64 0):=Am (by omega) (by omega);have more:∀ {x:aF},(Fit B20 (.base .read) x/\nY [] x.result)->∀y,y∈s.2++[x]->Fit B20 (.base .read) y/\nY [] y.result:=fun d y g=>by
   rcases List.mem_append.1 g with g | g
   ·exact f y g
   ·rw[List.mem_singleton.1 g];exact d
  simp only[cnt_lt p,ab,e,w,A,zA,qH p (show m<=1048576 by omega)];have fin:∀x:aF,(Fit B20 (.base .read) x/\nY [] x.result)->∃s':aS×List aF,(some (.inl (c'.b,c'.i,c'.h,s.2++[x],(m:Int),((i+1:Nat):Int))):Option (((List Int)×Int×Int×(List aF)×Int×Int)⊕(aS×List aF)))=some (.inl (s'.1.b,s'.1.i,s'.1.h,s'.2,(m:Int),((i+1:Nat):Int)))/\bK s'.1/\s'.2.length=i+1/\∀r,r∈s'.2->Fit B20 (.base .read) r/\nY [] r.result:=
   fun x d=>⟨(c',s.2++[x]),rfl,kc,by simp[q],more d⟩
  cases (r.kind != 2)<;>cases (r.kind != 3)<;>simp only[ab,aa]
  ·exact fin _ ⟨E8 j t k u a.1,a.2⟩
  ·exact fin _ ⟨E8 j t k qw a.1,a.2⟩
  ·exact fin _ ⟨E8 j z k u a.1,a.2⟩
  ·exact fin _ ⟨E8 j z k qw a.1,a.2⟩
 ·obtain⟨hc,q,f⟩:=l;exact⟨(s.1,s.2),by simp only[dF,aa],hc,by show s.2.length<=3;omega,f⟩
theorem ac0{c:aS}(h:bK c):Dr (lM c) fun w=>w.files.length<=3:=by
 unfold lM;refine Dr.bind (dB h 20) fun c1 a u _=>Dr.bind (dB u 1000) fun c2 b v _=>Dr.bind (oW v 10) fun c3 x t _=>?_
 refine Dr.bif (fun _=>?_) fun _=>?_
 ·refine Dr.bind (dB t 2) fun c4 d y _=>?_
  refine Dr.of (ig (fun (s:aS×List fV) (i:Nat)=>((s.1.b,s.1.i,s.1.h,0,0,[],w64 (999+d),b,s.2,[[102],[103],[104]],((3:Nat):Int),(i:Int)):(List Int)×Int×Int×Int×Int×(List fV)×Int×Int×(List fV)×(List Str)×Int×Int)) 3
   (fun i s=>bK s.1/\s.2.length<=i) (fun (r:aS×bV)=>bK r.1/\r.2.files.length<=3) (fun i s e f=>?_) (fun s f=>?_) (c4,[]) ⟨y,ar _⟩)
  ·obtain⟨hc,g⟩:=f;obtain⟨x,hget⟩:∃x,([[102],[103],[104]]:List Str)[i]?=some x:=⟨_,zF (by simpa using e)⟩;obtain⟨l,m,n,j⟩:=uF hc 3;simp only[cnt_lt e,ab,aQ,hget,zA,aw,n,qH e (show 3<=1048576 by omega)];cases m with
   | true=>exact⟨(l,s.2),rfl,j,by show s.2.length<=i+1;omega⟩
   | false=>
    obtain⟨o,k,p,q,_⟩:=gX j 9;simp only[Bool.not_false,ab,p,zA,bP (show s.2.length+[fV.mk x k].length<=34359738368 by simp;omega)];exact⟨(o,s.2++[fV.mk x k]),rfl,q,by simp;omega⟩
  ·obtain⟨hc,g⟩:=f;exact⟨(s.1,bV.mk (w64 (999+d)) b s.2),by simp only[dF,aa],hc,g⟩
 ·refine Dr.of (ig (fun (s:aS×List fV) (i:Nat)=>((s.1.b,s.1.i,s.1.h,0,0,[],a,b,s.2,[[102],[103],[104]],((3:Nat):Int),(i:Int)):(List Int)×Int×Int×Int×Int×(List fV)×Int×Int×(List fV)×(List Str)×Int×Int)) 3
   (fun i s=>bK s.1/\s.2.length<=i) (fun (r:aS×bV)=>bK r.1/\r.2.files.length<=3) (fun i s e f=>?_) (fun s f=>?_) (c3,[]) ⟨t,ar _⟩)
  ·obtain⟨hc,g⟩:=f;obtain⟨x,hget⟩:∃x,([[102],[103],[104]]:List Str)[i]?=some x:=⟨_,zF (by simpa using e)⟩;obtain⟨l,m,n,j⟩:=uF hc 3;simp only[cnt_lt e,ab,aQ,hget,zA,aw,n,qH e (show 3<=1048576 by omega)];cases m with
   | true=>exact⟨(l,s.2),rfl,j,by show s.2.length<=i+1;omega⟩
   | false=>
    obtain⟨o,k,p,q,_⟩:=gX j 9;simp only[Bool.not_false,ab,p,zA,bP (show s.2.length+[fV.mk x k].length<=34359738368 by simp;omega)];exact⟨(o,s.2++[fV.mk x k]),rfl,q,by simp;omega⟩
  ·obtain⟨hc,g⟩:=f;exact⟨(s.1,bV.mk a b s.2),by simp only[dF,aa],hc,g⟩
structure Z8(y:aA×(List ak)×(List aF)×bV×Int×Int):Prop where
 e:WtE 10300 y.1
 s:VD y.2.1
 t:SH y.2.2.1
 w:y.2.2.2.1.files.length<=3
theorem J5(a:List Int)(h:(a.length:Int)<=1048576):∃y,oU a=some y/\Z8 y:=by
 obtain⟨c0,D,k0⟩:=ajY a h;unfold oU;simp only[dJ,D,zA];have rest:∀ {c:aS} {e:aA},bK c->WtE 10300 e->∃y,((jR c).bind fun g=>(lK g.1).bind fun i=>(lM i.1).bind fun j=>(aU j.1 9).bind fun b=>(aU b.1 5).bind fun d=>
   some (e,g.2,i.2,j.2,w64 (1+b.2),w64 (1+d.2)))=some y/\Z8 y:=fun {c e} hc n=>by
  obtain⟨c1,s,o,p,q⟩:=adx hc;obtain⟨c2,t,r,m,E⟩:=afY p;obtain⟨c3,w,l,k,u⟩:=ac0 m;obtain⟨c4,x,v,A,_⟩:=gX k 9;obtain⟨J,z,F,K,_⟩:=gX A 5;simp only[o,r,l,v,F,zA];exact⟨_,rfl,n,q,E,u⟩
 obtain⟨c1,e,o,p,q⟩:=ZT k0;obtain⟨c2,G,r,m⟩:=uF p 10;simp only[o,r,zA];have bent:∀ {c:aS} {e:aA},bK c->WtE 10300 e->∃y,((dO c 16).bind fun B=>bif B.2 then
   (wB B.1).bind fun C=>(jR C.1).bind fun g=>(lK g.1).bind fun i=>(lM i.1).bind fun j=>(aU j.1 9).bind fun b=>(aU b.1 5).bind fun d=>some (C.2,g.2,i.2,j.2,w64 (1+b.2),w64 (1+d.2))
   else (jR B.1).bind fun g=>(lK g.1).bind fun i=>(lM i.1).bind fun j=>(aU j.1 9).bind fun b=>(aU b.1 5).bind fun d=>some (e,g.2,i.2,j.2,w64 (1+b.2),w64 (1+d.2)))=some y/\Z8 y:=fun {c e} hc n=>by
  obtain⟨c3,H,l,k⟩:=uF hc 16;simp only[l,zA];cases H with
  | true=>
   obtain⟨c4,f,v,A,I⟩:=ahC k;simp only[ab,v,zA];exact rest A I
  | false=>exact rest k n
 cases G with
 | true=>
  obtain⟨c3,f,l,k,u⟩:=agZ m;simp only[ab,l,zA];exact bent k u
 | false=>exact bent m q
inductive Steps:au->au->Prop
 | refl (m):Steps m m
 | over (m):Steps m (ovr m)
 | tick (m):Steps m (tick m)
 | eff (m r) (h:r.time=0):Steps m (CJ m r).1
 | trans {a b c} (h:Steps a b) (k:Steps b c):Steps a c
theorem ajD(m:au):Steps m (ovr m):=.over m
theorem af4(m:au):Steps m (tick m):=.tick m
theorem Tz(m:au)(r:aF)(h:r.time=0):Steps m (CJ m r).1:=.eff m r h
theorem Yw{α:Type}{f:au->α->au×af}:∀(xs:List α) (m:au),(∀m x,x∈xs->Steps m (f m x).1)->Steps m (evL f m xs).1
 | [],m,_=>.refl m
 | x::r,m,h=>by
  have a:=h m x aq;unfold evL;cases b:(f m x).1.over with
  | true=>exact a
  | false=>exact a.trans (Yw r _ fun m y c=>h m y (ao _ c))
theorem Yv{m:au}(p:au×af)(k:au->af->au×af)(h:Steps m p.1)(hk:∀v,Steps p.1 (k p.1 v).1):Steps m (thn p k).1:=by
 unfold thn;cases p.1.over with
 | true=>exact h
 | false=>exact h.trans (hk _)
theorem ado{m:au}(t:Str)(p:au×List af)(h:Steps m p.1):Steps m (tC t p).1:=by
 unfold tC;cases p.1.over with
 | true=>exact h
 | false=>
  cases !Oa t with
  | true=>exact h
  | false=>
   cases t==[99,108,111,99,107]with
   | true=>exact h.trans (Tz _ _ rfl)
   | false=>
    cases (p.2.getD 0 zV).kind==6 with
    | true=>exact h
    | false=>
     cases t==[99,104,97,110,99,101]with
     | true=>
      cases (p.2.getD 0 zV).kind==1 with
      | true=>exact h.trans (Tz _ _ rfl)
      | false=>exact h
     | false=>
      cases (p.2.getD 0 zV).kind==2 with
      | true=>exact h.trans (Tz _ _ rfl)
      | false=>exact h
theorem ajE{f:au->aA->List ak->au×af}{d:Nat}{e:aA}(b:ShX d e)(hf:∀m x c,x∈e.args->Steps m (f m x c).1)(m:au)(c:List ak):Steps m (evB f m e c).1:=by
 cases b with
 | mk d _ k0 k9 num tx tl al op two three cl A=>
 unfold evB;cases (m.over||(m.steps==200))with
 | true=>exact ajD m
 | false=>
 have a:=af4 m;have g:∀c,Steps m (evL (fun m x=>f m x c) (tick m) e.args).1:=fun c=>a.trans (Yw _ _ fun m x b=>hf m x c b)
 simp only[aa];by_cases j:e.kind=1
 ·rw[j];exact a
 by_cases k:e.kind=2
 ·rw[k];exact a
 by_cases l:e.kind=3
 ·rw[l];exact a
 by_cases n:e.kind=4
 ·rw[n];simp only[show ((4:Int)==1)=false from rfl,show ((4:Int)==2)=false from rfl,show ((4:Int)==3)=false from rfl,beq_self_eq_true,aa,ab];rw[o9];exact g c
 by_cases o:e.kind=5
 ·rw[o];simp only[show ((5:Int)==1)=false from rfl,show ((5:Int)==2)=false from rfl,show ((5:Int)==3)=false from rfl,show ((5:Int)==4)=false from rfl,beq_self_eq_true,aa,ab];exact ado _ _ (g c)
 by_cases h:e.kind=7
 ·have p:=two (.inl h);rw[h];simp only[show ((7:Int)==1)=false from rfl,show ((7:Int)==2)=false from rfl,show ((7:Int)==3)=false from rfl,show ((7:Int)==4)=false from rfl,show ((7:Int)==5)=false from rfl,beq_self_eq_true,aa,ab];exact Yv _ _ (a.trans (hf _ _ _ (dK (by omega)))) fun v=>hf _ _ _ (dK (by omega))
 by_cases i:e.kind=8
 ·have B:=three i;rw[i];simp only[show ((8:Int)==1)=false from rfl,show ((8:Int)==2)=false from rfl,show ((8:Int)==3)=false from rfl,show ((8:Int)==4)=false from rfl,show ((8:Int)==5)=false from rfl,show ((8:Int)==7)=false from rfl,beq_self_eq_true,aa,ab];refine Yv _ _ (a.trans (hf _ _ _ (dK (by omega)))) fun v=>?_
  cases v.kind==6 with
  | true=>exact .refl _
  | false=>
   cases G5 v with
   | true=>exact hf _ _ _ (dK (by omega))
   | false=>exact hf _ _ _ (dK (by omega))
 by_cases k9':e.kind=9
 ·have p:=two (.inr k9');rw[k9'];simp only[show ((9:Int)==1)=false from rfl,show ((9:Int)==2)=false from rfl,show ((9:Int)==3)=false from rfl,show ((9:Int)==4)=false from rfl,show ((9:Int)==5)=false from rfl,show ((9:Int)==7)=false from rfl,show ((9:Int)==8)=false from rfl,beq_self_eq_true,aa,ab];refine Yv _ _ (a.trans (hf _ _ _ (dK (by omega)))) fun v=>?_
  cases v.kind==6 with
  | true=>exact .refl _
  | false=>
   cases v.kind != 3 with
   | true=>exact .refl _
   | false=>
    simp only[aa];rw[o9];exact Yw _ _ fun m x _=>hf _ _ _ (dK (by omega))
 have q:(e.kind==1)=false:=by simpa using j
 have r:(e.kind==2)=false:=by simpa using k
 have s:(e.kind==3)=false:=by simpa using l
 have t:(e.kind==4)=false:=by simpa using n
 have u:(e.kind==5)=false:=by simpa using o
 have w:(e.kind==7)=false:=by simpa using h
 have y:(e.kind==8)=false:=by simpa using i
 have z:(e.kind==9)=false:=by simpa using k9'
 simp only[q,r,s,t,u,w,y,z,aa];rw[o9];exact g c
theorem aju:∀(d:Nat) (e:aA) (m:au) (c:List ak),ShX d e->Steps m (ev m e c).1
 | 0,e,m,c,a=>by cases a
 | d+1,e,m,c,a=>by
  rw[XL m e c a];refine ajE a (fun m x c b=>?_) m c;cases a with
  | mk d _ k0 k9 num tx tl al op two three cl f=>exact aju d x m c (f x b)
structure RdI(m:au):Prop where
 num:∀(j:Nat) (x:aF),m.reads[j]?=some x->x.time=((m.reads.take j).countP (iO x):Nat)
 res:∀x,x∈m.reads->(rdE m.tape x).getD (resV m.w m.cell m.version x)=x.result
theorem abY{m g:au}(h:Steps m g):RdI m->RdI g:=by
 induction h with
 | refl m=>exact id
 | over m=>exact fun h=>⟨h.num,h.res⟩
 | tick m=>exact fun h=>⟨h.num,h.res⟩
 | eff m r i=>
  intro h;refine⟨fun j x a=>?_,fun x b=>?_⟩
  ·have a:(m.reads++[aF.mk r.kind r.n (yU m r).time r.text (Gl m r)])[j]?=some x:=a;show x.time=(((m.reads++[aF.mk r.kind r.n (yU m r).time r.text (Gl m r)]).take j).countP (iO x):Nat)
   by_cases c:j<m.reads.length
   ·rw[List.getElem?_append_left c]at a;rw[List.take_append_of_le_length (by omega)];exact h.num j x a
   ·have d:j=m.reads.length:=by
     have:=(zC.1 a).1;simp at this;omega
    subst d;rw[List.getElem?_append_right (ar _),Nat.sub_self]at a;cases a
    rw[List.take_left];show r.time+(m.reads.countP (iO r):Nat)=_
    rw[i,Int.zero_add];rfl
  ·have b:x∈m.reads++[aF.mk r.kind r.n (yU m r).time r.text (Gl m r)]:=b;rcases List.mem_append.1 b with b | b
   ·exact h.res x b
   ·rw[List.mem_singleton.1 b];rfl
 | trans h k e f=>exact fun q=>f (e q)
theorem ad2(t:List aF)(r:aF):rdE t r=(kR t r).map (·.result):=by
 unfold rdE kR;suffices h:∀(i:Nat),fP (fun _ (x:aF)=>bif smB x r then some x.result else none) i t=(t.find? fun x=>kH x r).map (·.result)from h 0
 induction t with
 | nil=>intro i;rfl
 | cons x l ih=>
  intro i;have a:smB x r=kH x r:=by
   rw[Bool.eq_iff_iff,Bj];unfold smB;simp only[zI,beq_iff_eq]
  unfold fP;rw[List.find?_cons,a];cases kH x r with
  | true=>rfl
  | false=>exact ih (i+1)
theorem ZQ(l:List aF)(x r:aF):kR (qX l x) r=(kR l r).or (if kH x r=true then some x else none):=by
 unfold qX;cases hh:tq l x with
 | true=>
  simp only[ab];by_cases a:kH x r=true
  ·rw[if_pos a];have:(kR l r).isSome=true:=by
    rw[IW];unfold tq at hh ⊢;rw[List.any_eq_true]at hh ⊢;obtain⟨y,b,c⟩:=hh;exact⟨y,b,VT c a⟩
   obtain⟨z,d⟩:=Option.isSome_iff_exists.1 this;rw[d];rfl
  ·rw[if_neg a];cases kR l r<;>rfl
 | false=>
  simp only[aa];unfold kR;rw[List.find?_append];congr 1;rw[List.find?_cons];by_cases a:kH x r=true
  ·rw[if_pos a,a]
  ·rw[if_neg a,show kH x r=false by simpa using a];rfl
theorem Jt:∀(b a:List aF) (r:aF),kR (gy a b) r=(kR a r).or (kR b r)
 | [],a,r=>by
  show kR a r=(kR a r).or none
  cases kR a r<;>rfl
 | x::b,a,r=>by
  show kR (gy (qX a x) b) r=_
  rw[Jt b (qX a x) r,ZQ];unfold kR;rw[List.find?_cons];by_cases c:kH x r=true
  ·rw[if_pos c,c];cases a.find? (fun y=>kH y r)<;>rfl
  ·rw[if_neg c,show kH x r=false by simpa using c];cases a.find? (fun y=>kH y r)<;>rfl
theorem agz{m:au}(h:RdI m){x y:aF}(q:x∈m.reads)(r:y∈m.reads)(s:kH y x=true):y=x:=by
 obtain⟨i,d⟩:=List.mem_iff_getElem?.1 q;obtain⟨j,c⟩:=List.mem_iff_getElem?.1 r;obtain⟨n,o,p,z⟩:=Bj.1 s;have hk:iO x=iO y:=by unfold iO;rw[n,o,p]
 have f:iO x x=true:=by unfold iO;simp
 have g:iO x y=true:=by unfold iO;simp[n,o,p]
 have A:=h.num i x d;have t:=h.num j y c;have key:∀(a b:Nat) (u:aF),m.reads[a]?=some u->iO x u=true->a<b->(m.reads.take a).countP (iO x)<(m.reads.take b).countP (iO x):=fun a b u v hk w=>by
  have e:m.reads.take (a+1)=m.reads.take a++[u]:=by rw[List.take_add_one,v];rfl
  have B:(m.reads.take (a+1)).countP (iO x)=(m.reads.take a).countP (iO x)+1:=by rw[e,List.countP_append];simp[hk]
  have C:(m.reads.take (a+1)).countP (iO x)<=(m.reads.take b).countP (iO x):=by
   refine List.Sublist.countP_le ?_;rw[show m.reads.take (a+1)=(m.reads.take b).take (a+1) by rw[List.take_take];congr 1;omega];exact List.take_sublist _ _
  omega
 rw[<- hk]at t;rcases Nat.lt_trichotomy i j with k | rfl | l
 ·have:=key i j x d f k;omega
 ·rw[d]at c;cases c;rfl
 ·have:=key j i y c g l;omega
theorem WB{m:au}(h:RdI m)(w':bV){x:aF}(a:x∈m.reads):Good (gy m.tape m.reads) w' m.cell m.version x:=by
 unfold Good;have b:=h.res x a;rw[ad2]at b ⊢;rw[Jt];cases d:kR m.tape x with
 | some y=>
  rw[d]at b;exact b
 | none=>
  have e:(kR m.reads x).isSome=true:=by rw[IW];exact ae5 a
  obtain⟨y,c⟩:=Option.isSome_iff_exists.1 e;have f:=List.mem_of_find?_eq_some c;have g:=List.find?_some c;rw[c,agz h a f g];rfl
theorem Bv:∀(d:Nat) (e:aA) (σ:Str->Str->Prop),(∀s,σ s s)->ShX d e->Z5 σ e e
 | 0,e,_,_,b=>by cases b
 | d+1,e,σ,hσ,b=>by
  cases b with
  | mk d _ k0 k9 num tx tl al op two three cl c=>
  refine .mk σ e e rfl rfl rfl (fun _=>hσ _) (fun _ _ _=>rfl) (fun _ _ i f=>Bv d _ σ hσ (c _ (dK f))) (fun h=>Bv d _ σ hσ (c _ (dK (by have:=two h;omega)))) fun h=>Bv d _ _ (fun s=>?_) (c _ (dK (by have:=two h;omega)))
  by_cases a:s=e.text
  ·exact .inl ⟨a,a⟩
  ·exact .inr ⟨a,a,hσ s⟩
theorem abU{d:Nat}{e:aA}(f:ShX d e)(c:List ak)(t:List aF)(w w':bV)(a b:Int):ev0 e c (gy t (ev0 e c t w a b).1.reads) w' a b=swP (gy t (ev0 e c t w a b).1.reads) w' (ev0 e c t w a b):=by
 unfold ev0;generalize g:au.mk t w a b [] 0 false=m;have n:RdI m:=by subst g;exact⟨fun j x h=>by simp at h,fun x h=>by cases h⟩
 have i:=O0 d e m c f;have k:=abY (aju d e m c f) n;have o:Fine (gy t (ev m e c).1.reads) w' a b m (ev m e c).1:=by
  refine⟨by subst g;rfl,by subst g;rfl,fun x l=>?_⟩;have:=WB k w' l;rw[i.t,i.c,i.v]at this;subst g;exact this
 have:=afg d e e m c c (fun s s'=>s=s') f f (Bv d e _ (fun _=>rfl) f) (fun s s' h=>by rw[h]) o;rw[<- this];subst g;rfl
theorem afF{a:List Int}(c:bQ B47 (.list (.base .u8) a)){k:Option Bool}(hk:(a.length:Int)<=1048576->k=some true):((big a).bind fun b=>bif b then some (true)else k)=some true:=by
 unfold big;rw[zA];by_cases h:(a.length:Int)>1048576
 ·rw[ae h];rfl
 ·rw[ac h];exact hk (by omega)
theorem aaC:∀(l:List ak),(∀b,b∈l->Pq b.value)->∃P:List aj,P.length<=20*l.length/\∀b,b∈l->VOk P b.value
 | [],_=>⟨[],by simp,fun b a=>by cases a⟩
 | x::r,h=>by
  obtain⟨P,e,hp⟩:=(h x aq).org;obtain⟨Q,f,d⟩:=aaC r fun b a=>h b (ao _ a)
  refine⟨P++Q,by simp only[a6,List.length_cons];omega,fun b a=>?_⟩;rcases ba.1 a with rfl | a
  ·exact⟨(h b aq).fit,xX (fun o c=>List.mem_append_left _ c) hp⟩
  ·exact⟨(d b a).fit,xX (fun o c=>List.mem_append_right _ c) (d b a).org⟩
theorem VK{t:List aF}(h:SH t):bQ B20 (.list (.base .read) t):=cO (by have:=h.1;omega) fun r a=>(h.2 r a).1
theorem KE{P:List aj}{o:fC}(h:aa4 P o):bQ B20 (.list (.base .read) o.reads):=cO (by have:=h.len;have:=h.s2;omega) fun r a=>(h.rd r a).1
theorem Na{r:aF}(h:Fit B20 (.base .read) r):Fit B20 (.base .val) r.result:=(tu.1 h).2.2.2.2
theorem TJ{P:List aj}{o:fC}(h:aa4 P o):pG o o=some true:=by
 unfold pG;simp only[aC,beq_self_eq_true,ab,zW _ _ h.v.fit,Gj,zA,EG _ _ (KE h)]
theorem ad1(o:fC):wH o=o:=by
 obtain⟨v,r,s⟩:=o;cases v;rfl
theorem ace{P:List aj}{t R:List aF}(b:SH t)(c:∀r,r∈R->Fit B20 (.base .read) r/\nY P r.result)(e:R.length<=200):acW P (gy t R):=by
 have:=Iq t R;have:=b.1;refine⟨by omega,fun x a=>?_⟩;rcases Rw a with a | a
 ·exact⟨Na (b.2 x a).1,xX (fun o d=>by cases d) (b.2 x a).2⟩
 ·exact⟨Na (c x a).1,(c x a).2⟩
theorem D5(a:List Int)(C:bQ B47 (.list (.base .u8) a)):FnReplayedTape a=some true:=by
 refine afF C fun D=>?_
 obtain⟨⟨e,c,t,w,x,y⟩,E,k⟩:=J5 a D;have R:wtE e<=10300:=k.e;have q:VD c:=k.s;have d:SH t:=k.t;have S:w.files.length<=3:=k.w;obtain⟨P,T,hc⟩:=aaC c fun b F=>(q.2 b F).2
 have G:=q.1;have g:ScD P 40 c:=⟨by omega,hc⟩;obtain⟨v,u,z,l⟩:=abb e (by omega);have hTp:acW P t:=⟨by have:=d.1;omega,fun r A=>⟨Na (d.2 r A).1,xX (fun o H=>by cases H) (d.2 r A).2⟩⟩;obtain⟨o,I,o2,f,m,n⟩:=Jv (by omega) (a:=x) (b:=y) u z l g hTp (w:=w) (by omega);have hOl:=f.len;have J:=f.s2;have K:kM t o.reads=some (gy t o.reads):=Az t o.reads (VK d) (KE f) (by have:=d.1;omega);have hTm:=ace d f.rd (by omega);obtain⟨o',L,U,M,h,i⟩:=Jv (by omega) (a:=x) (b:=y) u z l g hTm (w:=bV.mk 777 0 []) (by simp);have hsame:o'=o:=by
  cases v with
  | false=>rw[n rfl,i rfl]
  | true=>
   have B:=m rfl;have N:=h rfl;rw[N];have p:o.reads=(ev0 e c t w x y).1.reads:=by rw[B];rfl
   rw[p,B];unfold evO;rw[abU (l rfl) c t w (bV.mk 777 0 []) x y];rfl
 subst hsame;have j:bQ B20 (.list (.base .read) (gy t o'.reads)):=Zj (VK d) (KE f) (by have:=d.1;omega);have O:kM (gy t o'.reads) o'.reads=some (gy t o'.reads):=by
  have Q:=(Iq t o'.reads).2;rw[Az _ _ j (KE f) (by have:=d.1;omega),Xb]
 simp only[E,dJ,ad1,I,o2,K,L,O,TJ f,EG _ _ j,Gj,aL,aa,zA]
