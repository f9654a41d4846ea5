import Derived.Test.YtngjomkjlonfpaaGreatHist1
set_option linter.unusedSimpArgs false
set_option linter.unusedVariables false
/- Plain laws: drawing, step by step; drawn expressions and texts. Plain laws: drawn cells. -/
namespace Go.Proofs.YtngjomkjlonfpaaGreat
open Go.Abs Go.Proofs
def Dr{α:Type}(x:Option (bC×α))(P:α->Prop):Prop:=∃c y,x=some (c,y)/\dB c/\P y
theorem Dr.bind{α β:Type}{x:Option (bC×α)}{P:α->Prop}{f:bC×α->Option (bC×β)}{Q:β->Prop}(a:Dr x P)(b:∀c y,dB c->P y->Dr (f (c,y)) Q):Dr (x.bind f) Q:=by
 obtain⟨c,y,e,k,p⟩:=a;rw[e];exact b c y k p
theorem Dr.pbind{α β:Type}{x:Option α}{P:α->Prop}{f:α->Option (bC×β)}{Q:β->Prop}(a:∃y,x=some y/\P y)(b:∀y,P y->Dr (f y) Q):Dr (x.bind f) Q:=by
 obtain⟨y,e,p⟩:=a;rw[e];exact b y p
theorem Dr.gd{n:Nat}{β:Type}{f:Unit->Option (bC×β)}{Q:β->Prop}(h:n<=34359738368)(a:Dr (f ()) Q):Dr ((gd n).bind f) Q:=by
 rw[bD h];exact a
theorem Dr.bif{β:Type}{b:Bool}{x y:Option (bC×β)}{Q:β->Prop}(a:b=true->Dr x Q)(c:b=false->Dr y Q):Dr (bif b then x else y) Q:=by
 cases b with
 | true=>exact a rfl
 | false=>exact c rfl
theorem Dr.ret{β:Type}{c:bC}{y:β}{Q:β->Prop}(h:dB c)(a:Q y):Dr (some (c,y)) Q:=⟨c,y,rfl,h,a⟩
theorem Dr.of{β:Type}{x:Option (bC×β)}{Q:β->Prop}(h:∃r,x=some r/\dB r.1/\Q r.2):Dr x Q:=by
 obtain⟨⟨c,y⟩,e,k,q⟩:=h;exact⟨c,y,e,k,q⟩
theorem Dr.mono{β:Type}{x:Option (bC×β)}{P Q:β->Prop}(h:Dr x P)(a:∀y,P y->Q y):Dr x Q:=by
 obtain⟨c,y,e,k,p⟩:=h;exact⟨c,y,e,k,a y p⟩
theorem dJ{c:bC}(h:dB c)(n:Int):Dr (aU c n) fun x=>0<=x/\(0<n->x<n):=by
 obtain⟨c',x,e,k,p,q⟩:=gZ h n;exact⟨c',x,e,k,p,q⟩
theorem ajg{c:bC}(h:dB c)(n:Int):Dr (qP c n) fun _=>True:=by
 obtain⟨c',x,e,k⟩:=Eg h n;exact⟨c',x,e,k,trivial⟩
theorem iF{c:bC}(h:dB c)(xs:List Str)(a:xs≠[]):Dr (dH c xs) fun s=>s∈xs:=by
 obtain⟨c',x,e,k,p⟩:=adi h xs a;exact⟨c',x,e,k,p⟩
theorem qG{c:bC}(h:dB c)(xs:List Int)(a:xs≠[]):Dr (jO c xs) fun s=>s∈xs:=by
 obtain⟨c',x,e,k,p⟩:=abN h xs a;exact⟨c',x,e,k,p⟩
abbrev fZ(e:af):Prop:=Fit B20 (.base .expr) e
theorem nO{k n:Int}{s:Str}{xs:List af}(a:aX B20 (.int .i64 k))(b:aX B20 (.int .i64 n))(c:(s.length:Int)<=1048576)(d:(xs.length:Int)<=1048576)(e:∀x,x∈xs->fZ x):fZ (af.mk k n s xs):=by
 show Fit B20 (.base .expr) _
 rw[Jq];exact⟨a,b,Ad c,dY d e⟩
theorem ajj{n:Int}(a:-1000000000<=n)(b:n<=1000000000):fZ (af.mk 1 n [] []):=nO (nK (by omega) (by omega)) (nK a b) (by simp) (by simp) fun x c=>(by cases c)
theorem I7{k n:Int}{s:Str}(a:-1000000000<=k)(b:k<=1000000000)(c:-1000000000<=n)(d:n<=1000000000)(f:s.length<=1000):fZ (af.mk k n s []):=nO (nK a b) (nK c d) (by omega) (by simp) fun x e=>(by cases e)
def JE(b:List Str):Prop:=b≠[]/\∀s,s∈b->s.length<=20
theorem kM{n:Int}(a:0<=n)(b:n<=1000):∃e,jX n=some e/\fZ e:=⟨_,rfl,ajj (by omega) (by omega)⟩
theorem Yz{s:Str}(h:s.length<=20):∃e,CP s=some e/\fZ e:=⟨_,rfl,I7 (by omega) (by omega) (by omega) (by omega) (by omega)⟩
theorem jf{s:Str}{xs:List af}(h:s.length<=20)(b:xs.length<=10)(a:∀x,x∈xs->fZ x):∃e,kY s xs=some e/\fZ e:=⟨_,rfl,nO (nK (by omega) (by omega)) (nK (by omega) (by omega)) (by omega) (by omega) a⟩
theorem aeI{n:Int}{a b:af}(g:0<=n)(h:n<=1000)(d:fZ a)(f:fZ b):∃e,jw n a b=some e/\fZ e:=by
 refine⟨_,rfl,nO (nK (by omega) (by omega)) (nK (by omega) (by omega)) (by simp) (by simp) fun x c=>?_⟩;simp only[aP,a8,List.not_mem_nil,or_false]at c;rcases c with rfl | rfl
 ·exact d
 ·exact f
theorem adB{c:bC}{b:List Str}(h:dB c)(i:JE b):Dr (CQ c b) fZ:=by
 unfold CQ;simp only[aP];refine Dr.bind (dJ h 5) fun l x f n=>?_
 refine Dr.bif (fun _=>?_) fun _=>?_
 ·refine Dr.bind (iF f _ (by simp)) fun j s d a=>.ret d (I7 (by omega) (by omega) (by omega) (by omega) ?_)
  simp at a;rcases a with rfl | rfl | rfl | rfl<;>simp
 have num:Dr ((aU l 6).bind fun k=>(jX k.2).bind fun m=>some (k.1,m)) fZ:=by
  refine Dr.bind (dJ f 6) fun j x d a=>?_
  have:=a.2 (by omega);exact Dr.pbind (kM a.1 (by omega)) fun e g=>.ret d g
 refine Dr.bif (fun _=>num) fun _=>Dr.bif (fun _=>num) fun _=>?_
 refine Dr.bind (iF f _ i.1) fun j s d a=>?_
 exact Dr.pbind (Yz (i.2 s a)) fun e g=>.ret d g
theorem mem_set{α:Type}{xs:List α}{i:Nat}{x y:α}(h:y∈xs.set i x):y∈xs\/y=x:=by
 rcases List.mem_or_eq_of_mem_set h with h | h
 ·exact .inl h
 ·exact .inr h
theorem Oe{c:bC}{b:List Str}(h:dB c)(o:JE b):Dr (uT c b) fZ:=by
 unfold uT;simp only[aP];refine Dr.bind (dJ h 4) fun p n q l=>?_
 have H:=l.2 (by omega);obtain⟨m,rfl⟩:=xM l.1;refine Dr.of (mF (fun (s:bC×List af) (i:Nat)=>((s.1.b,s.1.i,s.1.h,b,0,0,[],[],4,0,[],s.2,(m:Int),(i:Int)):(List Int)×Int×Int×(List Str)×Int×Int×Str×(List af)×Int×Int×Str×(List af)×Int×Int)) m
  (fun i s=>dB s.1/\s.2.length=i/\∀x,x∈s.2->fZ x) (fun (r:bC×af)=>dB r.1/\fZ r.2) (fun i s hi j=>?_) (fun s j=>?_) (p,[]) ⟨q,rfl,fun x d=>(by cases d)⟩)
 ·obtain⟨k,g,d⟩:=j;obtain⟨I,J,t,u,v,w⟩:=gZ k 5;have:=w (by omega);obtain⟨e,y,z⟩:=kM v (by omega);obtain⟨A,B,C,k4⟩:=Eg u 4;have hmem:∀x,x∈s.2++[e]->fZ x:=fun x a=>by
   rcases List.mem_append.1 a with a | a
   ·exact d x a
   ·rw[List.mem_singleton.1 a];exact z
  simp only[cnt_lt hi,ab,t,y,C,zA,bD (show s.2.length+[e].length<=34359738368 by simp;omega),Nr hi (show m<=1048576 by omega)];cases B with
  | false=>exact⟨(A,s.2++[e]),rfl,k4,by simp[g],hmem⟩
  | true=>
   obtain⟨D,f,E,F,G⟩:=adB k4 o;have hget:(s.2++[e])[i]?=some e:=by rw[<- g];simp
   simp only[ab,E,zA,au,hget,aw];refine⟨(D,(s.2++[e]).set i f),rfl,F,by simp[g],fun x a=>?_⟩;rcases mem_set a with a | rfl
   ·exact hmem x a
   ·exact G
 ·obtain⟨k,g,d⟩:=j;exact⟨(s.1,af.mk 4 0 [] s.2),by simp only[aV,aa],k,nO (nK (by omega) (by omega)) (nK (by omega) (by omega)) (by simp) (by omega) d⟩
theorem oN{c:bC}{a b:af}(h:dB c)(e:fZ a)(f:fZ b):Dr (jC c a b) fZ:=by
 unfold jC;simp only[aP];exact Dr.bind (ajg h 2) fun g x d _=>Dr.bif (fun _=>.ret d e) fun _=>.ret d f
theorem Lh{c:bC}(h:dB c):Dr (qy c) fZ:=by
 unfold qy;refine Dr.bind (iF h _ (by simp)) fun d s b a=>.ret b (I7 (by omega) (by omega) (by omega) (by omega) ?_)
 simp at a;rcases a with rfl | rfl | rfl | rfl<;>simp
theorem OJ{c:bC}(h:dB c):Dr (uh c) fZ:=by
 unfold uh;simp only[aP];refine Dr.bind (dJ h 4) fun q n t l=>?_
 have J:=l.2 (by omega);obtain⟨m,rfl⟩:=xM l.1;refine Dr.of (mF (fun (s:bC×List af) (i:Nat)=>((s.1.b,s.1.i,s.1.h,0,0,[],[],4,0,[],s.2,(m:Int),(i:Int)):(List Int)×Int×Int×Int×Int×Str×(List af)×Int×Int×Str×(List af)×Int×Int)) m
  (fun i s=>dB s.1/\s.2.length=i/\∀x,x∈s.2->fZ x) (fun (r:bC×af)=>dB r.1/\fZ r.2) (fun i s hi g=>?_) (fun s g=>?_) (q,[]) ⟨t,rfl,fun x a=>(by cases a)⟩)
 ·obtain⟨j,o,a⟩:=g;obtain⟨K,L,u,v,w,z⟩:=gZ j 3;have:=z (by omega);obtain⟨e,A,k⟩:=kM w (by omega);obtain⟨B,M,C,k4,D,E⟩:=gZ v 4;have:=E (by omega);obtain⟨f,F,G⟩:=kM D (by omega);simp only[cnt_lt hi,ab,u,A,C,F,zA,bD (show s.2.length+[af.mk 4 0 [] [e,f]].length<=34359738368 by simp;omega),Nr hi (show m<=1048576 by omega)];refine⟨(B,s.2++[af.mk 4 0 [] [e,f]]),rfl,k4,by simp[o],fun x d=>?_⟩;rcases List.mem_append.1 d with d | d
  ·exact a x d
  ·rw[List.mem_singleton.1 d];refine nO (nK (by omega) (by omega)) (nK (by omega) (by omega)) (by simp) (by simp) fun y p=>?_
   simp only[a8,List.not_mem_nil,or_false]at p;rcases p with rfl | rfl
   ·exact k
   ·exact G
 ·obtain⟨j,o,a⟩:=g;have H:fZ (af.mk 4 0 [] s.2):=nO (nK (by omega) (by omega)) (nK (by omega) (by omega)) (by simp) (by omega) a;obtain⟨e,I,k⟩:=jf (s:=[116,97,98,108,101]) (xs:=[af.mk 2 0 [97,32,98] [],af.mk 4 0 [] s.2]) (by simp) (by simp) fun x a=>by
   simp only[a8,List.not_mem_nil,or_false]at a;rcases a with rfl | rfl
   ·exact I7 (by omega) (by omega) (by omega) (by omega) (by simp)
   ·exact H
  exact⟨(s.1,e),by simp only[aV,aa,I,zA],j,k⟩
theorem Oc{a:af}(b:fZ a):∀x,x∈[a]->fZ x:=fun x c=>by rw[List.mem_singleton.1 c];exact b
theorem NZ{a b:af}(d:fZ a)(e:fZ b):∀x,x∈[a,b]->fZ x:=fun x c=>by
 simp only[a8,List.not_mem_nil,or_false]at c;rcases c with rfl | rfl
 ·exact d
 ·exact e
theorem JL{a b c:af}(e:fZ a)(f:fZ b)(g:fZ c):∀x,x∈[a,b,c]->fZ x:=fun x d=>by
 simp only[a8,List.not_mem_nil,or_false]at d;rcases d with rfl | rfl | rfl
 ·exact e
 ·exact f
 ·exact g
theorem Zc:∀(n:Nat) {a:bC} {b:List Str} (c:Int),dB a->JE b->b.length+2*c.toNat<=1000->c<=n->1<=n->c<=10->Dr (mP n a b c) fZ
 | 0,a,b,c,_,_,_,_,h,_=>absurd h (by omega)
 | n+1,a,b,c,h,p,hl,hc,_,h10=>by
  show Dr (J5 (mP n) a b c) fZ
  unfold J5;simp only[aP];refine Dr.bif (fun _=>Dr.bind (adB h p) fun U x l V=>.ret l V) fun K=>?_
  have K:2<=c:=by simp at K;exact K
  have H:w64 (c-1)=c-1:=bM (by omega) (by omega);rw[H];have ih:∀ {a:bC} {b':List Str},dB a->JE b'->b'.length<=b.length+2->Dr (mP n a b' (c-1)) fZ:=fun L M hl'=>Zc n (c-1) L M (by omega) (by omega) (by omega) (by omega)
  have ihb:∀ {a:bC},dB a->Dr (mP n a b (c-1)) fZ:=fun L=>ih L p (by omega)
  obtain⟨I,N,hb0m⟩:∃I,idx b 0=some I/\I∈b:=by
   cases O:b with
   | nil=>exact absurd O p.1
   | cons x r=>exact⟨x,rfl,aq⟩
  have names:∀s,s∈[[117],[118],I]->s.length<=20:=fun s W=>by
   simp only[a8,List.not_mem_nil,or_false]at W;rcases W with rfl | rfl | rfl
   ·simp
   ·simp
   ·exact p.2 _ hb0m
  simp only[N,zA];refine Dr.bind (dJ h 13) fun U x l V=>?_
  have op:Dr ((aU U 5).bind fun X=>(mP n X.1 b (c-1)).bind fun Y=>(mP n Y.1 b (c-1)).bind fun Z=>(jw (w64 (1+X.2)) Y.2 Z.2).bind fun P=>some (Z.1,P)) fZ:=by
   refine Dr.bind (dJ l 5) fun q y f d=>Dr.bind (ihb f) fun D u i g=>Dr.bind (ihb i) fun B v k4 j=>?_
   have:=d.2 (by omega);have H:w64 (1+y)=1+y:=bM (by omega) (by omega);show Dr ((jw (w64 (1+y)) u v).bind fun P=>some (B,P)) fZ
   rw[H];exact Dr.pbind (aeI (by omega) (by omega) g j) fun e m=>.ret k4 m
  refine Dr.bif (fun _=>op) fun _=>Dr.bif (fun _=>op) fun _=>Dr.bif (fun _=>?_) fun _=>Dr.bif (fun _=>?_) fun _=>Dr.bif (fun _=>?_) fun _=>Dr.bif (fun _=>?_) fun _=>
   Dr.bif (fun _=>?_) fun _=>Dr.bif (fun _=>?_) fun _=>Dr.bif (fun _=>?_) fun _=>Dr.bif (fun _=>?_) fun _=>Dr.bif (fun _=>?_) fun _=>Dr.bif (fun _=>?_) fun _=>?_
  ·refine Dr.bind (iF l _ (by simp)) fun q s f d=>Dr.bind (ihb f) fun D u i g=>Dr.gd (by simp;omega) ?_
   have ls:=names s d;refine Dr.bind (ih i ⟨by simp,fun t o=>?_⟩ (by rw[aR];simp only[List.length_cons,List.length_nil];omega)) fun B v k4 j=>.ret k4 (nO (nK (by omega) (by omega)) (nK (by omega) (by omega)) (by show (s.length:Int)<=_;omega) (by simp) (NZ g j))
   rcases List.mem_append.1 o with o | o
   ·rw[List.mem_singleton.1 o];exact ls
   ·exact p.2 t o
  ·exact Dr.bind (ihb l) fun q u f d=>Dr.bind (ihb f) fun D v i g=>Dr.bind (ihb i) fun B w k4 j=>.ret k4 (nO (nK (by omega) (by omega)) (nK (by omega) (by omega)) (by simp) (by simp) (JL d g j))
  ·refine Dr.bind (iF l _ (by simp)) fun q s f d=>Dr.bind (Oe f p) fun D u i g=>Dr.gd (by simp;omega) ?_
   have ls:=names s d;refine Dr.bind (ih i ⟨by simp,fun t o=>?_⟩ (by rw[aR];simp only[List.length_cons,List.length_nil];omega)) fun B v k4 j=>.ret k4 (nO (nK (by omega) (by omega)) (nK (by omega) (by omega)) (by show (s.length:Int)<=_;omega) (by simp) (NZ g j))
   rcases List.mem_append.1 o with o | o
   ·simp only[a8,List.not_mem_nil,or_false,or_self]at o;rw[o];exact ls
   ·exact p.2 t o
  ·exact Dr.bind (Oe l p) fun q u f d=>.ret f d
  ·refine Dr.bind (iF l _ (by simp)) fun q s f d=>Dr.bind (Oe f p) fun D u i g=>Dr.bind (ihb i) fun B v k4 j=>Dr.bind (oN k4 g j) fun J w C A=>?_
   refine Dr.pbind (jf ?_ (by simp) (Oc A)) fun e m=>.ret C m
   simp at d;rcases d with rfl | rfl<;>simp
  ·refine Dr.bind (iF l _ (by simp)) fun q s f d=>Dr.bind (dJ f 4) fun D y i g=>?_
   have:=g.2 (by omega);refine Dr.pbind (kM g.1 (by omega)) fun Q k=>Dr.bind (Oe i p) fun B u k4 j=>Dr.bind (dJ k4 9) fun J z C A=>?_
   have:=A.2 (by omega);refine Dr.pbind (kM A.1 (by omega)) fun e2 F=>Dr.bind (dJ C 4) fun R z6 G E=>?_
   have:=E.2 (by omega);refine Dr.pbind (kM E.1 (by omega)) fun e3 S=>Dr.pbind (jf (by simp) (by simp) (NZ F S)) fun e4 T=>Dr.bind (oN G j T) fun c7 w k7 p7=>?_
   refine Dr.pbind (jf ?_ (by simp) (NZ k p7)) fun e m=>.ret k7 m
   simp at d;rcases d with rfl | rfl | rfl | rfl<;>simp
  ·refine Dr.bind (Lh l) fun q s f d=>Dr.bind (dJ f 3) fun D y i g=>?_
   have:=g.2 (by omega);refine Dr.pbind (kM g.1 (by omega)) fun Q k=>Dr.bind (OJ i) fun B u k4 j=>Dr.bind (ihb k4) fun J v C A=>Dr.bind (oN C j A) fun R w G E=>?_
   exact Dr.pbind (jf (by simp) (by simp) (JL d k E)) fun e m=>.ret G m
  ·refine Dr.bind (Lh l) fun q s f d=>Dr.bind (Lh f) fun D y i g=>Dr.bind (OJ i) fun B u k4 j=>Dr.bind (ihb k4) fun J v C A=>Dr.bind (oN C j A) fun R w G E=>?_
   exact Dr.pbind (jf (by simp) (by simp) (JL d g E)) fun e m=>.ret G m
  ·refine Dr.bind (OJ l) fun B u k4 j=>Dr.bind (ihb k4) fun J v C A=>Dr.bind (oN C j A) fun R w G E=>?_
   exact Dr.pbind (jf (by simp) (by simp) (Oc E)) fun e m=>.ret G m
  ·refine Dr.bind (dJ l 6) fun q y f d=>?_
   have:=d.2 (by omega);have H:w64 (1+y)=1+y:=bM (by omega) (by omega);show Dr ((jX (w64 (1+y))).bind _) fZ
   rw[H];refine Dr.pbind (kM (by omega) (by omega)) fun Q k=>?_
   exact Dr.pbind (jf (by simp) (by simp) (Oc k)) fun e m=>.ret f m
  ·refine Dr.pbind (jf (by simp) (by simp) fun x hx=>(by cases hx)) fun Q k=>Dr.bind (iF l _ (by simp)) fun q s f d=>?_
   refine Dr.pbind (jf (by simp) (by simp) (Oc (I7 (by omega) (by omega) (by omega) (by omega) ?_))) fun e2 F=>Dr.bind (oN f k F) fun D w i g=>.ret i g
   simp at d;rcases d with rfl | rfl | rfl<;>simp
theorem acX(n:Int):1<=siz n:=by
 cases n with
 | ofNat a=>show 1<=SizeOf.sizeOf (Int.ofNat a);rw[Int.ofNat.sizeOf_spec];omega
 | negSucc a=>show 1<=SizeOf.sizeOf (Int.negSucc a);rw[Int.negSucc.sizeOf_spec];omega
theorem acW{α:Type}[SizeOf α](l:List α):1<=siz l:=by
 cases l with
 | nil=>simp[siz]
 | cons x r=>simp only[siz];rw[List.cons.sizeOf_spec];omega
theorem aiI(c:bC):4<=siz c:=by
 cases c with
 | mk b i h=>
  have a:=acW b;have d:=acX i;have e:=acX h;simp only[siz]at *;rw[bC.mk.sizeOf_spec];omega
theorem ajo{a:bC}{b:List Str}(c:Int)(h:dB a)(d:JE b)(e:b.length<=100)(f:c<=5):Dr (PD a b c) fZ:=by
 have g:=aiI a;have i:=acW b;exact Zc (siz a+siz b+1) c h d (by omega) (by omega) (by omega) (by omega)
theorem ah0{α:Type}(xs:List α)(a b:Nat)(h:a<=b)(c:b<=xs.length):eff.cutL xs (some (a:Int)) (some (b:Int))=some ((xs.take b).drop a):=by
 unfold eff.cutL;simp only[Option.getD_some];rw[if_pos ⟨by omega,by omega,by omega⟩];simp
theorem Sv(a:Str)(b:Int)(h:a.length<=100000):∃l,jM a b=some l/\l.length<=a.length+1/\1<=l.length/\∀s,s∈l->s.length<=a.length:=by
 unfold jM;refine mF (fun (s:List Str×Nat) (i:Nat)=>((a,b,s.1,(s.2:Int),(i:Int)):Str×Int×(List Str)×Int×Int)) (a.length+1) (fun i s=>s.1.length<=i/\s.2<=i/\(a.length<i->1<=s.1.length)/\∀x,x∈s.1->x.length<=a.length) _ (fun i s hi j=>?_) (fun s j=>?_) ([],0) ⟨ar _,ar _,fun h=>absurd h (by omega),fun x k=>(by cases k)⟩
 ·obtain⟨f,m,n,g⟩:=j;have c:decide ((i:Int)<=(a.length:Int))=true:=by simp;omega
  have o:w64 ((i:Int)+1)=((i+1:Nat):Int):=by rw[bM (by omega) (by omega)];omega
  have hmem:∀y,y∈s.1++([(a.take i).drop s.2]:List Str)->y.length<=a.length:=fun y d=>by
   rcases List.mem_append.1 d with d | d
   ·exact g y d
   ·rw[List.mem_singleton.1 d,List.length_drop,a7];omega
  have p:gd (s.1.length+([(a.take i).drop s.2]:List Str).length)=some ():=bD (by simp;omega);simp only[c,ab,ah0 a s.2 i m (by omega),zA,p,o];by_cases q:i=a.length
  ·have e:((i:Int)==(a.length:Int))=true:=by simp;omega
   rw[e,ab];exact⟨(s.1++[(a.take i).drop s.2],i+1),rfl,by simp;exact f,by omega,fun _=>by simp,hmem⟩
  ·have e:((i:Int)==(a.length:Int))=false:=by simp;omega
   have k:=zF (show i<a.length by omega);rw[e,aa];simp only[au,k,zA];cases ((a[i].toNat:Int)==b)with
   | true=>exact⟨(s.1++[(a.take i).drop s.2],i+1),rfl,by simp;exact f,by omega,fun _=>by simp,hmem⟩
   | false=>exact⟨(s.1,s.2),rfl,by simp only;omega,by simp only;omega,fun h=>absurd h (by omega),g⟩
 ·obtain⟨f,m,n,g⟩:=j;have c:decide (((a.length+1:Nat):Int)<=(a.length:Int))=false:=by simp;omega
  exact⟨s.1,by simp only[c,aa],f,n (by omega),g⟩
theorem ad9{c:bC}(h:dB c)(b:Str)(l:List Str)(p:b.length<=100000)(e:l≠[])(f:∀s,s∈l->s.length<=100):Dr (D8 c b l) fun s=>s.length<=b.length+100:=by
 unfold D8;have g:w64 ((b.length:Int)+1)=(b.length:Int)+1:=bM (by omega) (by omega);rw[g];refine Dr.bind (dJ h _) fun q x i d=>Dr.bind (dJ i 6) fun r y a t=>?_
 have u:=d.2 (by omega);obtain⟨m,rfl⟩:=xM d.1;have j:=wZ b m (by omega);have k:=uD b m (by omega);simp only[j,k,zA];refine Dr.bif (fun _=>?_) fun _=>Dr.bif (fun _=>.ret a ?_) fun _=>.ret a (by omega)
 ·refine Dr.bind (iF a l e) fun v s n o=>?_
  have:=f s o;refine Dr.gd (by simp only[a7];omega) (Dr.gd (by simp only[aR,a7,List.length_drop];omega) (.ret n ?_));simp only[aR,a7,List.length_drop];omega
 ·rw[a7];omega
theorem ajS{c:bC}(h:dB c):Dr (HY c) fun s=>s.length<=600:=by
 unfold HY;refine Dr.bind (iF h _ (by simp)) fun W s G B=>Dr.bind (dJ G 4) fun H n I C=>?_
 have X:=C.2 (by omega);obtain⟨m,rfl⟩:=xM C.1;have o:s.length<=5:=by
  simp at B;rcases B with rfl | rfl | rfl | rfl<;>simp
 obtain⟨l,J,Y,Z,_⟩:=Sv s 32 (by omega);simp only[J,zA];refine Dr.of (mF (fun (z:bC×Str) (i:Nat)=>((z.1.b,z.1.i,z.1.h,z.2,(m:Int),(l.length:Int),(i:Int)):(List Int)×Int×Int×Str×Int×Int×Int)) m
  (fun i z=>dB z.1/\z.2.length<=5+130*i) (fun (r:bC×Str)=>dB r.1/\r.2.length<=600) (fun i z hi p=>?_) (fun z p=>?_) (H,s) ⟨I,by omega⟩)
 ·obtain⟨q,K⟩:=p;simp only[cnt_lt hi,ab];have:=mF (g:=fun (a:(List Int)×Int×Int×Str×Int×Int×Int×(List Str)×Int)=>
    bif (decide (a.2.2.2.2.2.2.2.2<a.2.2.2.2.2.1))then
     (aU (bC.mk a.1 a.2.1 a.2.2.1) 4).bind fun k=>
     (dZ k.2).bind fun D=>
     (gd (a.2.2.2.2.2.2.2.1.length+([D]:List Str).length)).bind fun _=>
     some (.inl (k.1.b,k.1.i,k.1.h,a.2.2.2.1,a.2.2.2.2.1,a.2.2.2.2.2.1,a.2.2.2.2.2.2.1,a.2.2.2.2.2.2.2.1++([D]:List Str),w64 (a.2.2.2.2.2.2.2.2+1)))
    else
     (
      (gd (a.2.2.2.1.length+[59,32].length)).bind fun _=>
      (Ig a.2.2.2.2.2.2.2.1 [32]).bind fun E=>
      (gd ((a.2.2.2.1++[59,32]).length+E.length)).bind fun _=>
      some ((.inl (a.1,a.2.1,a.2.2.1,(a.2.2.2.1++[59,32])++E,a.2.2.2.2.1,a.2.2.2.2.2.1,w64 (a.2.2.2.2.2.2.1+1))):((List Int)×Int×Int×Str×Int×Int×Int)⊕(bC×Str))
     ).bind fun r=>some (.inr r)) (fun (y:bC×List Str) (j:Nat)=>((y.1.b,y.1.i,y.1.h,z.2,(m:Int),(l.length:Int),(i:Int),y.2,(j:Int)):(List Int)×Int×Int×Str×Int×Int×Int×(List Str)×Int)) l.length
    (fun j y=>dB y.1/\y.2.length=j/\lens y.2<=19*j) (fun r=>∃z':bC×Str,r=.inl (z'.1.b,z'.1.i,z'.1.h,z'.2,(m:Int),(l.length:Int),((i+1:Nat):Int))/\dB z'.1/\z'.2.length<=5+130*(i+1)) (fun j y F u=>?_) (fun y u=>?_) (z.1,[]) ⟨q,rfl,by simp[lens]⟩
  ·obtain⟨r,e,z',rfl,L,M⟩:=this;exact⟨z',e,L,M⟩
  ·obtain⟨d,f,v⟩:=u;obtain⟨w,N,x,k4,O,P⟩:=gZ d 4;have:=P (by omega);obtain⟨t,A,Q,_⟩:=xC N O (by omega);simp only[cnt_lt F,ab,x,A,zA,bD (show y.2.length+([t]:List Str).length<=34359738368 by simp;omega),Nr F (show l.length<=1048576 by omega)];exact⟨(w,y.2++[t]),rfl,k4,by simp[f],by rw[UO];omega⟩
  ·obtain⟨d,f,v⟩:=u;obtain⟨t,R,S⟩:=YC y.2 [32] (by show y.2.length<4611686018427387904;omega) (by simp only[List.length_cons,List.length_nil];omega);simp only[List.length_cons,List.length_nil]at S;simp only[aV,aa,R,zA,Nr hi (show m<=1048576 by omega)];rw[bD (by simp;omega),zA,bD (by simp;omega),zA,zA];exact⟨_,rfl,(y.1,(z.2++[59,32])++t),rfl,d,by simp;omega⟩
 ·obtain⟨q,K⟩:=p;simp only[aV,aa];obtain⟨w,T,x,k4⟩:=Eg q 12;simp only[x,zA];cases T with
  | false=>exact⟨(w,z.2),rfl,k4,by show z.2.length<=600;omega⟩
  | true=>
   obtain⟨U,t,A,V,Q⟩:=ad9 k4 z.2 ([[59],[32],[120],[59,32,49],[45]]:List Str) (by omega) (by simp) (fun s o=>by
    simp at o;rcases o with rfl | rfl | rfl | rfl | rfl<;>simp)
   simp only[ab,A,zA];exact⟨(U,t),rfl,V,by show t.length<=600;omega⟩
theorem F9:∀s,s∈([[97],[98],[99],[100],[101]]:List Str)->s.length=1:=fun s a=>by
 simp at a;rcases a with rfl | rfl | rfl | rfl | rfl<;>rfl
theorem U2{c:bC}(h:dB c):Dr (Ce c) fun s=>s.length<=120:=by
 unfold Ce;simp only[aP];refine Dr.bind (dJ h 9) fun o x d v=>?_
 have two:Dr ((dH o ([[97],[98],[99],[100],[101]]:List Str)).bind fun g=>(Go.Abs.gd (g.2.length+[32,43,32].length)).bind fun _=>(dH g.1 ([[97],[98],[99],[100],[101]]:List Str)).bind fun i=>
   (Go.Abs.gd ((g.2++[32,43,32]).length+i.2.length)).bind fun _=>some (i.1,(g.2++[32,43,32])++i.2)) fun s=>s.length<=120:=by
  refine Dr.bind (iF d _ (by simp)) fun f s b a=>?_
  have ls:=F9 s a;refine Dr.gd (by simp;omega) (Dr.bind (iF b _ (by simp)) fun p t j k=>?_);have lt:=F9 t k;exact Dr.gd (by simp;omega) (.ret j (by simp;omega))
 refine Dr.bif (fun _=>two) fun _=>Dr.bif (fun _=>two) fun _=>Dr.bif (fun _=>?_) fun _=>Dr.bif (fun _=>?_) fun _=>Dr.bif (fun _=>?_) fun _=>Dr.bif (fun _=>?_) fun _=>Dr.bif (fun _=>?_) fun _=>?_
 ·refine Dr.bind (iF d _ (by simp)) fun f s b a=>?_
  have ls:=F9 s a;exact Dr.gd (by simp;omega) (.ret b (by simp;omega))
 ·refine Dr.bind (dJ d 3) fun f y b a=>?_
  have:=a.2 (by omega);obtain⟨t,q,m,_⟩:=xC y a.1 (by omega);refine Dr.pbind (P:=fun s=>s.length<=19) ⟨t,q,m⟩ fun t m=>Dr.gd (by simp;omega) (Dr.gd (by simp;omega) (Dr.bind (iF b _ (by simp)) fun p s j k=>?_))
  have ls:=F9 s k;exact Dr.gd (by simp;omega) (Dr.gd (by simp;omega) (.ret j (by simp;omega)))
 ·refine Dr.bind (iF d _ (by simp)) fun f s b a=>?_
  have ls:=F9 s a;exact Dr.gd (by simp;omega) (Dr.gd (by simp;omega) (.ret b (by simp;omega)))
 ·refine Dr.bind (iF d _ (by simp)) fun f s b a=>.ret b ?_
  simp at a;rcases a with rfl | rfl | rfl | rfl | rfl<;>simp
 ·refine Dr.bind (iF d _ (by simp)) fun f s b a=>.ret b ?_
  simp at a;rcases a with rfl | rfl | rfl | rfl | rfl | rfl | rfl | rfl | rfl<;>simp
 ·refine Dr.bind (ajo 2 d ⟨by simp,fun s r=>by rw[F9 s r];omega⟩ (by simp) (by omega)) fun f e b a=>?_
  obtain⟨t,u,n⟩:=PW e a;refine Dr.pbind (P:=fun s=>s.length<=2640) ⟨t,u,n⟩ fun t n=>Dr.bif (fun _=>.ret b (by simp)) fun l=>.ret b ?_
  simp at l;omega
theorem ah2{id v k n:Int}{nm cd:Str}(a:-1000000000<=id/\id<=1000000000)(b:-1000000000<=v/\v<=1000000000)(c:-1000000000<=k/\k<=1000000000)(e:nm.length<=1000)(f:cd.length<=1000)(d:-1000000000<=n/\n<=1000000000) :
  Fit B20 (.base .cell) (ah.mk id v k nm cd n):=by
 rw[fM];exact⟨nK a.1 a.2,nK b.1 b.2,nK c.1 c.2,FC (by show nm.length<=_;omega),FC (by show cd.length<=_;omega),nK d.1 d.2⟩
structure alD(id:Int)(x:ah):Prop where
 fit:Fit B20 (.base .cell) x
 id:x.id=id
 v0:1<=x.version
 v3:x.version<=3
 name:x.name.length<=1
 code:x.code.length<=600
 n0:0<=x.n
 n9:x.n<=9
 k0:1<=x.kind
 k4:x.kind<=4
theorem aad{id v k n:Int}{nm cd:Str}(f:0<=id/\id<=1000000)(a:1<=v/\v<=3)(b:1<=k/\k<=4)(d:nm.length<=1)(e:cd.length<=600)(c:0<=n/\n<=9):alD id (ah.mk id v k nm cd n):=
 ⟨ah2 (by omega) (by omega) (by omega) (by omega) (by omega) (by omega),rfl,a.1,a.2,d,e,c.1,c.2,b.1,b.2⟩
theorem aj2{c:bC}(h:dB c)(id:Int)(b:0<=id)(d:id<=1000000):Dr (Cf c id) (alD id):=by
 unfold Cf;refine Dr.bind (dJ h 3) fun q x j i=>Dr.bind (qG j _ (by simp)) fun r k l m=>Dr.bind (iF l _ (by simp)) fun t nm e n=>?_
 have u:=i.2 (by omega);have ln:=F9 nm n;have f:1<=k/\k<=4:=by
  simp at m;omega
 have o:w64 (1+x)=1+x:=bM (by omega) (by omega);have p:=i.1;simp only[o];refine Dr.bif (fun _=>?_) fun _=>Dr.bif (fun _=>?_) fun _=>Dr.bif (fun _=>?_) fun _=>Dr.bif (fun _=>?_) fun _=>?_
 ·refine Dr.bind (iF e _ (by simp)) fun g s k4 a=>.ret k4 (aad ⟨b,d⟩ (by omega) f (by simp) ?_ (by omega))
  simp at a;rcases a with rfl | rfl | rfl<;>simp
 ·exact Dr.bind (U2 e) fun g s k4 a=>.ret k4 (aad ⟨b,d⟩ (by omega) f (by show nm.length<=1;omega) (by show s.length<=600;omega) (by omega))
 ·refine Dr.bind (dJ e 9) fun g y k4 a=>.ret k4 (aad ⟨b,d⟩ (by omega) f (by show nm.length<=1;omega) (by simp) ?_)
  have:=a.2 (by omega);exact⟨a.1,by show y<=9;omega⟩
 ·exact Dr.bind (ajS e) fun g s k4 a=>.ret k4 (aad ⟨b,d⟩ (by omega) f (by show nm.length<=1;omega) a (by omega))
 ·exact .ret e (aad ⟨b,d⟩ (by omega) f (by show nm.length<=1;omega) (by simp) (by omega))
end Go.Proofs.YtngjomkjlonfpaaGreat
/- Plain laws: the pure form of an edit. Plain laws: the inverse of an edit brings the content back. Plain laws: the pure form of batches; a batch and its inverse. Plain laws: drawn notebooks, edits and batches. Plain laws: FnBatches, FnInverseBatches. -/
namespace Go.Proofs.YtngjomkjlonfpaaGreat
noncomputable section
open Go.Abs Go.Proofs
def ins{α:Type}(xs:List α)(n:Nat)(c:α):List α:=xs.take n++[c]++xs.drop n
def del{α:Type}(xs:List α)(n:Nat):List α:=xs.take n++xs.drop (n+1)
def pW(l:Nat)(p:Int):Nat:=min l p.toNat
theorem O9(a:List ah)(b:Int)(c:ah)(h:(a.length:Int)<=1048576):zM a b c=some (ins a (pW a.length b) c):=by
 have e:pW a.length b<=a.length:=Nat.min_le_left _ _;have d:∃m,JX b (a.length:Int)=some m/\pz 0 m=some (pW a.length b:Int):=by
  unfold JX pz pW;by_cases q:b<(a.length:Int)
  ·rw[ae q,ab];refine⟨b,rfl,?_⟩;by_cases f:(0:Int)>b
   ·rw[ae f,ab];congr 1;omega
   ·rw[ac f,aa];congr 1;omega
  ·rw[ac q,aa];refine⟨_,rfl,?_⟩;rw[ac (by omega),aa];congr 1;omega
 obtain⟨m,d,g⟩:=d;have i:gd (0+(a.take (pW a.length b)).length)=some ():=bD (by simp;omega);have j:gd (([]++a.take (pW a.length b)).length+[c].length)=some ():=bD (by simp;omega);have k:gd ((([]++a.take (pW a.length b))++[c]).length+(a.drop (pW a.length b)).length)=some ():=bD (by simp;omega);unfold zM;simp only[d,g,zA,wZ a _ e,uD a _ e,i,j,k];rfl
def qf(x:ah)(b:dM):ah×Int:=
 if b.kind=4 then
  if x.kind=3 then (x,5)
  else if x.version=999 then (x,6)
  else if iM (ah.mk x.id (x.version+1) x.kind b.cell.name b.cell.code x.n)=true then (ah.mk x.id (x.version+1) x.kind b.cell.name b.cell.code x.n,0)else (x,1)
 else if b.kind=5 then
  if x.kind=3 then
   if iM (ah.mk x.id x.version x.kind x.name x.code b.cell.n)=true then (ah.mk x.id x.version x.kind x.name x.code b.cell.n,0)else (x,1)
  else (x,5)
 else if x.kind=2 then
  if x.version=999 then (x,6)
  else if iM (ah.mk x.id (x.version+1) x.kind x.name x.code x.n)=true then (ah.mk x.id (x.version+1) x.kind x.name x.code x.n,0)else (x,1)
 else (x,5)
def nbB(cs:List ah):Bool:=(eU (ak.mk cs)).getD false
def atE(cs:List ah)(id:Int):Int:=dG (fun c=>c.id==id) cs 0
def onE(cs:List ah)(b:dM)(n:Nat)(x:ah):List ah×Int:=
 if b.kind=2 then (del cs n,0)
 else if b.kind=3 then (ins (del cs n) (pW (del cs n).length b.pos) x,0)
 else if (qf x b).2=0 then (cs.set n (qf x b).1,0)else (cs,(qf x b).2)
def apE(cs:List ah)(b:dM):List ah×Int:=
 if nbB cs=true/\1<=b.kind/\b.kind<=6 then
  if b.kind=1 then
   if iM b.cell=true then
    if 0<=atE cs b.cell.id then (cs,3)else if cs.length=8 then (cs,4)else (ins cs (pW cs.length b.pos) b.cell,0)
   else (cs,1)
  else
   match cs[(atE cs b.cell.id).toNat]? with
   | some x=>if atE cs b.cell.id<0 then (cs,2)else onE cs b (atE cs b.cell.id).toNat x
   | none=>(cs,2)
 else (cs,1)
theorem AU{c:ah}(h:Fit B20 (.base .cell) c):cZ c=some (iM c):=by
 obtain⟨b,d,a⟩:=iY c h;unfold iM;rw[a];rfl
theorem aix{n:Int}(a:1<=n)(b:n<=999):aX B20 (.int .i64 (n+1)):=.int .i64 _ (by
 unfold Lit.wf;simp[IntKind.bits,IntKind.signed,IntKind.min,IntKind.max];omega)
theorem Yp(x:ah)(b:dM)(fx:Fit B20 (.base .cell) x)(fb:Fit B20 (.base .edit) b)(e:b.kind=4\/b.kind=5\/b.kind=6)(f:1<=x.version)(g:x.version<=999) :
  ∃r,uS x b=some r/\r.2=(qf x b).2/\(r.2=0->r=qf x b):=by
 rw[vN]at fb;have fc:=fb.2.2;rw[fM]at fc;rw[fM]at fx;have i:w64 (x.version+1)=x.version+1:=bM (by omega) (by omega);have wv:=aix f g;unfold uS qf;rw[i];rcases e with k | k | k
 ·have c:Fit B20 (.base .cell) (ah.mk x.id (x.version+1) x.kind b.cell.name b.cell.code x.n):=by rw[fM];exact⟨fx.1,wv,fx.2.2.1,fc.2.2.2.1,fc.2.2.2.2.1,fx.2.2.2.2.2⟩
  have d:=AU c;rw[k,if_pos rfl];simp only[beq_self_eq_true,ab,show ((4:Int) != 5)=true from rfl,d,zA];by_cases q:x.kind=3
  ·rw[if_pos q,q];exact⟨_,rfl,rfl,fun h=>by cases h⟩
  rw[if_neg q,show (x.kind==3)=false by simpa using q,aa];by_cases a:x.version=999
  ·rw[if_pos a,a];exact⟨_,rfl,rfl,fun h=>by cases h⟩
  rw[if_neg a,show (x.version==999)=false by simpa using a,aa];cases iM (ah.mk x.id (x.version+1) x.kind b.cell.name b.cell.code x.n)with
  | true=>exact⟨_,rfl,rfl,fun _=>rfl⟩
  | false=>exact⟨_,rfl,rfl,fun h=>by cases h⟩
 ·have c:Fit B20 (.base .cell) (ah.mk x.id x.version x.kind x.name x.code b.cell.n):=by rw[fM];exact⟨fx.1,fx.2.1,fx.2.2.1,fx.2.2.2.1,fx.2.2.2.2.1,fc.2.2.2.2.2⟩
  have d:=AU c;rw[k,if_neg (by decide),if_pos rfl];simp only[beq_self_eq_true,Gw,show ((5:Int)==4)=false from rfl,ab,aa,d,zA];by_cases q:x.kind=3
  ·rw[if_pos q,show (x.kind != 3)=false by simpa using q,aa];cases iM (ah.mk x.id x.version x.kind x.name x.code b.cell.n)with
   | true=>exact⟨_,rfl,rfl,fun _=>rfl⟩
   | false=>exact⟨_,rfl,rfl,fun h=>by cases h⟩
  ·rw[if_neg q,show (x.kind != 3)=true by simpa using q,ab];exact⟨_,rfl,rfl,fun h=>by cases h⟩
 ·have c:Fit B20 (.base .cell) (ah.mk x.id (x.version+1) x.kind x.name x.code x.n):=by rw[fM];exact⟨fx.1,wv,fx.2.2.1,fx.2.2.2.1,fx.2.2.2.2.1,fx.2.2.2.2.2⟩
  have d:=AU c;rw[k,if_neg (by decide),if_neg (by decide)];simp only[show ((6:Int)==4)=false from rfl,show ((6:Int)==5)=false from rfl,show ((6:Int) != 5)=true from rfl,ab,aa,d,zA];by_cases q:x.kind=2
  ·rw[if_pos q,show (x.kind != 2)=false by simpa using q,aa];by_cases a:x.version=999
   ·rw[if_pos a,a];exact⟨_,rfl,rfl,fun h=>by cases h⟩
   rw[if_neg a,show (x.version==999)=false by simpa using a,aa];cases iM (ah.mk x.id (x.version+1) x.kind x.name x.code x.n)with
   | true=>exact⟨_,rfl,rfl,fun _=>rfl⟩
   | false=>exact⟨_,rfl,rfl,fun h=>by cases h⟩
  ·rw[if_neg q,show (x.kind != 2)=true by simpa using q,ab];exact⟨_,rfl,rfl,fun h=>by cases h⟩
theorem E5(a:ak)(b:dM)(m:Fit B20 (.base .notebook) a)(z:Fit B20 (.base .edit) b):jk a b=some (ak.mk (apE a.cells b).1,(apE a.cells b).2):=by
 obtain⟨v,_,e⟩:=mG a m;have fa:=m;rw[gU]at fa;have o:=dA fa;have p:a.cells.length<lim:=fD o;have s:=fa.aZ;have fb:=z;rw[vN]at fb;have t:nbB a.cells=v:=by unfold nbB;rw[show ak.mk a.cells=a from rfl,e];rfl
 unfold jk apE;rw[e,copyS a (by omega),t];simp only[zA];cases v with
 | false=>rw[if_neg (by simp)];rfl
 | true=>
 obtain⟨F,hver⟩:=LC m e;simp only[aE,aa,fG,zA];by_cases f:1<=b.kind/\b.kind<=6
 ·rw[if_pos ⟨trivial,f⟩,ae f.1,ae f.2];simp only[Bool.and_self,aE,aa,jP a _ p,zA,AU fb.2.2];have u:dG (fun c=>c.id==b.cell.id) a.cells 0=atE a.cells b.cell.id:=rfl;rw[u];by_cases i:b.kind=1
  ·rw[if_pos i];simp only[i,beq_self_eq_true,ab];cases G:iM b.cell with
   | false=>rfl
   | true=>
    simp only[aE,aa,if_true];by_cases d:0<=atE a.cells b.cell.id
    ·rw[if_pos d,ae (show atE a.cells b.cell.id>=0 from d)];rfl
    ·rw[if_neg d,ac (show ¬atE a.cells b.cell.id>=0 from d),aa];by_cases g:a.cells.length=8
     ·rw[if_pos g,show ((a.cells.length:Int)==8)=true by simp;omega];rfl
     ·rw[if_neg g,show ((a.cells.length:Int)==8)=false by simp;omega,aa,O9 _ _ _ o];rfl
  ·rw[if_neg i,show (b.kind==1)=false by simpa using i];simp only[aa];rcases mD (fun c:ah=>c.id==b.cell.id) a.cells 0 with d | ⟨n,x,d,j⟩
   ·have d:atE a.cells b.cell.id = -1:=d;rw[d,show decide ((-1:Int)<0)=true from rfl,ab];simp only[show (-1:Int)<0 from by decide,if_true];cases a.cells[(-1:Int).toNat]?<;>rfl
   ·have d:atE a.cells b.cell.id=((0+n:Nat):Int):=d;rw[d,Nat.zero_add];have C:n<a.cells.length:=(zC.1 j).1;have w:=s x (zG j);have A:=hver n x j;simp only[ac (show ¬((n:Nat):Int)<0 by omega),if_neg (show ¬((n:Nat):Int)<0 by omega),aa,au,j,zA,aw];have dd:yt a.cells (n:Int)=some (del a.cells n):=(drop_eq a.cells n C o).1;have dl:((del a.cells n).length:Int)<=1048576:=by unfold del;simp;omega
    unfold onE;rw[dd];by_cases k:b.kind=2
    ·rw[if_pos k,k];rfl
    rw[if_neg k,show (b.kind==2)=false by simpa using k,aa];by_cases l:b.kind=3
    ·rw[if_pos l,l];simp only[beq_self_eq_true,ab,zA,O9 _ _ _ dl]
    rw[if_neg l,show (b.kind==3)=false by simpa using l,aa];obtain⟨r,D,B,E⟩:=Yp x b w z (by omega) A.1 A.2;rw[D,zA];by_cases q:r.2=0
    ·have:=E q;subst this;rw[if_pos q,q];rfl
    ·rw[if_neg (by rw[<- B];exact q),show (r.2==0)=false by simpa using q,aa,B]
 ·have y:(decide (1<=b.kind)&&decide (b.kind<=6))=false:=by
   rw[Bool.eq_false_iff];intro h;rw[zI,decide_eq_true_eq,decide_eq_true_eq]at h;exact f h
  rw[if_neg fun h=>f h.2,y];rfl
theorem ads{α β:Type}(f:α->β)(xs:List α)(n:Nat)(c:α):(ins xs n c).map f=ins (xs.map f) n (f c):=by
 unfold ins;simp[List.map_take,List.map_drop]
theorem adt{α β:Type}(f:α->β)(xs:List α)(n:Nat):(del xs n).map f=del (xs.map f) n:=by
 unfold del;simp[List.map_take,List.map_drop]
theorem adz{α:Type}(xs:List α)(n:Nat)(c:α)(h:n<=xs.length):(ins xs n c).length=xs.length+1:=by
 unfold ins;simp;omega
theorem ajt{α:Type}(xs:List α)(n:Nat)(h:n<xs.length):(del xs n).length+1=xs.length:=by
 unfold del;simp;omega
theorem ajB{α:Type}(xs:List α)(n:Nat)(x:α)(h:xs[n]?=some x):ins (del xs n) n x=xs:=by
 obtain⟨a,rfl⟩:=zC.1 h;unfold del ins;have b:(xs.take n++xs.drop (n+1)).take n=xs.take n:=List.take_left' (by simp;omega);have c:(xs.take n++xs.drop (n+1)).drop n=xs.drop (n+1):=List.drop_left' (by simp;omega);rw[b,c,a6,List.singleton_append,<- List.drop_eq_getElem_cons a,List.take_append_drop]
theorem Zm{α:Type}(xs:List α)(n:Nat)(c:α):(ins xs n c).Perm (c::xs):=by
 unfold ins;have:=@List.perm_middle _ c (xs.take n) (xs.drop n);rw[List.take_append_drop]at this;rw[a6];exact this
theorem adq{α:Type}{xs:List α}{n:Nat}{c y:α}(h:y∈ins xs n c):y=c\/y∈xs:=a8.1 ((Zm xs n c).mem_iff.1 h)
theorem adr{α:Type}{xs:List α}{n:Nat}{y:α}(h:y∈del xs n):y∈xs:=by
 rcases List.mem_append.1 h with h | h
 ·exact List.mem_of_mem_take h
 ·exact List.mem_of_mem_drop h
theorem KA{α:Type}(xs:List α)(n:Nat)(c:α):(ins xs n c).Nodup↔¬c∈xs/\xs.Nodup:=by
 rw[(Zm xs n c).nodup_iff,List.nodup_cons]
theorem ae4{α:Type}{xs:List α}(n:Nat)(h:xs.Nodup):(del xs n).Nodup:=by
 refine List.Sublist.nodup (l₂:=xs) ?_ h;unfold del;have a:(xs.take n++xs.drop (n+1)).Sublist (xs.take n++xs.drop n):=List.Sublist.append (List.Sublist.refl _) (List.drop_sublist_drop_left xs (Nat.le_succ n));rw[List.take_append_drop]at a;exact a
theorem xQ{α:Type}(p:α->Bool):∀(xs:List α) (i:Nat),(dG p xs i = -1/\∀x,x∈xs->p x=false) \/
  ∃(n:Nat) (x:α),dG p xs i=((i+n:Nat):Int)/\xs[n]?=some x/\p x=true/\∀(m:Nat) (y:α),m<n->xs[m]?=some y->p y=false
 | [],i=>.inl ⟨rfl,fun x a=>(by cases a)⟩
 | x::r,i=>by
  unfold dG;cases a:p x with
  | true=>exact .inr ⟨0,x,rfl,rfl,a,fun m y f=>absurd f (Nat.not_lt_zero _)⟩
  | false=>
   rcases xQ p r (i+1)with ⟨b,c⟩ | ⟨n,y,b,c,g,h⟩
   ·refine .inl ⟨b,fun y d=>?_⟩;rcases a8.1 d with rfl | d
    ·exact a
    ·exact c y d
   ·refine .inr ⟨n+1,y,?_,by simpa using c,g,fun m z f e=>?_⟩
    ·simp only[aa];rw[b];congr 1;omega
    ·cases m with
     | zero=>simp at e;subst e;exact a
     | succ m=>exact h m z (by omega) (by simpa using e)
theorem Nk{α β:Type}(f:α->β)(p:β->Bool):∀(xs:List α) (i:Nat),dG (fun x=>p (f x)) xs i=dG p (xs.map f) i
 | [],_=>rfl
 | x::r,i=>by rw[List.map_cons];unfold dG;rw[Nk f p r]
def ids(s:List ah):List Int:=s.map (·.id)
def atI(l:List Int)(v:Int):Int:=dG (fun c=>c==v) l 0
theorem akb(s:List ah)(v:Int):atE s v=atI (ids s) v:=Nk (fun x:ah=>x.id) (fun c=>c==v) s 0
theorem aj9{l:List Int}{v:Int}(h:atI l v<0):¬v∈l:=by
 unfold atI at h;rcases xQ (fun c=>c==v) l 0 with ⟨_,a⟩ | ⟨m,y,b,_⟩
 ·intro d;have:=a v d;simp at this
 ·rw[b]at h;omega
theorem Vj{α:Type}{p:α->Nat->Bool}:∀ {xs:List α} {i:Nat},(∀(k:Nat) (x:α),xs[k]?=some x->p x (i+k)=true)->iW p xs i=true
 | [],i,_=>rfl
 | y::ys,i,h=>by
  unfold iW;rw[zI];refine⟨h 0 y rfl,Vj fun k x a=>?_⟩;have:=h (k+1) x (by simpa using a);rw[show i+1+k=i+(k+1) by omega];exact this
theorem aiq{α:Type}{p:α->Nat->Bool}{xs:List α}(h:∀(k:Nat) (x:α),xs[k]?=some x->p x k=true):iW p xs 0=true:=
 Vj fun k x a=>by rw[Nat.zero_add];exact h k x a
def ah3(x:ah):Bool:=iM (ah.mk x.id 1 x.kind x.name x.code x.n)
theorem y9{x:ah}:iM x=true↔(1<=x.version/\x.version<=999)/\ah3 x=true:=by
 constructor
 ·intro h;have a:=Jw h;refine⟨a,?_⟩;unfold ah3 iM cZ;unfold iM cZ at h;rw[fG,fG]at h ⊢;rw[ae a.1,ae a.2]at h;exact h
 ·rintro⟨a,h⟩;unfold ah3 iM cZ at h;unfold iM cZ;rw[fG,fG]at h ⊢;rw[ae a.1,ae a.2];exact h
structure Nb(s:List ah):Prop where
 fit:Fit B20 (.base .notebook) (ak.mk s)
 len:s.length<=8
 val:∀x,x∈s->iM x=true
 nd:(ids s).Nodup
theorem ake{s:List ah}{e:dM}(b:Fit B20 (.base .notebook) (ak.mk s))(c:Fit B20 (.base .edit) e):Fit B20 (.base .notebook) (ak.mk (apE s e).1):=by
 obtain⟨w,n,a,_,d⟩:=JD (ak.mk s) e b c;rw[E5 (ak.mk s) e b c]at a;injection a with a;injection a with a _;rw[a];exact d
theorem aio{s:List ah}{e:dM}(h:(apE s e).2=0):nbB s=true/\(1<=e.kind/\e.kind<=6) /\
  ((e.kind=1/\iM e.cell=true/\atE s e.cell.id<0/\s.length≠8/\(apE s e).1=ins s (pW s.length e.pos) e.cell) \/
   (e.kind≠1/\∃(n:Nat) (x:ah),s[n]?=some x/\x.id=e.cell.id/\atE s e.cell.id=(n:Int)/\(onE s e n x).2=0/\(apE s e).1=(onE s e n x).1)):=by
 unfold apE at h ⊢;by_cases c:nbB s=true/\1<=e.kind/\e.kind<=6
 ·rw[if_pos c]at h ⊢;refine⟨c.1,c.2,?_⟩;by_cases b:e.kind=1
  ·rw[if_pos b]at h ⊢;by_cases d:iM e.cell=true
   ·rw[if_pos d]at h ⊢;by_cases g:0<=atE s e.cell.id
    ·rw[if_pos g]at h;cases h
    ·rw[if_neg g]at h ⊢;by_cases f:s.length=8
     ·rw[if_pos f]at h;cases h
     ·rw[if_neg f];exact .inl ⟨b,d,by omega,f,rfl⟩
   ·rw[if_neg d]at h;cases h
  ·rw[if_neg b]at h ⊢;refine .inr ⟨b,?_⟩;rcases xQ (fun c:ah=>c.id==e.cell.id) s 0 with ⟨a,_⟩ | ⟨n,x,a,i,j,_⟩
   ·have a:atE s e.cell.id = -1:=a;rw[a]at h;simp only[show (-1:Int)<0 from by decide,if_true]at h;revert h;cases s[(-1:Int).toNat]?<;>(intro h;cases h)
   ·have a:atE s e.cell.id=((0+n:Nat):Int):=a;rw[Nat.zero_add]at a;rw[a]at h ⊢;simp only[if_neg (show ¬((n:Nat):Int)<0 by omega),aw,i]at h ⊢;exact⟨n,x,i,eq_of_beq j,rfl,h,rfl⟩
 ·rw[if_neg c]at h;cases h
theorem aha{s:List ah}{e:dM}{n:Nat}{x:ah}(h:(onE s e n x).2=0) :
  (e.kind=2/\(onE s e n x).1=del s n)\/(e.kind=3/\(onE s e n x).1=ins (del s n) (pW (del s n).length e.pos) x) \/
  (e.kind≠2/\e.kind≠3/\(qf x e).2=0/\(onE s e n x).1=s.set n (qf x e).1):=by
 unfold onE at h ⊢;by_cases a:e.kind=2
 ·rw[if_pos a];exact .inl ⟨a,rfl⟩
 rw[if_neg a]at h ⊢;by_cases b:e.kind=3
 ·rw[if_pos b];exact .inr (.inl ⟨b,rfl⟩)
 rw[if_neg b]at h ⊢;by_cases q:(qf x e).2=0
 ·rw[if_pos q];exact .inr (.inr ⟨a,b,q,rfl⟩)
 ·rw[if_neg q]at h;exact absurd h q
theorem aaw{x:ah}{e:dM}(h:(qf x e).2=0):iM (qf x e).1=true/\(qf x e).1.id=x.id/\(qf x e).1.kind=x.kind /\
  ((e.kind=4/\x.kind≠3/\(qf x e).1.n=x.n)\/(e.kind=5/\x.kind=3/\(qf x e).1.name=x.name/\(qf x e).1.code=x.code) \/
   (e.kind≠4/\e.kind≠5/\x.kind=2/\afT (qf x e).1=afT x)):=by
 unfold qf at h ⊢;by_cases k4:e.kind=4
 ·rw[if_pos k4]at h ⊢;by_cases q:x.kind=3
  ·rw[if_pos q]at h;cases h
  rw[if_neg q]at h ⊢;by_cases b:x.version=999
  ·rw[if_pos b]at h;cases h
  rw[if_neg b]at h ⊢;by_cases a:iM (ah.mk x.id (x.version+1) x.kind e.cell.name e.cell.code x.n)=true
  ·rw[if_pos a];exact⟨a,rfl,rfl,.inl ⟨k4,q,rfl⟩⟩
  ·rw[if_neg a]at h;cases h
 rw[if_neg k4]at h ⊢;by_cases c:e.kind=5
 ·rw[if_pos c]at h ⊢;by_cases q:x.kind=3
  ·rw[if_pos q]at h ⊢;by_cases a:iM (ah.mk x.id x.version x.kind x.name x.code e.cell.n)=true
   ·rw[if_pos a];exact⟨a,rfl,rfl,.inr (.inl ⟨c,q,rfl,rfl⟩)⟩
   ·rw[if_neg a]at h;cases h
  ·rw[if_neg q]at h;cases h
 rw[if_neg c]at h ⊢;by_cases q:x.kind=2
 ·rw[if_pos q]at h ⊢;by_cases b:x.version=999
  ·rw[if_pos b]at h;cases h
  rw[if_neg b]at h ⊢;by_cases a:iM (ah.mk x.id (x.version+1) x.kind x.name x.code x.n)=true
  ·rw[if_pos a];exact⟨a,rfl,rfl,.inr (.inr ⟨k4,c,q,rfl⟩)⟩
  ·rw[if_neg a]at h;cases h
 ·rw[if_neg q]at h;cases h
theorem ajC{s:List ah}{n:Nat}{x:ah}(h:s[n]?=some x):(ids s)[n]?=some x.id:=by unfold ids;rw[List.getElem?_map,h];rfl
theorem adI{s:List ah}{n:Nat}{x y:ah}(h:s[n]?=some x)(a:y.id=x.id):ids (s.set n y)=ids s:=by
 unfold ids;rw[List.map_set];apply List.ext_getElem?;intro i;rw[List.getElem?_set];by_cases q:n=i
 ·subst q;have b:=(zC.1 h).1;rw[if_pos rfl,if_pos (by simpa using b),List.getElem?_map,h,a];rfl
 ·rw[if_neg q]
theorem amk{s:List ah}{e:dM}(a:Nb s)(l:Fit B20 (.base .edit) e)(h:(apE s e).2=0):Nb (apE s e).1:=by
 have c:=ake a.fit l;obtain⟨_,v,h⟩:=aio h;rcases h with ⟨m,o,j,w,g⟩ | ⟨m,n,x,f,p,q,r,g⟩
 ·rw[g]at c ⊢;have i:pW s.length e.pos<=s.length:=Nat.min_le_left _ _;rw[akb]at j;refine⟨c,?_,fun y b=>?_,?_⟩
  ·rw[adz _ _ _ i];have:=a.len;omega
  ·rcases adq b with rfl | b
   ·exact o
   ·exact a.val y b
  ·unfold ids;rw[ads,KA];exact⟨aj9 j,a.nd⟩
 ·rw[g]at c ⊢;have i:=(zC.1 f).1;have dnd:(ids (del s n)).Nodup:=by unfold ids;rw[adt];exact ae4 n a.nd
  have dl:=ajt s n i;rcases aha r with ⟨z,d⟩ | ⟨A,d⟩ | ⟨_,_,t,d⟩
  ·rw[d]at c ⊢;exact⟨c,by have:=a.len;omega,fun y b=>a.val y (adr b),dnd⟩
  ·rw[d]at c ⊢;refine⟨c,?_,fun y b=>?_,?_⟩
   ·rw[adz _ _ _ (show pW (del s n).length e.pos<=(del s n).length from Nat.min_le_left _ _)];have:=a.len;omega
   ·rcases adq b with rfl | b
    ·exact a.val _ (zG f)
    ·exact a.val y (adr b)
   ·unfold ids at dnd ⊢;rw[ads,KA];refine⟨fun k=>?_,dnd⟩;have hh:=a.nd;rw[<- ajB (ids s) n x.id (ajC f),KA]at hh;rw[adt]at k;exact hh.1 k
  ·rw[d]at c ⊢;obtain⟨t1,u,_⟩:=aaw t;refine⟨c,by rw[List.length_set];exact a.len,fun y b=>?_,?_⟩
   ·rcases List.mem_or_eq_of_mem_set b with b | rfl
    ·exact a.val y b
    ·exact t1
   ·rw[adI f u];exact a.nd
theorem ajs{α X ρ σ:Type}{g:X->Option (X⊕ρ)}(pk:σ->Nat->X)(xs:List α)(I:Nat->σ->Prop)(R:ρ)
  (a:∀i x s,xs[i]?=some x->I i s->(∃s',g (pk s i)=some (.inl (pk s' (i+1)))/\I (i+1) s')\/∃r,g (pk s i)=some (.inr r)/\r=R)
  (b:∀s,I xs.length s->∃r,g (pk s xs.length)=some (.inr r)/\r=R) (s:σ) (c:I 0 s):aA g (pk s 0)=some R:=by
 obtain⟨r,e,h⟩:=jD pk xs I (fun r=>r=R) a b s c;rw[e,h]
abbrev afM(e:dM):Prop:=Fit B20 (.base .edit) e
def bad(l:List Int):Int:=dG (fun c=>c != 0) l 0
theorem Dr.join{X β:Type}{p:Option (X⊕(bC×β))}{P:X->Prop}{k:X->Option (bC×β)}{Q:β->Prop}(a:∃st,p=some (.inl st)/\P st)(b:∀st,P st->Dr (k st) Q):Dr (aht p k) Q:=by
 obtain⟨st,e,h⟩:=a;rw[e];exact b st h
abbrev ad3(x:ah):Prop:=Fit B20 (.base .cell) x
abbrev I64(n:Int):Prop:=aX B20 (.int .i64 n)
theorem i64{n:Int}(a:-1000000000<=n)(b:n<=1000000000):I64 n:=nK a b
theorem Jz{id v k n:Int}{nm cd:Str}:ad3 (ah.mk id v k nm cd n)↔I64 id/\I64 v/\I64 k/\aX B20 (.str nm)/\aX B20 (.str cd)/\I64 n:=by
 show Fit B20 (.base .cell) _↔_
 rw[fM]
theorem afC{x:ah}:ad3 x↔I64 x.id/\I64 x.version/\I64 x.kind/\aX B20 (.str x.name)/\aX B20 (.str x.code)/\I64 x.n:=by
 show Fit B20 (.base .cell) _↔_
 rw[fM]
theorem adU{k p:Int}{x:ah}(a:I64 k)(b:I64 p)(c:ad3 x):afM (dM.mk k p x):=by
 show Fit B20 (.base .edit) _
 rw[vN];exact⟨a,b,c⟩
structure NbD(m:Nat)(x:ak):Prop where
 len:x.cells.length<=m
 fit:∀c,c∈x.cells->ad3 c
theorem NbD.nb{m:Nat}{x:ak}(h:NbD m x)(a:m<=1000):Fit B20 (.base .notebook) x:=by
 rw[gU];exact dY (by have:=h.len;omega) h.fit
theorem aiy{n:Nat}(h:n<=1000000):w64 ((n:Int)+1)=((n+1:Nat):Int):=by rw[bM (by omega) (by omega)];omega
theorem ah9{a:List Int}(d:aX B47 (.list (.base .u8) a)){k:Option Bool}(b:(a.length:Int)<=1048576->k=some true):((big a).bind fun c=>bif c then some (true)else k)=some true:=by
 unfold big;rw[zA];by_cases h:(a.length:Int)>1048576
 ·rw[ae h];rfl
 ·rw[ac h];exact b (by omega)
end
end Go.Proofs.YtngjomkjlonfpaaGreat
