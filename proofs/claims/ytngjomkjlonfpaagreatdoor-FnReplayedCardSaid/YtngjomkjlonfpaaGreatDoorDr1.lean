import Derived.Test.YtngjomkjlonfpaaGreatDoorReplay1
import Derived.Test.YtngjomkjlonfpaaGreatDoorLawsD
set_option linter.unusedSimpArgs false
set_option linter.unusedVariables false
/- Plain laws: drawing, step by step; drawn expressions and texts. Plain laws: drawn cells. -/
namespace Go.Proofs.YtngjomkjlonfpaaGreatDoor
open Go.Abs Go.Proofs
def Dr{α:Type}(x:Option (bW×α))(P:α->Prop):Prop:=∃c y,x=some (c,y)/\dM c/\P y
theorem Dr.bind{α β:Type}{x:Option (bW×α)}{P:α->Prop}{f:bW×α->Option (bW×β)}{Q:β->Prop}(a:Dr x P)(b:∀c y,dM c->P y->Dr (f (c,y)) Q):Dr (x.bind f) Q:=by
 obtain⟨c,y,e,k,p⟩:=a;rw[e];exact b c y k p
theorem Dr.pbind{α β:Type}{x:Option α}{P:α->Prop}{f:α->Option (bW×β)}{Q:β->Prop}(a:∃y,x=some y/\P y)(b:∀y,P y->Dr (f y) Q):Dr (x.bind f) Q:=by
 obtain⟨y,e,p⟩:=a;rw[e];exact b y p
theorem Dr.gd{n:Nat}{β:Type}{f:Unit->Option (bW×β)}{Q:β->Prop}(h:n<=34359738368)(a:Dr (f ()) Q):Dr ((gd n).bind f) Q:=by
 rw[bZ h];exact a
theorem Dr.bif{β:Type}{b:Bool}{x y:Option (bW×β)}{Q:β->Prop}(h1:b=true->Dr x Q)(h2:b=false->Dr y Q):Dr (bif b then x else y) Q:=by
 cases b with
 | true=>exact h1 rfl
 | false=>exact h2 rfl
theorem Dr.ret{β:Type}{c:bW}{y:β}{Q:β->Prop}(h:dM c)(a:Q y):Dr (some (c,y)) Q:=⟨c,y,rfl,h,a⟩
theorem Dr.of{β:Type}{x:Option (bW×β)}{Q:β->Prop}(h:∃r,x=some r/\dM r.1/\Q r.2):Dr x Q:=by
 obtain⟨⟨c,y⟩,e,k,q⟩:=h;exact⟨c,y,e,k,q⟩
theorem Dr.mono{β:Type}{x:Option (bW×β)}{P Q:β->Prop}(h:Dr x P)(a:∀y,P y->Q y):Dr x Q:=by
 obtain⟨c,y,e,k,p⟩:=h;exact⟨c,y,e,k,a y p⟩
theorem dW{c:bW}(h:dM c)(n:Int):Dr (aY c n) fun x=>0<=x/\(0<n->x<n):=by
 obtain⟨c',x,e,k,p,q⟩:=jA h n;exact⟨c',x,e,k,p,q⟩
theorem alh{c:bW}(h:dM c)(n:Int):Dr (lF c n) fun _=>True:=by
 obtain⟨c',x,e,k⟩:=zY h n;exact⟨c',x,e,k,trivial⟩
theorem iJ{c:bW}(h:dM c)(xs:List Str)(a:xs≠[]):Dr (dI c xs) fun s=>s∈xs:=by
 obtain⟨c',x,e,k,p⟩:=afk h xs a;exact⟨c',x,e,k,p⟩
theorem vH{c:bW}(h:dM c)(xs:List Int)(a:xs≠[]):Dr (kR c xs) fun s=>s∈xs:=by
 obtain⟨c',x,e,k,p⟩:=adJ h xs a;exact⟨c',x,e,k,p⟩
abbrev fZ(e:af):Prop:=Fit B20 (.base .expr) e
theorem nX{k n:Int}{s:Str}{xs:List af}(h1:aW B20 (.int .i64 k))(h2:aW B20 (.int .i64 n))(a:(s.length:Int)<=1048576)(b:(xs.length:Int)<=1048576)(c:∀x,x∈xs->fZ x):fZ (af.mk k n s xs):=by
 show Fit B20 (.base .expr) _
 rw[JH];exact⟨h1,h2,Ad a,gu b c⟩
theorem alk{n:Int}(a:-1000000000<=n)(h1:n<=1000000000):fZ (af.mk 1 n [] []):=nX (nS (by omega) (by omega)) (nS a h1) (by simp) (by simp) fun x b=>(by cases b)
theorem Jj{k n:Int}{s:Str}(a:-1000000000<=k)(h1:k<=1000000000)(b:-1000000000<=n)(c:n<=1000000000)(e:s.length<=1000):fZ (af.mk k n s []):=nX (nS a h1) (nS b c) (by omega) (by simp) fun x d=>(by cases d)
def JW(b:List Str):Prop:=b≠[]/\∀s,s∈b->s.length<=20
theorem kS{n:Int}(a:0<=n)(h1:n<=1000):∃e,kz n=some e/\fZ e:=⟨_,rfl,alk (by omega) (by omega)⟩
theorem aak{s:Str}(h:s.length<=20):∃e,CQ s=some e/\fZ e:=⟨_,rfl,Jj (by omega) (by omega) (by omega) (by omega) (by omega)⟩
theorem jh{s:Str}{xs:List af}(h:s.length<=20)(b:xs.length<=10)(a:∀x,x∈xs->fZ x):∃e,lg s xs=some e/\fZ e:=⟨_,rfl,nX (nS (by omega) (by omega)) (nS (by omega) (by omega)) (by omega) (by omega) a⟩
theorem agE{n:Int}{a b:af}(g:0<=n)(h1:n<=1000)(d:fZ a)(f:fZ b):∃e,jF n a b=some e/\fZ e:=by
 refine⟨_,rfl,nX (nS (by omega) (by omega)) (nS (by omega) (by omega)) (by simp) (by simp) fun x c=>?_⟩;simp only[aO,bc,List.not_mem_nil,or_false]at c;rcases c with rfl | rfl
 ·exact d
 ·exact f
theorem afy{c:bW}{b:List Str}(h:dM c)(i:JW b):Dr (CS c b) fZ:=by
 unfold CS;simp only[aO];refine Dr.bind (dW h 5) fun l x f n=>?_
 refine Dr.bif (fun _=>?_) fun _=>?_
 ·refine Dr.bind (iJ f _ (by simp)) fun j s d a=>.ret d (Jj (by omega) (by omega) (by omega) (by omega) ?_)
  simp at a;rcases a with rfl | rfl | rfl | rfl<;>simp
 have num:Dr ((aY l 6).bind fun k=>(kz k.2).bind fun m=>some (k.1,m)) fZ:=by
  refine Dr.bind (dW f 6) fun j x d a=>?_
  have:=a.2 (by omega);exact Dr.pbind (kS a.1 (by omega)) fun e g=>.ret d g
 refine Dr.bif (fun _=>num) fun _=>Dr.bif (fun _=>num) fun _=>?_
 refine Dr.bind (iJ f _ i.1) fun j s d a=>?_
 exact Dr.pbind (aak (i.2 s a)) fun e g=>.ret d g
theorem mem_set{α:Type}{xs:List α}{i:Nat}{x y:α}(h:y∈xs.set i x):y∈xs\/y=x:=by
 rcases List.mem_or_eq_of_mem_set h with h | h
 ·exact .inl h
 ·exact .inr h
theorem OZ{c:bW}{b:List Str}(h:dM c)(o:JW b):Dr (vg c b) fZ:=by
 unfold vg;simp only[aO];refine Dr.bind (dW h 4) fun p n q l=>?_
 have H:=l.2 (by omega);obtain⟨m,rfl⟩:=Gx l.1;refine Dr.of (pX (fun (s:bW×List af) (i:Nat)=>((s.1.b,s.1.i,s.1.h,b,0,0,[],[],4,0,[],s.2,(m:Int),(i:Int)):(List Int)×Int×Int×(List Str)×Int×Int×Str×(List af)×Int×Int×Str×(List af)×Int×Int)) m
  (fun i s=>dM s.1/\s.2.length=i/\∀x,x∈s.2->fZ x) (fun (r:bW×af)=>dM r.1/\fZ r.2) (fun i s hi j=>?_) (fun s j=>?_) (p,[]) ⟨q,rfl,fun x d=>(by cases d)⟩)
 ·obtain⟨k,g,d⟩:=j;obtain⟨I,J,t,u,v,w⟩:=jA k 5;have:=w (by omega);obtain⟨e,y,z⟩:=kS v (by omega);obtain⟨A,B,C,k4⟩:=zY u 4;have hmem:∀x,x∈s.2++[e]->fZ x:=fun x a=>by
   rcases List.mem_append.1 a with a | a
   ·exact d x a
   ·rw[List.mem_singleton.1 a];exact z
  simp only[cnt_lt hi,ac,t,y,C,zA,bZ (show s.2.length+[e].length<=34359738368 by simp;omega),NV hi (show m<=1048576 by omega)];cases B with
  | false=>exact⟨(A,s.2++[e]),rfl,k4,by simp[g],hmem⟩
  | true=>
   obtain⟨D,f,E,F,G⟩:=afy k4 o;have hget:(s.2++[e])[i]?=some e:=by rw[<- g];simp
   simp only[ac,E,zA,au,hget,aD];refine⟨(D,(s.2++[e]).set i f),rfl,F,by simp[g],fun x a=>?_⟩;rcases mem_set a with a | rfl
   ·exact hmem x a
   ·exact G
 ·obtain⟨k,g,d⟩:=j;exact⟨(s.1,af.mk 4 0 [] s.2),by simp only[aT,aa],k,nX (nS (by omega) (by omega)) (nS (by omega) (by omega)) (by simp) (by omega) d⟩
theorem oZ{c:bW}{a b:af}(h:dM c)(e:fZ a)(f:fZ b):Dr (jJ c a b) fZ:=by
 unfold jJ;simp only[aO];exact Dr.bind (alh h 2) fun g x d _=>Dr.bif (fun _=>.ret d e) fun _=>.ret d f
theorem Me{c:bW}(h:dM c):Dr (qA c) fZ:=by
 unfold qA;refine Dr.bind (iJ h _ (by simp)) fun d s b a=>.ret b (Jj (by omega) (by omega) (by omega) (by omega) ?_)
 simp at a;rcases a with rfl | rfl | rfl | rfl<;>simp
theorem Py{c:bW}(h:dM c):Dr (uw c) fZ:=by
 unfold uw;simp only[aO];refine Dr.bind (dW h 4) fun q n t l=>?_
 have J:=l.2 (by omega);obtain⟨m,rfl⟩:=Gx l.1;refine Dr.of (pX (fun (s:bW×List af) (i:Nat)=>((s.1.b,s.1.i,s.1.h,0,0,[],[],4,0,[],s.2,(m:Int),(i:Int)):(List Int)×Int×Int×Int×Int×Str×(List af)×Int×Int×Str×(List af)×Int×Int)) m
  (fun i s=>dM s.1/\s.2.length=i/\∀x,x∈s.2->fZ x) (fun (r:bW×af)=>dM r.1/\fZ r.2) (fun i s hi g=>?_) (fun s g=>?_) (q,[]) ⟨t,rfl,fun x a=>(by cases a)⟩)
 ·obtain⟨j,o,a⟩:=g;obtain⟨K,L,u,v,w,z⟩:=jA j 3;have:=z (by omega);obtain⟨e,A,k⟩:=kS w (by omega);obtain⟨B,M,C,k4,D,E⟩:=jA v 4;have:=E (by omega);obtain⟨f,F,G⟩:=kS D (by omega);simp only[cnt_lt hi,ac,u,A,C,F,zA,bZ (show s.2.length+[af.mk 4 0 [] [e,f]].length<=34359738368 by simp;omega),NV hi (show m<=1048576 by omega)];refine⟨(B,s.2++[af.mk 4 0 [] [e,f]]),rfl,k4,by simp[o],fun x d=>?_⟩;rcases List.mem_append.1 d with d | d
  ·exact a x d
  ·rw[List.mem_singleton.1 d];refine nX (nS (by omega) (by omega)) (nS (by omega) (by omega)) (by simp) (by simp) fun y p=>?_
   simp only[bc,List.not_mem_nil,or_false]at p;rcases p with rfl | rfl
   ·exact k
   ·exact G
 ·obtain⟨j,o,a⟩:=g;have H:fZ (af.mk 4 0 [] s.2):=nX (nS (by omega) (by omega)) (nS (by omega) (by omega)) (by simp) (by omega) a;obtain⟨e,I,k⟩:=jh (s:=[116,97,98,108,101]) (xs:=[af.mk 2 0 [97,32,98] [],af.mk 4 0 [] s.2]) (by simp) (by simp) fun x a=>by
   simp only[bc,List.not_mem_nil,or_false]at a;rcases a with rfl | rfl
   ·exact Jj (by omega) (by omega) (by omega) (by omega) (by simp)
   ·exact H
  exact⟨(s.1,e),by simp only[aT,aa,I,zA],j,k⟩
theorem OY{a:af}(b:fZ a):∀x,x∈[a]->fZ x:=fun x c=>by rw[List.mem_singleton.1 c];exact b
theorem OQ{a b:af}(d:fZ a)(e:fZ b):∀x,x∈[a,b]->fZ x:=fun x c=>by
 simp only[bc,List.not_mem_nil,or_false]at c;rcases c with rfl | rfl
 ·exact d
 ·exact e
theorem J4{a b c:af}(e:fZ a)(f:fZ b)(g:fZ c):∀x,x∈[a,b,c]->fZ x:=fun x d=>by
 simp only[bc,List.not_mem_nil,or_false]at d;rcases d with rfl | rfl | rfl
 ·exact e
 ·exact f
 ·exact g
theorem aaS:∀(n:Nat) {a:bW} {b:List Str} (c:Int),dM a->JW b->b.length+2*c.toNat<=1000->c<=n->1<=n->c<=10->Dr (mQ n a b c) fZ
 | 0,a,b,c,_,_,_,_,h,_=>absurd h (by omega)
 | n+1,a,b,c,h,p,hl,hc,_,Z=>by
  show Dr (KE (mQ n) a b c) fZ
  unfold KE;simp only[aO];refine Dr.bif (fun _=>Dr.bind (afy h p) fun T x l U=>.ret l U) fun h2=>?_
  have h2:2<=c:=by simp at h2;exact h2
  have H:w64 (c-1)=c-1:=bK (by omega) (by omega);rw[H];have ih:∀ {a:bW} {b':List Str},dM a->JW b'->b'.length<=b.length+2->Dr (mQ n a b' (c-1)) fZ:=fun K L hl'=>aaS n (c-1) K L (by omega) (by omega) (by omega) (by omega)
  have ihb:∀ {a:bW},dM a->Dr (mQ n a b (c-1)) fZ:=fun K=>ih K p (by omega)
  obtain⟨I,M,hb0m⟩:∃I,idx b 0=some I/\I∈b:=by
   cases N:b with
   | nil=>exact absurd N p.1
   | cons x r=>exact⟨x,rfl,aw⟩
  have names:∀s,s∈[[117],[118],I]->s.length<=20:=fun s V=>by
   simp only[bc,List.not_mem_nil,or_false]at V;rcases V with rfl | rfl | rfl
   ·simp
   ·simp
   ·exact p.2 _ hb0m
  simp only[M,zA];refine Dr.bind (dW h 13) fun T x l U=>?_
  have op:Dr ((aY T 5).bind fun W=>(mQ n W.1 b (c-1)).bind fun X=>(mQ n X.1 b (c-1)).bind fun Y=>(jF (w64 (1+W.2)) X.2 Y.2).bind fun O=>some (Y.1,O)) fZ:=by
   refine Dr.bind (dW l 5) fun q y f d=>Dr.bind (ihb f) fun D u i g=>Dr.bind (ihb i) fun B v k4 j=>?_
   have:=d.2 (by omega);have H:w64 (1+y)=1+y:=bK (by omega) (by omega);show Dr ((jF (w64 (1+y)) u v).bind fun O=>some (B,O)) fZ
   rw[H];exact Dr.pbind (agE (by omega) (by omega) g j) fun e m=>.ret k4 m
  refine Dr.bif (fun _=>op) fun _=>Dr.bif (fun _=>op) fun _=>Dr.bif (fun _=>?_) fun _=>Dr.bif (fun _=>?_) fun _=>Dr.bif (fun _=>?_) fun _=>Dr.bif (fun _=>?_) fun _=>
   Dr.bif (fun _=>?_) fun _=>Dr.bif (fun _=>?_) fun _=>Dr.bif (fun _=>?_) fun _=>Dr.bif (fun _=>?_) fun _=>Dr.bif (fun _=>?_) fun _=>Dr.bif (fun _=>?_) fun _=>?_
  ·refine Dr.bind (iJ l _ (by simp)) fun q s f d=>Dr.bind (ihb f) fun D u i g=>Dr.gd (by simp;omega) ?_
   have ls:=names s d;refine Dr.bind (ih i ⟨by simp,fun t o=>?_⟩ (by rw[a7];simp only[List.length_cons,List.length_nil];omega)) fun B v k4 j=>.ret k4 (nX (nS (by omega) (by omega)) (nS (by omega) (by omega)) (by show (s.length:Int)<=_;omega) (by simp) (OQ g j))
   rcases List.mem_append.1 o with o | o
   ·rw[List.mem_singleton.1 o];exact ls
   ·exact p.2 t o
  ·exact Dr.bind (ihb l) fun q u f d=>Dr.bind (ihb f) fun D v i g=>Dr.bind (ihb i) fun B w k4 j=>.ret k4 (nX (nS (by omega) (by omega)) (nS (by omega) (by omega)) (by simp) (by simp) (J4 d g j))
  ·refine Dr.bind (iJ l _ (by simp)) fun q s f d=>Dr.bind (OZ f p) fun D u i g=>Dr.gd (by simp;omega) ?_
   have ls:=names s d;refine Dr.bind (ih i ⟨by simp,fun t o=>?_⟩ (by rw[a7];simp only[List.length_cons,List.length_nil];omega)) fun B v k4 j=>.ret k4 (nX (nS (by omega) (by omega)) (nS (by omega) (by omega)) (by show (s.length:Int)<=_;omega) (by simp) (OQ g j))
   rcases List.mem_append.1 o with o | o
   ·simp only[bc,List.not_mem_nil,or_false,or_self]at o;rw[o];exact ls
   ·exact p.2 t o
  ·exact Dr.bind (OZ l p) fun q u f d=>.ret f d
  ·refine Dr.bind (iJ l _ (by simp)) fun q s f d=>Dr.bind (OZ f p) fun D u i g=>Dr.bind (ihb i) fun B v k4 j=>Dr.bind (oZ k4 g j) fun J w C A=>?_
   refine Dr.pbind (jh ?_ (by simp) (OY A)) fun e m=>.ret C m
   simp at d;rcases d with rfl | rfl<;>simp
  ·refine Dr.bind (iJ l _ (by simp)) fun q s f d=>Dr.bind (dW f 4) fun D y i g=>?_
   have:=g.2 (by omega);refine Dr.pbind (kS g.1 (by omega)) fun P k=>Dr.bind (OZ i p) fun B u k4 j=>Dr.bind (dW k4 9) fun J z C A=>?_
   have:=A.2 (by omega);refine Dr.pbind (kS A.1 (by omega)) fun e2 F=>Dr.bind (dW C 4) fun Q z6 G E=>?_
   have:=E.2 (by omega);refine Dr.pbind (kS E.1 (by omega)) fun e3 R=>Dr.pbind (jh (by simp) (by simp) (OQ F R)) fun e4 S=>Dr.bind (oZ G j S) fun c7 w k7 p7=>?_
   refine Dr.pbind (jh ?_ (by simp) (OQ k p7)) fun e m=>.ret k7 m
   simp at d;rcases d with rfl | rfl | rfl | rfl<;>simp
  ·refine Dr.bind (Me l) fun q s f d=>Dr.bind (dW f 3) fun D y i g=>?_
   have:=g.2 (by omega);refine Dr.pbind (kS g.1 (by omega)) fun P k=>Dr.bind (Py i) fun B u k4 j=>Dr.bind (ihb k4) fun J v C A=>Dr.bind (oZ C j A) fun Q w G E=>?_
   exact Dr.pbind (jh (by simp) (by simp) (J4 d k E)) fun e m=>.ret G m
  ·refine Dr.bind (Me l) fun q s f d=>Dr.bind (Me f) fun D y i g=>Dr.bind (Py i) fun B u k4 j=>Dr.bind (ihb k4) fun J v C A=>Dr.bind (oZ C j A) fun Q w G E=>?_
   exact Dr.pbind (jh (by simp) (by simp) (J4 d g E)) fun e m=>.ret G m
  ·refine Dr.bind (Py l) fun B u k4 j=>Dr.bind (ihb k4) fun J v C A=>Dr.bind (oZ C j A) fun Q w G E=>?_
   exact Dr.pbind (jh (by simp) (by simp) (OY E)) fun e m=>.ret G m
  ·refine Dr.bind (dW l 6) fun q y f d=>?_
   have:=d.2 (by omega);have H:w64 (1+y)=1+y:=bK (by omega) (by omega);show Dr ((kz (w64 (1+y))).bind _) fZ
   rw[H];refine Dr.pbind (kS (by omega) (by omega)) fun P k=>?_
   exact Dr.pbind (jh (by simp) (by simp) (OY k)) fun e m=>.ret f m
  ·refine Dr.pbind (jh (by simp) (by simp) fun x hx=>(by cases hx)) fun P k=>Dr.bind (iJ l _ (by simp)) fun q s f d=>?_
   refine Dr.pbind (jh (by simp) (by simp) (OY (Jj (by omega) (by omega) (by omega) (by omega) ?_))) fun e2 F=>Dr.bind (oZ f k F) fun D w i g=>.ret i g
   simp at d;rcases d with rfl | rfl | rfl<;>simp
theorem ae0(n:Int):1<=siz n:=by
 cases n with
 | ofNat a=>show 1<=SizeOf.sizeOf (Int.ofNat a);rw[Int.ofNat.sizeOf_spec];omega
 | negSucc a=>show 1<=SizeOf.sizeOf (Int.negSucc a);rw[Int.negSucc.sizeOf_spec];omega
theorem aeZ{α:Type}[SizeOf α](l:List α):1<=siz l:=by
 cases l with
 | nil=>simp[siz]
 | cons x r=>simp only[siz];rw[List.cons.sizeOf_spec];omega
theorem akM(c:bW):4<=siz c:=by
 cases c with
 | mk b i h=>
  have h1:=aeZ b;have h2:=ae0 i;have a:=ae0 h;simp only[siz]at *;rw[bW.mk.sizeOf_spec];omega
theorem alr{a:bW}{b:List Str}(c:Int)(h:dM a)(d:JW b)(e:b.length<=100)(f:c<=5):Dr (Qn a b c) fZ:=by
 have h1:=akM a;have h2:=aeZ b;exact aaS (siz a+siz b+1) c h d (by omega) (by omega) (by omega) (by omega)
theorem aj6{α:Type}(xs:List α)(a b:Nat)(h:a<=b)(c:b<=xs.length):eff.cutL xs (some (a:Int)) (some (b:Int))=some ((xs.take b).drop a):=by
 unfold eff.cutL;simp only[Option.getD_some];rw[if_pos ⟨by omega,by omega,by omega⟩];simp
theorem Ul(a:Str)(b:Int)(h:a.length<=100000):∃l,jW a b=some l/\l.length<=a.length+1/\1<=l.length/\∀s,s∈l->s.length<=a.length:=by
 unfold jW;refine pX (fun (s:List Str×Nat) (i:Nat)=>((a,b,s.1,(s.2:Int),(i:Int)):Str×Int×(List Str)×Int×Int)) (a.length+1) (fun i s=>s.1.length<=i/\s.2<=i/\(a.length<i->1<=s.1.length)/\∀x,x∈s.1->x.length<=a.length) _ (fun i s hi g=>?_) (fun s g=>?_) ([],0) ⟨az _,az _,fun h=>absurd h (by omega),fun x j=>(by cases j)⟩
 ·obtain⟨h1,h2,k,f⟩:=g;have c:decide ((i:Int)<=(a.length:Int))=true:=by simp;omega
  have m:w64 ((i:Int)+1)=((i+1:Nat):Int):=by rw[bK (by omega) (by omega)];omega
  have hmem:∀y,y∈s.1++([(a.take i).drop s.2]:List Str)->y.length<=a.length:=fun y d=>by
   rcases List.mem_append.1 d with d | d
   ·exact f y d
   ·rw[List.mem_singleton.1 d,List.length_drop,ba];omega
  have n:gd (s.1.length+([(a.take i).drop s.2]:List Str).length)=some ():=bZ (by simp;omega);simp only[c,ac,aj6 a s.2 i h2 (by omega),zA,n,m];by_cases o:i=a.length
  ·have e:((i:Int)==(a.length:Int))=true:=by simp;omega
   rw[e,ac];exact⟨(s.1++[(a.take i).drop s.2],i+1),rfl,by simp;exact h1,by omega,fun _=>by simp,hmem⟩
  ·have e:((i:Int)==(a.length:Int))=false:=by simp;omega
   have j:=zF (show i<a.length by omega);rw[e,aa];simp only[au,j,zA];cases ((a[i].toNat:Int)==b)with
   | true=>exact⟨(s.1++[(a.take i).drop s.2],i+1),rfl,by simp;exact h1,by omega,fun _=>by simp,hmem⟩
   | false=>exact⟨(s.1,s.2),rfl,by simp only;omega,by simp only;omega,fun h=>absurd h (by omega),f⟩
 ·obtain⟨h1,h2,k,f⟩:=g;have c:decide (((a.length+1:Nat):Int)<=(a.length:Int))=false:=by simp;omega
  exact⟨s.1,by simp only[c,aa],h1,k (by omega),f⟩
theorem af8{c:bW}(h:dM c)(b:Str)(l:List Str)(p:b.length<=100000)(e:l≠[])(f:∀s,s∈l->s.length<=100):Dr (Eo c b l) fun s=>s.length<=b.length+100:=by
 unfold Eo;have g:w64 ((b.length:Int)+1)=(b.length:Int)+1:=bK (by omega) (by omega);rw[g];refine Dr.bind (dW h _) fun q x i d=>Dr.bind (dW i 6) fun r y a t=>?_
 have u:=d.2 (by omega);obtain⟨m,rfl⟩:=Gx d.1;have j:=rf b m (by omega);have k:=uJ b m (by omega);simp only[j,k,zA];refine Dr.bif (fun _=>?_) fun _=>Dr.bif (fun _=>.ret a ?_) fun _=>.ret a (by omega)
 ·refine Dr.bind (iJ a l e) fun v s n o=>?_
  have:=f s o;refine Dr.gd (by simp only[ba];omega) (Dr.gd (by simp only[a7,ba,List.length_drop];omega) (.ret n ?_));simp only[a7,ba,List.length_drop];omega
 ·rw[ba];omega
theorem al0{c:bW}(h:dM c):Dr (Il c) fun s=>s.length<=600:=by
 unfold Il;refine Dr.bind (iJ h _ (by simp)) fun U s G B=>Dr.bind (dW G 4) fun H n I C=>?_
 have V:=C.2 (by omega);obtain⟨m,rfl⟩:=Gx C.1;have o:s.length<=5:=by
  simp at B;rcases B with rfl | rfl | rfl | rfl<;>simp
 obtain⟨l,J,W,X,_⟩:=Ul s 32 (by omega);simp only[J,zA];refine Dr.of (pX (fun (z:bW×Str) (i:Nat)=>((z.1.b,z.1.i,z.1.h,z.2,(m:Int),(l.length:Int),(i:Int)):(List Int)×Int×Int×Str×Int×Int×Int)) m
  (fun i z=>dM z.1/\z.2.length<=5+130*i) (fun (r:bW×Str)=>dM r.1/\r.2.length<=600) (fun i z hi p=>?_) (fun z p=>?_) (H,s) ⟨I,by omega⟩)
 ·obtain⟨q,K⟩:=p;simp only[cnt_lt hi,ac];have:=pX (g:=fun (a:(List Int)×Int×Int×Str×Int×Int×Int×(List Str)×Int)=>
    bif (decide (a.2.2.2.2.2.2.2.2<a.2.2.2.2.2.1))then
     (aY (bW.mk a.1 a.2.1 a.2.2.1) 4).bind fun k=>
     (eF k.2).bind fun D=>
     (gd (a.2.2.2.2.2.2.2.1.length+([D]:List Str).length)).bind fun _=>
     some (.inl (k.1.b,k.1.i,k.1.h,a.2.2.2.1,a.2.2.2.2.1,a.2.2.2.2.2.1,a.2.2.2.2.2.2.1,a.2.2.2.2.2.2.2.1++([D]:List Str),w64 (a.2.2.2.2.2.2.2.2+1)))
    else
     (
      (gd (a.2.2.2.1.length+[59,32].length)).bind fun _=>
      (IA a.2.2.2.2.2.2.2.1 [32]).bind fun E=>
      (gd ((a.2.2.2.1++[59,32]).length+E.length)).bind fun _=>
      some ((.inl (a.1,a.2.1,a.2.2.1,(a.2.2.2.1++[59,32])++E,a.2.2.2.2.1,a.2.2.2.2.2.1,w64 (a.2.2.2.2.2.2.1+1))):((List Int)×Int×Int×Str×Int×Int×Int)⊕(bW×Str))
     ).bind fun r=>some (.inr r)) (fun (y:bW×List Str) (j:Nat)=>((y.1.b,y.1.i,y.1.h,z.2,(m:Int),(l.length:Int),(i:Int),y.2,(j:Int)):(List Int)×Int×Int×Str×Int×Int×Int×(List Str)×Int)) l.length
    (fun j y=>dM y.1/\y.2.length=j/\lens y.2<=19*j) (fun r=>∃z':bW×Str,r=.inl (z'.1.b,z'.1.i,z'.1.h,z'.2,(m:Int),(l.length:Int),((i+1:Nat):Int))/\dM z'.1/\z'.2.length<=5+130*(i+1)) (fun j y F u=>?_) (fun y u=>?_) (z.1,[]) ⟨q,rfl,by simp[lens]⟩
  ·obtain⟨r,e,z',rfl,h1,h2⟩:=this;exact⟨z',e,h1,h2⟩
  ·obtain⟨d,f,v⟩:=u;obtain⟨w,L,x,k4,M,N⟩:=jA d 4;have:=N (by omega);obtain⟨t,A,O,_⟩:=xB L M (by omega);simp only[cnt_lt F,ac,x,A,zA,bZ (show y.2.length+([t]:List Str).length<=34359738368 by simp;omega),NV F (show l.length<=1048576 by omega)];exact⟨(w,y.2++[t]),rfl,k4,by simp[f],by rw[Wq];omega⟩
  ·obtain⟨d,f,v⟩:=u;obtain⟨t,P,Q⟩:=aan y.2 [32] (by show y.2.length<4611686018427387904;omega) (by simp only[List.length_cons,List.length_nil];omega);simp only[List.length_cons,List.length_nil]at Q;simp only[aT,aa,P,zA,NV hi (show m<=1048576 by omega)];rw[bZ (by simp;omega),zA,bZ (by simp;omega),zA,zA];exact⟨_,rfl,(y.1,(z.2++[59,32])++t),rfl,d,by simp;omega⟩
 ·obtain⟨q,K⟩:=p;simp only[aT,aa];obtain⟨w,R,x,k4⟩:=zY q 12;simp only[x,zA];cases R with
  | false=>exact⟨(w,z.2),rfl,k4,by show z.2.length<=600;omega⟩
  | true=>
   obtain⟨S,t,A,T,O⟩:=af8 k4 z.2 ([[59],[32],[120],[59,32,49],[45]]:List Str) (by omega) (by simp) (fun s o=>by
    simp at o;rcases o with rfl | rfl | rfl | rfl | rfl<;>simp)
   simp only[ac,A,zA];exact⟨(S,t),rfl,T,by show t.length<=600;omega⟩
theorem Gy:∀s,s∈([[97],[98],[99],[100],[101]]:List Str)->s.length=1:=fun s a=>by
 simp at a;rcases a with rfl | rfl | rfl | rfl | rfl<;>rfl
theorem WJ{c:bW}(h:dM c):Dr (Cf c) fun s=>s.length<=120:=by
 unfold Cf;simp only[aO];refine Dr.bind (dW h 9) fun o x d v=>?_
 have two:Dr ((dI o ([[97],[98],[99],[100],[101]]:List Str)).bind fun g=>(Go.Abs.gd (g.2.length+[32,43,32].length)).bind fun _=>(dI g.1 ([[97],[98],[99],[100],[101]]:List Str)).bind fun i=>
   (Go.Abs.gd ((g.2++[32,43,32]).length+i.2.length)).bind fun _=>some (i.1,(g.2++[32,43,32])++i.2)) fun s=>s.length<=120:=by
  refine Dr.bind (iJ d _ (by simp)) fun f s b a=>?_
  have ls:=Gy s a;refine Dr.gd (by simp;omega) (Dr.bind (iJ b _ (by simp)) fun p t j k=>?_);have lt:=Gy t k;exact Dr.gd (by simp;omega) (.ret j (by simp;omega))
 refine Dr.bif (fun _=>two) fun _=>Dr.bif (fun _=>two) fun _=>Dr.bif (fun _=>?_) fun _=>Dr.bif (fun _=>?_) fun _=>Dr.bif (fun _=>?_) fun _=>Dr.bif (fun _=>?_) fun _=>Dr.bif (fun _=>?_) fun _=>?_
 ·refine Dr.bind (iJ d _ (by simp)) fun f s b a=>?_
  have ls:=Gy s a;exact Dr.gd (by simp;omega) (.ret b (by simp;omega))
 ·refine Dr.bind (dW d 3) fun f y b a=>?_
  have:=a.2 (by omega);obtain⟨t,q,m,_⟩:=xB y a.1 (by omega);refine Dr.pbind (P:=fun s=>s.length<=19) ⟨t,q,m⟩ fun t m=>Dr.gd (by simp;omega) (Dr.gd (by simp;omega) (Dr.bind (iJ b _ (by simp)) fun p s j k=>?_))
  have ls:=Gy s k;exact Dr.gd (by simp;omega) (Dr.gd (by simp;omega) (.ret j (by simp;omega)))
 ·refine Dr.bind (iJ d _ (by simp)) fun f s b a=>?_
  have ls:=Gy s a;exact Dr.gd (by simp;omega) (Dr.gd (by simp;omega) (.ret b (by simp;omega)))
 ·refine Dr.bind (iJ d _ (by simp)) fun f s b a=>.ret b ?_
  simp at a;rcases a with rfl | rfl | rfl | rfl | rfl<;>simp
 ·refine Dr.bind (iJ d _ (by simp)) fun f s b a=>.ret b ?_
  simp at a;rcases a with rfl | rfl | rfl | rfl | rfl | rfl | rfl | rfl | rfl<;>simp
 ·refine Dr.bind (alr 2 d ⟨by simp,fun s r=>by rw[Gy s r];omega⟩ (by simp) (by omega)) fun f e b a=>?_
  obtain⟨t,u,n⟩:=Qy e a;refine Dr.pbind (P:=fun s=>s.length<=2640) ⟨t,u,n⟩ fun t n=>Dr.bif (fun _=>.ret b (by simp)) fun l=>.ret b ?_
  simp at l;omega
theorem aj9{id v k n:Int}{nm cd:Str}(h1:-1000000000<=id/\id<=1000000000)(h2:-1000000000<=v/\v<=1000000000)(a:-1000000000<=k/\k<=1000000000)(c:nm.length<=1000)(d:cd.length<=1000)(b:-1000000000<=n/\n<=1000000000) :
  Fit B20 (.base .cell) (ah.mk id v k nm cd n):=by
 rw[fK];exact⟨nS h1.1 h1.2,nS h2.1 h2.2,nS a.1 a.2,PI (by show nm.length<=_;omega),PI (by show cd.length<=_;omega),nS b.1 b.2⟩
structure aoS(id:Int)(x:ah):Prop where
 fit:Fit B20 (.base .cell) x
 id:x.id=id
 v0:1<=x.version
 v3:x.version<=3
 name:x.name.length<=1
 code:x.code.length<=600
 n0:0<=x.n
 n9:x.n<=9
 k0:1<=x.kind
 k4:x.kind<=4
theorem ab6{id v k n:Int}{nm cd:Str}(h1:0<=id/\id<=1000000)(h2:1<=v/\v<=3)(a:1<=k/\k<=4)(c:nm.length<=1)(d:cd.length<=600)(b:0<=n/\n<=9):aoS id (ah.mk id v k nm cd n):=
 ⟨aj9 (by omega) (by omega) (by omega) (by omega) (by omega) (by omega),rfl,h2.1,h2.2,c,d,b.1,b.2,a.1,a.2⟩
theorem amd{c:bW}(h:dM c)(id:Int)(b:0<=id)(h1:id<=1000000):Dr (Ci c id) (aoS id):=by
 unfold Ci;refine Dr.bind (dW h 3) fun p x i g=>Dr.bind (vH i _ (by simp)) fun q k j l=>Dr.bind (iJ j _ (by simp)) fun r nm d m=>?_
 have t:=g.2 (by omega);have ln:=Gy nm m;have e:1<=k/\k<=4:=by
  simp at l;omega
 have n:w64 (1+x)=1+x:=bK (by omega) (by omega);have o:=g.1;simp only[n];refine Dr.bif (fun _=>?_) fun _=>Dr.bif (fun _=>?_) fun _=>Dr.bif (fun _=>?_) fun _=>Dr.bif (fun _=>?_) fun _=>?_
 ·refine Dr.bind (iJ d _ (by simp)) fun f s k4 a=>.ret k4 (ab6 ⟨b,h1⟩ (by omega) e (by simp) ?_ (by omega))
  simp at a;rcases a with rfl | rfl | rfl<;>simp
 ·exact Dr.bind (WJ d) fun f s k4 a=>.ret k4 (ab6 ⟨b,h1⟩ (by omega) e (by show nm.length<=1;omega) (by show s.length<=600;omega) (by omega))
 ·refine Dr.bind (dW d 9) fun f y k4 a=>.ret k4 (ab6 ⟨b,h1⟩ (by omega) e (by show nm.length<=1;omega) (by simp) ?_)
  have:=a.2 (by omega);exact⟨a.1,by show y<=9;omega⟩
 ·exact Dr.bind (al0 d) fun f s k4 a=>.ret k4 (ab6 ⟨b,h1⟩ (by omega) e (by show nm.length<=1;omega) a (by omega))
 ·exact .ret d (ab6 ⟨b,h1⟩ (by omega) e (by show nm.length<=1;omega) (by simp) (by omega))
end Go.Proofs.YtngjomkjlonfpaaGreatDoor
/- Plain laws: the pure form of an edit. Plain laws: the inverse of an edit brings the content back. Plain laws: the pure form of batches; a batch and its inverse. Plain laws: drawn notebooks, edits and batches. Plain laws: FnBatches, FnInverseBatches. -/
namespace Go.Proofs.YtngjomkjlonfpaaGreatDoor
noncomputable section
open Go.Abs Go.Proofs
def ins{α:Type}(xs:List α)(n:Nat)(c:α):List α:=xs.take n++[c]++xs.drop n
def del{α:Type}(xs:List α)(n:Nat):List α:=xs.take n++xs.drop (n+1)
def pY(l:Nat)(p:Int):Nat:=min l p.toNat
theorem P8(a:List ah)(b:Int)(c:ah)(h:(a.length:Int)<=1048576):zM a b c=some (ins a (pY a.length b) c):=by
 have e:pY a.length b<=a.length:=Nat.min_le_left _ _;have d:∃m,Ky b (a.length:Int)=some m/\pF 0 m=some (pY a.length b:Int):=by
  unfold Ky pF pY;by_cases q:b<(a.length:Int)
  ·rw[aq q,ac];refine⟨b,rfl,?_⟩;by_cases f:(0:Int)>b
   ·rw[aq f,ac];congr 1;omega
   ·rw[ae f,aa];congr 1;omega
  ·rw[ae q,aa];refine⟨_,rfl,?_⟩;rw[ae (by omega),aa];congr 1;omega
 obtain⟨m,d,g⟩:=d;have i:gd (0+(a.take (pY a.length b)).length)=some ():=bZ (by simp;omega);have j:gd (([]++a.take (pY a.length b)).length+[c].length)=some ():=bZ (by simp;omega);have k:gd ((([]++a.take (pY a.length b))++[c]).length+(a.drop (pY a.length b)).length)=some ():=bZ (by simp;omega);unfold zM;simp only[d,g,zA,rf a _ e,uJ a _ e,i,j,k];rfl
def qg(x:ah)(b:dR):ah×Int:=
 if b.kind=4 then
  if x.kind=3 then (x,5)
  else if x.version=999 then (x,6)
  else if iC (ah.mk x.id (x.version+1) x.kind b.cell.name b.cell.code x.n)=true then (ah.mk x.id (x.version+1) x.kind b.cell.name b.cell.code x.n,0)else (x,1)
 else if b.kind=5 then
  if x.kind=3 then
   if iC (ah.mk x.id x.version x.kind x.name x.code b.cell.n)=true then (ah.mk x.id x.version x.kind x.name x.code b.cell.n,0)else (x,1)
  else (x,5)
 else if x.kind=2 then
  if x.version=999 then (x,6)
  else if iC (ah.mk x.id (x.version+1) x.kind x.name x.code x.n)=true then (ah.mk x.id (x.version+1) x.kind x.name x.code x.n,0)else (x,1)
 else (x,5)
def nbB(cs:List ah):Bool:=(dH (ak.mk cs)).getD false
def atE(cs:List ah)(id:Int):Int:=dB (fun c=>c.id==id) cs 0
def onE(cs:List ah)(b:dR)(n:Nat)(x:ah):List ah×Int:=
 if b.kind=2 then (del cs n,0)
 else if b.kind=3 then (ins (del cs n) (pY (del cs n).length b.pos) x,0)
 else if (qg x b).2=0 then (cs.set n (qg x b).1,0)else (cs,(qg x b).2)
def apE(cs:List ah)(b:dR):List ah×Int:=
 if nbB cs=true/\1<=b.kind/\b.kind<=6 then
  if b.kind=1 then
   if iC b.cell=true then
    if 0<=atE cs b.cell.id then (cs,3)else if cs.length=8 then (cs,4)else (ins cs (pY cs.length b.pos) b.cell,0)
   else (cs,1)
  else
   match cs[(atE cs b.cell.id).toNat]? with
   | some x=>if atE cs b.cell.id<0 then (cs,2)else onE cs b (atE cs b.cell.id).toNat x
   | none=>(cs,2)
 else (cs,1)
theorem vY{c:ah}(h:Fit B20 (.base .cell) c):dm c=some (iC c):=by
 obtain⟨b,h1,h2⟩:=jc c h;unfold iC;rw[h2];rfl
theorem akB{n:Int}(a:1<=n)(h1:n<=999):aW B20 (.int .i64 (n+1)):=.int .i64 _ (by
 unfold Lit.wf;simp[IntKind.bits,IntKind.signed,IntKind.min,IntKind.max];omega)
theorem Z9(x:ah)(b:dR)(fx:Fit B20 (.base .cell) x)(fb:Fit B20 (.base .edit) b)(e:b.kind=4\/b.kind=5\/b.kind=6)(f:1<=x.version)(h1:x.version<=999) :
  ∃r,ve x b=some r/\r.2=(qg x b).2/\(r.2=0->r=qg x b):=by
 rw[vW]at fb;have fc:=fb.2.2;rw[fK]at fc;rw[fK]at fx;have g:w64 (x.version+1)=x.version+1:=bK (by omega) (by omega);have wv:=akB f h1;unfold ve qg;rw[g];rcases e with k | k | k
 ·have c:Fit B20 (.base .cell) (ah.mk x.id (x.version+1) x.kind b.cell.name b.cell.code x.n):=by rw[fK];exact⟨fx.1,wv,fx.2.2.1,fc.2.2.2.1,fc.2.2.2.2.1,fx.2.2.2.2.2⟩
  have d:=vY c;rw[k,if_pos rfl];simp only[beq_self_eq_true,ac,show ((4:Int) != 5)=true from rfl,d,zA];by_cases q:x.kind=3
  ·rw[if_pos q,q];exact⟨_,rfl,rfl,fun h=>by cases h⟩
  rw[if_neg q,show (x.kind==3)=false by simpa using q,aa];by_cases a:x.version=999
  ·rw[if_pos a,a];exact⟨_,rfl,rfl,fun h=>by cases h⟩
  rw[if_neg a,show (x.version==999)=false by simpa using a,aa];cases iC (ah.mk x.id (x.version+1) x.kind b.cell.name b.cell.code x.n)with
  | true=>exact⟨_,rfl,rfl,fun _=>rfl⟩
  | false=>exact⟨_,rfl,rfl,fun h=>by cases h⟩
 ·have c:Fit B20 (.base .cell) (ah.mk x.id x.version x.kind x.name x.code b.cell.n):=by rw[fK];exact⟨fx.1,fx.2.1,fx.2.2.1,fx.2.2.2.1,fx.2.2.2.2.1,fc.2.2.2.2.2⟩
  have d:=vY c;rw[k,if_neg (by decide),if_pos rfl];simp only[beq_self_eq_true,TS,show ((5:Int)==4)=false from rfl,ac,aa,d,zA];by_cases q:x.kind=3
  ·rw[if_pos q,show (x.kind != 3)=false by simpa using q,aa];cases iC (ah.mk x.id x.version x.kind x.name x.code b.cell.n)with
   | true=>exact⟨_,rfl,rfl,fun _=>rfl⟩
   | false=>exact⟨_,rfl,rfl,fun h=>by cases h⟩
  ·rw[if_neg q,show (x.kind != 3)=true by simpa using q,ac];exact⟨_,rfl,rfl,fun h=>by cases h⟩
 ·have c:Fit B20 (.base .cell) (ah.mk x.id (x.version+1) x.kind x.name x.code x.n):=by rw[fK];exact⟨fx.1,wv,fx.2.2.1,fx.2.2.2.1,fx.2.2.2.2.1,fx.2.2.2.2.2⟩
  have d:=vY c;rw[k,if_neg (by decide),if_neg (by decide)];simp only[show ((6:Int)==4)=false from rfl,show ((6:Int)==5)=false from rfl,show ((6:Int) != 5)=true from rfl,ac,aa,d,zA];by_cases q:x.kind=2
  ·rw[if_pos q,show (x.kind != 2)=false by simpa using q,aa];by_cases a:x.version=999
   ·rw[if_pos a,a];exact⟨_,rfl,rfl,fun h=>by cases h⟩
   rw[if_neg a,show (x.version==999)=false by simpa using a,aa];cases iC (ah.mk x.id (x.version+1) x.kind x.name x.code x.n)with
   | true=>exact⟨_,rfl,rfl,fun _=>rfl⟩
   | false=>exact⟨_,rfl,rfl,fun h=>by cases h⟩
  ·rw[if_neg q,show (x.kind != 2)=true by simpa using q,ac];exact⟨_,rfl,rfl,fun h=>by cases h⟩
theorem Fq(a:ak)(b:dR)(m:Fit B20 (.base .notebook) a)(z:Fit B20 (.base .edit) b):jq a b=some (ak.mk (apE a.cells b).1,(apE a.cells b).2):=by
 obtain⟨v,_,e⟩:=kD a m;have fa:=m;rw[fH]at fa;have o:=dh fa;have p:a.cells.length<lim:=dX o;have s:=fa.bQ;have fb:=z;rw[vW]at fb;have t:nbB a.cells=v:=by unfold nbB;rw[show ak.mk a.cells=a from rfl,e];rfl
 unfold jq apE;rw[e,copyS a (by omega),t];simp only[zA];cases v with
 | false=>rw[if_neg (by simp)];rfl
 | true=>
 obtain⟨E,hver⟩:=ML m e;simp only[aM,aa,fO,zA];by_cases f:1<=b.kind/\b.kind<=6
 ·rw[if_pos ⟨trivial,f⟩,aq f.1,aq f.2];simp only[Bool.and_self,aM,aa,jk a _ p,zA,vY fb.2.2];have u:dB (fun c=>c.id==b.cell.id) a.cells 0=atE a.cells b.cell.id:=rfl;rw[u];by_cases i:b.kind=1
  ·rw[if_pos i];simp only[i,beq_self_eq_true,ac];cases F:iC b.cell with
   | false=>rfl
   | true=>
    simp only[aM,aa,if_true];by_cases d:0<=atE a.cells b.cell.id
    ·rw[if_pos d,aq (show atE a.cells b.cell.id>=0 from d)];rfl
    ·rw[if_neg d,ae (show ¬atE a.cells b.cell.id>=0 from d),aa];by_cases g:a.cells.length=8
     ·rw[if_pos g,show ((a.cells.length:Int)==8)=true by simp;omega];rfl
     ·rw[if_neg g,show ((a.cells.length:Int)==8)=false by simp;omega,aa,P8 _ _ _ o];rfl
  ·rw[if_neg i,show (b.kind==1)=false by simpa using i];simp only[aa];rcases mM (fun c:ah=>c.id==b.cell.id) a.cells 0 with d | ⟨n,x,d,j⟩
   ·have d:atE a.cells b.cell.id = -1:=d;rw[d,show decide ((-1:Int)<0)=true from rfl,ac];simp only[show (-1:Int)<0 from by decide,if_true];cases a.cells[(-1:Int).toNat]?<;>rfl
   ·have d:atE a.cells b.cell.id=((0+n:Nat):Int):=d;rw[d,Nat.zero_add];have B:n<a.cells.length:=(zC.1 j).1;have w:=s x (zG j);have hv:=hver n x j;simp only[ae (show ¬((n:Nat):Int)<0 by omega),if_neg (show ¬((n:Nat):Int)<0 by omega),aa,au,j,zA,aD];have dd:xY a.cells (n:Int)=some (del a.cells n):=(drop_eq a.cells n B o).1;have dl:((del a.cells n).length:Int)<=1048576:=by unfold del;simp;omega
    unfold onE;rw[dd];by_cases k:b.kind=2
    ·rw[if_pos k,k];rfl
    rw[if_neg k,show (b.kind==2)=false by simpa using k,aa];by_cases l:b.kind=3
    ·rw[if_pos l,l];simp only[beq_self_eq_true,ac,zA,P8 _ _ _ dl]
    rw[if_neg l,show (b.kind==3)=false by simpa using l,aa];obtain⟨r,C,A,D⟩:=Z9 x b w z (by omega) hv.1 hv.2;rw[C,zA];by_cases q:r.2=0
    ·have:=D q;subst this;rw[if_pos q,q];rfl
    ·rw[if_neg (by rw[<- A];exact q),show (r.2==0)=false by simpa using q,aa,A]
 ·have y:(decide (1<=b.kind)&&decide (b.kind<=6))=false:=by
   rw[Bool.eq_false_iff];intro h;rw[zI,decide_eq_true_eq,decide_eq_true_eq]at h;exact f h
  rw[if_neg fun h=>f h.2,y];rfl
theorem afs{α β:Type}(f:α->β)(xs:List α)(n:Nat)(c:α):(ins xs n c).map f=ins (xs.map f) n (f c):=by
 unfold ins;simp[List.map_take,List.map_drop]
theorem aft{α β:Type}(f:α->β)(xs:List α)(n:Nat):(del xs n).map f=del (xs.map f) n:=by
 unfold del;simp[List.map_take,List.map_drop]
theorem afw{α:Type}(xs:List α)(n:Nat)(c:α)(h:n<=xs.length):(ins xs n c).length=xs.length+1:=by
 unfold ins;simp;omega
theorem alz{α:Type}(xs:List α)(n:Nat)(h:n<xs.length):(del xs n).length+1=xs.length:=by
 unfold del;simp;omega
theorem alI{α:Type}(xs:List α)(n:Nat)(x:α)(h:xs[n]?=some x):ins (del xs n) n x=xs:=by
 obtain⟨a,rfl⟩:=zC.1 h;unfold del ins;have b:(xs.take n++xs.drop (n+1)).take n=xs.take n:=List.take_left' (by simp;omega);have c:(xs.take n++xs.drop (n+1)).drop n=xs.drop (n+1):=List.drop_left' (by simp;omega);rw[b,c,a8,List.singleton_append,<- List.drop_eq_getElem_cons a,List.take_append_drop]
theorem aa5{α:Type}(xs:List α)(n:Nat)(c:α):(ins xs n c).Perm (c::xs):=by
 unfold ins;have:=@List.perm_middle _ c (xs.take n) (xs.drop n);rw[List.take_append_drop]at this;rw[a8];exact this
theorem afq{α:Type}{xs:List α}{n:Nat}{c y:α}(h:y∈ins xs n c):y=c\/y∈xs:=bc.1 ((aa5 xs n c).mem_iff.1 h)
theorem afr{α:Type}{xs:List α}{n:Nat}{y:α}(h:y∈del xs n):y∈xs:=by
 rcases List.mem_append.1 h with h | h
 ·exact List.mem_of_mem_take h
 ·exact List.mem_of_mem_drop h
theorem KT{α:Type}(xs:List α)(n:Nat)(c:α):(ins xs n c).Nodup↔¬c∈xs/\xs.Nodup:=by
 rw[(aa5 xs n c).nodup_iff,List.nodup_cons]
theorem ag1{α:Type}{xs:List α}(n:Nat)(h:xs.Nodup):(del xs n).Nodup:=by
 refine List.Sublist.nodup (l₂:=xs) ?_ h;unfold del;have h1:(xs.take n++xs.drop (n+1)).Sublist (xs.take n++xs.drop n):=List.Sublist.append (List.Sublist.refl _) (List.drop_sublist_drop_left xs (Nat.le_succ n));rw[List.take_append_drop]at h1;exact h1
theorem qY{α:Type}(p:α->Bool):∀(xs:List α) (i:Nat),(dB p xs i = -1/\∀x,x∈xs->p x=false) \/
  ∃(n:Nat) (x:α),dB p xs i=((i+n:Nat):Int)/\xs[n]?=some x/\p x=true/\∀(m:Nat) (y:α),m<n->xs[m]?=some y->p y=false
 | [],i=>.inl ⟨rfl,fun x a=>(by cases a)⟩
 | x::r,i=>by
  unfold dB;cases a:p x with
  | true=>exact .inr ⟨0,x,rfl,rfl,a,fun m y d=>absurd d (Nat.not_lt_zero _)⟩
  | false=>
   rcases qY p r (i+1)with ⟨h1,h2⟩ | ⟨n,y,h1,h2,e,f⟩
   ·refine .inl ⟨h1,fun y b=>?_⟩;rcases bc.1 b with rfl | b
    ·exact a
    ·exact h2 y b
   ·refine .inr ⟨n+1,y,?_,by simpa using h2,e,fun m z d c=>?_⟩
    ·simp only[aa];rw[h1];congr 1;omega
    ·cases m with
     | zero=>simp at c;subst c;exact a
     | succ m=>exact f m z (by omega) (by simpa using c)
theorem NR{α β:Type}(f:α->β)(p:β->Bool):∀(xs:List α) (i:Nat),dB (fun x=>p (f x)) xs i=dB p (xs.map f) i
 | [],_=>rfl
 | x::r,i=>by rw[List.map_cons];unfold dB;rw[NR f p r]
def ids(s:List ah):List Int:=s.map (·.id)
def atI(l:List Int)(v:Int):Int:=dB (fun c=>c==v) l 0
theorem afU(s:List ah)(v:Int):atE s v=atI (ids s) v:=NR (fun x:ah=>x.id) (fun c=>c==v) s 0
theorem apA{l:List Int}(h:l.Nodup){n:Nat}{v:Int}(hv:l[n]?=some v):atI l v=(n:Int):=by
 unfold atI;rcases qY (fun c=>c==v) l 0 with ⟨h1,h2⟩ | ⟨m,y,h1,h2,d,f⟩
 ·have:=h2 v (zG hv);simp at this
 ·have e:=eq_of_beq d;subst e;rw[h1,Nat.zero_add];have:m=n:=by
   obtain⟨a,em⟩:=zC.1 h2;obtain⟨b,en⟩:=zC.1 hv;have pw:=List.pairwise_iff_getElem.1 h;rcases Nat.lt_trichotomy m n with q | q | q
   ·exact absurd (em.trans en.symm) (pw m n a b q)
   ·exact q
   ·exact absurd (en.trans em.symm) (pw n m b a q)
  rw[this]
theorem amj{l:List Int}{v:Int}(h:atI l v<0):¬v∈l:=by
 unfold atI at h;rcases qY (fun c=>c==v) l 0 with ⟨_,h2⟩ | ⟨m,y,h1,_⟩
 ·intro hv;have:=h2 v hv;simp at this
 ·rw[h1]at h;omega
theorem aja{l:List Int}(h:∀(k:Nat) (v:Int),l[k]?=some v->atI l v=(k:Int)):l.Nodup:=by
 refine List.pairwise_iff_getElem.2 fun i j hi a b c=>?_
 have h1:=h i l[i] (zF hi);have h2:=h j l[j] (zF a);rw[c]at h1;omega
theorem Xa{α:Type}{p:α->Nat->Bool}:∀ {xs:List α} {i:Nat},(∀(k:Nat) (x:α),xs[k]?=some x->p x (i+k)=true)->iw p xs i=true
 | [],i,_=>rfl
 | y::ys,i,h=>by
  unfold iw;rw[zI];refine⟨h 0 y rfl,Xa fun k x a=>?_⟩;have:=h (k+1) x (by simpa using a);rw[show i+1+k=i+(k+1) by omega];exact this
theorem aco{α:Type}{p:α->Nat->Bool}{xs:List α}(h:∀(k:Nat) (x:α),xs[k]?=some x->p x k=true):iw p xs 0=true:=
 Xa fun k x a=>by rw[Nat.zero_add];exact h k x a
def akb(x:ah):Bool:=iC (ah.mk x.id 1 x.kind x.name x.code x.n)
theorem zh{x:ah}:iC x=true↔(1<=x.version/\x.version<=999)/\akb x=true:=by
 constructor
 ·intro h;have hv:=JM h;refine⟨hv,?_⟩;unfold akb iC dm;unfold iC dm at h;rw[fO,fO]at h ⊢;rw[aq hv.1,aq hv.2]at h;exact h
 ·rintro⟨hv,h⟩;unfold akb iC dm at h;unfold iC dm;rw[fO,fO]at h ⊢;rw[aq hv.1,aq hv.2];exact h
structure Nb(s:List ah):Prop where
 fit:Fit B20 (.base .notebook) (ak.mk s)
 len:s.length<=8
 val:∀x,x∈s->iC x=true
 nd:(ids s).Nodup
theorem aln{s:List ah}(m:Fit B20 (.base .notebook) (ak.mk s)):nbB s=true↔Nb s:=by
 have j:=m;rw[fH]at j;have h:s.length<lim/\∀x∈s,Fit B20 (.base .cell) x:=⟨dX (dh j),j.bQ⟩;have e:dH (ak.mk s)=some (iw (fun c i=>iC c&&!(dB (fun d=>d.id==c.id) s 0 != (i:Int))) s 0&&decide ((s.length:Int)<=8)):=by
  refine nM (fun i=>((s,(i:Int)):List ah×Int)) s _ _ (fun i x a=>?_) ?_
  ·obtain⟨b,rfl⟩:=zC.1 a;have n:=vY (h.2 _ (List.getElem_mem b));simp only[cZ b,ac,au,a,zA,dF b h.1,n,jk ⟨s⟩ _ h.1];cases iC s[i]<;>cases (dB (fun d=>d.id==s[i].id) s 0 != (i:Int))<;>rfl
  ·simp only[aT,aa]
 have at_id:∀x:ah,dB (fun d=>d.id==x.id) s 0=atI (ids s) x.id:=fun x=>afU s x.id
 unfold nbB;rw[e,Option.getD_some,zI,decide_eq_true_eq];constructor
 ·rintro⟨h1,h2⟩;have g:=fun k x a=>uN h1 k x a
  simp only[Nat.zero_add,zI,Bool.not_eq_true',at_id]at g;refine⟨m,by omega,fun x a=>?_,aja fun k v hv=>?_⟩
  ·obtain⟨k,f⟩:=List.getElem?_of_mem a;exact (g k x f).1
  ·unfold ids at hv;rw[List.getElem?_map]at hv;cases f:s[k]? with
   | none=>rw[f]at hv;cases hv
   | some x=>
    rw[f]at hv;have hv:x.id=v:=by simpa using hv
    have:=(g k x f).2;rw[<- hv];simpa using this
 ·intro l;refine⟨?_,by have:=l.len;omega⟩;refine aco fun k x a=>?_
  have h1:=l.val x (zG a);have h2:atI (ids s) x.id=(k:Int):=apA l.nd (by unfold ids;rw[List.getElem?_map,a];rfl);rw[h1,at_id,h2];simp
theorem amm{s:List ah}{e:dR}(a:Fit B20 (.base .notebook) (ak.mk s))(b:Fit B20 (.base .edit) e):Fit B20 (.base .notebook) (ak.mk (apE s e).1):=by
 obtain⟨w,n,h1,_,c⟩:=JU (ak.mk s) e a b;rw[Fq (ak.mk s) e a b]at h1;injection h1 with h1;injection h1 with h1 _;rw[h1];exact c
theorem akv{s:List ah}{e:dR}(h:(apE s e).2=0):nbB s=true/\(1<=e.kind/\e.kind<=6) /\
  ((e.kind=1/\iC e.cell=true/\atE s e.cell.id<0/\s.length≠8/\(apE s e).1=ins s (pY s.length e.pos) e.cell) \/
   (e.kind≠1/\∃(n:Nat) (x:ah),s[n]?=some x/\x.id=e.cell.id/\atE s e.cell.id=(n:Int)/\(onE s e n x).2=0/\(apE s e).1=(onE s e n x).1)):=by
 unfold apE at h ⊢;by_cases c:nbB s=true/\1<=e.kind/\e.kind<=6
 ·rw[if_pos c]at h ⊢;refine⟨c.1,c.2,?_⟩;by_cases a:e.kind=1
  ·rw[if_pos a]at h ⊢;by_cases b:iC e.cell=true
   ·rw[if_pos b]at h ⊢;by_cases f:0<=atE s e.cell.id
    ·rw[if_pos f]at h;cases h
    ·rw[if_neg f]at h ⊢;by_cases d:s.length=8
     ·rw[if_pos d]at h;cases h
     ·rw[if_neg d];exact .inl ⟨a,b,by omega,d,rfl⟩
   ·rw[if_neg b]at h;cases h
  ·rw[if_neg a]at h ⊢;refine .inr ⟨a,?_⟩;rcases qY (fun c:ah=>c.id==e.cell.id) s 0 with ⟨h1,_⟩ | ⟨n,x,h1,h2,g,_⟩
   ·have h1:atE s e.cell.id = -1:=h1;rw[h1]at h;simp only[show (-1:Int)<0 from by decide,if_true]at h;revert h;cases s[(-1:Int).toNat]?<;>(intro h;cases h)
   ·have h1:atE s e.cell.id=((0+n:Nat):Int):=h1;rw[Nat.zero_add]at h1;rw[h1]at h ⊢;simp only[if_neg (show ¬((n:Nat):Int)<0 by omega),aD,h2]at h ⊢;exact⟨n,x,h2,eq_of_beq g,rfl,h,rfl⟩
 ·rw[if_neg c]at h;cases h
theorem ai8{s:List ah}{e:dR}{n:Nat}{x:ah}(h:(onE s e n x).2=0) :
  (e.kind=2/\(onE s e n x).1=del s n)\/(e.kind=3/\(onE s e n x).1=ins (del s n) (pY (del s n).length e.pos) x) \/
  (e.kind≠2/\e.kind≠3/\(qg x e).2=0/\(onE s e n x).1=s.set n (qg x e).1):=by
 unfold onE at h ⊢;by_cases a:e.kind=2
 ·rw[if_pos a];exact .inl ⟨a,rfl⟩
 rw[if_neg a]at h ⊢;by_cases b:e.kind=3
 ·rw[if_pos b];exact .inr (.inl ⟨b,rfl⟩)
 rw[if_neg b]at h ⊢;by_cases q:(qg x e).2=0
 ·rw[if_pos q];exact .inr (.inr ⟨a,b,q,rfl⟩)
 ·rw[if_neg q]at h;exact absurd h q
theorem acz{x:ah}{e:dR}(h:(qg x e).2=0):iC (qg x e).1=true/\(qg x e).1.id=x.id/\(qg x e).1.kind=x.kind /\
  ((e.kind=4/\x.kind≠3/\(qg x e).1.n=x.n)\/(e.kind=5/\x.kind=3/\(qg x e).1.name=x.name/\(qg x e).1.code=x.code) \/
   (e.kind≠4/\e.kind≠5/\x.kind=2/\ahZ (qg x e).1=ahZ x)):=by
 unfold qg at h ⊢;by_cases k4:e.kind=4
 ·rw[if_pos k4]at h ⊢;by_cases q:x.kind=3
  ·rw[if_pos q]at h;cases h
  rw[if_neg q]at h ⊢;by_cases b:x.version=999
  ·rw[if_pos b]at h;cases h
  rw[if_neg b]at h ⊢;by_cases a:iC (ah.mk x.id (x.version+1) x.kind e.cell.name e.cell.code x.n)=true
  ·rw[if_pos a];exact⟨a,rfl,rfl,.inl ⟨k4,q,rfl⟩⟩
  ·rw[if_neg a]at h;cases h
 rw[if_neg k4]at h ⊢;by_cases c:e.kind=5
 ·rw[if_pos c]at h ⊢;by_cases q:x.kind=3
  ·rw[if_pos q]at h ⊢;by_cases a:iC (ah.mk x.id x.version x.kind x.name x.code e.cell.n)=true
   ·rw[if_pos a];exact⟨a,rfl,rfl,.inr (.inl ⟨c,q,rfl,rfl⟩)⟩
   ·rw[if_neg a]at h;cases h
  ·rw[if_neg q]at h;cases h
 rw[if_neg c]at h ⊢;by_cases q:x.kind=2
 ·rw[if_pos q]at h ⊢;by_cases b:x.version=999
  ·rw[if_pos b]at h;cases h
  rw[if_neg b]at h ⊢;by_cases a:iC (ah.mk x.id (x.version+1) x.kind x.name x.code x.n)=true
  ·rw[if_pos a];exact⟨a,rfl,rfl,.inr (.inr ⟨k4,c,q,rfl⟩)⟩
  ·rw[if_neg a]at h;cases h
 ·rw[if_neg q]at h;cases h
theorem alK{s:List ah}{n:Nat}{x:ah}(h:s[n]?=some x):(ids s)[n]?=some x.id:=by unfold ids;rw[List.getElem?_map,h];rfl
theorem afH{s:List ah}{n:Nat}{x y:ah}(h:s[n]?=some x)(a:y.id=x.id):ids (s.set n y)=ids s:=by
 unfold ids;rw[List.map_set];apply List.ext_getElem?;intro i;rw[List.getElem?_set];by_cases q:n=i
 ·subst q;have b:=(zC.1 h).1;rw[if_pos rfl,if_pos (by simpa using b),List.getElem?_map,h,a];rfl
 ·rw[if_neg q]
theorem apB{s:List ah}{e:dR}(a:Nb s)(l:Fit B20 (.base .edit) e)(h:(apE s e).2=0):Nb (apE s e).1:=by
 have c:=amm a.fit l;obtain⟨_,v,h⟩:=akv h;rcases h with ⟨m,o,j,w,g⟩ | ⟨m,n,x,f,p,q,r,g⟩
 ·rw[g]at c ⊢;have i:pY s.length e.pos<=s.length:=Nat.min_le_left _ _;rw[afU]at j;refine⟨c,?_,fun y b=>?_,?_⟩
  ·rw[afw _ _ _ i];have:=a.len;omega
  ·rcases afq b with rfl | b
   ·exact o
   ·exact a.val y b
  ·unfold ids;rw[afs,KT];exact⟨amj j,a.nd⟩
 ·rw[g]at c ⊢;have i:=(zC.1 f).1;have dnd:(ids (del s n)).Nodup:=by unfold ids;rw[aft];exact ag1 n a.nd
  have dl:=alz s n i;rcases ai8 r with ⟨z,d⟩ | ⟨A,d⟩ | ⟨_,_,t,d⟩
  ·rw[d]at c ⊢;exact⟨c,by have:=a.len;omega,fun y b=>a.val y (afr b),dnd⟩
  ·rw[d]at c ⊢;refine⟨c,?_,fun y b=>?_,?_⟩
   ·rw[afw _ _ _ (show pY (del s n).length e.pos<=(del s n).length from Nat.min_le_left _ _)];have:=a.len;omega
   ·rcases afq b with rfl | b
    ·exact a.val _ (zG f)
    ·exact a.val y (afr b)
   ·unfold ids at dnd ⊢;rw[afs,KT];refine⟨fun k=>?_,dnd⟩;have hh:=a.nd;rw[<- alI (ids s) n x.id (alK f),KT]at hh;rw[aft]at k;exact hh.1 k
  ·rw[d]at c ⊢;obtain⟨t1,u,_⟩:=acz t;refine⟨c,by rw[List.length_set];exact a.len,fun y b=>?_,?_⟩
   ·rcases List.mem_or_eq_of_mem_set b with b | rfl
    ·exact a.val y b
    ·exact t1
   ·rw[afH f u];exact a.nd
abbrev ahR(e:dR):Prop:=Fit B20 (.base .edit) e
def bad(l:List Int):Int:=dB (fun c=>c != 0) l 0
theorem Dr.join{X β:Type}{p:Option (X⊕(bW×β))}{P:X->Prop}{k:X->Option (bW×β)}{Q:β->Prop}(a:∃st,p=some (.inl st)/\P st)(b:∀st,P st->Dr (k st) Q):Dr (ajr p k) Q:=by
 obtain⟨st,e,h⟩:=a;rw[e];exact b st h
abbrev afX(x:ah):Prop:=Fit B20 (.base .cell) x
abbrev I64(n:Int):Prop:=aW B20 (.int .i64 n)
theorem i64{n:Int}(a:-1000000000<=n)(h1:n<=1000000000):I64 n:=nS a h1
theorem TN{id v k n:Int}{nm cd:Str}:afX (ah.mk id v k nm cd n)↔I64 id/\I64 v/\I64 k/\aW B20 (.str nm)/\aW B20 (.str cd)/\I64 n:=by
 show Fit B20 (.base .cell) _↔_
 rw[fK]
theorem ahI{x:ah}:afX x↔I64 x.id/\I64 x.version/\I64 x.kind/\aW B20 (.str x.name)/\aW B20 (.str x.code)/\I64 x.n:=by
 show Fit B20 (.base .cell) _↔_
 rw[fK]
theorem ajZ{k p:Int}{x:ah}(h1:I64 k)(h2:I64 p)(a:afX x):ahR (dR.mk k p x):=by
 show Fit B20 (.base .edit) _
 rw[vW];exact⟨h1,h2,a⟩
structure NbD(m:Nat)(x:ak):Prop where
 len:x.cells.length<=m
 fit:∀c,c∈x.cells->afX c
theorem NbD.nb{m:Nat}{x:ak}(h:NbD m x)(a:m<=1000):Fit B20 (.base .notebook) x:=by
 rw[fH];exact gu (by have:=h.len;omega) h.fit
theorem akC{n:Nat}(h:n<=1000000):w64 ((n:Int)+1)=((n+1:Nat):Int):=by rw[bK (by omega) (by omega)];omega
theorem akh{a:List Int}(d:aW B47 (.list (.base .u8) a)){k:Option Bool}(b:(a.length:Int)<=1048576->k=some true):((big a).bind fun c=>bif c then some (true)else k)=some true:=by
 unfold big;rw[zA];by_cases h:(a.length:Int)>1048576
 ·rw[aq h];rfl
 ·rw[ae h];exact b (by omega)
end
end Go.Proofs.YtngjomkjlonfpaaGreatDoor
/- Plain laws: a renaming keeps a notebook valid. -/
namespace Go.Proofs.YtngjomkjlonfpaaGreatDoor
open Go.Abs Go.Proofs
theorem N9{α:Type}(p:α->Bool):∀(i:Nat) (xs:List α),jf (fun _ x=>p x) i xs=xs.all p
 | _,[]=>rfl
 | i,x::r=>by
  show (p x&&jf (fun _ x=>p x) (i+1) r)=(p x&&r.all p)
  rw[N9 p (i+1) r]
theorem Ye(a:Str)(h:a.length<=1048576):gW a=some (prn a&&decide ((a.length:Int)<=120)):=by
 unfold gW;refine (qc (fun i=>((a,(i:Int)):Str×Int)) a (fun _ c=>prC c) false (decide ((a.length:Int)<=120)) (fun i c b=>?_) ?_).trans ?_
 ·simp only[dw b,ac,au,b,zA,dn b (by omega)];have e:prC c=(!(decide ((c.toNat:Int)<32))&&!(decide ((c.toNat:Int)>126))):=by
   unfold prC;by_cases h1:32<=c.toNat<;>by_cases h2:c.toNat<=126<;>simp[h1,h2]<;>omega
  rw[e];cases decide ((c.toNat:Int)<32)<;>cases decide ((c.toNat:Int)>126)<;>rfl
 ·simp only[bG,aa]
 ·rw[N9];unfold prn;cases a.all prC<;>rfl
theorem Yd{t:Str}(h:prn t=true)(a:t.length<=120):gW t=some true:=by
 rw[Ye t (by omega),h,aq (by omega)];rfl
theorem ab5{c:ah}(h:lJ c)(hv:bH c=some true):gW c.code=some true/\(c.kind≠1->aZ c.name=some true):=by
 obtain⟨v,a,_,_⟩:=IW c.code h.code;obtain⟨u,b⟩:=mO c.name (by have:=h.name;omega);unfold bH at hv;simp only[vN,a,b,zA]at hv;rw[a,b];cases h1:(decide (1<=c.id)&&decide (c.id<=999))with
 | false=>rw[h1]at hv;cases hv
 | true=>
 cases h2:(decide (1<=c.version)&&decide (c.version<=999))with
 | false=>rw[h1,h2]at hv;cases hv
 | true=>
 rw[h1,h2]at hv;cases v with
 | false=>cases hv
 | true=>
  refine⟨rfl,fun d=>?_⟩;cases u with
  | true=>rfl
  | false=>
   have e:(c.kind==1)=false:=by simpa using d
   rw[e]at hv;simp only[aM,aa]at hv;revert hv;cases (c.kind==2)<;>cases (c.kind==3)<;>cases (c.kind==4)<;>intro hv<;>cases hv
theorem ahG{c:ah}{nm:Str}(a:c.kind≠1)(h1:aZ c.name=some true)(h2:aZ nm=some true):bH ⟨c.id,c.version,c.kind,nm,c.code,c.n⟩=bH c:=by
 have b:(c.kind==1)=false:=by simpa using a
 unfold bH;simp only[b,h1,h2];rfl
theorem ahH{c:ah}{t:Str}(a:c.kind=2)(h1:gW c.code=some true)(h2:gW t=some true):bH ⟨c.id,c.version,c.kind,c.name,t,c.n⟩=bH c:=by
 unfold bH;simp only[a,h1,h2];rfl
theorem amf{c:ah}(h:lJ c):iC c=cellV c:=by
 unfold iC;rw[Zl c h];rfl
theorem AP{c:ah}(h:lJ c):cellV c=true↔bH c=some true:=by
 rw[Zm c h];simp
structure Vl(cs out:List ah):Prop where
 ids:out.map (·.id)=cs.map (·.id)
 kinds:out.map (·.kind)=cs.map (·.kind)
 val:∀x,x∈out->lJ x/\cellV x=true
theorem Vl.len{cs out:List ah}(h:Vl cs out):out.length=cs.length:=by
 have:=congrArg List.length h.ids;simpa using this
theorem Je{α β:Type}(f:α->β){xs:List α}{i:Nat}{x y:α}(h:xs[i]?=some x)(e:f y=f x):(xs.set i y).map f=xs.map f:=by
 rw[List.map_set,e];have:(xs.map f)[i]?=some (f x):=by rw[List.getElem?_map,h];rfl
 obtain⟨a,b⟩:=zC.1 this;rw[<- b];exact List.set_getElem_self a
theorem Vl.set{cs out:List ah}(h:Vl cs out){i:Nat}{x y:ah}(b:out[i]?=some x)(c:y.id=x.id)(d:y.kind=x.kind)(e:lJ y/\cellV y=true):Vl cs (out.set i y) where
 ids:=by rw[Je (·.id) b c];exact h.ids
 kinds:=by rw[Je (·.kind) b d];exact h.kinds
 val:=fun z a=>by
  rcases List.mem_or_eq_of_mem_set a with a | rfl
  ·exact h.val z a
  ·exact e
theorem Vl.kind{cs out:List ah}(h:Vl cs out){i:Nat}{x:ah}(a:out[i]?=some x):∃y,cs[i]?=some y/\y.kind=x.kind:=by
 have hi:=(zC.1 a).1;obtain⟨y,b⟩:∃y,cs[i]?=some y:=⟨_,zF (by have:=h.len;omega)⟩;have e:=congrArg (fun l=>l[i]?) h.kinds;simp only[List.getElem?_map,a,b,Option.map_some,zD]at e;exact⟨y,b,e.symm⟩
theorem alo{cs:List ah}{b c:Str}{k:Nat}{x:ah}(j:Vl cs cs)(f:cs[k]?=some x)(l:x.kind≠1)(m:fF c=true)(g:c.length<=1048576):Vl cs (pJ c cs k):=by
 have e:pJ c cs k=cs.set k ⟨x.id,x.version,x.kind,c,x.code,x.n⟩:=by unfold pJ;rw[f]
 rw[e];obtain⟨h,hv⟩:=j.val x (zG f);have a:=(AP h).1 hv;have i:aZ c=some true:=by rw[(xO c (by omega)).1,m]
 have d:lJ ⟨x.id,x.version,x.kind,c,x.code,x.n⟩:=⟨g,h.code⟩;exact j.set f rfl rfl ⟨d,(AP d).2 ((ahG l ((ab5 h a).2 l) i).trans a)⟩
theorem Yx{cs:List ah}{b c:Str}(k:b.length<=34359738368)(l:c.length<=34359738368):∀(ps:List bF) (i:Nat) (out:List ah) (full:Bool) (r:List ah×Bool),(∀p,p∈ps->qh p)->(∀(j:Nat) (p:bF) (y:ah),ps[j]?=some p->cs[i+j]?=some y->p.kind=2->y.kind=2)->Vl cs out->lH false b c i ps out full=some r->Vl cs r.1
 | [],i,out,full,r,_,_,a,h=>by cases h;exact a
 | p::ps,i,out,full,r,v,w,a,h=>by
  have d:∀(j:Nat) (q:bF) (y:ah),ps[j]?=some q->cs[i+1+j]?=some y->q.kind=2->y.kind=2:=fun j q y A m=>w (j+1) q y (by simpa using A) (by rw[<- m];congr 1;omega)
  have e:∀q,q∈ps->qh q:=fun q B=>v q (ar _ B)
  unfold lH at h;split at h
  ·rename_i hh;split at h
   ·rename_i C;split at h
    ·rename_i x n;refine Yx k l ps (i+1) _ _ r e d ?_ h;have o:=v p aw;have z:=Tq p b hh;obtain⟨_,_,_,_,_,_,s⟩:=Xv p o z b c k l;obtain⟨y,m,t⟩:=a.kind n;have xk:x.kind=2:=by rw[<- t];exact w 0 p y rfl m z
     obtain⟨u,hv⟩:=a.val x (zG n);have f:=(AP u).1 hv;have g:lJ (Xq false (textOf p b c) x):=⟨u.name,by show (textOf p b c).length<=1048576;omega⟩;exact a.set n rfl rfl ⟨g,(AP g).2 ((ahH xk (ab5 u f).1 (Yd s C)).trans f)⟩
    ·cases h
   ·cases h
  ·exact Yx k l ps (i+1) out full r e d a h
theorem agL{l:List Int}{k:Nat}(h:yB l=(k:Int)):(k:Int)∈l:=by
 match l,h with
 | [],h=>exact absurd h (by show ¬(-1:Int)=_;omega)
 | [a],h=>have h:a=(k:Int):=h;rw[h];simp
 | _::_::_,h=>exact absurd h (by show ¬(-2:Int)=_;omega)
theorem WR(b:Str):∀(ps:List bF) (i k:Nat),(k:Int)∈dU b i ps->∃p,ps[k-i]?=some p/\i<=k/\p.kind≠1
 | [],i,k,h=>by cases h
 | p::r,i,k,h=>by
  unfold dU at h;have next:(k:Int)∈dU b (i+1) r->∃q,(p::r)[k-i]?=some q/\i<=k/\q.kind≠1:=fun h=>by
   obtain⟨q,h1,h2,c⟩:=WR b r (i+1) k h;refine⟨q,?_,by omega,c⟩;rw[show k-i=(k-(i+1))+1 by omega];simpa using h1
  split at h
  ·rename_i a;rcases bc.1 h with h | h
   ·have:k=i:=by omega
    subst this;rw[zI]at a;exact⟨p,by simp,az _,by simpa using a.1⟩
   ·exact next h
  ·exact next h
theorem agV(cs:List ah)(a:cs.length<=1048576)(h:∀c,c∈cs->lJ c):∀(i:Nat) (p:bF) (c:ah),(partsOf cs)[i]?=some p->cs[i]?=some c->(p.kind=2->c.kind=2)/\(c.kind=1->p.kind=1):=by
 obtain⟨ps,_,h2,_,_,_,b⟩:=DY cs a h;have e:partsOf cs=ps:=by unfold partsOf;rw[h2];rfl
 rw[e];exact b
theorem ao3{cs:List ah}{b c:Str}(u:cs.length<=1048576)(h:∀c,c∈cs->lJ c)(H:b.length<=1048576)(z:c.length<=1048576)(a:(qG cs b c false).2=0):Vl cs (qG cs b c false).1.cells:=by
 unfold qG at a ⊢;cases d:wu cs with
 | false=>rw[d]at a;exact absurd (show (1:Int)=0 from a) (by omega)
 | true=>
 cases f:fF b with
 | false=>rw[d,f]at a;exact absurd (show (1:Int)=0 from a) (by omega)
 | true=>
 cases g:fF c with
 | false=>rw[d,f,g]at a;exact absurd (show (1:Int)=0 from a) (by omega)
 | true=>
 cases i:(b==c)with
 | true=>rw[d,f,g,i]at a;exact absurd (show (1:Int)=0 from a) (by omega)
 | false=>
 rw[d,f,g,i]at a;simp only[aM,aa]at a ⊢;cases hneg:decide (yB (dU b 0 (partsOf cs))<0)with
 | true=>rw[hneg]at a;exact absurd (show (2:Int)=0 from a) (by omega)
 | false=>
 rw[hneg]at a;simp only[aa]at a ⊢;cases l:(decide (((dU c 0 (partsOf cs)).length:Int)>0)||(partsOf cs).any (Fe c))with
 | true=>rw[l]at a;exact absurd (show (3:Int)=0 from a) (by omega)
 | false=>
 rw[l]at a;simp only[aa]at a ⊢;cases m:(partsOf cs).any (Bq b c)with
 | true=>rw[m]at a;exact absurd (show (4:Int)=0 from a) (by omega)
 | false=>
 rw[m]at a;simp only[aa]at a ⊢;obtain⟨_,_,A,B,_⟩:=QN cs u h;have hlen:=B d;obtain⟨_,o⟩:=wo h d;have C:Vl cs cs:=⟨rfl,rfl,fun x n=>⟨h x n,(o x n).1⟩⟩;obtain⟨k,v,D⟩:=adF (partsOf cs) b (by have:=of_decide_eq_false hneg;omega);rw[v,aD]at a ⊢;obtain⟨q,w,_,s⟩:=WR b (partsOf cs) 0 k (agL v);rw[Nat.sub_zero]at w;obtain⟨x,n⟩:∃x,cs[k]?=some x:=⟨_,zF (by omega)⟩;have rel:=agV cs u h;have E:=alo (b:=b) C n (fun e=>s ((rel k q x w n).2 e)) g z;cases t:lH false b c 0 (partsOf cs) (pJ c cs k) false with
 | none=>rw[t]at a;exact absurd (show (5:Int)=0 from a) (by omega)
 | some r=>
  have:=Yx (cs:=cs) (by omega) (by omega) (partsOf cs) 0 _ _ r A (fun j p y F G=>(rel j p y F (by simpa using G)).1) E t;rw[t]at a;obtain⟨out,full⟩:=r;cases full with
  | true=>exact absurd (show (6:Int)=0 from a) (by omega)
  | false=>exact this
theorem alE{cs:List ah}{b c:Str}(h:Nb cs)(n:Fit B20 (.base .notebook) ⟨kept cs b c⟩)(q:b.length<=1048576)(r:c.length<=1048576)(s:(qG (cs.map gQ) b c false).2=0):Nb (kept cs b c):=by
 obtain⟨t,u⟩:=uK h.fit;have i:=TM t;have f:=ao3 (cs:=cs.map gQ) (by simpa using u) (KP i) q r s;have hlen:=f.len;rw[List.length_map]at hlen;have hids:=f.ids;generalize v:(qG (cs.map gQ) b c false).1.cells=o at f hlen hids;have w:kept cs b c=o9 cs o:=by unfold kept;rw[v]
 have p:=MC (cs:=cs) (o:=o) (by omega);have j:(o9 cs o).length=cs.length:=by unfold o9;rw[List.length_zipWith];omega
 rw[w]at n ⊢;refine⟨n,by rw[j];exact h.len,fun x A=>?_,?_⟩
 ·obtain⟨k,d⟩:=List.mem_iff_getElem?.1 A;rw[p]at d;cases a:o[k]? with
  | none=>rw[a]at d;cases d
  | some y=>
   have m:=(zC.1 a).1;obtain⟨z,g⟩:∃z,cs[k]?=some z:=⟨_,zF (by omega)⟩;rw[a,g]at d;have d:BH z y=x:=a6 d;obtain⟨yL,yv⟩:=f.val y (zG a);have zb:=zh.1 (h.val z (zG g));have yb:=zh.1 ((amf yL).trans yv);rw[<- d];exact zh.2 ⟨zb.1,yb.2⟩
 ·have e:ids (o9 cs o)=ids cs:=by
   unfold ids;refine List.ext_getElem? fun k=>?_
   rw[List.getElem?_map,p,List.getElem?_map];have:=congrArg (fun l=>l[k]?) hids;simp only[List.getElem?_map]at this;cases a:o[k]? with
   | none=>
    rw[zJ (by have:=List.getElem?_eq_none_iff.1 a;omega)];rfl
   | some y=>
    rw[a]at this;have m:=(zC.1 a).1;obtain⟨z,g⟩:∃z,cs[k]?=some z:=⟨_,zF (by omega)⟩;rw[g]at this ⊢;exact this
  rw[e];exact h.nd
theorem Nb.ver{s:List ah}(h:Nb s){m:Nat}{x:ah}(b:s[m]?=some x){V:Int}(c:1<=V/\V<=999)(d:Fit B20 (.base .notebook) ⟨s.set m (ah.mk x.id V x.kind x.name x.code x.n)⟩):Nb (s.set m (ah.mk x.id V x.kind x.name x.code x.n)) where
 fit:=d
 len:=by rw[List.length_set];exact h.len
 val:=fun y a=>by
  rcases List.mem_or_eq_of_mem_set a with a | rfl
  ·exact h.val y a
  ·exact zh.2 ⟨c,(zh.1 (h.val x (zG b))).2⟩
 nd:=by
  have e:ids (s.set m (ah.mk x.id V x.kind x.name x.code x.n))=ids s:=afH b rfl;rw[e];exact h.nd
end Go.Proofs.YtngjomkjlonfpaaGreatDoor
