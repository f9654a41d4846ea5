import Derived.Test.YtbbmkcioplbhbaaGreatDoorComp1
set_option linter.unusedSimpArgs false
set_option linter.unusedVariables false
/- Sizes, copies and equality of this translation, by genbasic.py. -/
namespace Go.Proofs.YtbbmkcioplbhbaaGreatDoor
noncomputable section
open Go.Abs Go.Proofs
theorem wS{v:aF}:siz v.list<siz v:=by
 cases v;simp only[siz];rw[aF.mk.sizeOf_spec];omega
theorem D6{α:Type}[SizeOf α]{x:α}{xs:List α}(h:x∈xs):siz x<siz xs:=List.sizeOf_lt_of_mem h
theorem aeE{L:Nat}{x:bQ}:Fit L (.base .origin) x↔aW L (.int .i64 x.cell)/\aW L (.int .i64 x.row):=by
 simp only[Fit,Ty.cells,Base.cells,bc,List.not_mem_nil,or_false,forall_eq_or_imp,forall_eq]
theorem EL{L:Nat}{x:bD}:Fit L (.base .row) x↔aW L (.list (.base .int) x.cells)/\aW L (.list (.base .origin) x.orig):=by
 simp only[Fit,Ty.cells,Base.cells,bc,List.not_mem_nil,or_false,forall_eq_or_imp,forall_eq]
theorem Ag{L:Nat}{x:aF}:Fit L (.base .val) x↔aW L (.int .i64 x.kind)/\aW L (.int .i64 x.n)/\aW L (.int .i64 x.step)/\aW L (.str x.text)/\aW L (.list (.base .val) x.list)/\aW L (.list (.base .str) x.columns)/\aW L (.list (.base .row) x.rows):=by
 simp only[Fit,Ty.cells,Base.cells,bc,List.not_mem_nil,or_false,forall_eq_or_imp,forall_eq]
theorem qZ{L:Nat}{x:aO}:Fit L (.base .read) x↔aW L (.int .i64 x.kind)/\aW L (.int .i64 x.n)/\aW L (.int .i64 x.time)/\aW L (.str x.text)/\Fit L (.base .val) x.result:=by
 simp only[Fit,Ty.cells,Base.cells,bc,List.not_mem_nil,or_false,forall_eq_or_imp,forall_eq,and_assoc]
theorem je{L:Nat}{x:ah}:Fit L (.base .cell) x↔aW L (.int .i64 x.id)/\aW L (.int .i64 x.version)/\aW L (.int .i64 x.kind)/\aW L (.str x.name)/\aW L (.str x.code)/\aW L (.int .i64 x.n):=by
 simp only[Fit,Ty.cells,Base.cells,bc,List.not_mem_nil,or_false,forall_eq_or_imp,forall_eq]
theorem uS{L:Nat}{x:dP}:Fit L (.base .edit) x↔aW L (.int .i64 x.kind)/\aW L (.int .i64 x.pos)/\Fit L (.base .cell) x.cell:=by
 simp only[Fit,Ty.cells,Base.cells,bc,List.not_mem_nil,or_false,forall_eq_or_imp,forall_eq,and_assoc]
theorem Dv{L:Nat}{x:aJ}:Fit L (.base .tape) x↔aW L (.int .i64 x.cell)/\aW L (.int .i64 x.version)/\aW L (.list (.base .read) x.reads):=by
 simp only[Fit,Ty.cells,Base.cells,bc,List.not_mem_nil,or_false,forall_eq_or_imp,forall_eq]
theorem gq{L:Nat}{x:ak}:Fit L (.base .notebook) x↔aW L (.list (.base .cell) x.cells):=by
 simp only[Fit,Ty.cells,Base.cells,bc,List.not_mem_nil,or_false,forall_eq_or_imp,forall_eq]
theorem uQ{L:Nat}{x:GOp}:Fit L (.base .op) x↔aW L (.int .i64 x.time)/\aW L (.int .i64 x.by_)/\aW L (.int .i64 x.kind)/\aW L (.list (.base .int) x.seen)/\Fit L (.base .edit) x.edit/\aW L (.str x.src)/\aW L (.str x.dst)/\aW L (.int .i64 x.cell)/\aW L (.int .i64 x.version)/\aW L (.list (.base .read) x.reads):=by
 simp only[Fit,Ty.cells,Base.cells,bc,List.not_mem_nil,or_false,forall_eq_or_imp,forall_eq,and_assoc]
theorem Ah{L:Nat}{x:aN}:Fit L (.base .document) x↔Fit L (.base .notebook) x.notebook/\aW L (.list (.base .tape) x.tapes)/\aW L (.list (.base .op) x.renames):=by
 simp only[Fit,Ty.cells,Base.cells,bc,List.not_mem_nil,or_false,forall_eq_or_imp,forall_eq,and_assoc]
def qB(xs:List Int):Nat:=(xs.map fun _=>1).sum
def gy(xs:List Str):Nat:=(xs.map fun _=>1).sum
def lM(x:bQ):Nat:=1+1
def uX(xs:List bQ):Nat:=(xs.map lM).sum
theorem Vg(x:bQ):lM x=1+1:=by
 unfold lM;simp only[Nat.add_assoc];try omega
def sO(x:bD):Nat:=qB x.cells+uX x.orig
def qA(xs:List bD):Nat:=(xs.map sO).sum
theorem aeS(x:bD):sO x=qB x.cells+uX x.orig:=by
 unfold sO;simp only[Nat.add_assoc];try omega
def qg(x:aF):Nat:=aF.rec (motive_1:=fun _=>Nat) (motive_2:=fun _=>Nat) (fun a0 e f g h c d ih=>1+1+1+1+ih+gy c+qA d) 0 (fun _ _ a b=>a+b) x
def fJ(xs:List aF):Nat:=aF.rec_1 (motive_1:=fun _=>Nat) (motive_2:=fun _=>Nat) (fun a0 e f g h c d ih=>1+1+1+1+ih+gy c+qA d) 0 (fun _ _ a b=>a+b) xs
theorem Ap(x:aF):qg x=1+1+1+1+fJ x.list+gy x.columns+qA x.rows:=by cases x;rfl
theorem Am:∀xs:List aF,fJ xs=(xs.map qg).sum
 | []=>rfl
 | x::xs=>by rw[List.map_cons,List.sum_cons,<- Am xs];rfl
def mZ(x:aO):Nat:=1+1+1+1+1+1+1+1+fJ x.result.list+gy x.result.columns+qA x.result.rows
def fK(xs:List aO):Nat:=(xs.map mZ).sum
theorem ack(x:aO):mZ x=1+1+1+1+qg x.result:=by
 unfold mZ;simp only[Ap,Nat.add_assoc];try omega
theorem DF(xs:List aO):fK xs=(xs.map mZ).sum:=rfl
def kS(x:ah):Nat:=1+1+1+1+1+1
def yL(xs:List ah):Nat:=(xs.map kS).sum
theorem DI(x:ah):kS x=1+1+1+1+1+1:=by
 unfold kS;simp only[Nat.add_assoc];try omega
def Jm(x:dP):Nat:=1+1+1+1+1+1+1+1
theorem Nw(x:dP):Jm x=1+1+kS x.cell:=by
 unfold Jm;simp only[DI,Nat.add_assoc];try omega
def oW(x:aJ):Nat:=1+1+fK x.reads
def gu(xs:List aJ):Nat:=(xs.map oW).sum
theorem Nv(x:aJ):oW x=1+1+fK x.reads:=by
 unfold oW;simp only[Nat.add_assoc];try omega
theorem rq(xs:List aJ):gu xs=(xs.map oW).sum:=rfl
def rG(x:GOp):Nat:=1+1+1+qB x.seen+1+1+1+1+1+1+1+1+1+1+1+1+fK x.reads
def qh(xs:List GOp):Nat:=(xs.map rG).sum
theorem WA(x:GOp):rG x=1+1+1+qB x.seen+Jm x.edit+1+1+1+1+fK x.reads:=by
 unfold rG;simp only[Nw,DI,Nat.add_assoc];try omega
theorem ES(xs:List GOp):qh xs=(xs.map rG).sum:=rfl
theorem JJ(xs:List Int)(h:aW B47 (.list (.base .int) xs)):SzK Xr (aW B20 (.list (.base .int) xs)) xs (qB xs) 0:=
 Vy (t:=.base .int) (fun x a d hd=>by simp only[Ty.cells,Base.cells,List.mem_singleton]at hd;subst hd;exact aW.fD (a _ (by simp[Ty.cells,Base.cells]))) (fun _ _=>rfl) (fun _=>1) (fun _=>by omega) xs h
theorem Xn(xs:List Str)(h:aW B47 (.list (.base .str) xs)):SzK JG (aW B20 (.list (.base .str) xs)) xs (gy xs) 0:=ags (fun _ _=>rfl) xs h
theorem Vs(xs:List Int)(h:aW B20 (.list (.base .int) xs)):Xh xs=some xs:=o9 (t:=.base .int) (f:=fun e=>some e) (z:=(0:Int)) (fun _=>rfl) xs (fun _ _ _=>rfl) h
theorem Xd(xs:List Str)(h:aW B20 (.list (.base .str) xs)):JC xs=some xs:=o9 (t:=.base .str) (f:=fun e=>some e) (z:=([]:Str)) (fun _=>rfl) xs (fun _ _ _=>rfl) h
theorem Wh(xs:List Int)(h:aW B24 (.list (.base .int) xs)):Zj xs xs=some true:=lX (t:=.base .int) (f:=fun e e'=>some (e==e')) (fun _ _=>rfl) xs (fun _ _ _=>by simp) h
theorem Zg(xs:List Str)(h:aW B24 (.list (.base .str) xs)):Le xs xs=some true:=lX (t:=.base .str) (f:=fun e e'=>some (e==e')) (fun _ _=>rfl) xs (fun _ _ _=>by simp) h
theorem Xo(xs:List bQ)(h:aW B47 (.list (.base .origin) xs)):SzK JI (aW B20 (.list (.base .origin) xs)) xs (uX xs) 0:=
 Vy (t:=.base .origin) (fun x a=>by rw[aeE]at a ⊢;obtain⟨b,c⟩:=a;exact⟨b.fD,c.fD⟩) (fun _ _=>rfl) lM (fun x=>by rw[Vg];simp[]) xs h
theorem ZL(x:bQ)(h:Fit B20 (.base .origin) x):O4 x=some x:=by
 rfl
theorem Xe(xs:List bQ)(h:aW B20 (.list (.base .origin) xs)):JD xs=some xs:=
 o9 (t:=.base .origin) (fun _=>rfl) xs (fun y _ a=>ZL y a) h
theorem abX(x:bQ)(h:Fit B24 (.base .origin) x):Jk x x=some true:=by
 unfold Jk;simp
theorem Zh(xs:List bQ)(h:aW B24 (.list (.base .origin) xs)):Lh xs xs=some true:=
 lX (t:=.base .origin) (fun _ _=>rfl) xs (fun y _ a=>abX y a) h
theorem aiq(x:bD)(h:Fit B47 (.base .row) x):SzK ZR (Fit B20 (.base .row) x) x (sO x) 0:=by
 intro l j h1;rw[EL]at h ⊢;obtain⟨e,f⟩:=h;unfold ZR;obtain⟨c,g,a⟩:=JJ x.cells e l (by omega) (by omega);rw[g,zA];rcases a with a | ⟨k,m,n,a⟩
 ·exact⟨-1,by simp only[a,decide_true,ac],.inl (by omega)⟩
 rw[ae (show ¬c<0 by omega),aa];obtain⟨d,i,b⟩:=Xo x.orig f c (by omega) (by omega);rw[i,zA];rcases b with b | ⟨o,p,q,b⟩
 ·exact⟨-1,by simp only[b,decide_true,ac],.inl (by omega)⟩
 rw[ae (show ¬d<0 by omega),aa];exact⟨d,rfl,.inr ⟨by omega,by omega,by rw[aeS];omega,a,b⟩⟩
theorem agt(xs:List bD)(h:aW B47 (.list (.base .row) xs)):SzK acS (aW B20 (.list (.base .row) xs)) xs (qA xs) 0:=
 pq (t:=.base .row) (f:=fun e b=>ZR e b) (fun _ _=>rfl) sO 0 (by omega) xs (fun y _ a=>aiq y a) h
theorem aid(x:bD)(h:Fit B20 (.base .row) x):ae7 x=some x:=by
 rw[EL]at h;obtain⟨a,b⟩:=h;unfold ae7;rw[Vs x.cells a,zA,Xe x.orig b];rfl
theorem agi(xs:List bD)(h:aW B20 (.list (.base .row) xs)):acN xs=some xs:=
 o9 (t:=.base .row) (fun _=>rfl) xs (fun y _ a=>aid y a) h
theorem akt(x:bD)(h:Fit B24 (.base .row) x):afX x x=some true:=by
 rw[EL]at h;obtain⟨a,b⟩:=h;unfold afX;rw[Wh x.cells a,Zh x.orig b];simp
theorem ahM(xs:List bD)(h:aW B24 (.list (.base .row) xs)):aeI xs xs=some true:=
 lX (t:=.base .row) (fun _ _=>rfl) xs (fun y _ a=>akt y a) h
theorem LW:∀n,(∀v:aF,siz v<n->Fit B47 (.base .val) v->SzK (jM n).1 (Fit B20 (.base .val) v) v (qg v) 4)/\(∀xs:List aF,siz xs<n->aW B47 (.list (.base .val) xs)->SzK (jM n).2 (aW B20 (.list (.base .val) xs)) xs (fJ xs) 0)
 | 0=>⟨fun v h=>absurd h (Nat.not_lt_zero _),fun v h=>absurd h (Nat.not_lt_zero _)⟩
 | n+1=>by
  have ih:=LW n;refine⟨fun x o h=>?_,fun xs o h=>Am xs▸pq (t:=.base .val) (f:=fun e b=>(jM n).1 (dD e) b) (fun _ _=>rfl) qg 4 (by omega) xs (fun y p q=>by simp only[SzK,dn];exact ih.1 y (by have:=D6 p;omega) q) h⟩;intro l H h1;rw[Ag]at h ⊢;obtain⟨s,u,w,z,A,B,C⟩:=h;show ∃r,O8 (jM n).1 (jM n).2 x l=some r/\_
  unfold O8;have I:=Hz z;rw[aT (n:=l-(x.text.length:Int)) (by omega) (by omega)];by_cases i:l-(x.text.length:Int)<0
  ·exact⟨-1,by simp only[i,decide_true,ac],.inl (by omega)⟩
  rw[ae i,aa];obtain⟨D,g⟩:∃r,r=l-(x.text.length:Int):=⟨_,rfl⟩;rw[<- g];obtain⟨j,E,a⟩:=ih.2 x.list (by have:=wS (v:=x);omega) A D (by omega) (by omega);rw[E,zA];rcases a with a | ⟨J,K,L,a⟩
  ·exact⟨-1,by simp only[a,decide_true,ac],.inl (by omega)⟩
  rw[ae (show ¬j<0 by omega),aa];obtain⟨k,F,c⟩:=Xn x.columns B j (by omega) (by omega);rw[F,zA];rcases c with c | ⟨M,N,O,c⟩
  ·exact⟨-1,by simp only[c,decide_true,ac],.inl (by omega)⟩
  rw[ae (show ¬k<0 by omega),aa];obtain⟨m,G,d⟩:=agt x.rows C k (by omega) (by omega);rw[G,zA];rcases d with d | ⟨P,Q,R,d⟩
  ·exact⟨-1,by simp only[d,decide_true,ac],.inl (by omega)⟩
  rw[ae (show ¬m<0 by omega),aa];exact⟨m,rfl,.inr ⟨by omega,by omega,by rw[Ap];omega,s.fD,u.fD,w.fD,lU (by omega),a,c,d⟩⟩
theorem acQ(x:aF)(h:Fit B47 (.base .val) x):SzK Xm (Fit B20 (.base .val) x) x (qg x) 4:=(LW (siz x+1)).1 x (Nat.lt_succ_self _) h
theorem LU:∀n,(∀v:aF,siz v<n->Fit B20 (.base .val) v->(iW n).1 v=some v)/\(∀xs:List aF,siz xs<n->aW B20 (.list (.base .val) xs)->(iW n).2 xs=some xs)
 | 0=>⟨fun v h=>absurd h (Nat.not_lt_zero _),fun v h=>absurd h (Nat.not_lt_zero _)⟩
 | n+1=>by
  have ih:=LU n;refine⟨fun x b h=>?_,fun xs b h=>o9 (t:=.base .val) (f:=fun e=>((iW n).1 (dD e)).bind fun r=>some (dD r)) (z:=aF.mk 0 0 0 [] [] [] []) (fun a=>?_) xs (fun y c d=>?_) h⟩
  ·rw[Ag]at h;obtain⟨k,l,m,o,g,i,j⟩:=h;show O0 (iW n).1 (iW n).2 x=some x
   unfold O0;rw[ih.2 x.list (by have:=wS (v:=x);omega) g,Xd _ i,agi _ j];cases x;rfl
  ·show JB (iW n).1 (iW n).2 a=_
   unfold JB;simp only[Option.bind_assoc,zA]
  ·simp only[dn];rw[ih.1 y (by have:=D6 c;omega) d];rfl
theorem acL(x:aF)(h:Fit B20 (.base .val) x):Xc x=some x:=(LU (siz x+1)).1 x (Nat.lt_succ_self _) h
theorem Ns:∀n,(∀v:aF,siz v<n->Fit B24 (.base .val) v->(jX n).1 v v=some true)/\(∀xs:List aF,siz xs<n->aW B24 (.list (.base .val) xs)->(jX n).2 xs xs=some true)
 | 0=>⟨fun v h=>absurd h (Nat.not_lt_zero _),fun v h=>absurd h (Nat.not_lt_zero _)⟩
 | n+1=>by
  have ih:=Ns n;refine⟨fun x a h=>?_,fun xs a h=>lX (t:=.base .val) (f:=fun e e'=>(jX n).1 (dD e) (dD e')) (fun _ _=>rfl) xs (fun y b c=>by simp only[dn];exact ih.1 y (by have:=D6 b;omega) c) h⟩;rw[Ag]at h;obtain⟨j,k,l,m,d,g,i⟩:=h;show SK (jX n).1 (jX n).2 x x=some true
  unfold SK;rw[ih.2 x.list (by have:=wS (v:=x);omega) d,Zg _ g,ahM _ i];simp
theorem aeF(x:aF)(h:Fit B24 (.base .val) x):Zd x x=some true:=(Ns (siz x+siz x+1)).1 x (by omega) h
theorem Vx(x:aO)(h:Fit B47 (.base .read) x):SzK JH (Fit B20 (.base .read) x) x (mZ x) 8:=by
 intro l o h1;rw[qZ]at h ⊢;obtain⟨e,f,g,i,j⟩:=h;unfold JH;simp only[dn];have p:=Hz i;rw[aT (n:=l-(x.text.length:Int)) (by omega) (by omega)];by_cases c:l-(x.text.length:Int)<0
 ·exact⟨-1,by simp only[c,decide_true,ac],.inl (by omega)⟩
 rw[ae c,aa];obtain⟨k,b⟩:∃r,r=l-(x.text.length:Int):=⟨_,rfl⟩;rw[<- b];obtain⟨d,m,a⟩:=acQ x.result j k (by omega) (by omega);rw[m,zA];rcases a with a | ⟨q,s,t,a⟩
 ·exact⟨-1,by simp only[a,decide_true,ac],.inl (by omega)⟩
 rw[ae (show ¬d<0 by omega),aa];exact⟨d,rfl,.inr ⟨by omega,by omega,by rw[ack];omega,e.fD,f.fD,g.fD,lU (by omega),a⟩⟩
theorem acU(xs:List aO)(h:aW B47 (.list (.base .read) xs)):SzK DY (aW B20 (.list (.base .read) xs)) xs (fK xs) 0:=
 pq (t:=.base .read) (f:=fun e b=>JH (iZ e) b) (fun _ _=>rfl) mZ 8 (by omega) xs (fun y _ a=>by simp only[SzK,eH];exact Vx y a) h
theorem agj(x:aO)(h:Fit B20 (.base .read) x):O3 x=some x:=by
 rw[qZ]at h;obtain⟨b,c,d,e,a⟩:=h;unfold O3;simp only[dn];rw[acL x.result a];simp only[zA,dn]
theorem acO(xs:List aO)(h:aW B20 (.list (.base .read) xs)):Ht xs=some xs:=
 o9 (t:=.base .read) (f:=fun e=>(O3 (iZ e)).bind fun r=>some (iZ r)) (z:=(Base.zero .read)) (fun a=>by unfold Ht;simp only[Option.bind_assoc,zA];rfl) xs (fun y _ b=>by simp only[eH];rw[agj y b];rfl) h
theorem ahN(x:aO)(h:Fit B24 (.base .read) x):SQ x x=some true:=by
 rw[qZ]at h;obtain⟨b,c,d,e,a⟩:=h;unfold SQ;simp only[dn];rw[aeF x.result a];simp
theorem SN(xs:List aO)(h:aW B24 (.list (.base .read) xs)):Ox xs xs=some true:=
 lX (t:=.base .read) (f:=fun e e'=>SQ (iZ e) (iZ e')) (fun _ _=>rfl) xs (fun y _ a=>by simp only[eH];exact ahN y a) h
theorem agv(x:ah)(h:Fit B47 (.base .cell) x):SzK Ph (Fit B20 (.base .cell) x) x (kS x) 6:=by
 intro l p h1;rw[je]at h ⊢;obtain⟨f,g,i,j,k,m⟩:=h;unfold Ph;have q:=Hz j;rw[aT (n:=l-(x.name.length:Int)) (by omega) (by omega)];by_cases d:l-(x.name.length:Int)<0
 ·exact⟨-1,by simp only[d,decide_true,ac],.inl (by omega)⟩
 rw[ae d,aa];obtain⟨a,b⟩:∃r,r=l-(x.name.length:Int):=⟨_,rfl⟩;rw[<- b];have s:=Hz k;rw[aT (n:=a-(x.code.length:Int)) (by omega) (by omega)];by_cases e:a-(x.code.length:Int)<0
 ·exact⟨-1,by simp only[e,decide_true,ac],.inl (by omega)⟩
 rw[ae e,aa];obtain⟨o,c⟩:∃r,r=a-(x.code.length:Int):=⟨_,rfl⟩;rw[<- c];exact⟨o,rfl,.inr ⟨by omega,by omega,by rw[DI];omega,f.fD,g.fD,i.fD,lU (by omega),lU (by omega),m.fD⟩⟩
theorem agm(x:ah)(h:Fit B20 (.base .cell) x):toCell x=some x:=by
 rfl
theorem Wj(x:ah)(h:Fit B24 (.base .cell) x):SS x x=some true:=by
 unfold SS;simp
theorem aeK(xs:List ah)(h:aW B24 (.list (.base .cell) xs)):Zm xs xs=some true:=
 lX (t:=.base .cell) (fun _ _=>rfl) xs (fun y _ a=>Wj y a) h
theorem Vz(x:dP)(h:Fit B47 (.base .edit) x):SzK Xt (Fit B20 (.base .edit) x) x (Jm x) 8:=by
 intro l g h1;rw[uS]at h ⊢;obtain⟨c,d,e⟩:=h;unfold Xt;obtain⟨b,f,a⟩:=agv x.cell e l (by omega) (by omega);rw[f,zA];rcases a with a | ⟨i,j,k,a⟩
 ·exact⟨-1,by simp only[a,decide_true,ac],.inl (by omega)⟩
 rw[ae (show ¬b<0 by omega),aa];exact⟨b,rfl,.inr ⟨by omega,by omega,by rw[Nw];omega,c.fD,d.fD,a⟩⟩
theorem agl(x:dP)(h:Fit B20 (.base .edit) x):Xi x=some x:=by
 rw[uS]at h;obtain⟨b,c,a⟩:=h;unfold Xi;rw[agm x.cell a];rfl
theorem ahP(x:dP)(h:Fit B24 (.base .edit) x):Zk x x=some true:=by
 rw[uS]at h;obtain⟨b,c,a⟩:=h;unfold Zk;rw[Wj x.cell a];simp
theorem ahK(x:aJ)(h:Fit B24 (.base .tape) x):Zf x x=some true:=by
 rw[Dv]at h;obtain⟨b,c,a⟩:=h;unfold Zf;rw[SN x.reads a];simp
theorem aeH(xs:List aJ)(h:aW B24 (.list (.base .tape) xs)):Ze xs xs=some true:=
 lX (t:=.base .tape) (fun _ _=>rfl) xs (fun y _ a=>ahK y a) h
theorem Va(x:ak)(h:Fit B24 (.base .notebook) x):Aj x x=some true:=by
 rw[gq]at h;have a:=h;unfold Aj;rw[aeK x.cells a];simp
theorem alg(x:GOp)(h:Fit B47 (.base .op) x):SzK Xp (Fit B20 (.base .op) x) x (rG x) 15:=by
 intro l E h1;rw[uQ]at h ⊢;obtain⟨o,p,q,s,t,u,v,w,y,z⟩:=h;unfold Xp;obtain⟨i,A,a⟩:=JJ x.seen s l (by omega) (by omega);rw[A,zA];rcases a with a | ⟨F,G,H,a⟩
 ·exact⟨-1,by simp only[a,decide_true,ac],.inl (by omega)⟩
 rw[ae (show ¬i<0 by omega),aa];obtain⟨d,B,b⟩:=Vz x.edit t i (by omega) (by omega);rw[B,zA];rcases b with b | ⟨I,J,K,b⟩
 ·exact⟨-1,by simp only[b,decide_true,ac],.inl (by omega)⟩
 rw[ae (show ¬d<0 by omega),aa];have L:=Hz u;rw[aT (n:=d-(x.src.length:Int)) (by omega) (by omega)];by_cases j:d-(x.src.length:Int)<0
 ·exact⟨-1,by simp only[j,decide_true,ac],.inl (by omega)⟩
 rw[ae j,aa];obtain⟨e,f⟩:∃r,r=d-(x.src.length:Int):=⟨_,rfl⟩;rw[<- f];have M:=Hz v;rw[aT (n:=e-(x.dst.length:Int)) (by omega) (by omega)];by_cases k:e-(x.dst.length:Int)<0
 ·exact⟨-1,by simp only[k,decide_true,ac],.inl (by omega)⟩
 rw[ae k,aa];obtain⟨C,g⟩:∃r,r=e-(x.dst.length:Int):=⟨_,rfl⟩;rw[<- g];obtain⟨m,D,c⟩:=acU x.reads z C (by omega) (by omega);rw[D,zA];rcases c with c | ⟨N,O,P,c⟩
 ·exact⟨-1,by simp only[c,decide_true,ac],.inl (by omega)⟩
 rw[ae (show ¬m<0 by omega),aa];exact⟨m,rfl,.inr ⟨by omega,by omega,by rw[WA];omega,o.fD,p.fD,q.fD,a,b,lU (by omega),lU (by omega),w.fD,y.fD,c⟩⟩
theorem aiu(xs:List GOp)(h:aW B47 (.list (.base .op) xs)):SzK O9 (aW B20 (.list (.base .op) xs)) xs (qh xs) 0:=
 pq (t:=.base .op) (f:=fun e b=>Xp e b) (fun _ _=>rfl) rG 15 (by omega) xs (fun y _ a=>alg y a) h
theorem alb(x:GOp)(h:Fit B20 (.base .op) x):ZN x=some x:=by
 rw[uQ]at h;obtain⟨d,e,f,a,b,g,i,j,k,c⟩:=h;unfold ZN;rw[Vs x.seen a,zA,agl x.edit b,zA,acO x.reads c];rfl
theorem aii(xs:List GOp)(h:aW B20 (.list (.base .op) xs)):Bo xs=some xs:=
 o9 (t:=.base .op) (fun _=>rfl) xs (fun y _ a=>alb y a) h
theorem aml(x:GOp)(h:Fit B24 (.base .op) x):akx x x=some true:=by
 rw[uQ]at h;obtain⟨d,e,f,a,b,g,i,j,k,c⟩:=h;unfold akx;rw[Wh x.seen a,ahP x.edit b,SN x.reads c];simp
theorem abZ(xs:List GOp)(h:aW B24 (.list (.base .op) xs)):V9 xs xs=some true:=
 lX (t:=.base .op) (fun _ _=>rfl) xs (fun y _ a=>aml y a) h
theorem akw(xs:List GOp)(h:aW B20 (.list (.base .op) xs)):V9 xs xs=some true:=abZ xs (h.mono ahh)
theorem Vd(x:aN)(h:Fit B24 (.base .document) x):jJ x x=some true:=by
 rw[Ah]at h;obtain⟨a,b,c⟩:=h;unfold jJ;rw[Va x.notebook a,aeH x.tapes b,abZ x.renames c];simp
end
end Go.Proofs.YtbbmkcioplbhbaaGreatDoor
/- Plain laws that hold of no one function: loops, Booleans, the first steps of a law. -/
namespace Go.Proofs.YtbbmkcioplbhbaaGreatDoor
open Go.Abs Go.Proofs
abbrev lim:Nat:=4611686018427387904
theorem jb{n:Nat}(h:(n:Int)<=1048576):n<lim:=by
 show n<4611686018427387904
 omega
theorem gJ{a b:Nat}(h:a<b):decide ((a:Int)<(b:Int))=true:=by simpa using h
theorem dR{a:Nat}:decide ((a:Int)<(a:Int))=false:=by simp
theorem iV{i n:Nat}(h:i<n)(a:n<lim):w64 ((i:Int)+1)=((i+1:Nat):Int):=by
 have c:(i:Int)<(n:Int):=Int.ofNat_lt.2 h;have b:(n:Int)<4611686018427387904:=Int.ofNat_lt.2 a;rw[aT (by omega) (by omega)];rfl
theorem dnlt(a b:Int):decide (a<b) = !decide (a>=b):=by
 by_cases h:a<b
 ·simp[h]
 ·simp[h];omega
theorem dngt(a b:Int):decide (a>b) = !decide (a<=b):=by
 by_cases h:a>b
 ·simp[h]
 ·simp[h];omega
theorem akP(a b:Str):(a==b)=(b==a):=by
 by_cases h:a=b
 ·subst h;rfl
 ·rw[beq_eq_false_iff_ne.2 h,beq_eq_false_iff_ne.2 (Ne.symm h)]
theorem QV{α σ ρ X:Type}{g:X->Option (X⊕ρ)}(pk:σ->Nat->X)(xs:List α)(f:σ->α->σ)(fin:σ->ρ)
  (h1:∀i x s,xs[i]?=some x->g (pk s i)=some (.inl (pk (f s x) (i+1))))
  (h2:∀s,g (pk s xs.length)=some (.inr (fin s))) (s:σ):au g (pk s 0)=some (fin (xs.foldl f s)):=by
 have key:∀(n i:Nat) (s:σ),xs.length=i+n->au g (pk s i)=some (fin ((xs.drop i).foldl f s)):=by
  intro n;induction n with
  | zero=>
   intro i s hi;rw[List.drop_eq_nil_of_le (by omega),aC];have:i=xs.length:=by omega
   subst this;rw[h2];rfl
  | succ n ih=>
   intro i s hi;have a:i<xs.length:=by omega
   rw[List.drop_eq_getElem_cons a,aC,h1 i xs[i] s (zF a)];exact ih (i+1) (f s xs[i]) (by omega)
 simpa using key xs.length 0 s (by omega)
theorem aqw{α:Type}{f:α->Int->Option Int}{P:Prop}{x:α}{c s:Nat}(h:SzK f P x c s){k:Int->Option Bool}(l:Int)(b:0<=l)(h1:l<=1048576)(d:P->∀r,0<=r->r<=l->20*r+c<=20*l+s->k r=some true) :
  ((f x l).bind fun a=>bif (decide (a<0))then some (true)else k a)=some true:=by
 obtain⟨r,e,p⟩:=h l b h1;rw[e,zA];rcases p with p | ⟨p,q,g,i⟩
 ·rw[aq p];rfl
 ·rw[ae (by omega),aa];exact d i r p q g
theorem agB{α X ρ:Type}{g:X->Option (X⊕ρ)}(pk:Nat->X)(xs:List α)(p:α->Bool)(no:ρ)(fin:Option ρ)
  (h1:∀i x,xs[i]?=some x->g (pk i)=bif p x then some (.inl (pk (i+1)))else some (.inr no))
  (h2:g (pk xs.length)=fin.bind fun r=>some (.inr r)):au g (pk 0)=bif xs.all p then fin else some no:=by
 have key:∀(n i:Nat),xs.length=i+n->au g (pk i)=bif (xs.drop i).all p then fin else some no:=by
  intro n;induction n with
  | zero=>
   intro i hi;rw[List.drop_eq_nil_of_le (by omega),aC];have:i=xs.length:=by omega
   subst this;rw[h2];cases fin<;>rfl
  | succ n ih=>
   intro i hi;have a:i<xs.length:=by omega
   rw[List.drop_eq_getElem_cons a,aC,h1 i xs[i] (zF a)];simp only[List.all_cons];cases p xs[i]with
   | false=>rfl
   | true=>simpa using ih (i+1) (by omega)
 simpa using key xs.length 0 (by omega)
theorem ac0{α X ρ:Type}{g:X->Option (X⊕ρ)}(pk:Nat->X)(z:X)(a:pk 0=z)(xs:List α)(p:α->Bool)(no:ρ)(fin:Option ρ)
  (h1:∀i x,xs[i]?=some x->g (pk i)=bif p x then some (.inl (pk (i+1)))else some (.inr no))
  (h2:g (pk xs.length)=fin.bind fun r=>some (.inr r)):au g z=bif xs.all p then fin else some no:=by
 rw[<- a];exact agB pk xs p no fin h1 h2
theorem WL{α:Type}(p:α->Bool):∀(xs:List α) (i:Nat),kT (fun x _=>p x) xs i=xs.all p
 | [],_=>rfl
 | x::r,i=>by simp only[kT,List.all_cons,WL p r]
theorem amh{α:Type}{x:Option α}(h:∃b,x=some b):∃b,x=some b/\x=some b:=by
 obtain⟨b,h⟩:=h;exact⟨b,h,h⟩
theorem ap5{α:Type}{c:Bool}{x y:Option α}(h:∃b,x=some b)(a:∃b,y=some b):∃b,(bif c then x else y)=some b:=by
 cases c with
 | true=>exact h
 | false=>exact a
theorem zQ(a b c:Int):iF a b c=some (decide (b<=a)&&decide (a<=c)):=by
 unfold iF;cases decide (b<=a)<;>rfl
theorem mP(a b c:Int):lZ a b c=some (decide (b<=a)&&decide (a<=c)):=by
 unfold lZ;show (bif decide (b<=a)then _ else _)=_
 cases decide (b<=a)<;>rfl
end Go.Proofs.YtbbmkcioplbhbaaGreatDoor
/- Plain laws: OpBefore, StampVersion, IsValidOp, CountBy, LastTime. -/
namespace Go.Proofs.YtbbmkcioplbhbaaGreatDoor
open Go.Abs Go.Proofs
theorem ach(a:List GOp)(b:Int)(h:a.length<lim):∃v,Ip a b=some v/\Jc a b=some v/\(v=0\/∃n,v=w64 n):=by
 have wf:∀(xs:List GOp) (s:Int),(s=0\/∃n,s=w64 n)->(xs.foldl (fun s x=>bif x.by_==b then w64 (s+1)else s) s=0\/∃n,xs.foldl (fun s x=>bif x.by_==b then w64 (s+1)else s) s=w64 n):=by
  intro xs;induction xs with
  | nil=>exact fun s e=>e
  | cons x xs ih=>
   intro s e;refine ih _ ?_;show (bif x.by_==b then w64 (s+1)else s)=0\/∃n,(bif x.by_==b then w64 (s+1)else s)=w64 n
   cases x.by_==b with
   | true=>exact .inr ⟨_,rfl⟩
   | false=>exact e
 refine⟨a.foldl (fun s x=>bif x.by_==b then w64 (s+1)else s) 0,?_,?_,wf a 0 (.inl rfl)⟩
 ·refine QV (fun (s:Int) i=>((a,b,s,(i:Int)):List GOp×Int×Int×Int)) a (fun s x=>bif x.by_==b then w64 (s+1)else s) id (fun i x s d=>?_) (fun s=>?_) 0
  ·obtain⟨c,rfl⟩:=zC.1 d;simp only[gJ c,ac,aA,d,zA,iV c h];cases a[i].by_==b<;>rfl
  ·simp only[dR,aa];rfl
 ·refine QV (fun (s:Int) i=>((b,s,a,(a.length:Int),(i:Int)):Int×Int×List GOp×Int×Int)) a (fun s x=>bif x.by_==b then w64 (s+1)else s) id (fun i x s d=>?_) (fun s=>?_) 0
  ·obtain⟨c,rfl⟩:=zC.1 d;simp only[gJ c,ac,aA,d,zA,iV c h];cases a[i].by_==b<;>rfl
  ·simp only[dR,aa];rfl
theorem aeQ(a:List GOp)(b:Int)(h:a.length<lim):∃v,Ip a b=some v/\Jc a b=some v:=by
 obtain⟨v,c,d,_⟩:=ach a b h;exact⟨v,c,d⟩
def amJ(s:List Int):Bool:=kT (fun n _=>decide (0<=n)&&decide (n<=60)) s 0
theorem aah(a:List Int)(h:a.length<lim):PG a=some (amJ a&&((a.length:Int)==3)):=by
 refine mM (fun i=>((a,(i:Int)):List Int×Int)) a _ _ (fun i x c=>?_) ?_
 ·obtain⟨b,rfl⟩:=zC.1 c;simp only[gJ b,ac,aA,c,zA,iV b h,mP];cases (decide (0<=a[i])&&decide (a[i]<=60))<;>rfl
 ·simp only[dR,aa]
end Go.Proofs.YtbbmkcioplbhbaaGreatDoor
/- Plain laws: RenameVariable alike on both sides; the law FnExactRenameVariable. -/
namespace Go.Proofs.YtbbmkcioplbhbaaGreatDoor
noncomputable section
open Go.Abs Go.Proofs
theorem DV(a:Str)(b:a.length<=34359738368):bI a=some (fQ a)/\bM a=some (fQ a):=by
 obtain⟨v,h⟩:=oK a b;have e:fQ a=v:=by unfold fQ;rw[h];rfl
 rw[e];exact⟨h,by rw[<- nY a b,h]⟩
def partsOf(cs:List ah):List bH:=(og ⟨cs⟩).getD []
theorem aaI(cs:List ah)(a:cs.length<=1048576)(h:∀c,c∈cs->wC c):oD ⟨cs⟩=some (partsOf cs)/\og ⟨cs⟩=some (partsOf cs)/\(∀p,p∈partsOf cs->vk p)/\(yN cs=true->(partsOf cs).length=cs.length)/\(partsOf cs).length<=8:=by
 obtain⟨ps,h1,h2,b,d,f⟩:=Vf cs a h;have e:partsOf cs=ps:=by unfold partsOf;rw[h2];rfl
 rw[e];exact⟨h1,h2,b,d,f⟩
def DK(b c:Str)(p:bH):Bool:=(p.kind==2)&&ahX p b c
def Hq(c:Str)(p:bH):Bool:=KX p c
theorem Ju{α:Type}(f:α->Bool){xs:List α}{i:Nat}{x:α}(h:xs[i]?=some x):(xs.take (i+1)).any f=((xs.take i).any f||f x):=by
 obtain⟨hi,rfl⟩:=zC.1 h;rw[List.take_succ_eq_append_getElem hi,List.any_append];simp
def uD(c:Str)(cs:List ah)(k:Nat):List ah:=match cs[k]? with
 | some x=>cs.set k ⟨x.id,x.version,x.kind,c,x.code,x.n⟩
 | none=>cs
theorem Ei(c:Str)(cs:List ah)(k:Nat):(uD c cs k).length=cs.length:=by
 unfold uD;split
 ·rw[List.length_set]
 ·rfl
theorem Kq{c:Str}{cs:List ah}{k:Nat}(h:∀x,x∈cs->1<=x.version/\x.version<=999):∀x,x∈uD c cs k->1<=x.version/\x.version<=999:=by
 intro x a;unfold uD at a;split at a
 ·rename_i y b;rcases List.mem_or_eq_of_mem_set a with a | rfl
  ·exact h x a
  ·exact h y (zG b)
 ·exact h x a
def vw(cs:List ah)(b c:Str)(d:Bool):ak×Int:=
 bif !(yN cs)then (⟨cs⟩,1)else bif !(fQ b)then (⟨cs⟩,1)else bif !(fQ c)then (⟨cs⟩,1)else bif (b==c)then (⟨cs⟩,1)
 else bif decide (Cb (dU b 0 (partsOf cs))<0)then (⟨cs⟩,2)
 else bif (decide (((dU c 0 (partsOf cs)).length:Int)>0)||(partsOf cs).any (Hq c))then (⟨cs⟩,3)
 else bif (partsOf cs).any (DK b c)then (⟨cs⟩,4)
 else abR cs (mQ d b c 0 (partsOf cs) (uD c cs (Cb (dU b 0 (partsOf cs))).toNat) false)
theorem Y2(cs:List ah)(a:cs.length<=1048576):bT ⟨cs⟩=some ⟨cs⟩:=by
 unfold bT;rw[gdp (by simp;omega)];rfl
theorem aiY(cs:List ah)(a:cs.length<=1048576):iY ⟨cs⟩=some ⟨cs⟩:=by
 unfold iY;rw[gdp (by simp;omega)];rfl
theorem YH(cs:List ah)(b c:Str)(d:Bool)(l:cs.length<=1048576)(h:∀c,c∈cs->wC c)(w:b.length<=34359738368)(y:c.length<=34359738368):qc ⟨cs⟩ b c d=some (vw cs b c d):=by
 obtain⟨C,_,z,E,O⟩:=aaI cs l h;have hv:=abH cs l h;have vb:=(DV b w).1;have vc:=(DV c y).1;unfold qc vw;simp only[C,hv,vb,vc,zA];cases e:yN cs with
 | false=>rfl
 | true=>
  have hlen:=E e;obtain⟨P,f⟩:=Aq h e;cases fQ b with
  | false=>rfl
  | true=>
   cases fQ c with
   | false=>rfl
   | true=>
    cases (b==c)with
    | true=>rfl
    | false=>
     have F:=al9 (partsOf cs) b (by omega);have G:=afS (partsOf cs) c (by omega);simp only[aM,aa,F,G,zA];cases hneg:decide (Cb (dU b 0 (partsOf cs))<0)with
     | true=>rfl
     | false=>
      obtain⟨k,H,I⟩:=ai2 (partsOf cs) b (by have:=of_decide_eq_false hneg;omega);rw[H,aD];simp only[aa];generalize J:partsOf cs=ps at *;generalize Q:decide (((dU c 0 ps).length:Int)>0)=D;refine uz (dw (fun (s:Bool×Bool) (i:Nat)=>((b,c,d,cs,[],ps,(k:Int),s.1,s.2,ps,(ps.length:Int),(i:Int)):Str×Str×Bool×(List ah)×(List ah)×(List bH)×Int×Bool×Bool×(List bH)×Int×Int)) ps (fun i s=>s.1=(D||(ps.take i).any (Hq c))/\s.2=(ps.take i).any (DK b c)) _ (fun i p s a m=>.inl ?_) (fun s m=>?_) (D,false) ⟨by simp,by simp⟩)
      ·obtain⟨g,j⟩:=m;have o:=z p (zG a);obtain⟨K,R,S⟩:=DW p o;obtain⟨q,L,M,T⟩:=abj p o c;refine⟨(s.1||Hq c p,s.2||DK b c p),?_,by rw[Ju _ a,g,Bool.or_assoc],by rw[Ju _ a,j]⟩;simp only[bZ a,ac,aA,a,zA,sW,aS,K,L,M,bY a (by omega)];unfold DK Hq;cases t:(p.kind==2)with
       | false=>cases s.1<;>cases s.2<;>simp
       | true=>
        have u:=(akK p o (eq_of_beq t) b c).1;cases s.1<;>cases s.2<;>simp[u]
      ·obtain⟨g,j⟩:=m;rw[List.take_length]at g j;have v:k<cs.length:=by omega
       have A:=zF v;have hver:∀x,x∈cs->1<=x.version/\x.version<=999:=fun x a=>⟨(f x a).2.v0,(f x a).2.v9⟩
       have B:=ap2 d b c w y cs ps z (by omega) (uD c cs k) (by rw[Ei,hlen]) (Kq hver);have N:uD c cs k=cs.set k ⟨cs[k].id,cs[k].version,cs[k].kind,c,cs[k].code,cs[k].n⟩:=by unfold uD;rw[A]
       refine⟨_,?_,rfl⟩;simp only[bG,aa,g,j,Y2 cs l,zA,aA,A,aD];cases (D||ps.any (Hq c))with
       | true=>rfl
       | false=>
        cases ps.any (DK b c)with
        | true=>rfl
        | false=>
         simp only[aa];rw[N]at B ⊢;show (au ai0 (b,c,d,cs,[],cs.set k ⟨cs[k].id,cs[k].version,cs[k].kind,c,cs[k].code,cs[k].n⟩,false,ps,(ps.length:Int),0)).bind (fun r=>some (Sum.inr r))=_
         rw[B];rfl
theorem agT(ps:List bH)(b c:Str)(m:ps.length<=1048576)(h:∀p,p∈ps->vk p):Ea ps b c=some (bif decide (Cb (dU b 0 ps)<0)then 2 else bif (decide (((dU c 0 ps).length:Int)>0)||ps.any (Hq c))then 3 else bif ps.any (DK b c)then 4 else 0):=by
 unfold Ea;rw[afn ps b m,zA];cases decide (Cb (dU b 0 ps)<0)with
 | true=>rfl
 | false=>
  simp only[aa];have hd:=afo ps c m;refine uz (dw (fun (s:Bool) (i:Nat)=>((ps,b,c,(bif s then 4 else 0),(i:Int)):(List bH)×Str×Str×Int×Int)) ps (fun i s=>(ps.take i).any (Hq c)=false/\s=(ps.take i).any (DK b c)) _ (fun i p s a g=>?_) (fun s g=>?_) false ⟨by simp,by simp⟩)
  ·obtain⟨e,f⟩:=g;have j:=h p (zG a);obtain⟨q,n,r⟩:=DW p j;have o:=akj p j c;simp only[bZ a,ac,aA,a,zA,sW,aS,n,o,bY a (by omega)];cases hh:KX p c with
   | true=>
    refine .inr ⟨3,rfl,?_⟩;have:ps.any (Hq c)=true:=List.any_eq_true.2 ⟨p,zG a,hh⟩;rw[this,Bool.or_true];rfl
   | false=>
    refine .inl ⟨s||DK b c p,?_,by rw[Ju _ a,e];exact hh,by rw[Ju _ a,f]⟩;unfold DK;cases k:(p.kind==2)with
    | false=>cases s<;>simp
    | true=>
     have d:=(akK p j (eq_of_beq k) b c).2;cases l:ahX p b c<;>rw[l]at d<;>cases s<;>simp[d]
  ·obtain⟨e,f⟩:=g;rw[List.take_length]at e f;refine⟨_,?_,rfl⟩;simp only[bG,aa,hd,zA,e,f,Bool.or_false];cases decide (((dU c 0 ps).length:Int)>0)<;>cases ps.any (DK b c)<;>rfl
theorem ac3(cs:List ah)(b c:Str)(e:cs.length<=1048576)(h:∀c,c∈cs->wC c)(g:b.length<=34359738368)(i:c.length<=34359738368):ng ⟨cs⟩ b c=some (vw cs b c true):=by
 obtain⟨_,p,j,q,z⟩:=aaI cs e h;have hv:=aay cs e h;have vb:=(DV b g).2;have vc:=(DV c i).2;unfold ng vw;simp only[aiY cs e,hv,vb,vc,zA];cases a:yN cs with
 | false=>rfl
 | true=>
  have hlen:=q a;obtain⟨A,d⟩:=Aq h a;cases fQ b with
  | false=>rfl
  | true=>
   cases fQ c with
   | false=>rfl
   | true=>
    cases (b==c)with
    | true=>rfl
    | false=>
     have r:=afn (partsOf cs) b (by omega);have s:=agT (partsOf cs) b c (by omega) j;simp only[aM,aa,p,r,s,zA];cases hneg:decide (Cb (dU b 0 (partsOf cs))<0)with
     | true=>rfl
     | false=>
      obtain⟨k,t,u⟩:=ai2 (partsOf cs) b (by have:=of_decide_eq_false hneg;omega);rw[t,aD];generalize v:partsOf cs=ps at *;cases (decide (((dU c 0 ps).length:Int)>0)||ps.any (Hq c))with
      | true=>rfl
      | false=>
       cases ps.any (DK b c)with
       | true=>rfl
       | false=>
        have f:k<cs.length:=by omega
        have l:=zF f;have hver:∀x,x∈cs->1<=x.version/\x.version<=999:=fun x m=>⟨(d x m).2.v0,(d x m).2.v9⟩
        have o:=apP b c g i cs e ps j (by omega) (uD c cs k) (by rw[Ei,hlen]) (Kq hver);have w:uD c cs k=cs.set k ⟨cs[k].id,cs[k].version,cs[k].kind,c,cs[k].code,cs[k].n⟩:=by unfold uD;rw[l]
        have y:((0:Int) != 0)=false:=rfl;simp only[aa,y,aA,l,aD,zA];rw[w]at o ⊢;exact o
theorem akn{cs:List ah}{n:Nat}{r:Option (List ah×Bool)}(h:cs.length<=n)(a:∀x,r=some x->x.1.length<=n):(abR cs r).1.cells.length<=n:=by
 unfold abR;split
 ·exact h
 ·exact h
 ·exact a _ rfl
theorem Ep(d:Bool)(b c:Str):∀(ps:List bH) (i:Nat) (cs:List ah) (full:Bool) (x:List ah×Bool),mQ d b c i ps cs full=some x->x.1.length=cs.length
 | [],i,cs,full,x,h=>by cases h;rfl
 | p::r,i,cs,full,x,h=>by
  unfold mQ at h;split at h
  ·split at h
   ·split at h
    ·have:=Ep d b c r (i+1) _ _ x h;rw[List.length_set]at this;exact this
    ·cases h
   ·cases h
  ·exact Ep d b c r (i+1) cs full x h
theorem Qp(cs:List ah)(b c:Str)(d:Bool):(vw cs b c d).1.cells.length<=cs.length:=by
 have bb:∀(x:Bool) (p q:ak×Int),p.1.cells.length<=cs.length->q.1.cells.length<=cs.length->(bif x then p else q).1.cells.length<=cs.length:=by
  intro x p q a e;cases x
  ·exact e
  ·exact a
 have self:∀n:Int,((⟨cs⟩,n):ak×Int).1.cells.length<=cs.length:=fun n=>az _
 unfold vw;refine bb _ _ _ (self _) (bb _ _ _ (self _) (bb _ _ _ (self _) (bb _ _ _ (self _) (bb _ _ _ (self _) (bb _ _ _ (self _) (bb _ _ _ (self _) ?_))))));refine akn (az _) fun x f=>?_
 have:=Ep _ _ _ _ _ _ _ _ f;rw[this,Ei];exact az _
end
end Go.Proofs.YtbbmkcioplbhbaaGreatDoor
/- Plain law: a renaming that counts versions and one that keeps them are alike but for the versions. -/
namespace Go.Proofs.YtbbmkcioplbhbaaGreatDoor
open Go.Abs Go.Proofs
def bare(x:ah):ah:=⟨x.id,0,x.kind,x.name,x.code,x.n⟩
theorem akT{cs cs':List ah}(h:cs.map bare=cs'.map bare)(i:Nat):(cs[i]?=none/\cs'[i]?=none)\/∃x x',cs[i]?=some x/\cs'[i]?=some x'/\bare x=bare x':=by
 have:=congrArg (·[i]?) h;simp only[List.getElem?_map]at this;cases h1:cs[i]? with
 | none=>
  rw[h1]at this;cases h2:cs'[i]? with
  | none=>exact .inl ⟨rfl,rfl⟩
  | some x'=>rw[h2]at this;cases this
 | some x=>
  rw[h1]at this;cases h2:cs'[i]? with
  | none=>rw[h2]at this;cases this
  | some x'=>rw[h2]at this;exact .inr ⟨x,x',rfl,rfl,by simpa using this⟩
theorem akS{cs cs':List ah}(h:cs.map bare=cs'.map bare)(i:Nat){y y':ah}(a:bare y=bare y'):(cs.set i y).map bare=(cs'.set i y').map bare:=by
 rw[List.map_set,List.map_set,h,a]
theorem ah0{x x':ah}(h:bare x=bare x')(d d':Bool)(t:Str):bare (ZI d t x)=bare (ZI d' t x'):=by
 unfold bare at h ⊢;unfold ZI;injection h with h1 h2 a b e c;simp only[h1,a,b,c]
theorem Kz(b c:Str):∀(ps:List bH) (i:Nat) (cs cs':List ah),cs.map bare=cs'.map bare->(∀j y,i<=j->cs[j]?=some y->y.version=1) ->
  (mQ true b c i ps cs false=none/\mQ false b c i ps cs' false=none)\/∃x x',mQ true b c i ps cs false=some (x,false)/\mQ false b c i ps cs' false=some (x',false)/\x.map bare=x'.map bare
 | [],i,cs,cs',h,_=>.inr ⟨cs,cs',rfl,rfl,h⟩
 | p::r,i,cs,cs',h,hv=>by
  unfold mQ;by_cases h1:KX p b=true
  ·rw[if_pos h1,if_pos h1];by_cases h2:(textOf p b c).length<=120
   ·rw[if_pos h2,if_pos h2];rcases akT h i with ⟨e,e'⟩ | ⟨x,x',e,e',f⟩
    ·rw[e,e'];exact .inl ⟨rfl,rfl⟩
    ·rw[e,e'];have hver:=hv i x (az _) e;have g:(false||(true&&decide (x.version>=999)))=false:=by rw[hver];rfl
     have d:(false||(false&&decide (x'.version>=999)))=false:=rfl;simp only[g,d];refine Kz b c r (i+1) _ _ (akS h i (ah0 f true false _)) fun j y k a=>?_
     rw[List.getElem?_set_ne (by omega)]at a;exact hv j y (by omega) a
   ·rw[if_neg h2,if_neg h2];exact .inl ⟨rfl,rfl⟩
  ·rw[if_neg h1,if_neg h1];exact Kz b c r (i+1) cs cs' h fun j y k a=>hv j y (by omega) a
theorem ai4(cs:List ah)(b c:Str)(hv:∀x,x∈cs->x.version=1):(vw cs b c true).2=(vw cs b c false).2/\(vw cs b c true).1.cells.map bare=(vw cs b c false).1.cells.map bare:=by
 have key:∀z z':ak×Int,z.2=z'.2/\z.1.cells.map bare=z'.1.cells.map bare->∀(q:Bool) (n:Int),(bif q then ((⟨cs⟩,n):ak×Int)else z).2=(bif q then ((⟨cs⟩,n):ak×Int)else z').2 /\
   (bif q then ((⟨cs⟩,n):ak×Int)else z).1.cells.map bare=(bif q then ((⟨cs⟩,n):ak×Int)else z').1.cells.map bare:=by
  intro z z' h q n;cases q
  ·exact h
  ·exact⟨rfl,rfl⟩
 unfold vw;refine key _ _ (key _ _ (key _ _ (key _ _ (key _ _ (key _ _ (key _ _ ?_ _ _) _ _) _ _) _ _) _ _) _ _) _ _;have g:∀x,x∈uD c cs (Cb (dU b 0 (partsOf cs))).toNat->x.version=1:=by
  intro x a;unfold uD at a;split at a
  ·rename_i y d;rcases List.mem_or_eq_of_mem_set a with a | rfl
   ·exact hv x a
   ·exact hv y (zG d)
  ·exact hv x a
 rcases Kz b c (partsOf cs) 0 _ _ rfl (fun j y _ d=>g y (zG d))with ⟨e,f⟩ | ⟨x,x',e,f,h⟩
 ·rw[e,f];exact⟨rfl,rfl⟩
 ·rw[e,f];exact⟨rfl,h⟩
end Go.Proofs.YtbbmkcioplbhbaaGreatDoor
/- Plain laws of the functions that mark a value and look for the marks. -/
namespace Go.Proofs.YtbbmkcioplbhbaaGreatDoor
open Go.Abs Go.Proofs
theorem iQ(k:Int)(j:0<=k)(h1:k<9223372036854775808):∃t,dS k=some t:=by
 unfold dS;by_cases b:k<=0
 ·rw[aq b,ac];exact⟨_,rfl⟩
 rw[ae b,aa];have key:∀(n:Nat) (k:Int) (s:Str),0<=k->k<9223372036854775808->k<10 ^ n->s.length+n<=40->∃t,au (fun (a:Int×Str)=>
   bif (decide (a.1>0))then
    (gd ((bytesOf [w8 (w64 (48+(a.1.tmod 10)))]).length+a.2.length)).bind fun _=>
    some (.inl (w64 (a.1.tdiv 10),(bytesOf [w8 (w64 (48+(a.1.tmod 10)))])++a.2))
   else
    (
     (gd ([109].length+a.2.length)).bind fun _=>
     some ([109]++a.2)
    ).bind fun r=>some (.inr r)) (k,s)=some t:=by
  intro n;induction n with
  | zero=>
   intro k s c _ b g;have e:k=0:=by simp at b;omega
   subst e;rw[aC];have d:gd ([109].length+s.length)=some ():=by unfold gd;rw[if_pos (by simp;omega)]
   simp only[gt_iff_lt,Int.lt_irrefl,decide_false,aa,d,zA];exact⟨_,rfl⟩
  | succ n ih=>
   intro k s c h b g;rw[aC];by_cases f:k>0
   ·have d:gd ((bytesOf [w8 (w64 (48+(k.tmod 10)))]).length+s.length)=some ():=by unfold gd;rw[if_pos (by simp[bytesOf];omega)]
    simp only[aq f,ac,d,zA];have hd:k.tdiv 10=k / 10:=by rw[Int.tdiv_eq_ediv_of_nonneg c]
    have i:w64 (k.tdiv 10)=k / 10:=by rw[hd];exact aT (by omega) (by omega)
    rw[i];refine ih (k / 10) _ (by omega) (by omega) ?_ (by simp[bytesOf];omega);have:(10:Int) ^ (n+1)=10 ^ n*10:=Int.pow_succ 10 n;rw[this]at b;generalize (10:Int) ^ n=p at b ⊢;omega
   ·have d:gd ([109].length+s.length)=some ():=by unfold gd;rw[if_pos (by simp;omega)]
    simp only[ae f,aa,d,zA];exact⟨_,rfl⟩
 exact key 19 k [] (by omega) h1 (by rw[show (10:Int) ^ 19=10000000000000000000 from rfl];omega) (by simp)
def Vk{α:Type}(mark:α->Int->Option (α×Int))(held:α->Int->Option Int)(x:α)(n:Nat):Prop:=
 ∀k:Int,0<=k->k+n<=4611686018427387904->∃y,mark x k=some (y,k+n)/\held y k=some (k+n)
theorem kF{α:Type}{mk:List α->Int->Option (List α×Int)}{hd:List α->Int->Option Int}{g:List α×Int×Int->Option ((List α×Int×Int)⊕(List α×Int))}{g':List α×Int×Int->Option ((List α×Int×Int)⊕Int)}
  (m:∀xs k,mk xs k=au g (xs,0,k)) (o:∀xs k,hd xs k=au g' (xs,k,0)) (cnt:α->Nat) (P:α->Prop)
  (hstep:∀(xs:List α) (i:Nat) (x:α) (k:Int),xs[i]?=some x->P x->xs.length<4611686018427387904->0<=k->k+cnt x<=4611686018427387904->∃y,g (xs,(i:Int),k)=some (.inl (xs.set i y,((i+1:Nat):Int),k+cnt x)) /\
   ∀ys:List α,ys.length<4611686018427387904->ys[i]?=some y->g' (ys,k,(i:Int))=some (.inl (ys,k+cnt x,((i+1:Nat):Int))))
  (hend:∀(xs:List α) (k:Int),g (xs,(xs.length:Int),k)=some (.inr (xs,k))) (hend':∀(xs:List α) (k:Int),g' (xs,k,(xs.length:Int))=some (.inr k))
  (xs:List α) (c:∀x,x∈xs->P x) (e:xs.length<4611686018427387904):Vk mk hd xs ((xs.map cnt).sum):=by
 have key:∀(n:Nat) (xs:List α) (i:Nat) (k:Int),i+n=xs.length->xs.length<4611686018427387904->(∀x,x∈xs.drop i->P x)->0<=k->k+((xs.drop i).map cnt).sum<=4611686018427387904 ->
   ∃ys,au g (xs,(i:Int),k)=some (ys,k+((xs.drop i).map cnt).sum)/\ys.length=xs.length/\(∀j,j<i->ys[j]?=xs[j]?)/\au g' (ys,k,(i:Int))=some (k+((xs.drop i).map cnt).sum):=by
  intro n;induction n with
  | zero=>
   intro xs i k hi e c f d;have p:i=xs.length:=by omega
   subst p;have q:xs.drop xs.length=[]:=List.drop_length;rw[q];refine⟨xs,?_,rfl,fun _ _=>rfl,?_⟩
   ·rw[aC,hend];simp
   ·rw[aC,hend'];simp
  | succ n ih=>
   intro xs i k hi e c f d;have a:i<xs.length:=by omega
   have r:xs[i]?=some xs[i]:=zF a;have s:xs.drop i=xs[i]::xs.drop (i+1):=List.drop_eq_getElem_cons a;rw[s]at c d ⊢;simp only[List.map_cons,List.sum_cons]at d ⊢;have hcast:((cnt xs[i]+((xs.drop (i+1)).map cnt).sum:Nat):Int)=(cnt xs[i]:Int)+(((xs.drop (i+1)).map cnt).sum:Nat):=by omega
   rw[hcast]at d ⊢;obtain⟨y,z,t⟩:=hstep xs i xs[i] k r (c _ aw) e f (by omega);have b:(xs.set i y).drop (i+1)=xs.drop (i+1):=by
    rw[List.drop_set];rw[if_pos (by omega)]
   obtain⟨ys,h,A,w,l⟩:=ih (xs.set i y) (i+1) (k+cnt xs[i]) (by simp;omega) (by simpa using e) (by rw[b];exact fun x r=>c x (ar _ r)) (by omega) (by rw[b];omega);rw[b]at h l;have u:ys.length=xs.length:=by rw[A];simp
   refine⟨ys,?_,u,fun j B=>?_,?_⟩
   ·rw[aC,z];simp only;rw[h,Int.add_assoc]
   ·rw[w j (by omega),List.getElem?_set,if_neg (by omega)]
   ·have v:ys[i]?=some y:=by
     rw[w i (by omega),List.getElem?_set,if_pos rfl,if_pos a]
    rw[aC,t ys (by omega) v];simp only;rw[l,Int.add_assoc]
 intro k f d;obtain⟨ys,h,_,_,l⟩:=key xs.length xs 0 k (by omega) e (by simpa using c) f (by simpa using d);refine⟨ys,?_,?_⟩
 ·rw[m];simpa using h
 ·rw[o];simpa using l
theorem ahc{α ι:Type}{J:ι->Prop}{mk:ι->List α->Int->Option (List α×Int)}{hd:ι->List α->Int->Option Int}{g:ι->List α×Int×Int->Option ((List α×Int×Int)⊕(List α×Int))}{g':ι->List α×Int×Int->Option ((List α×Int×Int)⊕Int)}
  (u:∀j,J j->∀xs k,mk j xs k=au (g j) (xs,0,k)) (v:∀j,J j->∀xs k,hd j xs k=au (g' j) (xs,k,0)) (cnt:α->Nat) (P:α->Prop) (Q:α->α->Prop)
  (hstep:∀(xs:List α) (i:Nat) (x:α) (k:Int),xs[i]?=some x->P x->xs.length<4611686018427387904->0<=k->k+cnt x<=4611686018427387904->∃y,Q x y/\∀j,J j->g j (xs,(i:Int),k)=some (.inl (xs.set i y,((i+1:Nat):Int),k+cnt x)) /\
   ∀ys:List α,ys.length<4611686018427387904->ys[i]?=some y->g' j (ys,k,(i:Int))=some (.inl (ys,k+cnt x,((i+1:Nat):Int))))
  (hend:∀j,J j->∀(xs:List α) (k:Int),g j (xs,(xs.length:Int),k)=some (.inr (xs,k))) (hend':∀j,J j->∀(xs:List α) (k:Int),g' j (xs,k,(xs.length:Int))=some (.inr k))
  (xs:List α) (f:∀x,x∈xs->P x) (m:xs.length<4611686018427387904) (k:Int) (s:0<=k) (h:k+(xs.map cnt).sum<=4611686018427387904) :
  ∃ys,ys.length=xs.length/\(∀(i:Nat) (x y:α),xs[i]?=some x->ys[i]?=some y->Q x y)/\∀j,J j->mk j xs k=some (ys,k+(xs.map cnt).sum)/\hd j ys k=some (k+(xs.map cnt).sum):=by
 have key:∀(n:Nat) (xs:List α) (i:Nat) (k:Int),i+n=xs.length->xs.length<4611686018427387904->(∀x,x∈xs.drop i->P x)->0<=k->k+((xs.drop i).map cnt).sum<=4611686018427387904 ->
   ∃ys,ys.length=xs.length/\(∀j,j<i->ys[j]?=xs[j]?)/\(∀(p:Nat) (x y:α),i<=p->xs[p]?=some x->ys[p]?=some y->Q x y)/\∀j,J j->au (g j) (xs,(i:Int),k)=some (ys,k+((xs.drop i).map cnt).sum)/\au (g' j) (ys,k,(i:Int))=some (k+((xs.drop i).map cnt).sum):=by
  intro n;induction n with
  | zero=>
   intro xs i k hi m f s h;have w:i=xs.length:=by omega
   subst w;have A:xs.drop xs.length=[]:=List.drop_length;rw[A];refine⟨xs,rfl,fun _ _=>rfl,fun p x y F l=>?_,fun j a=>⟨?_,?_⟩⟩
   ·have:=(zC.1 l).1;omega
   ·rw[aC,hend j a];simp
   ·rw[aC,hend' j a];simp
  | succ n ih=>
   intro xs i k hi m f s h;have b:i<xs.length:=by omega
   have l:xs[i]?=some xs[i]:=zF b;have B:xs.drop i=xs[i]::xs.drop (i+1):=List.drop_eq_getElem_cons b;rw[B]at f h ⊢;simp only[List.map_cons,List.sum_cons]at h ⊢;have hcast:((cnt xs[i]+((xs.drop (i+1)).map cnt).sum:Nat):Int)=(cnt xs[i]:Int)+(((xs.drop (i+1)).map cnt).sum:Nat):=by omega
   rw[hcast]at h ⊢;obtain⟨y,G,o⟩:=hstep xs i xs[i] k l (f _ aw) m s (by omega);have c:(xs.set i y).drop (i+1)=xs.drop (i+1):=by
    rw[List.drop_set];rw[if_pos (by omega)]
   obtain⟨ys,H,t,eQ,q⟩:=ih (xs.set i y) (i+1) (k+cnt xs[i]) (by simp;omega) (by simpa using m) (by rw[c];exact fun x l=>f x (ar _ l)) (by omega) (by rw[c];omega);rw[c]at q;have C:ys.length=xs.length:=by rw[H];simp
   have r:ys[i]?=some y:=by
    rw[t i (by omega),List.getElem?_set,if_pos rfl,if_pos b]
   refine⟨ys,C,fun j a=>?_,fun p x z F d e=>?_,fun j a=>⟨?_,?_⟩⟩
   ·rw[t j (by omega),List.getElem?_set,if_neg (by omega)]
   ·by_cases D:p=i
    ·subst D;rw[r]at e;rw[l]at d;cases e;cases d
     exact G
    ·exact eQ p x z (by omega) (by rw[List.getElem?_set,if_neg (by omega)];exact d) e
   ·rw[aC,(o j a).1];simp only;rw[(q j a).1,Int.add_assoc]
   ·rw[aC,(o j a).2 ys (by omega) r];simp only;rw[(q j a).2,Int.add_assoc]
 obtain⟨ys,q,_,t,E⟩:=key xs.length xs 0 k (by omega) m (by simpa using f) s (by simpa using h);refine⟨ys,q,fun i x y=>t i x y (Nat.zero_le _),fun j a=>⟨?_,?_⟩⟩
 ·rw[u j a];simpa using (E j a).1
 ·rw[v j a];simpa using (E j a).2
theorem yV{α:Type}{xs:List α}{i:Nat}{x y:α}(h:xs[i]?=some x):(xs.set i y)[i]?=some y:=by
 rw[List.getElem?_set,if_pos rfl,if_pos (zC.1 h).1]
theorem dec_lt{α:Type}{xs:List α}{i:Nat}{x:α}(h:xs[i]?=some x):decide ((i:Int)<(xs.length:Int))=true:=by
 have:=(zC.1 h).1;simpa using this
theorem eF{α:Type}{xs:List α}{i:Nat}{x:α}(h:xs[i]?=some x)(a:xs.length<4611686018427387904):w64 ((i:Int)+1)=((i+1:Nat):Int):=by
 have:=(zC.1 h).1;rw[aT (by omega) (by omega)];omega
theorem jf(a:Int):(a != a)=false:=by simp
theorem jr(a:Str):(!(a==a))=false:=by simp
end Go.Proofs.YtbbmkcioplbhbaaGreatDoor
