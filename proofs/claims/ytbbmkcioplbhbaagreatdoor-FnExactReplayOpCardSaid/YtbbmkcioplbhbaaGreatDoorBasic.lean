import Derived.Test.YtbbmkcioplbhbaaGreatDoorComp1
set_option linter.unusedSimpArgs false
set_option linter.unusedVariables false
/- Sizes, copies and equality of this translation, by genbasic.py. -/
namespace Go.Proofs.YtbbmkcioplbhbaaGreatDoor
noncomputable section
open Go.Abs Go.Proofs
theorem wR{v:aC}:siz v.list<siz v:=by
 cases v;simp only[siz];rw[aC.mk.sizeOf_spec];omega
theorem DW{α:Type}[SizeOf α]{x:α}{xs:List α}(h:x∈xs):siz x<siz xs:=List.sizeOf_lt_of_mem h
theorem aed{L:Nat}{x:bQ}:Fit L (.base .origin) x↔aV L (.int .i64 x.cell)/\aV L (.int .i64 x.row):=by
 simp only[Fit,Ty.cells,Base.cells,ba,List.not_mem_nil,or_false,forall_eq_or_imp,forall_eq]
theorem EF{L:Nat}{x:bD}:Fit L (.base .row) x↔aV L (.list (.base .int) x.cells)/\aV L (.list (.base .origin) x.orig):=by
 simp only[Fit,Ty.cells,Base.cells,ba,List.not_mem_nil,or_false,forall_eq_or_imp,forall_eq]
theorem zZ{L:Nat}{x:aC}:Fit L (.base .val) x↔aV L (.int .i64 x.kind)/\aV L (.int .i64 x.n)/\aV L (.int .i64 x.step)/\aV L (.str x.text)/\aV L (.list (.base .val) x.list)/\aV L (.list (.base .str) x.columns)/\aV L (.list (.base .row) x.rows):=by
 simp only[Fit,Ty.cells,Base.cells,ba,List.not_mem_nil,or_false,forall_eq_or_imp,forall_eq]
theorem qY{L:Nat}{x:aN}:Fit L (.base .read) x↔aV L (.int .i64 x.kind)/\aV L (.int .i64 x.n)/\aV L (.int .i64 x.time)/\aV L (.str x.text)/\Fit L (.base .val) x.result:=by
 simp only[Fit,Ty.cells,Base.cells,ba,List.not_mem_nil,or_false,forall_eq_or_imp,forall_eq,and_assoc]
theorem jb{L:Nat}{x:ah}:Fit L (.base .cell) x↔aV L (.int .i64 x.id)/\aV L (.int .i64 x.version)/\aV L (.int .i64 x.kind)/\aV L (.str x.name)/\aV L (.str x.code)/\aV L (.int .i64 x.n):=by
 simp only[Fit,Ty.cells,Base.cells,ba,List.not_mem_nil,or_false,forall_eq_or_imp,forall_eq]
theorem uN{L:Nat}{x:dZ}:Fit L (.base .edit) x↔aV L (.int .i64 x.kind)/\aV L (.int .i64 x.pos)/\Fit L (.base .cell) x.cell:=by
 simp only[Fit,Ty.cells,Base.cells,ba,List.not_mem_nil,or_false,forall_eq_or_imp,forall_eq,and_assoc]
theorem qX{L:Nat}{x:aK}:Fit L (.base .tape) x↔aV L (.int .i64 x.cell)/\aV L (.int .i64 x.version)/\aV L (.list (.base .read) x.reads):=by
 simp only[Fit,Ty.cells,Base.cells,ba,List.not_mem_nil,or_false,forall_eq_or_imp,forall_eq]
theorem eY{L:Nat}{x:ak}:Fit L (.base .notebook) x↔aV L (.list (.base .cell) x.cells):=by
 simp only[Fit,Ty.cells,Base.cells,ba,List.not_mem_nil,or_false,forall_eq_or_imp,forall_eq]
theorem wM{L:Nat}{x:GOp}:Fit L (.base .op) x↔aV L (.int .i64 x.time)/\aV L (.int .i64 x.by_)/\aV L (.int .i64 x.kind)/\aV L (.list (.base .int) x.seen)/\Fit L (.base .edit) x.edit/\aV L (.str x.src)/\aV L (.str x.dst)/\aV L (.int .i64 x.cell)/\aV L (.int .i64 x.version)/\aV L (.list (.base .read) x.reads):=by
 simp only[Fit,Ty.cells,Base.cells,ba,List.not_mem_nil,or_false,forall_eq_or_imp,forall_eq,and_assoc]
theorem kL{L:Nat}{x:aO}:Fit L (.base .document) x↔Fit L (.base .notebook) x.notebook/\aV L (.list (.base .tape) x.tapes)/\aV L (.list (.base .op) x.renames):=by
 simp only[Fit,Ty.cells,Base.cells,ba,List.not_mem_nil,or_false,forall_eq_or_imp,forall_eq,and_assoc]
def jI(xs:List Int):Nat:=(xs.map fun _=>1).sum
def gy(xs:List Str):Nat:=(xs.map fun _=>1).sum
def lK(x:bQ):Nat:=1+1
def uS(xs:List bQ):Nat:=(xs.map lK).sum
theorem U9(x:bQ):lK x=1+1:=by
 unfold lK;simp only[Nat.add_assoc];try omega
def sO(x:bD):Nat:=jI x.cells+uS x.orig
def qy(xs:List bD):Nat:=(xs.map sO).sum
theorem aer(x:bD):sO x=jI x.cells+uS x.orig:=by
 unfold sO;simp only[Nat.add_assoc];try omega
def qf(x:aC):Nat:=aC.rec (motive_1:=fun _=>Nat) (motive_2:=fun _=>Nat) (fun a0 e f g h c d ih=>1+1+1+1+ih+gy c+qy d) 0 (fun _ _ a b=>a+b) x
def fM(xs:List aC):Nat:=aC.rec_1 (motive_1:=fun _=>Nat) (motive_2:=fun _=>Nat) (fun a0 e f g h c d ih=>1+1+1+1+ih+gy c+qy d) 0 (fun _ _ a b=>a+b) xs
theorem Ae(x:aC):qf x=1+1+1+1+fM x.list+gy x.columns+qy x.rows:=by cases x;rfl
theorem Ad:∀xs:List aC,fM xs=(xs.map qf).sum
 | []=>rfl
 | x::xs=>by rw[List.map_cons,List.sum_cons,<- Ad xs];rfl
def mX(x:aN):Nat:=1+1+1+1+1+1+1+1+fM x.result.list+gy x.result.columns+qy x.result.rows
def fB(xs:List aN):Nat:=(xs.map mX).sum
theorem abZ(x:aN):mX x=1+1+1+1+qf x.result:=by
 unfold mX;simp only[Ae,Nat.add_assoc];try omega
theorem Dw(xs:List aN):fB xs=(xs.map mX).sum:=rfl
def jW(x:ah):Nat:=1+1+1+1+1+1
def mY(xs:List ah):Nat:=(xs.map jW).sum
theorem Dx(x:ah):jW x=1+1+1+1+1+1:=by
 unfold jW;simp only[Nat.add_assoc];try omega
def Ji(x:dZ):Nat:=1+1+1+1+1+1+1+1
theorem Nv(x:dZ):Ji x=1+1+jW x.cell:=by
 unfold Ji;simp only[Dx,Nat.add_assoc];try omega
def lJ(x:aK):Nat:=1+1+fB x.reads
def fA(xs:List aK):Nat:=(xs.map lJ).sum
theorem Dv(x:aK):lJ x=1+1+fB x.reads:=by
 unfold lJ;simp only[Nat.add_assoc];try omega
theorem rq(xs:List aK):fA xs=(xs.map lJ).sum:=rfl
def sQ(x:ak):Nat:=mY x.cells
theorem AO(x:ak):sQ x=mY x.cells:=by
 unfold sQ;simp only[Nat.add_assoc];try omega
def uT(x:GOp):Nat:=1+1+1+jI x.seen+1+1+1+1+1+1+1+1+1+1+1+1+fB x.reads
def qg(xs:List GOp):Nat:=(xs.map uT).sum
theorem Ll(x:GOp):uT x=1+1+1+jI x.seen+Ji x.edit+1+1+1+1+fB x.reads:=by
 unfold uT;simp only[Nv,Dx,Nat.add_assoc];try omega
theorem ahp(xs:List GOp):qg xs=(xs.map uT).sum:=rfl
def Af(x:aO):Nat:=mY x.notebook.cells+fA x.tapes+qg x.renames
theorem AP(x:aO):Af x=sQ x.notebook+fA x.tapes+qg x.renames:=by
 unfold Af;simp only[AO,Nat.add_assoc];try omega
theorem JG(xs:List Int)(h:aV B47 (.list (.base .int) xs)):SzK Xi (aV B20 (.list (.base .int) xs)) xs (jI xs) 0:=
 Vr (t:=.base .int) (fun x a d hd=>by simp only[Ty.cells,Base.cells,List.mem_singleton]at hd;subst hd;exact aV.dY (a _ (by simp[Ty.cells,Base.cells]))) (fun _ _=>rfl) (fun _=>1) (fun _=>by omega) xs h
theorem Xf(xs:List Str)(h:aV B47 (.list (.base .str) xs)):SzK JD (aV B20 (.list (.base .str) xs)) xs (gy xs) 0:=afU (fun _ _=>rfl) xs h
theorem Vk(xs:List Int)(h:aV B20 (.list (.base .int) xs)):WZ xs=some xs:=lM (t:=.base .int) (f:=fun e=>some e) (z:=(0:Int)) (fun _=>rfl) xs (fun _ _ _=>rfl) h
theorem WV(xs:List Str)(h:aV B20 (.list (.base .str) xs)):Jz xs=some xs:=lM (t:=.base .str) (f:=fun e=>some e) (z:=([]:Str)) (fun _=>rfl) xs (fun _ _ _=>rfl) h
theorem V3(xs:List Int)(h:aV B24 (.list (.base .int) xs)):Y7 xs xs=some true:=lY (t:=.base .int) (f:=fun e e'=>some (e==e')) (fun _ _=>rfl) xs (fun _ _ _=>by simp) h
theorem Y4(xs:List Str)(h:aV B24 (.list (.base .str) xs)):Lc xs xs=some true:=lY (t:=.base .str) (f:=fun e e'=>some (e==e')) (fun _ _=>rfl) xs (fun _ _ _=>by simp) h
theorem Xg(xs:List bQ)(h:aV B47 (.list (.base .origin) xs)):SzK JF (aV B20 (.list (.base .origin) xs)) xs (uS xs) 0:=
 Vr (t:=.base .origin) (fun x a=>by rw[aed]at a ⊢;obtain⟨b,c⟩:=a;exact⟨b.dY,c.dY⟩) (fun _ _=>rfl) lK (fun x=>by rw[U9];simp[]) xs h
theorem Zx(x:bQ)(h:Fit B20 (.base .origin) x):OY x=some x:=by
 rfl
theorem WW(xs:List bQ)(h:aV B20 (.list (.base .origin) xs)):JA xs=some xs:=
 lM (t:=.base .origin) (fun _=>rfl) xs (fun y _ a=>Zx y a) h
theorem abG(x:bQ)(h:Fit B24 (.base .origin) x):Jg x x=some true:=by
 unfold Jg;simp
theorem Y5(xs:List bQ)(h:aV B24 (.list (.base .origin) xs)):Ld xs xs=some true:=
 lY (t:=.base .origin) (fun _ _=>rfl) xs (fun y _ a=>abG y a) h
theorem ahQ(x:bD)(h:Fit B47 (.base .row) x):SzK ZF (Fit B20 (.base .row) x) x (sO x) 0:=by
 intro l j h1;rw[EF]at h ⊢;obtain⟨e,f⟩:=h;unfold ZF;obtain⟨c,g,a⟩:=JG x.cells e l (by omega) (by omega);rw[g,zA];rcases a with a | ⟨k,m,n,a⟩
 ·exact⟨-1,by simp only[a,decide_true,ac],.inl (by omega)⟩
 rw[ae (show ¬c<0 by omega),aa];obtain⟨d,i,b⟩:=Xg x.orig f c (by omega) (by omega);rw[i,zA];rcases b with b | ⟨o,p,q,b⟩
 ·exact⟨-1,by simp only[b,decide_true,ac],.inl (by omega)⟩
 rw[ae (show ¬d<0 by omega),aa];exact⟨d,rfl,.inr ⟨by omega,by omega,by rw[aer];omega,a,b⟩⟩
theorem afV(xs:List bD)(h:aV B47 (.list (.base .row) xs)):SzK acC (aV B20 (.list (.base .row) xs)) xs (qy xs) 0:=
 lN (t:=.base .row) (f:=fun e b=>ZF e b) (fun _ _=>rfl) sO 0 (by omega) xs (fun y _ a=>ahQ y a) h
theorem ahH(x:bD)(h:Fit B20 (.base .row) x):aeF x=some x:=by
 rw[EF]at h;obtain⟨a,b⟩:=h;unfold aeF;rw[Vk x.cells a,zA,WW x.orig b];rfl
theorem afK(xs:List bD)(h:aV B20 (.list (.base .row) xs)):acu xs=some xs:=
 lM (t:=.base .row) (fun _=>rfl) xs (fun y _ a=>ahH y a) h
theorem ajO(x:bD)(h:Fit B24 (.base .row) x):afs x x=some true:=by
 rw[EF]at h;obtain⟨a,b⟩:=h;unfold afs;rw[V3 x.cells a,Y5 x.orig b];simp
theorem ahg(xs:List bD)(h:aV B24 (.list (.base .row) xs)):aeh xs xs=some true:=
 lY (t:=.base .row) (fun _ _=>rfl) xs (fun y _ a=>ajO y a) h
theorem LU:∀n,(∀v:aC,siz v<n->Fit B47 (.base .val) v->SzK (jJ n).1 (Fit B20 (.base .val) v) v (qf v) 4)/\(∀xs:List aC,siz xs<n->aV B47 (.list (.base .val) xs)->SzK (jJ n).2 (aV B20 (.list (.base .val) xs)) xs (fM xs) 0)
 | 0=>⟨fun v h=>absurd h (Nat.not_lt_zero _),fun v h=>absurd h (Nat.not_lt_zero _)⟩
 | n+1=>by
  have ih:=LU n;refine⟨fun x o h=>?_,fun xs o h=>Ad xs▸lN (t:=.base .val) (f:=fun e b=>(jJ n).1 (dB e) b) (fun _ _=>rfl) qf 4 (by omega) xs (fun y p q=>by simp only[SzK,dn];exact ih.1 y (by have:=DW p;omega) q) h⟩;intro l H h1;rw[zZ]at h ⊢;obtain⟨s,u,w,z,A,B,C⟩:=h;show ∃r,O3 (jJ n).1 (jJ n).2 x l=some r/\_
  unfold O3;have I:=Hu z;rw[aT (n:=l-(x.text.length:Int)) (by omega) (by omega)];by_cases i:l-(x.text.length:Int)<0
  ·exact⟨-1,by simp only[i,decide_true,ac],.inl (by omega)⟩
  rw[ae i,aa];obtain⟨D,g⟩:∃r,r=l-(x.text.length:Int):=⟨_,rfl⟩;rw[<- g];obtain⟨j,E,a⟩:=ih.2 x.list (by have:=wR (v:=x);omega) A D (by omega) (by omega);rw[E,zA];rcases a with a | ⟨J,K,L,a⟩
  ·exact⟨-1,by simp only[a,decide_true,ac],.inl (by omega)⟩
  rw[ae (show ¬j<0 by omega),aa];obtain⟨k,F,c⟩:=Xf x.columns B j (by omega) (by omega);rw[F,zA];rcases c with c | ⟨M,N,O,c⟩
  ·exact⟨-1,by simp only[c,decide_true,ac],.inl (by omega)⟩
  rw[ae (show ¬k<0 by omega),aa];obtain⟨m,G,d⟩:=afV x.rows C k (by omega) (by omega);rw[G,zA];rcases d with d | ⟨P,Q,R,d⟩
  ·exact⟨-1,by simp only[d,decide_true,ac],.inl (by omega)⟩
  rw[ae (show ¬m<0 by omega),aa];exact⟨m,rfl,.inr ⟨by omega,by omega,by rw[Ae];omega,s.dY,u.dY,w.dY,lV (by omega),a,c,d⟩⟩
theorem acy(x:aC)(h:Fit B47 (.base .val) x):SzK Xe (Fit B20 (.base .val) x) x (qf x) 4:=(LU (siz x+1)).1 x (Nat.lt_succ_self _) h
theorem LP:∀n,(∀v:aC,siz v<n->Fit B20 (.base .val) v->(iU n).1 v=some v)/\(∀xs:List aC,siz xs<n->aV B20 (.list (.base .val) xs)->(iU n).2 xs=some xs)
 | 0=>⟨fun v h=>absurd h (Nat.not_lt_zero _),fun v h=>absurd h (Nat.not_lt_zero _)⟩
 | n+1=>by
  have ih:=LP n;refine⟨fun x b h=>?_,fun xs b h=>lM (t:=.base .val) (f:=fun e=>((iU n).1 (dB e)).bind fun r=>some (dB r)) (z:=aC.mk 0 0 0 [] [] [] []) (fun a=>?_) xs (fun y c d=>?_) h⟩
  ·rw[zZ]at h;obtain⟨k,l,m,o,g,i,j⟩:=h;show OU (iU n).1 (iU n).2 x=some x
   unfold OU;rw[ih.2 x.list (by have:=wR (v:=x);omega) g,WV _ i,afK _ j];cases x;rfl
  ·show Jy (iU n).1 (iU n).2 a=_
   unfold Jy;simp only[Option.bind_assoc,zA]
  ·simp only[dn];rw[ih.1 y (by have:=DW c;omega) d];rfl
theorem acp(x:aC)(h:Fit B20 (.base .val) x):WS x=some x:=(LP (siz x+1)).1 x (Nat.lt_succ_self _) h
theorem Nr:∀n,(∀v:aC,siz v<n->Fit B24 (.base .val) v->(jU n).1 v v=some true)/\(∀xs:List aC,siz xs<n->aV B24 (.list (.base .val) xs)->(jU n).2 xs xs=some true)
 | 0=>⟨fun v h=>absurd h (Nat.not_lt_zero _),fun v h=>absurd h (Nat.not_lt_zero _)⟩
 | n+1=>by
  have ih:=Nr n;refine⟨fun x a h=>?_,fun xs a h=>lY (t:=.base .val) (f:=fun e e'=>(jU n).1 (dB e) (dB e')) (fun _ _=>rfl) xs (fun y b c=>by simp only[dn];exact ih.1 y (by have:=DW b;omega) c) h⟩;rw[zZ]at h;obtain⟨j,k,l,m,d,g,i⟩:=h;show SA (jU n).1 (jU n).2 x x=some true
  unfold SA;rw[ih.2 x.list (by have:=wR (v:=x);omega) d,Y4 _ g,ahg _ i];simp
theorem aee(x:aC)(h:Fit B24 (.base .val) x):Y1 x x=some true:=(Nr (siz x+siz x+1)).1 x (by omega) h
theorem Vq(x:aN)(h:Fit B47 (.base .read) x):SzK JE (Fit B20 (.base .read) x) x (mX x) 8:=by
 intro l o h1;rw[qY]at h ⊢;obtain⟨e,f,g,i,j⟩:=h;unfold JE;simp only[dn];have p:=Hu i;rw[aT (n:=l-(x.text.length:Int)) (by omega) (by omega)];by_cases c:l-(x.text.length:Int)<0
 ·exact⟨-1,by simp only[c,decide_true,ac],.inl (by omega)⟩
 rw[ae c,aa];obtain⟨k,b⟩:∃r,r=l-(x.text.length:Int):=⟨_,rfl⟩;rw[<- b];obtain⟨d,m,a⟩:=acy x.result j k (by omega) (by omega);rw[m,zA];rcases a with a | ⟨q,s,t,a⟩
 ·exact⟨-1,by simp only[a,decide_true,ac],.inl (by omega)⟩
 rw[ae (show ¬d<0 by omega),aa];exact⟨d,rfl,.inr ⟨by omega,by omega,by rw[abZ];omega,e.dY,f.dY,g.dY,lV (by omega),a⟩⟩
theorem O5(xs:List aN)(h:aV B47 (.list (.base .read) xs)):SzK DT (aV B20 (.list (.base .read) xs)) xs (fB xs) 0:=
 lN (t:=.base .read) (f:=fun e b=>JE (iW e) b) (fun _ _=>rfl) mX 8 (by omega) xs (fun y _ a=>by simp only[SzK,eG];exact Vq y a) h
theorem afL(x:aN)(h:Fit B20 (.base .read) x):OX x=some x:=by
 rw[qY]at h;obtain⟨b,c,d,e,a⟩:=h;unfold OX;simp only[dn];rw[acp x.result a];simp only[zA,dn]
theorem OW(xs:List aN)(h:aV B20 (.list (.base .read) xs)):Hl xs=some xs:=
 lM (t:=.base .read) (f:=fun e=>(OX (iW e)).bind fun r=>some (iW r)) (z:=(Base.zero .read)) (fun a=>by unfold Hl;simp only[Option.bind_assoc,zA];rfl) xs (fun y _ b=>by simp only[eG];rw[afL y b];rfl) h
theorem ahh(x:aN)(h:Fit B24 (.base .read) x):SC x x=some true:=by
 rw[qY]at h;obtain⟨b,c,d,e,a⟩:=h;unfold SC;simp only[dn];rw[aee x.result a];simp
theorem SB(xs:List aN)(h:aV B24 (.list (.base .read) xs)):Ou xs xs=some true:=
 lY (t:=.base .read) (f:=fun e e'=>SC (iW e) (iW e')) (fun _ _=>rfl) xs (fun y _ a=>by simp only[eG];exact ahh y a) h
theorem Vt(x:ah)(h:Fit B47 (.base .cell) x):SzK JH (Fit B20 (.base .cell) x) x (jW x) 6:=by
 intro l p h1;rw[jb]at h ⊢;obtain⟨f,g,i,j,k,m⟩:=h;unfold JH;have q:=Hu j;rw[aT (n:=l-(x.name.length:Int)) (by omega) (by omega)];by_cases d:l-(x.name.length:Int)<0
 ·exact⟨-1,by simp only[d,decide_true,ac],.inl (by omega)⟩
 rw[ae d,aa];obtain⟨a,b⟩:∃r,r=l-(x.name.length:Int):=⟨_,rfl⟩;rw[<- b];have s:=Hu k;rw[aT (n:=a-(x.code.length:Int)) (by omega) (by omega)];by_cases e:a-(x.code.length:Int)<0
 ·exact⟨-1,by simp only[e,decide_true,ac],.inl (by omega)⟩
 rw[ae e,aa];obtain⟨o,c⟩:∃r,r=a-(x.code.length:Int):=⟨_,rfl⟩;rw[<- c];exact⟨o,rfl,.inr ⟨by omega,by omega,by rw[Dx];omega,f.dY,g.dY,i.dY,lV (by omega),lV (by omega),m.dY⟩⟩
theorem acD(xs:List ah)(h:aV B47 (.list (.base .cell) xs)):SzK Xl (aV B20 (.list (.base .cell) xs)) xs (mY xs) 0:=
 lN (t:=.base .cell) (f:=fun e b=>JH e b) (fun _ _=>rfl) jW 6 (by omega) xs (fun y _ a=>Vt y a) h
theorem Vl(x:ah)(h:Fit B20 (.base .cell) x):toCell x=some x:=by
 rfl
theorem acw(xs:List ah)(h:aV B20 (.list (.base .cell) xs)):Xb xs=some xs:=
 lM (t:=.base .cell) (fun _=>rfl) xs (fun y _ a=>Vl y a) h
theorem V5(x:ah)(h:Fit B24 (.base .cell) x):SE x x=some true:=by
 unfold SE;simp
theorem aej(xs:List ah)(h:aV B24 (.list (.base .cell) xs)):Za xs xs=some true:=
 lY (t:=.base .cell) (fun _ _=>rfl) xs (fun y _ a=>V5 y a) h
theorem Vs(x:dZ)(h:Fit B47 (.base .edit) x):SzK Xj (Fit B20 (.base .edit) x) x (Ji x) 8:=by
 intro l g h1;rw[uN]at h ⊢;obtain⟨c,d,e⟩:=h;unfold Xj;obtain⟨b,f,a⟩:=Vt x.cell e l (by omega) (by omega);rw[f,zA];rcases a with a | ⟨i,j,k,a⟩
 ·exact⟨-1,by simp only[a,decide_true,ac],.inl (by omega)⟩
 rw[ae (show ¬b<0 by omega),aa];exact⟨b,rfl,.inr ⟨by omega,by omega,by rw[Nv];omega,c.dY,d.dY,a⟩⟩
theorem afN(x:dZ)(h:Fit B20 (.base .edit) x):W9 x=some x:=by
 rw[uN]at h;obtain⟨b,c,a⟩:=h;unfold W9;rw[Vl x.cell a];rfl
theorem ahk(x:dZ)(h:Fit B24 (.base .edit) x):Y8 x x=some true:=by
 rw[uN]at h;obtain⟨b,c,a⟩:=h;unfold Y8;rw[V5 x.cell a];simp
theorem afS(x:aK)(h:Fit B47 (.base .tape) x):SzK Bj (Fit B20 (.base .tape) x) x (lJ x) 2:=by
 intro l g h1;rw[qX]at h ⊢;obtain⟨c,d,e⟩:=h;unfold Bj;obtain⟨b,f,a⟩:=O5 x.reads e l (by omega) (by omega);rw[f,zA];rcases a with a | ⟨i,j,k,a⟩
 ·exact⟨-1,by simp only[a,decide_true,ac],.inl (by omega)⟩
 rw[ae (show ¬b<0 by omega),aa];exact⟨b,rfl,.inr ⟨by omega,by omega,by rw[Dv];omega,c.dY,d.dY,a⟩⟩
theorem acB(xs:List aK)(h:aV B47 (.list (.base .tape) xs)):SzK Hr (aV B20 (.list (.base .tape) xs)) xs (fA xs) 0:=
 lN (t:=.base .tape) (f:=fun e b=>Bj e b) (fun _ _=>rfl) lJ 2 (by omega) xs (fun y _ a=>afS y a) h
theorem afI(x:aK)(h:Fit B20 (.base .tape) x):WU x=some x:=by
 rw[qX]at h;obtain⟨b,c,a⟩:=h;unfold WU;rw[OW x.reads a];rfl
theorem acs(xs:List aK)(h:aV B20 (.list (.base .tape) xs)):WT xs=some xs:=
 lM (t:=.base .tape) (fun _=>rfl) xs (fun y _ a=>afI y a) h
theorem ahe(x:aK)(h:Fit B24 (.base .tape) x):Y3 x x=some true:=by
 rw[qX]at h;obtain⟨b,c,a⟩:=h;unfold Y3;rw[SB x.reads a];simp
theorem aeg(xs:List aK)(h:aV B24 (.list (.base .tape) xs)):Y2 xs xs=some true:=
 lY (t:=.base .tape) (fun _ _=>rfl) xs (fun y _ a=>ahe y a) h
theorem EX(x:ak)(h:Fit B47 (.base .notebook) x):SzK yQ (Fit B20 (.base .notebook) x) x (sQ x) 0:=by
 intro l e h1;rw[eY]at h ⊢;have c:=h;unfold yQ;obtain⟨b,d,a⟩:=acD x.cells c l (by omega) (by omega);rw[d,zA];rcases a with a | ⟨f,g,i,a⟩
 ·exact⟨-1,by simp only[a,decide_true,ac],.inl (by omega)⟩
 rw[ae (show ¬b<0 by omega),aa];exact⟨b,rfl,.inr ⟨by omega,by omega,by rw[AO];omega,a⟩⟩
theorem TD(x:ak)(h:Fit B20 (.base .notebook) x):yO x=some x:=by
 rw[eY]at h;have a:=h;unfold yO;rw[acw x.cells a];rfl
theorem U4(x:ak)(h:Fit B24 (.base .notebook) x):Aa x x=some true:=by
 rw[eY]at h;have a:=h;unfold Aa;rw[aej x.cells a];simp
theorem aeL(x:GOp)(h:Fit B47 (.base .op) x):SzK ZH (Fit B20 (.base .op) x) x (uT x) 15:=by
 intro l E h1;rw[wM]at h ⊢;obtain⟨o,p,q,s,t,u,v,w,y,z⟩:=h;unfold ZH;obtain⟨i,A,a⟩:=JG x.seen s l (by omega) (by omega);rw[A,zA];rcases a with a | ⟨F,G,H,a⟩
 ·exact⟨-1,by simp only[a,decide_true,ac],.inl (by omega)⟩
 rw[ae (show ¬i<0 by omega),aa];obtain⟨d,B,b⟩:=Vs x.edit t i (by omega) (by omega);rw[B,zA];rcases b with b | ⟨I,J,K,b⟩
 ·exact⟨-1,by simp only[b,decide_true,ac],.inl (by omega)⟩
 rw[ae (show ¬d<0 by omega),aa];have L:=Hu u;rw[aT (n:=d-(x.src.length:Int)) (by omega) (by omega)];by_cases j:d-(x.src.length:Int)<0
 ·exact⟨-1,by simp only[j,decide_true,ac],.inl (by omega)⟩
 rw[ae j,aa];obtain⟨e,f⟩:∃r,r=d-(x.src.length:Int):=⟨_,rfl⟩;rw[<- f];have M:=Hu v;rw[aT (n:=e-(x.dst.length:Int)) (by omega) (by omega)];by_cases k:e-(x.dst.length:Int)<0
 ·exact⟨-1,by simp only[k,decide_true,ac],.inl (by omega)⟩
 rw[ae k,aa];obtain⟨C,g⟩:∃r,r=e-(x.dst.length:Int):=⟨_,rfl⟩;rw[<- g];obtain⟨m,D,c⟩:=O5 x.reads z C (by omega) (by omega);rw[D,zA];rcases c with c | ⟨N,O,P,c⟩
 ·exact⟨-1,by simp only[c,decide_true,ac],.inl (by omega)⟩
 rw[ae (show ¬m<0 by omega),aa];exact⟨m,rfl,.inr ⟨by omega,by omega,by rw[Ll];omega,o.dY,p.dY,q.dY,a,b,lV (by omega),lV (by omega),w.dY,y.dY,c⟩⟩
theorem O6(xs:List GOp)(h:aV B47 (.list (.base .op) xs)):SzK aeM (aV B20 (.list (.base .op) xs)) xs (qg xs) 0:=
 lN (t:=.base .op) (f:=fun e b=>ZH e b) (fun _ _=>rfl) uT 15 (by omega) xs (fun y _ a=>aeL y a) h
theorem aeH(x:GOp)(h:Fit B20 (.base .op) x):ZA x=some x:=by
 rw[wM]at h;obtain⟨d,e,f,a,b,g,i,j,k,c⟩:=h;unfold ZA;rw[Vk x.seen a,zA,afN x.edit b,zA,OW x.reads c];rfl
theorem Zz(xs:List GOp)(h:aV B20 (.list (.base .op) xs)):OZ xs=some xs:=
 lM (t:=.base .op) (fun _=>rfl) xs (fun y _ a=>aeH y a) h
theorem aft(x:GOp)(h:Fit B24 (.base .op) x):ahj x x=some true:=by
 rw[wM]at h;obtain⟨d,e,f,a,b,g,i,j,k,c⟩:=h;unfold ahj;rw[V3 x.seen a,ahk x.edit b,SB x.reads c];simp
theorem alB(x:GOp)(h:Fit B20 (.base .op) x):ahj x x=some true:=aft x (h.mono Kz)
theorem abI(xs:List GOp)(h:aV B24 (.list (.base .op) xs)):abJ xs xs=some true:=
 lY (t:=.base .op) (fun _ _=>rfl) xs (fun y _ a=>aft y a) h
theorem ajR(xs:List GOp)(h:aV B20 (.list (.base .op) xs)):abJ xs xs=some true:=abI xs (h.mono Kz)
theorem TJ(x:aO)(h:Fit B47 (.base .document) x):SzK o9 (Fit B20 (.base .document) x) x (Af x) 0:=by
 intro l o h1;rw[kL]at h ⊢;obtain⟨g,i,j⟩:=h;unfold o9;obtain⟨d,k,a⟩:=EX x.notebook g l (by omega) (by omega);rw[k,zA];rcases a with a | ⟨p,q,r,a⟩
 ·exact⟨-1,by simp only[a,decide_true,ac],.inl (by omega)⟩
 rw[ae (show ¬d<0 by omega),aa];obtain⟨e,m,b⟩:=acB x.tapes i d (by omega) (by omega);rw[m,zA];rcases b with b | ⟨s,t,u,b⟩
 ·exact⟨-1,by simp only[b,decide_true,ac],.inl (by omega)⟩
 rw[ae (show ¬e<0 by omega),aa];obtain⟨f,n,c⟩:=O6 x.renames j e (by omega) (by omega);rw[n,zA];rcases c with c | ⟨v,w,y,c⟩
 ·exact⟨-1,by simp only[c,decide_true,ac],.inl (by omega)⟩
 rw[ae (show ¬f<0 by omega),aa];exact⟨f,rfl,.inr ⟨by omega,by omega,by rw[AP];omega,a,b,c⟩⟩
theorem TF(x:aO)(h:Fit B20 (.base .document) x):nI x=some x:=by
 rw[kL]at h;obtain⟨a,b,c⟩:=h;unfold nI;rw[TD x.notebook a,zA,acs x.tapes b,zA,Zz x.renames c];rfl
theorem FI(x:aO)(h:Fit B24 (.base .document) x):lI x x=some true:=by
 rw[kL]at h;obtain⟨a,b,c⟩:=h;unfold lI;rw[U4 x.notebook a,aeg x.tapes b,abI x.renames c];simp
theorem U6(x:aO)(h:Fit B20 (.base .document) x):lI x x=some true:=FI x (h.mono Kz)
end
end Go.Proofs.YtbbmkcioplbhbaaGreatDoor
/- Plain laws that hold of no one function: loops, Booleans, the first steps of a law. -/
namespace Go.Proofs.YtbbmkcioplbhbaaGreatDoor
open Go.Abs Go.Proofs
abbrev lim:Nat:=4611686018427387904
theorem jQ{n:Nat}(h:(n:Int)<=1048576):n<lim:=by
 show n<4611686018427387904
 omega
theorem lW{a b:Nat}(h:a<b):decide ((a:Int)<(b:Int))=true:=by simpa using h
theorem gm{a:Nat}:decide ((a:Int)<(a:Int))=false:=by simp
theorem oI{i n:Nat}(h:i<n)(a:n<lim):w64 ((i:Int)+1)=((i+1:Nat):Int):=by
 have c:(i:Int)<(n:Int):=Int.ofNat_lt.2 h;have b:(n:Int)<4611686018427387904:=Int.ofNat_lt.2 a;rw[aT (by omega) (by omega)];rfl
theorem dnlt(a b:Int):decide (a<b) = !decide (a>=b):=by
 by_cases h:a<b
 ·simp[h]
 ·simp[h];omega
theorem dngt(a b:Int):decide (a>b) = !decide (a<=b):=by
 by_cases h:a>b
 ·simp[h]
 ·simp[h];omega
theorem akb(a b:Str):(a==b)=(b==a):=by
 by_cases h:a=b
 ·subst h;rfl
 ·rw[beq_eq_false_iff_ne.2 h,beq_eq_false_iff_ne.2 (Ne.symm h)]
theorem ajd{α:Type}{f:α->Int->Option Int}{P:Prop}{x:α}{c s:Nat}(h:SzK f P x c s){k:Int->Option Bool}(l:Int)(b:0<=l)(h1:l<=1048576)(d:P->∀r,0<=r->r<=l->20*r+c<=20*l+s->k r=some true) :
  ((f x l).bind fun a=>bif (decide (a<0))then some (true)else k a)=some true:=by
 obtain⟨r,e,p⟩:=h l b h1;rw[e,zA];rcases p with p | ⟨p,q,g,i⟩
 ·rw[al p];rfl
 ·rw[ae (by omega),aa];exact d i r p q g
theorem alx{α:Type}{x:Option α}(h:∃b,x=some b):∃b,x=some b/\x=some b:=by
 obtain⟨b,h⟩:=h;exact⟨b,h,h⟩
theorem ao3{α:Type}{c:Bool}{x y:Option α}(h:∃b,x=some b)(a:∃b,y=some b):∃b,(bif c then x else y)=some b:=by
 cases c with
 | true=>exact h
 | false=>exact a
theorem Gy(a b c:Int):jr a b c=some (decide (b<=a)&&decide (a<=c)):=by
 unfold jr;cases decide (b<=a)<;>rfl
theorem xg(a b c:Int):rH a b c=some (decide (b<=a)&&decide (a<=c)):=by
 unfold rH;show (bif decide (b<=a)then _ else _)=_
 cases decide (b<=a)<;>rfl
end Go.Proofs.YtbbmkcioplbhbaaGreatDoor
/- Plain laws: OpBefore, StampVersion, IsValidOp, CountBy, LastTime. -/
namespace Go.Proofs.YtbbmkcioplbhbaaGreatDoor
open Go.Abs Go.Proofs
end Go.Proofs.YtbbmkcioplbhbaaGreatDoor
/- Plain laws: RenameVariable alike on both sides; the law FnExactRenameVariable. -/
namespace Go.Proofs.YtbbmkcioplbhbaaGreatDoor
noncomputable section
open Go.Abs Go.Proofs
theorem DL(a:Str)(b:a.length<=34359738368):bH a=some (fU a)/\bM a=some (fU a):=by
 obtain⟨v,h⟩:=oJ a b;have e:fU a=v:=by unfold fU;rw[h];rfl
 rw[e];exact⟨h,by rw[<- nY a b,h]⟩
def partsOf(cs:List ah):List bG:=(og ⟨cs⟩).getD []
theorem aau(cs:List ah)(a:cs.length<=1048576)(h:∀c,c∈cs->wz c):oC ⟨cs⟩=some (partsOf cs)/\og ⟨cs⟩=some (partsOf cs)/\(∀p,p∈partsOf cs->ve p)/\(yI cs=true->(partsOf cs).length=cs.length)/\(partsOf cs).length<=8:=by
 obtain⟨ps,h1,h2,b,d,f⟩:=U8 cs a h;have e:partsOf cs=ps:=by unfold partsOf;rw[h2];rfl
 rw[e];exact⟨h1,h2,b,d,f⟩
def Dz(b c:Str)(p:bG):Bool:=(p.kind==2)&&aht p b c
def Hf(c:Str)(p:bG):Bool:=KU p c
theorem Jq{α:Type}(f:α->Bool){xs:List α}{i:Nat}{x:α}(h:xs[i]?=some x):(xs.take (i+1)).any f=((xs.take i).any f||f x):=by
 obtain⟨hi,rfl⟩:=zC.1 h;rw[List.take_succ_eq_append_getElem hi,List.any_append];simp
def uz(c:Str)(cs:List ah)(k:Nat):List ah:=match cs[k]? with
 | some x=>cs.set k ⟨x.id,x.version,x.kind,c,x.code,x.n⟩
 | none=>cs
theorem Ed(c:Str)(cs:List ah)(k:Nat):(uz c cs k).length=cs.length:=by
 unfold uz;split
 ·rw[List.length_set]
 ·rfl
theorem J9{c:Str}{cs:List ah}{k:Nat}(h:∀x,x∈cs->1<=x.version/\x.version<=999):∀x,x∈uz c cs k->1<=x.version/\x.version<=999:=by
 intro x a;unfold uz at a;split at a
 ·rename_i y b;rcases List.mem_or_eq_of_mem_set a with a | rfl
  ·exact h x a
  ·exact h y (zG b)
 ·exact h x a
def vg(cs:List ah)(b c:Str)(d:Bool):ak×Int:=
 bif !(yI cs)then (⟨cs⟩,1)else bif !(fU b)then (⟨cs⟩,1)else bif !(fU c)then (⟨cs⟩,1)else bif (b==c)then (⟨cs⟩,1)
 else bif decide (BU (dR b 0 (partsOf cs))<0)then (⟨cs⟩,2)
 else bif (decide (((dR c 0 (partsOf cs)).length:Int)>0)||(partsOf cs).any (Hf c))then (⟨cs⟩,3)
 else bif (partsOf cs).any (Dz b c)then (⟨cs⟩,4)
 else abz cs (mO d b c 0 (partsOf cs) (uz c cs (BU (dR b 0 (partsOf cs))).toNat) false)
theorem YP(cs:List ah)(a:cs.length<=1048576):bT ⟨cs⟩=some ⟨cs⟩:=by
 unfold bT;rw[gdp (by simp;omega)];rfl
theorem aio(cs:List ah)(a:cs.length<=1048576):iV ⟨cs⟩=some ⟨cs⟩:=by
 unfold iV;rw[gdp (by simp;omega)];rfl
theorem Yx(cs:List ah)(b c:Str)(d:Bool)(l:cs.length<=1048576)(h:∀c,c∈cs->wz c)(w:b.length<=34359738368)(y:c.length<=34359738368):pY ⟨cs⟩ b c d=some (vg cs b c d):=by
 obtain⟨C,_,z,E,O⟩:=aau cs l h;have hv:=abo cs l h;have vb:=(DL b w).1;have vc:=(DL c y).1;unfold pY vg;simp only[C,hv,vb,vc,zA];cases e:yI cs with
 | false=>rfl
 | true=>
  have hlen:=E e;obtain⟨P,f⟩:=Ag h e;cases fU b with
  | false=>rfl
  | true=>
   cases fU c with
   | false=>rfl
   | true=>
    cases (b==c)with
    | true=>rfl
    | false=>
     have F:=aln (partsOf cs) b (by omega);have G:=afn (partsOf cs) c (by omega);simp only[aL,aa,F,G,zA];cases hneg:decide (BU (dR b 0 (partsOf cs))<0)with
     | true=>rfl
     | false=>
      obtain⟨k,H,I⟩:=ais (partsOf cs) b (by have:=of_decide_eq_false hneg;omega);rw[H,az];simp only[aa];generalize J:partsOf cs=ps at *;generalize Q:decide (((dR c 0 ps).length:Int)>0)=D;refine xH (dH (fun (s:Bool×Bool) (i:Nat)=>((b,c,d,cs,[],ps,(k:Int),s.1,s.2,ps,(ps.length:Int),(i:Int)):Str×Str×Bool×(List ah)×(List ah)×(List bG)×Int×Bool×Bool×(List bG)×Int×Int)) ps (fun i s=>s.1=(D||(ps.take i).any (Hf c))/\s.2=(ps.take i).any (Dz b c)) _ (fun i p s a m=>.inl ?_) (fun s m=>?_) (D,false) ⟨by simp,by simp⟩)
      ·obtain⟨g,j⟩:=m;have o:=z p (zG a);obtain⟨K,R,S⟩:=DN p o;obtain⟨q,L,M,T⟩:=aa0 p o c;refine⟨(s.1||Hf c p,s.2||Dz b c p),?_,by rw[Jq _ a,g,Bool.or_assoc],by rw[Jq _ a,j]⟩;simp only[bY a,ac,aA,a,zA,sZ,aS,K,L,M,cZ a (by omega)];unfold Dz Hf;cases t:(p.kind==2)with
       | false=>cases s.1<;>cases s.2<;>simp
       | true=>
        have u:=(aj3 p o (eq_of_beq t) b c).1;cases s.1<;>cases s.2<;>simp[u]
      ·obtain⟨g,j⟩:=m;rw[List.take_length]at g j;have v:k<cs.length:=by omega
       have A:=zF v;have hver:∀x,x∈cs->1<=x.version/\x.version<=999:=fun x a=>⟨(f x a).2.v0,(f x a).2.v9⟩
       have B:=ao1 d b c w y cs ps z (by omega) (uz c cs k) (by rw[Ed,hlen]) (J9 hver);have N:uz c cs k=cs.set k ⟨cs[k].id,cs[k].version,cs[k].kind,c,cs[k].code,cs[k].n⟩:=by unfold uz;rw[A]
       refine⟨_,?_,rfl⟩;simp only[bJ,aa,g,j,YP cs l,zA,aA,A,az];cases (D||ps.any (Hf c))with
       | true=>rfl
       | false=>
        cases ps.any (Dz b c)with
        | true=>rfl
        | false=>
         simp only[aa];rw[N]at B ⊢;show (au aiq (b,c,d,cs,[],cs.set k ⟨cs[k].id,cs[k].version,cs[k].kind,c,cs[k].code,cs[k].n⟩,false,ps,(ps.length:Int),0)).bind (fun r=>some (Sum.inr r))=_
         rw[B];rfl
theorem agn(ps:List bG)(b c:Str)(m:ps.length<=1048576)(h:∀p,p∈ps->ve p):D5 ps b c=some (bif decide (BU (dR b 0 ps)<0)then 2 else bif (decide (((dR c 0 ps).length:Int)>0)||ps.any (Hf c))then 3 else bif ps.any (Dz b c)then 4 else 0):=by
 unfold D5;rw[aeS ps b m,zA];cases decide (BU (dR b 0 ps)<0)with
 | true=>rfl
 | false=>
  simp only[aa];have hd:=aeT ps c m;refine xH (dH (fun (s:Bool) (i:Nat)=>((ps,b,c,(bif s then 4 else 0),(i:Int)):(List bG)×Str×Str×Int×Int)) ps (fun i s=>(ps.take i).any (Hf c)=false/\s=(ps.take i).any (Dz b c)) _ (fun i p s a g=>?_) (fun s g=>?_) false ⟨by simp,by simp⟩)
  ·obtain⟨e,f⟩:=g;have j:=h p (zG a);obtain⟨q,n,r⟩:=DN p j;have o:=ajE p j c;simp only[bY a,ac,aA,a,zA,sZ,aS,n,o,cZ a (by omega)];cases hh:KU p c with
   | true=>
    refine .inr ⟨3,rfl,?_⟩;have:ps.any (Hf c)=true:=List.any_eq_true.2 ⟨p,zG a,hh⟩;rw[this,Bool.or_true];rfl
   | false=>
    refine .inl ⟨s||Dz b c p,?_,by rw[Jq _ a,e];exact hh,by rw[Jq _ a,f]⟩;unfold Dz;cases k:(p.kind==2)with
    | false=>cases s<;>simp
    | true=>
     have d:=(aj3 p j (eq_of_beq k) b c).2;cases l:aht p b c<;>rw[l]at d<;>cases s<;>simp[d]
  ·obtain⟨e,f⟩:=g;rw[List.take_length]at e f;refine⟨_,?_,rfl⟩;simp only[bJ,aa,hd,zA,e,f,Bool.or_false];cases decide (((dR c 0 ps).length:Int)>0)<;>cases ps.any (Dz b c)<;>rfl
theorem acK(cs:List ah)(b c:Str)(e:cs.length<=1048576)(h:∀c,c∈cs->wz c)(g:b.length<=34359738368)(i:c.length<=34359738368):mZ ⟨cs⟩ b c=some (vg cs b c true):=by
 obtain⟨_,p,j,q,z⟩:=aau cs e h;have hv:=aak cs e h;have vb:=(DL b g).2;have vc:=(DL c i).2;unfold mZ vg;simp only[aio cs e,hv,vb,vc,zA];cases a:yI cs with
 | false=>rfl
 | true=>
  have hlen:=q a;obtain⟨A,d⟩:=Ag h a;cases fU b with
  | false=>rfl
  | true=>
   cases fU c with
   | false=>rfl
   | true=>
    cases (b==c)with
    | true=>rfl
    | false=>
     have r:=aeS (partsOf cs) b (by omega);have s:=agn (partsOf cs) b c (by omega) j;simp only[aL,aa,p,r,s,zA];cases hneg:decide (BU (dR b 0 (partsOf cs))<0)with
     | true=>rfl
     | false=>
      obtain⟨k,t,u⟩:=ais (partsOf cs) b (by have:=of_decide_eq_false hneg;omega);rw[t,az];generalize v:partsOf cs=ps at *;cases (decide (((dR c 0 ps).length:Int)>0)||ps.any (Hf c))with
      | true=>rfl
      | false=>
       cases ps.any (Dz b c)with
       | true=>rfl
       | false=>
        have f:k<cs.length:=by omega
        have l:=zF f;have hver:∀x,x∈cs->1<=x.version/\x.version<=999:=fun x m=>⟨(d x m).2.v0,(d x m).2.v9⟩
        have o:=aoO b c g i cs e ps j (by omega) (uz c cs k) (by rw[Ed,hlen]) (J9 hver);have w:uz c cs k=cs.set k ⟨cs[k].id,cs[k].version,cs[k].kind,c,cs[k].code,cs[k].n⟩:=by unfold uz;rw[l]
        have y:((0:Int) != 0)=false:=rfl;simp only[aa,y,aA,l,az,zA];rw[w]at o ⊢;exact o
theorem ajI{cs:List ah}{n:Nat}{r:Option (List ah×Bool)}(h:cs.length<=n)(a:∀x,r=some x->x.1.length<=n):(abz cs r).1.cells.length<=n:=by
 unfold abz;split
 ·exact h
 ·exact h
 ·exact a _ rfl
theorem Eh(d:Bool)(b c:Str):∀(ps:List bG) (i:Nat) (cs:List ah) (full:Bool) (x:List ah×Bool),mO d b c i ps cs full=some x->x.1.length=cs.length
 | [],i,cs,full,x,h=>by cases h;rfl
 | p::r,i,cs,full,x,h=>by
  unfold mO at h;split at h
  ·split at h
   ·split at h
    ·have:=Eh d b c r (i+1) _ _ x h;rw[List.length_set]at this;exact this
    ·cases h
   ·cases h
  ·exact Eh d b c r (i+1) cs full x h
theorem Qh(cs:List ah)(b c:Str)(d:Bool):(vg cs b c d).1.cells.length<=cs.length:=by
 have bb:∀(x:Bool) (p q:ak×Int),p.1.cells.length<=cs.length->q.1.cells.length<=cs.length->(bif x then p else q).1.cells.length<=cs.length:=by
  intro x p q a e;cases x
  ·exact e
  ·exact a
 have self:∀n:Int,((⟨cs⟩,n):ak×Int).1.cells.length<=cs.length:=fun n=>aw _
 unfold vg;refine bb _ _ _ (self _) (bb _ _ _ (self _) (bb _ _ _ (self _) (bb _ _ _ (self _) (bb _ _ _ (self _) (bb _ _ _ (self _) (bb _ _ _ (self _) ?_))))));refine ajI (aw _) fun x f=>?_
 have:=Eh _ _ _ _ _ _ _ _ f;rw[this,Ed];exact aw _
end
end Go.Proofs.YtbbmkcioplbhbaaGreatDoor
/- Plain law: a renaming that counts versions and one that keeps them are alike but for the versions. -/
namespace Go.Proofs.YtbbmkcioplbhbaaGreatDoor
open Go.Abs Go.Proofs
def bare(x:ah):ah:=⟨x.id,0,x.kind,x.name,x.code,x.n⟩
theorem ake{cs cs':List ah}(h:cs.map bare=cs'.map bare)(i:Nat):(cs[i]?=none/\cs'[i]?=none)\/∃x x',cs[i]?=some x/\cs'[i]?=some x'/\bare x=bare x':=by
 have:=congrArg (·[i]?) h;simp only[List.getElem?_map]at this;cases h1:cs[i]? with
 | none=>
  rw[h1]at this;cases h2:cs'[i]? with
  | none=>exact .inl ⟨rfl,rfl⟩
  | some x'=>rw[h2]at this;cases this
 | some x=>
  rw[h1]at this;cases h2:cs'[i]? with
  | none=>rw[h2]at this;cases this
  | some x'=>rw[h2]at this;exact .inr ⟨x,x',rfl,rfl,by simpa using this⟩
theorem akd{cs cs':List ah}(h:cs.map bare=cs'.map bare)(i:Nat){y y':ah}(a:bare y=bare y'):(cs.set i y).map bare=(cs'.set i y').map bare:=by
 rw[List.map_set,List.map_set,h,a]
theorem ahw{x x':ah}(h:bare x=bare x')(d d':Bool)(t:Str):bare (Zu d t x)=bare (Zu d' t x'):=by
 unfold bare at h ⊢;unfold Zu;injection h with h1 h2 a b e c;simp only[h1,a,b,c]
theorem Kv(b c:Str):∀(ps:List bG) (i:Nat) (cs cs':List ah),cs.map bare=cs'.map bare->(∀j y,i<=j->cs[j]?=some y->y.version=1) ->
  (mO true b c i ps cs false=none/\mO false b c i ps cs' false=none)\/∃x x',mO true b c i ps cs false=some (x,false)/\mO false b c i ps cs' false=some (x',false)/\x.map bare=x'.map bare
 | [],i,cs,cs',h,_=>.inr ⟨cs,cs',rfl,rfl,h⟩
 | p::r,i,cs,cs',h,hv=>by
  unfold mO;by_cases h1:KU p b=true
  ·rw[if_pos h1,if_pos h1];by_cases h2:(textOf p b c).length<=120
   ·rw[if_pos h2,if_pos h2];rcases ake h i with ⟨e,e'⟩ | ⟨x,x',e,e',f⟩
    ·rw[e,e'];exact .inl ⟨rfl,rfl⟩
    ·rw[e,e'];have hver:=hv i x (aw _) e;have g:(false||(true&&decide (x.version>=999)))=false:=by rw[hver];rfl
     have d:(false||(false&&decide (x'.version>=999)))=false:=rfl;simp only[g,d];refine Kv b c r (i+1) _ _ (akd h i (ahw f true false _)) fun j y k a=>?_
     rw[List.getElem?_set_ne (by omega)]at a;exact hv j y (by omega) a
   ·rw[if_neg h2,if_neg h2];exact .inl ⟨rfl,rfl⟩
  ·rw[if_neg h1,if_neg h1];exact Kv b c r (i+1) cs cs' h fun j y k a=>hv j y (by omega) a
theorem aiu(cs:List ah)(b c:Str)(hv:∀x,x∈cs->x.version=1):(vg cs b c true).2=(vg cs b c false).2/\(vg cs b c true).1.cells.map bare=(vg cs b c false).1.cells.map bare:=by
 have key:∀z z':ak×Int,z.2=z'.2/\z.1.cells.map bare=z'.1.cells.map bare->∀(q:Bool) (n:Int),(bif q then ((⟨cs⟩,n):ak×Int)else z).2=(bif q then ((⟨cs⟩,n):ak×Int)else z').2 /\
   (bif q then ((⟨cs⟩,n):ak×Int)else z).1.cells.map bare=(bif q then ((⟨cs⟩,n):ak×Int)else z').1.cells.map bare:=by
  intro z z' h q n;cases q
  ·exact h
  ·exact⟨rfl,rfl⟩
 unfold vg;refine key _ _ (key _ _ (key _ _ (key _ _ (key _ _ (key _ _ (key _ _ ?_ _ _) _ _) _ _) _ _) _ _) _ _) _ _;have g:∀x,x∈uz c cs (BU (dR b 0 (partsOf cs))).toNat->x.version=1:=by
  intro x a;unfold uz at a;split at a
  ·rename_i y d;rcases List.mem_or_eq_of_mem_set a with a | rfl
   ·exact hv x a
   ·exact hv y (zG d)
  ·exact hv x a
 rcases Kv b c (partsOf cs) 0 _ _ rfl (fun j y _ d=>g y (zG d))with ⟨e,f⟩ | ⟨x,x',e,f,h⟩
 ·rw[e,f];exact⟨rfl,rfl⟩
 ·rw[e,f];exact⟨rfl,h⟩
end Go.Proofs.YtbbmkcioplbhbaaGreatDoor
/- Plain laws of the functions that mark a value and look for the marks. -/
namespace Go.Proofs.YtbbmkcioplbhbaaGreatDoor
open Go.Abs Go.Proofs
theorem iP(k:Int)(j:0<=k)(h1:k<9223372036854775808):∃t,dQ k=some t:=by
 unfold dQ;by_cases b:k<=0
 ·rw[al b,ac];exact⟨_,rfl⟩
 rw[ae b,aa];have key:∀(n:Nat) (k:Int) (s:Str),0<=k->k<9223372036854775808->k<10 ^ n->s.length+n<=40->∃t,au (fun (a:Int×Str)=>
   bif (decide (a.1>0))then
    (gd ((bytesOf [w8 (w64 (48+(a.1.tmod 10)))]).length+a.2.length)).bind fun _=>
    some (.inl (w64 (a.1.tdiv 10),(bytesOf [w8 (w64 (48+(a.1.tmod 10)))])++a.2))
   else
    (
     (gd ([109].length+a.2.length)).bind fun _=>
     some ([109]++a.2)
    ).bind fun r=>some (.inr r)) (k,s)=some t:=by
  intro n;induction n with
  | zero=>
   intro k s c _ b g;have e:k=0:=by simp at b;omega
   subst e;rw[aH];have d:gd ([109].length+s.length)=some ():=by unfold gd;rw[if_pos (by simp;omega)]
   simp only[gt_iff_lt,Int.lt_irrefl,decide_false,aa,d,zA];exact⟨_,rfl⟩
  | succ n ih=>
   intro k s c h b g;rw[aH];by_cases f:k>0
   ·have d:gd ((bytesOf [w8 (w64 (48+(k.tmod 10)))]).length+s.length)=some ():=by unfold gd;rw[if_pos (by simp[bytesOf];omega)]
    simp only[al f,ac,d,zA];have hd:k.tdiv 10=k / 10:=by rw[Int.tdiv_eq_ediv_of_nonneg c]
    have i:w64 (k.tdiv 10)=k / 10:=by rw[hd];exact aT (by omega) (by omega)
    rw[i];refine ih (k / 10) _ (by omega) (by omega) ?_ (by simp[bytesOf];omega);have:(10:Int) ^ (n+1)=10 ^ n*10:=Int.pow_succ 10 n;rw[this]at b;generalize (10:Int) ^ n=p at b ⊢;omega
   ·have d:gd ([109].length+s.length)=some ():=by unfold gd;rw[if_pos (by simp;omega)]
    simp only[ae f,aa,d,zA];exact⟨_,rfl⟩
 exact key 19 k [] (by omega) h1 (by rw[show (10:Int) ^ 19=10000000000000000000 from rfl];omega) (by simp)
def Vd{α:Type}(mark:α->Int->Option (α×Int))(held:α->Int->Option Int)(x:α)(n:Nat):Prop:=
 ∀k:Int,0<=k->k+n<=4611686018427387904->∃y,mark x k=some (y,k+n)/\held y k=some (k+n)
theorem kD{α:Type}{mk:List α->Int->Option (List α×Int)}{hd:List α->Int->Option Int}{g:List α×Int×Int->Option ((List α×Int×Int)⊕(List α×Int))}{g':List α×Int×Int->Option ((List α×Int×Int)⊕Int)}
  (m:∀xs k,mk xs k=au g (xs,0,k)) (o:∀xs k,hd xs k=au g' (xs,k,0)) (cnt:α->Nat) (P:α->Prop)
  (hstep:∀(xs:List α) (i:Nat) (x:α) (k:Int),xs[i]?=some x->P x->xs.length<4611686018427387904->0<=k->k+cnt x<=4611686018427387904->∃y,g (xs,(i:Int),k)=some (.inl (xs.set i y,((i+1:Nat):Int),k+cnt x)) /\
   ∀ys:List α,ys.length<4611686018427387904->ys[i]?=some y->g' (ys,k,(i:Int))=some (.inl (ys,k+cnt x,((i+1:Nat):Int))))
  (hend:∀(xs:List α) (k:Int),g (xs,(xs.length:Int),k)=some (.inr (xs,k))) (hend':∀(xs:List α) (k:Int),g' (xs,k,(xs.length:Int))=some (.inr k))
  (xs:List α) (c:∀x,x∈xs->P x) (e:xs.length<4611686018427387904):Vd mk hd xs ((xs.map cnt).sum):=by
 have key:∀(n:Nat) (xs:List α) (i:Nat) (k:Int),i+n=xs.length->xs.length<4611686018427387904->(∀x,x∈xs.drop i->P x)->0<=k->k+((xs.drop i).map cnt).sum<=4611686018427387904 ->
   ∃ys,au g (xs,(i:Int),k)=some (ys,k+((xs.drop i).map cnt).sum)/\ys.length=xs.length/\(∀j,j<i->ys[j]?=xs[j]?)/\au g' (ys,k,(i:Int))=some (k+((xs.drop i).map cnt).sum):=by
  intro n;induction n with
  | zero=>
   intro xs i k hi e c f d;have p:i=xs.length:=by omega
   subst p;have q:xs.drop xs.length=[]:=List.drop_length;rw[q];refine⟨xs,?_,rfl,fun _ _=>rfl,?_⟩
   ·rw[aH,hend];simp
   ·rw[aH,hend'];simp
  | succ n ih=>
   intro xs i k hi e c f d;have a:i<xs.length:=by omega
   have r:xs[i]?=some xs[i]:=zF a;have s:xs.drop i=xs[i]::xs.drop (i+1):=List.drop_eq_getElem_cons a;rw[s]at c d ⊢;simp only[List.map_cons,List.sum_cons]at d ⊢;have hcast:((cnt xs[i]+((xs.drop (i+1)).map cnt).sum:Nat):Int)=(cnt xs[i]:Int)+(((xs.drop (i+1)).map cnt).sum:Nat):=by omega
   rw[hcast]at d ⊢;obtain⟨y,z,t⟩:=hstep xs i xs[i] k r (c _ ar) e f (by omega);have b:(xs.set i y).drop (i+1)=xs.drop (i+1):=by
    rw[List.drop_set];rw[if_pos (by omega)]
   obtain⟨ys,h,A,w,l⟩:=ih (xs.set i y) (i+1) (k+cnt xs[i]) (by simp;omega) (by simpa using e) (by rw[b];exact fun x r=>c x (aq _ r)) (by omega) (by rw[b];omega);rw[b]at h l;have u:ys.length=xs.length:=by rw[A];simp
   refine⟨ys,?_,u,fun j B=>?_,?_⟩
   ·rw[aH,z];simp only;rw[h,Int.add_assoc]
   ·rw[w j (by omega),List.getElem?_set,if_neg (by omega)]
   ·have v:ys[i]?=some y:=by
     rw[w i (by omega),List.getElem?_set,if_pos rfl,if_pos a]
    rw[aH,t ys (by omega) v];simp only;rw[l,Int.add_assoc]
 intro k f d;obtain⟨ys,h,_,_,l⟩:=key xs.length xs 0 k (by omega) e (by simpa using c) f (by simpa using d);refine⟨ys,?_,?_⟩
 ·rw[m];simpa using h
 ·rw[o];simpa using l
theorem agI{α ι:Type}{J:ι->Prop}{mk:ι->List α->Int->Option (List α×Int)}{hd:ι->List α->Int->Option Int}{g:ι->List α×Int×Int->Option ((List α×Int×Int)⊕(List α×Int))}{g':ι->List α×Int×Int->Option ((List α×Int×Int)⊕Int)}
  (u:∀j,J j->∀xs k,mk j xs k=au (g j) (xs,0,k)) (v:∀j,J j->∀xs k,hd j xs k=au (g' j) (xs,k,0)) (cnt:α->Nat) (P:α->Prop) (Q:α->α->Prop)
  (hstep:∀(xs:List α) (i:Nat) (x:α) (k:Int),xs[i]?=some x->P x->xs.length<4611686018427387904->0<=k->k+cnt x<=4611686018427387904->∃y,Q x y/\∀j,J j->g j (xs,(i:Int),k)=some (.inl (xs.set i y,((i+1:Nat):Int),k+cnt x)) /\
   ∀ys:List α,ys.length<4611686018427387904->ys[i]?=some y->g' j (ys,k,(i:Int))=some (.inl (ys,k+cnt x,((i+1:Nat):Int))))
  (hend:∀j,J j->∀(xs:List α) (k:Int),g j (xs,(xs.length:Int),k)=some (.inr (xs,k))) (hend':∀j,J j->∀(xs:List α) (k:Int),g' j (xs,k,(xs.length:Int))=some (.inr k))
  (xs:List α) (f:∀x,x∈xs->P x) (m:xs.length<4611686018427387904) (k:Int) (s:0<=k) (h:k+(xs.map cnt).sum<=4611686018427387904) :
  ∃ys,ys.length=xs.length/\(∀(i:Nat) (x y:α),xs[i]?=some x->ys[i]?=some y->Q x y)/\∀j,J j->mk j xs k=some (ys,k+(xs.map cnt).sum)/\hd j ys k=some (k+(xs.map cnt).sum):=by
 have key:∀(n:Nat) (xs:List α) (i:Nat) (k:Int),i+n=xs.length->xs.length<4611686018427387904->(∀x,x∈xs.drop i->P x)->0<=k->k+((xs.drop i).map cnt).sum<=4611686018427387904 ->
   ∃ys,ys.length=xs.length/\(∀j,j<i->ys[j]?=xs[j]?)/\(∀(p:Nat) (x y:α),i<=p->xs[p]?=some x->ys[p]?=some y->Q x y)/\∀j,J j->au (g j) (xs,(i:Int),k)=some (ys,k+((xs.drop i).map cnt).sum)/\au (g' j) (ys,k,(i:Int))=some (k+((xs.drop i).map cnt).sum):=by
  intro n;induction n with
  | zero=>
   intro xs i k hi m f s h;have w:i=xs.length:=by omega
   subst w;have A:xs.drop xs.length=[]:=List.drop_length;rw[A];refine⟨xs,rfl,fun _ _=>rfl,fun p x y F l=>?_,fun j a=>⟨?_,?_⟩⟩
   ·have:=(zC.1 l).1;omega
   ·rw[aH,hend j a];simp
   ·rw[aH,hend' j a];simp
  | succ n ih=>
   intro xs i k hi m f s h;have b:i<xs.length:=by omega
   have l:xs[i]?=some xs[i]:=zF b;have B:xs.drop i=xs[i]::xs.drop (i+1):=List.drop_eq_getElem_cons b;rw[B]at f h ⊢;simp only[List.map_cons,List.sum_cons]at h ⊢;have hcast:((cnt xs[i]+((xs.drop (i+1)).map cnt).sum:Nat):Int)=(cnt xs[i]:Int)+(((xs.drop (i+1)).map cnt).sum:Nat):=by omega
   rw[hcast]at h ⊢;obtain⟨y,G,o⟩:=hstep xs i xs[i] k l (f _ ar) m s (by omega);have c:(xs.set i y).drop (i+1)=xs.drop (i+1):=by
    rw[List.drop_set];rw[if_pos (by omega)]
   obtain⟨ys,H,t,eQ,q⟩:=ih (xs.set i y) (i+1) (k+cnt xs[i]) (by simp;omega) (by simpa using m) (by rw[c];exact fun x l=>f x (aq _ l)) (by omega) (by rw[c];omega);rw[c]at q;have C:ys.length=xs.length:=by rw[H];simp
   have r:ys[i]?=some y:=by
    rw[t i (by omega),List.getElem?_set,if_pos rfl,if_pos b]
   refine⟨ys,C,fun j a=>?_,fun p x z F d e=>?_,fun j a=>⟨?_,?_⟩⟩
   ·rw[t j (by omega),List.getElem?_set,if_neg (by omega)]
   ·by_cases D:p=i
    ·subst D;rw[r]at e;rw[l]at d;cases e;cases d
     exact G
    ·exact eQ p x z (by omega) (by rw[List.getElem?_set,if_neg (by omega)];exact d) e
   ·rw[aH,(o j a).1];simp only;rw[(q j a).1,Int.add_assoc]
   ·rw[aH,(o j a).2 ys (by omega) r];simp only;rw[(q j a).2,Int.add_assoc]
 obtain⟨ys,q,_,t,E⟩:=key xs.length xs 0 k (by omega) m (by simpa using f) s (by simpa using h);refine⟨ys,q,fun i x y=>t i x y (Nat.zero_le _),fun j a=>⟨?_,?_⟩⟩
 ·rw[u j a];simpa using (E j a).1
 ·rw[v j a];simpa using (E j a).2
theorem yS{α:Type}{xs:List α}{i:Nat}{x y:α}(h:xs[i]?=some x):(xs.set i y)[i]?=some y:=by
 rw[List.getElem?_set,if_pos rfl,if_pos (zC.1 h).1]
theorem dec_lt{α:Type}{xs:List α}{i:Nat}{x:α}(h:xs[i]?=some x):decide ((i:Int)<(xs.length:Int))=true:=by
 have:=(zC.1 h).1;simpa using this
theorem eu{α:Type}{xs:List α}{i:Nat}{x:α}(h:xs[i]?=some x)(a:xs.length<4611686018427387904):w64 ((i:Int)+1)=((i+1:Nat):Int):=by
 have:=(zC.1 h).1;rw[aT (by omega) (by omega)];omega
theorem jc(a:Int):(a != a)=false:=by simp
theorem jm(a:Str):(!(a==a))=false:=by simp
end Go.Proofs.YtbbmkcioplbhbaaGreatDoor
