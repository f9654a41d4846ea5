import Derived.Test.YtjbajpfonnnfoaaGreatDoorVal13
set_option linter.unusedSimpArgs false
set_option linter.unusedVariables false
/- The machines' effects, alike on both sides. -/
namespace Go.Proofs.YtjbajpfonnnfoaaGreatDoor
open Go.Abs Go.Proofs
structure MOk(P:List aj)(k:Nat)(m:aA):Prop where
 tp:afN P m.tape
 wl:(m.w.files.length:Int)<=1048576
 rd:∀r,r∈m.reads->Fit B20 (.base .read) r/\yR P r.result
 s2:m.steps<=200
 o2:m.over=true->m.steps=200
 rl:(m.reads.length:Int)+(k:Int)<=m.steps
theorem MOk.s0{P:List aj}{k:Nat}{m:aA}(h:MOk P k m):0<=m.steps:=by have:=h.rl;omega
theorem MOk.le{P:List aj}{k j:Nat}{m:aA}(h:MOk P k m)(a:j<=k):MOk P j m:=⟨h.tp,h.wl,h.rd,h.s2,h.o2,by have:=h.rl;omega⟩
theorem gmk(m:aA):aA.mk m.tape (bV.mk m.w.clock m.w.seed m.w.files) m.cell m.version m.reads m.steps m.over=m:=rfl
theorem gvk(v:af):af.mk v.kind v.n v.step v.text v.list v.columns v.rows=v:=by cases v;rfl
noncomputable def acO(m:aA)(r:aG)(t:Int):aA×af:=
 (aA.mk m.tape m.w m.cell m.version (m.reads++[aG.mk r.kind r.n t r.text ((rdE m.tape (aG.mk r.kind r.n t r.text r.result)).getD (resV m.w m.cell m.version (aG.mk r.kind r.n t r.text r.result)))]) m.steps m.over,
  (rdE m.tape (aG.mk r.kind r.n t r.text r.result)).getD (resV m.w m.cell m.version (aG.mk r.kind r.n t r.text r.result)))
theorem ahu(m:aA)(r:aG):Cj m r=acO m r (r.time+(m.reads.countP (qB r):Nat)):=rfl
theorem Ya(p:aG->Bool):∀(xs:List aG) (s:Int),xs.foldl (λs x=>bif p x then s+1 else s) s=s+(xs.countP p:Nat)
 | [],s=>by simp
 | x::r,s=>by
  rw[List.foldl_cons,Ya p r,List.countP_cons];cases p x<;>simp<;>omega
theorem aaC{P:List aj}(w:bV)(b c:Int)(d:aG)(e:(w.files.length:Int)<=1048576):je w b c d=some (resV w b c d)/\jQ w b c d=some (resV w b c d)/\VOk P (resV w b c d):=by
 obtain⟨v,f,a,h,_⟩:=RV (P:=P) w b c d e;have:resV w b c d=v:=by unfold resV;rw[a];rfl
 rw[this];exact⟨a,f,h⟩
theorem ajX{P:List aj}{k:Nat}{m:aA}(h:MOk P k m)(d:aG):VOk P ((rdE m.tape d).getD (resV m.w m.cell m.version d)):=by
 cases a:rdE m.tape d with
 | none=>exact (aaC m.w m.cell m.version d h.wl).2.2
 | some v=>exact Ze m.tape d 0 h.tp.val a
theorem XY{P:List aj}{k:Nat}{m:aA}(h:MOk P k m)(r:aG)(t:Int) :
  ((wK m.tape (aG.mk r.kind r.n t r.text r.result)).bind λa=>bif (!a.2)then (jQ m.w m.cell m.version (aG.mk r.kind r.n t r.text r.result)).bind λb=>(fC (ah b)).bind λc=>
   (gd (m.reads.length+[aG.mk r.kind r.n t r.text (ah c)].length)).bind λ_=>some (aA.mk m.tape m.w m.cell m.version (m.reads++[aG.mk r.kind r.n t r.text (ah c)]) m.steps m.over,ah b)
   else (fC (ah a.1)).bind λd=>(gd (m.reads.length+[aG.mk r.kind r.n t r.text (ah d)].length)).bind λ_=>some (aA.mk m.tape m.w m.cell m.version (m.reads++[aG.mk r.kind r.n t r.text (ah d)]) m.steps m.over,ah a.1))=some (acO m r t) /\
  ((vY m.tape (aG.mk r.kind r.n t r.text r.result)).bind λa=>bif (!a.2)then (je m.w m.cell m.version (aG.mk r.kind r.n t r.text r.result)).bind λb=>
   (gd (m.reads.length+[aG.mk r.kind r.n t r.text (ah b)].length)).bind λ_=>some (aA.mk m.tape m.w m.cell m.version (m.reads++[aG.mk r.kind r.n t r.text (ah b)]) m.steps m.over,ah b)
   else (gd (m.reads.length+[aG.mk r.kind r.n t r.text (ah a.1)].length)).bind λ_=>some (aA.mk m.tape m.w m.cell m.version (m.reads++[aG.mk r.kind r.n t r.text (ah a.1)]) m.steps m.over,ah a.1))=some (acO m r t):=by
 have o:=h.rl;have p:=h.s2;have e:∀y:aG,gd (m.reads.length+[y].length)=some ():=λy=>bK (by simp only[List.length_singleton];omega)
 rw[ae2 _ _ h.tp,adS _ _ h.tp,zA,zA];obtain⟨f,g,i⟩:=aaC (P:=P) m.w m.cell m.version (aG.mk r.kind r.n t r.text r.result) h.wl;unfold acO;cases j:rdE m.tape (aG.mk r.kind r.n t r.text r.result)with
 | none=>
  simp only[opR,Bool.not_false,ab,f,g,zA,aC,fH _ i.fit,e,Option.getD_none];exact⟨trivial,trivial⟩
 | some v=>
  have l:=Ze (P:=P) m.tape _ 0 h.tp.val j;simp only[opR,aL,aa,zA,aC,fH _ l.fit,e,Option.getD_some];exact⟨trivial,trivial⟩
theorem akJ{i:Int}(a:0<=i)(h:i<=1048576):w64 (i+1)=i+1:=bQ (by omega) (by omega)
theorem aks{P:List aj}{k:Nat}{m:aA}(h:MOk P k m)(r:aG)(f:r.time=0):eX m r=some (Cj m r)/\jA m r=some (Cj m r):=by
 have l:=h.rl;have p:=h.s2;have d:(m.reads.length:Int)<=1048576:=by omega
 rw[ahu,<- Ya (qB r) m.reads r.time];have step:∀(x:aG) (t:Int) {X ρ:Type} (A:Int->X),0<=t->t<=1000->(bif (x.kind==r.kind)then bif (x.n==r.n)then bif (x.text==r.text)then (some (.inl (A (w64 (t+1)))):Option (X⊕ρ))else some (.inl (A t))else some (.inl (A t))else some (.inl (A t)))=some (.inl (A (bif qB r x then t+1 else t))):=by
  intro x t X ρ A g q;unfold qB;rw[akJ g (by omega)];cases (x.kind==r.kind)<;>cases (x.n==r.n)<;>cases (x.text==r.text)<;>rfl
 have e:∀(i:Nat) (x:aG) (t:Int),m.reads[i]?=some x->(0<=t/\t<=(i:Int))->(0<=(bif qB r x then t+1 else t)/\(bif qB r x then t+1 else t)<=((i+1:Nat):Int)):=by
  intro i x t _ f;cases qB r x<;>simp<;>omega
 constructor
 ·refine (sD (λ(t:Int) (i:Nat)=>((m.tape,m.w.clock,m.w.seed,m.w.files,m.cell,m.version,m.reads,m.steps,m.over,r.kind,r.n,t,r.text,r.result.kind,r.result.n,r.result.step,r.result.text,r.result.list,r.result.columns,r.result.rows,0,0,0,[],[],[],[],(m.reads.length:Int),(i:Int)) :
   (List aG)×Int×Int×(List fP)×Int×Int×(List aG)×Int×Bool×Int×Int×Int×Str×Int×Int×Int×Str×(List af)×(List Str)×(List aB)×Int×Int×Int×Str×(List af)×(List Str)×(List aB)×Int×Int)) m.reads (λt x=>bif qB r x then t+1 else t) (acO m r) (λi t=>0<=t/\t<=(i:Int)) e (λi x t a b=>?_) (λt b=>?_) r.time ⟨by omega,by omega⟩).1
  ·have j:=(zC.1 a).1;have c:m.reads[((i:Int)).toNat]?=some x:=by rw[aw];exact a
   simp only[dw a,ab,aQ,a,c,zA,dW a d];exact step x t (λt=>(m.tape,m.w.clock,m.w.seed,m.w.files,m.cell,m.version,m.reads,m.steps,m.over,r.kind,r.n,t,r.text,r.result.kind,r.result.n,r.result.step,r.result.text,r.result.list,r.result.columns,r.result.rows,0,0,0,[],[],[],[],(m.reads.length:Int),((i+1:Nat):Int))) b.1 (by omega)
  ·simp only[bP,aa,gvk];exact congrArg (λo=>Option.bind o λr=>some (Sum.inr r)) (XY h r t).1
 ·refine (sD (λ(t:Int) (i:Nat)=>((m.tape,m.w.clock,m.w.seed,m.w.files,m.cell,m.version,m.reads,m.steps,m.over,r.kind,r.n,t,r.text,r.result.kind,r.result.n,r.result.step,r.result.text,r.result.list,r.result.columns,r.result.rows,0,0,0,[],[],[],[],(i:Int)) :
   (List aG)×Int×Int×(List fP)×Int×Int×(List aG)×Int×Bool×Int×Int×Int×Str×Int×Int×Int×Str×(List af)×(List Str)×(List aB)×Int×Int×Int×Str×(List af)×(List Str)×(List aB)×Int)) m.reads (λt x=>bif qB r x then t+1 else t) (acO m r) (λi t=>0<=t/\t<=(i:Int)) e (λi x t a b=>?_) (λt b=>?_) r.time ⟨by omega,by omega⟩).1
  ·have j:=(zC.1 a).1;have c:m.reads[((i:Int)).toNat]?=some x:=by rw[aw];exact a
   simp only[dw a,ab,aQ,a,c,zA,dW a d];exact step x t (λt=>(m.tape,m.w.clock,m.w.seed,m.w.files,m.cell,m.version,m.reads,m.steps,m.over,r.kind,r.n,t,r.text,r.result.kind,r.result.n,r.result.step,r.result.text,r.result.list,r.result.columns,r.result.rows,0,0,0,[],[],[],[],((i+1:Nat):Int))) b.1 (by omega)
  ·simp only[bP,aa,gvk];exact congrArg (λo=>Option.bind o λr=>some (Sum.inr r)) (XY h r t).2
theorem aht{P:List aj}{k:Nat}{m:aA}(h:MOk P (k+1) m)(r:aG)(e:r.time=0)(hk:1<=r.kind/\r.kind<=3)(c:bZ B20 (.int .i64 r.n))(d:bZ B20 (.str r.text)):MOk P k (Cj m r).1/\VOk P (Cj m r).2:=by
 have f:=h.rl;have g:=h.s2;have b:VOk P (Ci m r):=ajX h (qF m r);refine⟨⟨h.tp,h.wl,λx a=>?_,h.s2,h.o2,?_⟩,b⟩
 ·have a:x∈m.reads++[aG.mk r.kind r.n (qF m r).time r.text (Ci m r)]:=a;rcases List.mem_append.1 a with a | a
  ·exact h.rd x a
  ·rw[List.mem_singleton]at a;subst a;refine⟨AA.2 ⟨nU (dL (by show -1000000000<=r.kind;omega) (by show r.kind<=1000000000;omega)),c,nU (dL ?_ ?_),d,b.fit⟩,b.org⟩
   ·show -1000000000<=r.time+(m.reads.countP (qB r):Nat)
    omega
   ·show r.time+(m.reads.countP (qB r):Nat)<=1000000000
    have:=List.countP_le_length (p:=qB r) (l:=m.reads);omega
 ·show ((m.reads++[aG.mk r.kind r.n (qF m r).time r.text (Ci m r)]).length:Int)+k<=m.steps
  rw[a6,List.length_singleton];omega
structure Rv(P:List aj)(k:Nat)(p:aA×af)(A B:Option (aA×af)):Prop where
 b:B=some p
 m:MOk P k p.1
 v:VOk P p.2
 z:p.1.over=true->p.2=zV
 a:∃v,A=some (p.1,v)/\VOk P v/\(p.1.over=false->v=p.2)
theorem CB{P:List aj}:VOk P zV:=⟨dK.2 ⟨nU (dL (by decide) (by decide)),nU (dL (by decide) (by decide)),nU (dL (by decide) (by decide)),qm,pU,pU,pU⟩,Bo⟩
theorem O3{α:Type}{xs r:List α}{i:Nat}{x:α}(h:xs.drop i=x::r):xs[i]?=some x/\xs.drop (i+1)=r/\i+1<=xs.length:=by
 have a:xs[i]?=some x:=by
  have:=congrArg (·[0]?) h;simpa using this
 refine⟨a,?_,(zC.1 a).1⟩;have:=congrArg List.tail h;simpa using this
theorem drop_end{α:Type}{xs:List α}{i:Nat}(h:xs.drop i=[])(a:i<=xs.length):i=xs.length:=by
 have:=List.drop_eq_nil_iff.1 h;omega
theorem ahF{α X Y:Type}{P:List aj}{gI:X->Option (X⊕(aA×List af))}{gS:Y->Option (Y⊕(aA×List af))}(pkI:aA->List af->Nat->X)(pkS:aA->List af->Nat->Y)
  (FI FS:aA->α->Option (aA×af)) (f:aA->α->aA×af) (xs:List α)
  (w:∀i x m s,xs[i]?=some x->s.length=i->gI (pkI m s i)=(FI m x).bind λr=>some (.inl (pkI r.1 (s++[r.2]) (i+1))))
  (eI:∀m s,gI (pkI m s xs.length)=some (.inr (m,s)))
  (z:∀i x m s,xs[i]?=some x->s.length=i->m.over=false->gS (pkS m s i)=(FS m x).bind λr=>some (.inl (pkS r.1 (s++[r.2]) (i+1))))
  (oS:∀i m s,i<=xs.length->m.over=true->gS (pkS m s i)=some (.inr (m,s)))
  (eS:∀m s,gS (pkS m s xs.length)=some (.inr (m,s)))
  (B:∀x,x∈xs->∀m k,MOk P k m->m.over=false->Rv P k (f m x) (FI m x) (FS m x))
  (C:∀x,x∈xs->∀m,m.over=true->FI m x=some (m,zV)) :
  ∀(r:List α) (i:Nat) (m:aA) (s:List af) (k:Nat),xs.drop i=r->i<=xs.length->MOk P k m->m.over=false->s.length=i ->
   ∃vs us,aO gI (pkI m s i)=some ((evL f m r).1,s++vs)/\aO gS (pkS m s i)=some ((evL f m r).1,s++us)/\MOk P k (evL f m r).1/\vs.length=r.length/\(∀v,v∈vs->VOk P v) /\
    (∀v,v∈(evL f m r).2->VOk P v)/\((evL f m r).1.over=false->vs=(evL f m r).2/\us=(evL f m r).2):=by
 have orun:∀(r:List α) (i:Nat) (m:aA) (s:List af),xs.drop i=r->i<=xs.length->m.over=true->s.length=i->aO gI (pkI m s i)=some (m,s++r.map λ_=>zV):=by
  intro r;induction r with
  | nil=>
   intro i m s l o n g;have:=drop_end l o;rw[aX,this,eI];simp
  | cons x r ih=>
   intro i m s l o n g;obtain⟨j,q,p⟩:=O3 l;rw[aX,w i x m s j g,C x (zG j) m n];simp only[zA];rw[ih (i+1) m (s++[zV]) q p n (by simp[g])];simp
 intro r;induction r with
 | nil=>
  intro i m s k l o n t g;have:=drop_end l o;refine⟨[],[],?_,?_,n,rfl,(λv y=>by cases y),(λv y=>by cases y),λ_=>⟨rfl,rfl⟩⟩
  ·rw[aX,this,eI];simp[evL]
  ·rw[aX,this,eS];simp[evL]
 | cons x r ih=>
  intro i m s k l o n t g;obtain⟨j,q,p⟩:=O3 l;have R:=B x (zG j) m k n t;obtain⟨v,A,D,E⟩:=R.a;cases c:(f m x).1.over with
  | true=>
   have e:evL f m (x::r)=((f m x).1,[]):=by
    show (bif (f m x).1.over then _ else _)=_
    rw[c];rfl
   refine⟨v::r.map λ_=>zV,[(f m x).2],?_,?_,by rw[e];exact R.m,by simp,λu d=>?_,(λu d=>by rw[e]at d;cases d),(λh=>by rw[e]at h;exact absurd c (by rw[h];decide))⟩
   ·rw[aX,w i x m s j g,A];simp only[zA];rw[orun r (i+1) (f m x).1 (s++[v]) q p c (by simp[g]),e];simp
   ·rw[aX,z i x m s j g t,R.b];simp only[zA];rw[aX,oS (i+1) (f m x).1 _ p c,e]
   ·rcases ba.1 d with rfl | d
    ·exact D
    ·obtain⟨_,_,rfl⟩:=List.mem_map.1 d;exact CB
  | false=>
   have e:evL f m (x::r)=((evL f (f m x).1 r).1,(f m x).2::(evL f (f m x).1 r).2):=by
    show (bif (f m x).1.over then _ else _)=_
    rw[c];rfl
   obtain⟨vs,us,F,G,H,I,J,K,L⟩:=ih (i+1) (f m x).1 (s++[(f m x).2]) k q p R.m c (by simp[g]);rw[e];refine⟨(f m x).2::vs,(f m x).2::us,?_,?_,H,by simp[I],λu d=>?_,λu d=>?_,λh=>?_⟩
   ·rw[aX,w i x m s j g,A,E c];simp only[zA];rw[F];simp
   ·rw[aX,z i x m s j g t,R.b];simp only[zA];rw[G];simp
   ·rcases ba.1 d with rfl | d
    ·exact R.v
    ·exact J u d
   ·rcases ba.1 d with rfl | d
    ·exact R.v
    ·exact K u d
   ·obtain⟨M,N⟩:=L h;rw[M,N];exact⟨rfl,rfl⟩
theorem Sv{P:List aj}(vs:List af)(b:(vs.length:Int)<=1048576)(h:∀x,x∈vs->VOk P x):jC vs=some (gX vs)/\iK vs=some (gX vs)/\VOk P (gX vs):=by
 obtain⟨v,c,a,d,_⟩:=Yd vs b h;have:gX vs=v:=by unfold gX;rw[a];rfl
 rw[this];exact⟨c,a,d⟩
theorem ahl{α X Y:Type}{P:List aj}{gI:X->Option (X⊕(aA×af))}{gS:Y->Option (Y⊕(aA×af))}(pkI:aA->List af->Nat->X)(pkS:aA->List af->Nat->Y)
  (FI FS:aA->α->Option (aA×af)) (f:aA->α->aA×af) (xs:List α) (H:(xs.length:Int)<=1048576)
  (q:∀i x m s,xs[i]?=some x->s.length=i->gI (pkI m s i)=(FI m x).bind λr=>bif r.1.over then some (.inr (r.1,zV))else some (.inl (pkI r.1 (s++[r.2]) (i+1))))
  (eI:∀m s,gI (pkI m s xs.length)=(jC s).bind λv=>some (.inr (m,v)))
  (t:∀i x m s,xs[i]?=some x->s.length=i->m.over=false->gS (pkS m s i)=(FS m x).bind λr=>some (.inl (pkS r.1 (s++[r.2]) (i+1))))
  (oS:∀i m s,i<=xs.length->m.over=true->gS (pkS m s i)=some (.inr (m,zV)))
  (eS:∀m s,m.over=false->gS (pkS m s xs.length)=(iK s).bind λv=>some (.inr (m,v)))
  (B:∀x,x∈xs->∀m k,MOk P k m->m.over=false->Rv P k (f m x) (FI m x) (FS m x)) :
  ∀(r:List α) (i:Nat) (m:aA) (s:List af) (k:Nat),xs.drop i=r->i<=xs.length->MOk P k m->m.over=false->s.length=i->(∀v,v∈s->VOk P v) ->
   Rv P k (fin ((evL f m r).1,s++(evL f m r).2) gX) (aO gI (pkI m s i)) (aO gS (pkS m s i)):=by
 intro r;induction r with
 | nil=>
  intro i m s k n w o d g p;have:=drop_end n w;obtain⟨C,D,y⟩:=Sv (P:=P) s (by omega) p;have e:fin ((evL f m ([]:List α)).1,s++(evL f m ([]:List α)).2) gX=(m,gX s):=by
   unfold fin evL;simp only[d,aa,List.append_nil]
  rw[e];refine⟨?_,o,y,(λh=>by rw[d]at h;cases h),gX s,?_,y,λ_=>rfl⟩
  ·rw[aX,this,eS m s d,D];rfl
  ·rw[aX,this,eI m s,C];rfl
 | cons x r ih=>
  intro i m s k n w o d g p;obtain⟨l,E,z⟩:=O3 n;have R:=B x (zG l) m k o d;obtain⟨v,A,J,F⟩:=R.a;cases c:(f m x).1.over with
  | true=>
   have e:fin ((evL f m (x::r)).1,s++(evL f m (x::r)).2) gX=((f m x).1,zV):=by
    have:evL f m (x::r)=((f m x).1,[]):=by
     show (bif (f m x).1.over then _ else _)=_
     rw[c];rfl
    rw[this];unfold fin;simp only[c,ab]
   rw[e];refine⟨?_,R.m,CB,λ_=>rfl,zV,?_,CB,λ_=>rfl⟩
   ·rw[aX,t i x m s l g d,R.b];simp only[zA];rw[aX,oS (i+1) (f m x).1 _ z c]
   ·rw[aX,q i x m s l g,A];simp only[zA,c,ab]
  | false=>
   have e:fin ((evL f m (x::r)).1,s++(evL f m (x::r)).2) gX=fin ((evL f (f m x).1 r).1,(s++[(f m x).2])++(evL f (f m x).1 r).2) gX:=by
    have:evL f m (x::r)=((evL f (f m x).1 r).1,(f m x).2::(evL f (f m x).1 r).2):=by
     show (bif (f m x).1.over then _ else _)=_
     rw[c];rfl
    rw[this];simp
   have I:=ih (i+1) (f m x).1 (s++[(f m x).2]) k E z R.m c (by simp[g]) λu j=>by
    rcases List.mem_append.1 j with j | j
    ·exact p u j
    ·rw[List.mem_singleton]at j;rw[j];exact R.v
   have G:aO gI (pkI m s i)=aO gI (pkI (f m x).1 (s++[(f m x).2]) (i+1)):=by
    rw[aX,q i x m s l g,A,F c];simp only[zA,c,aa]
   have s2:aO gS (pkS m s i)=aO gS (pkS (f m x).1 (s++[(f m x).2]) (i+1)):=by
    rw[aX,t i x m s l g d,R.b];simp only[zA]
   rw[e,G,s2];exact I
structure ScD(P:List aj)(d:Nat)(c:List ak):Prop where
 len:(c.length:Int)+(d:Int)<=1073741824
 val:∀b,b∈c->VOk P b.value
theorem ScD.sc{P:List aj}{d:Nat}{c:List ak}(h:ScD P d c):acZ P c:=⟨by have:=h.len;omega,h.val⟩
theorem ScD.bind{P:List aj}{d:Nat}{c:List ak}(h:ScD P (d+1) c)(s:Str){v:af}(e:VOk P v):ScD P d (c++[ak.mk s v]):=⟨by have:=h.len;simp;omega,λb a=>by
 rcases List.mem_append.1 a with a | a
 ·exact h.val b a
 ·rw[List.mem_singleton]at a;rw[a];exact e⟩
theorem ScD.le{P:List aj}{d:Nat}{c:List ak}(h:ScD P (d+1) c):ScD P d c:=⟨by have:=h.len;omega,h.val⟩
theorem siz4(e:au):4<=siz e:=by
 obtain⟨k,n,t,a⟩:=e;have b:1<=SizeOf.sizeOf t:=by
  cases t with
  | nil=>simp
  | cons c r=>rw[List.cons.sizeOf_spec];omega
 have d:1<=SizeOf.sizeOf n:=by
  cases n with
  | ofNat a=>rw[Int.ofNat.sizeOf_spec];omega
  | negSucc a=>rw[Int.negSucc.sizeOf_spec];omega
 have f:1<=SizeOf.sizeOf k:=by
  cases k with
  | ofNat a=>rw[Int.ofNat.sizeOf_spec];omega
  | negSucc a=>rw[Int.negSucc.sizeOf_spec];omega
 simp only[siz];rw[au.mk.sizeOf_spec];omega
theorem aeh{m:aA}(h:m.over=true):ovr m=m:=by
 obtain⟨a,b,c,d,e,f,g⟩:=m;have:g=true:=h;subst this;rfl
theorem aeW(n:Nat)(m:aA)(e:au)(c:List ak)(h:m.over=true):(aT (n+1)).1 m e c=some (m,zV):=by
 show lK _ _ _ _ m e c=_
 unfold lK;rw[h];show some (ovr m,zV)=_
 rw[aeh h]
theorem yg{e:au}{i:Nat}(h:i<e.args.length):idx e.args (i:Int)=some (arg e i):=by
 unfold arg;rw[aQ,zE,zF h];rfl
theorem Rv.le{P:List aj}{k j:Nat}{p:aA×af}{A B:Option (aA×af)}(h:Rv P k p A B)(c:j<=k):Rv P j p A B:=⟨h.b,h.m.le c,h.v,h.z,h.a⟩
theorem kU{P:List aj}{k:Nat}{m:aA}{v:af}(b:MOk P k m)(c:m.over=false)(a:VOk P v):Rv P k (m,v) (some (m,v)) (some (m,v)):=⟨rfl,b,a,λh=>(by have h:m.over=true:=h;rw[c]at h;cases h),v,rfl,a,λ_=>rfl⟩
theorem Ut{P:List aj}{k:Nat}{p:aA×af}{A B:Option (aA×af)}(h:Rv P k p A B){K:aA->af->aA×af}{F G:aA×af->Option (aA×af)}
  (d:p.1.over=true->∀v,VOk P v->∃u,F (p.1,v)=some (p.1,u)/\VOk P u) (f:p.1.over=true->G (p.1,zV)=some (p.1,zV)) (g:p.1.over=false->Rv P k (K p.1 p.2) (F p) (G p)):Rv P k (thn p K) (A.bind F) (B.bind G):=by
 obtain⟨v,i,j,l⟩:=h.a;rw[h.b,i,zA,zA];cases c:p.1.over with
 | true=>
  have e:thn p K=(p.1,zV):=by unfold thn;rw[c];rfl
  have n:=h.z c;obtain⟨u,o,q⟩:=d c v j;have hp:p=(p.1,zV):=by rw[<- n]
  rw[e,o];refine⟨by rw[hp];exact f c,h.m,CB,λ_=>rfl,u,rfl,q,λhh=>?_⟩;have hh:p.1.over=false:=hh;rw[c]at hh;cases hh
 | false=>
  have e:thn p K=K p.1 p.2:=by unfold thn;rw[c];rfl
  rw[e,l c];exact g c
theorem WA{P:List aj}{k:Nat}{p:aA×af}{A B:Option (aA×af)}(h:Rv P k p A B):Rv P k p (A.bind λr=>some (r.1,ah r.2)) (B.bind λr=>some (r.1,ah r.2)):=by
 obtain⟨v,c,d,e⟩:=h.a;refine⟨by rw[h.b,zA,aC],h.m,h.v,h.z,v,by rw[c,zA,aC],d,e⟩
structure Rl(P:List aj)(k n:Nat)(p:aA×List af)(A B:Option (aA×List af)):Prop where
 m:MOk P k p.1
 v:∀x,x∈p.2->VOk P x
 ex:∃vs us,A=some (p.1,vs)/\B=some (p.1,us)/\vs.length=n/\(∀x,x∈vs->VOk P x)/\(p.1.over=false->vs=p.2/\us=p.2)
theorem akU{P:List aj}{k n:Nat}{p:aA×List af}{A B:Option (aA×List af)}
  (h:∃vs us,A=some (p.1,[]++vs)/\B=some (p.1,[]++us)/\MOk P k p.1/\vs.length=n/\(∀v,v∈vs->VOk P v)/\(∀v,v∈p.2->VOk P v)/\(p.1.over=false->vs=p.2/\us=p.2)):Rl P k n p A B:=by
 obtain⟨vs,us,a,b,c,d,e,f,g⟩:=h;exact⟨c,f,vs,us,a,b,d,e,g⟩
theorem ahG{P:List aj}{FI FS:aA->au->List ak->Option (aA×af)}{f:aA->au->aA×af}{c:List ak}{xs:List au}(h:(xs.length:Int)<=1048576)
  (a:∀x,x∈xs->∀m k,MOk P k m->m.over=false->Rv P k (f m x) (FI m x c) (FS m x c)) (l:∀x,x∈xs->∀m,m.over=true->FI m x c=some (m,zV))
  {m:aA} {k:Nat} (n:MOk P k m) (b:m.over=false) (o p q r t u):Rl P k xs.length (evL f m xs) (yt FI o p q m xs c) (MG FS r t u m xs c):=by
 unfold yt MG;refine akU (ahF (P:=P) (λ(m:aA) (s:List af) (i:Nat)=>((m.tape,m.w.clock,m.w.seed,m.w.files,m.cell,m.version,m.reads,m.steps,m.over,c,s,xs,(xs.length:Int),(i:Int)) :
   (List aG)×Int×Int×(List fP)×Int×Int×(List aG)×Int×Bool×(List ak)×(List af)×(List au)×Int×Int))
  (λ(m:aA) (s:List af) (i:Nat)=>((m.tape,m.w.clock,m.w.seed,m.w.files,m.cell,m.version,m.reads,m.steps,m.over,xs,c,s,(i:Int)) :
   (List aG)×Int×Int×(List fP)×Int×Int×(List aG)×Int×Bool×(List au)×(List ak)×(List af)×Int))
  (λm x=>FI m x c) (λm x=>FS m x c) f xs (λi x m s a d=>?_) (λm s=>?_) (λi x m s a d b=>?_) (λi m s j b=>?_) (λm s=>?_) a l xs 0 m [] k rfl (Nat.zero_le _) n b rfl)
 ·have j:=(zC.1 a).1;have g:∀v:af,gd (s.length+[v].length)=some ():=λv=>bK (by rw[d];simp;omega)
  simp only[dw a,ab,aQ,a,zA,dA,aC,gmk,g,dW a h]
 ·simp only[bP,aa,gmk]
 ·have j:=(zC.1 a).1;have g:∀v:af,gd (s.length+[v].length)=some ():=λv=>bK (by rw[d];simp;omega)
  have e:aA.mk m.tape (bV.mk m.w.clock m.w.seed m.w.files) m.cell m.version m.reads m.steps false=m:=by rw[<- b]
  simp only[dw a,b,ab,Bool.not_false,aQ,a,zA,dA,aC,g,dW a h,e]
 ·have e:aA.mk m.tape (bV.mk m.w.clock m.w.seed m.w.files) m.cell m.version m.reads m.steps true=m:=by rw[<- b]
  simp only[b,aL,aa,e];cases decide ((i:Int)<(xs.length:Int))<;>rfl
 ·simp only[bP,aa,gmk]
theorem ahm{P:List aj}{FI FS:aA->au->List ak->Option (aA×af)}{f:aA->af->aA×af}{c:List ak}{e:au}(O:e.args.length=2){d:Nat}(hc:ScD P (d+1) c)
  {g:aA×af} (C D E F G H) {m:aA} {k:Nat} (o:Rv P k g (FI m (arg e 0) c) (FS m (arg e 0) c))
  (a:∀x,VOk P x->∀m k,MOk P k m->m.over=false->Rv P k (f m x) (FI m (arg e 1) (c++[ak.mk e.text x])) (FS m (arg e 1) (c++[ak.mk e.text x]))) :
  Rv P k (thn g λm v=>bif v.kind==6 then (m,v)else bif v.kind != 3 then (m,dI 4)else fin (evL f m v.list) gX) (uY FI C D E m e c) (Me FS F G H m e c):=by
 have I:idx e.args 0=some (arg e 0):=yg (i:=0) (by omega);have A:idx e.args 1=some (arg e 1):=yg (i:=1) (by omega);unfold uY Me;rw[I,zA,zA,dA];refine Ut o (λb v j=>⟨v,?_,j⟩) (λb=>?_) (λb=>?_)
 ·simp only[b,ab,aC]
 ·simp only[b,ab,aC]
 obtain⟨M,v⟩:=g;have j:VOk P v:=o.v;have p:MOk P k M:=o.m;have b:M.over=false:=b;have l:∀ {α:Type} (x y:α),(bif M.over then x else y)=y:=λx y=>by rw[b];rfl
 simp only[l,aC];cases J:(v.kind==6)with
 | true=>simp only[ab];exact kU p b j
 | false=>
  simp only[aa];cases K:(v.kind != 3)with
  | true=>simp only[ab];exact kU p b (bD (by omega) (by omega)).1
  | false=>
   simp only[aa];have q:=bT (dK.1 j.fit).2.2.2.2.1;have hmem:∀x,x∈v.list->VOk P x:=λx a=>j.mem a
   have hfin:fin (evL f M v.list) gX=fin ((evL f M v.list).1,[]++(evL f M v.list).2) gX:=rfl;rw[hfin];refine ahl (P:=P) (λ(m:aA) (s:List af) (i:Nat)=>((m.tape,m.w.clock,m.w.seed,m.w.files,m.cell,m.version,m.reads,m.steps,m.over,c,e.kind,e.n,e.text,e.args,0,0,0,[],[],[],[],s,v.list,(v.list.length:Int),(i:Int)) :
     (List aG)×Int×Int×(List fP)×Int×Int×(List aG)×Int×Bool×(List ak)×Int×Int×Str×(List au)×Int×Int×Int×Str×(List af)×(List Str)×(List aB)×(List af)×(List af)×Int×Int))
    (λ(m:aA) (s:List af) (i:Nat)=>((m.tape,m.w.clock,m.w.seed,m.w.files,m.cell,m.version,m.reads,m.steps,m.over,c,e.kind,e.n,e.text,e.args,0,0,0,[],[],[],[],v.kind,v.n,v.step,v.text,v.list,v.columns,v.rows,s,(i:Int)) :
     (List aG)×Int×Int×(List fP)×Int×Int×(List aG)×Int×Bool×(List ak)×Int×Int×Str×(List au)×Int×Int×Int×Str×(List af)×(List Str)×(List aB)×Int×Int×Int×Str×(List af)×(List Str)×(List aB)×(List af)×Int))
    (λm x=>FI m (arg e 1) (c++[ak.mk e.text x])) (λm x=>FS m (arg e 1) (c++[ak.mk e.text x])) f v.list q (λi x m s a r=>?_) (λm s=>?_) (λi x m s a r h=>?_) (λi m s B h=>?_) (λm s h=>?_)
    (λx t m k L h=>a x (hmem x t) m k L h) v.list 0 M [] k rfl (Nat.zero_le _) p b rfl (λu N=>by cases N)
   ·have B:=(zC.1 a).1;have z:∀v:af,gd (s.length+[v].length)=some ():=λv=>bK (by rw[r];simp;omega)
    have l:=OG c e.text x hc.sc (hmem x (zG a));simp only[dw a,ab,aQ,a,A,zA,dA,aC,gmk,z,l,dW a q];rfl
   ·simp only[bP,aa,gmk,aC];cases jC s<;>rfl
   ·have B:=(zC.1 a).1;have z:∀v:af,gd (s.length+[v].length)=some ():=λv=>bK (by rw[r];simp;omega)
    have l:=Wx c e.text x hc.sc (hmem x (zG a));have em:aA.mk m.tape (bV.mk m.w.clock m.w.seed m.w.files) m.cell m.version m.reads m.steps false=m:=by rw[<- h]
    simp only[dw a,h,ab,Bool.not_false,aQ,a,A,zA,dA,aC,z,l,dW a q,em]
   ·have em:aA.mk m.tape (bV.mk m.w.clock m.w.seed m.w.files) m.cell m.version m.reads m.steps true=m:=by rw[<- h]
    simp only[h,aL,aa,ab,em];cases decide ((i:Int)<(v.list.length:Int))<;>rfl
   ·have em:aA.mk m.tape (bV.mk m.w.clock m.w.seed m.w.files) m.cell m.version m.reads m.steps false=m:=by rw[<- h]
    simp only[bP,h,aa,em,aC];cases iK s<;>rfl
theorem Zc{P:List aj}{k:Nat}{M:aA}(h:MOk P (k+1) M)(b:M.over=false)(r:aG)(a:r.time=0)(hk:1<=r.kind/\r.kind<=3)(c:bZ B20 (.int .i64 r.n))(d:bZ B20 (.str r.text)) :
  Rv P k (Cj M r) ((eX M r).bind λr=>some (r.1,ah r.2)) ((jA M r).bind λr=>some (r.1,ah r.2)):=by
 obtain⟨e,f⟩:=aks h r a;obtain⟨g,i⟩:=aht h r a hk c d;rw[e,f,zA,aC];exact kU g b i
theorem Z9:dR [99,108,111,99,107]=some 0:=rfl
theorem Yj:dR [99,104,97,110,99,101]=some 1:=rfl
theorem acY:dR [102,105,108,101]=some 1:=rfl
theorem XL:bZ B20 (.int .i64 0):=nU (dL (by decide) (by decide))
theorem afy{P:List aj}(K:P.length<=1048576){RA RS:aA->(List au)->(List ak)->Option (aA×(List af))}{m:aA}{e:au}{c:List ak}{k:Nat}{p:aA×List af}
  (f:dR e.text=some (e.args.length:Int)) (i:Rl P (k+1) e.args.length p (RA m e.args c) (RS m e.args c)) (L N O Q R S) :
  Rv P k (nV e.text p) (uZ L RA N O m e c) (Ho Q RS R S m e c):=by
 obtain⟨vs,us,G,H,T,U,o⟩:=i.ex;have d:=i.m;have j:=i.v;unfold uZ Ho;rw[G,H,zA,zA];obtain⟨M,ws⟩:=p;simp only at d j o;cases b:M.over with
 | true=>
  have l:∀ {α:Type} (x y:α),(bif M.over then x else y)=x:=λx y=>by rw[b];rfl
  have V:nV e.text (M,ws)=(M,zV):=by unfold nV;simp only[l]
  simp only[l];rw[V];exact⟨rfl,d.le (Nat.le_succ k),CB,λ_=>rfl,zV,rfl,CB,λ_=>rfl⟩
 | false=>
  have l:∀ {α:Type} (x y:α),(bif M.over then x else y)=y:=λx y=>by rw[b];rfl
  obtain⟨q,I⟩:=o b;rw[q]at T U;rw[q,I];clear G H q I o i;unfold nV;simp only[l,acH,Ah,zA];cases g:CQ e.text with
  | false=>
   have a:=g;unfold CQ at a;obtain⟨v,c1,c2,c3,_⟩:=aa1 K e.text ws j (by rw[Ah,a]);have r:Sj e.text ws=v:=by unfold Sj;rw[c2];rfl
   simp only[a,Bool.not_false,ab,c1,c2,r,zA,aC];exact kU (d.le (Nat.le_succ k)) b c3
  | true=>
   have a:=g;unfold CQ at a;simp only[a,aL,aa];by_cases s:e.text=[99,108,111,99,107]
   ·rw[s,Z9,zD]at f;have:ws=[]:=List.length_eq_zero_iff.1 (by omega);subst this;rw[s];exact Zc d b (aG.mk 1 0 0 [] zV) rfl (by decide) XL qm
   have W:(e.text==[99,108,111,99,107])=false:=bq s;by_cases t:e.text=[99,104,97,110,99,101]
   ·rw[t,Yj,zD]at f;obtain⟨x,rfl⟩:=List.length_eq_one_iff.1 (show ws.length=1 by omega);have h:=j x (List.mem_singleton.2 rfl);have fx:=dK.1 h.fit;have u:idx [x] 0=some x:=rfl;have w:[x].getD 0 zV=x:=rfl;have z:decide ((([x]:List af).length:Int)>0)=true:=rfl;have A:((([x]:List af).length:Int)==1)=true:=rfl;have B:(([99,104,97,110,99,101]:Str)==[99,108,111,99,107])=false:=rfl;have C:(([99,104,97,110,99,101]:Str)==[99,104,97,110,99,101])=true:=rfl;have D:(([99,104,97,110,99,101]:Str)==[102,105,108,101])=false:=rfl;simp only[t,z,A,B,C,D,u,w,ab,aa,zA,aC,jY,jX];cases E:(x.kind==6)with
    | true=>simp only[ab];exact kU (d.le (Nat.le_succ k)) b h
    | false=>
     simp only[aa];cases F:(x.kind==1)with
     | true=>
      simp only[ab];have:=Zc d b (aG.mk 2 x.n 0 [] zV) rfl ⟨(by decide:(1:Int)<=2),(by decide:(2:Int)<=3)⟩ fx.2.1 qm;simp only[aC]at this;exact this
     | false=>simp only[aa];exact kU (d.le (Nat.le_succ k)) b (bD (by omega) (by omega)).1
   have X:(e.text==[99,104,97,110,99,101])=false:=bq t;have J:e.text=[102,105,108,101]:=by
    rw[W,X,Bool.false_or,Bool.false_or]at a;exact eq_of_beq a
   rw[J,acY,zD]at f;obtain⟨x,rfl⟩:=List.length_eq_one_iff.1 (show ws.length=1 by omega);have h:=j x (List.mem_singleton.2 rfl);have fx:=dK.1 h.fit;have u:idx [x] 0=some x:=rfl;have w:[x].getD 0 zV=x:=rfl;have z:decide ((([x]:List af).length:Int)>0)=true:=rfl;have A:((([x]:List af).length:Int)==1)=true:=rfl;have B:(([102,105,108,101]:Str)==[99,108,111,99,107])=false:=rfl;have C:(([102,105,108,101]:Str)==[99,104,97,110,99,101])=false:=rfl;have D:(([102,105,108,101]:Str)==[102,105,108,101])=true:=rfl;simp only[J,z,A,B,C,D,u,w,ab,aa,zA,aC,jY,jX];cases E:(x.kind==6)with
   | true=>simp only[ab];exact kU (d.le (Nat.le_succ k)) b h
   | false=>
    simp only[aa];cases F:(x.kind==2)with
    | true=>
     simp only[ab];have:=Zc d b (aG.mk 3 0 0 x.text zV) rfl ⟨(by decide:(1:Int)<=3),(by decide:(3:Int)<=3)⟩ XL fx.2.2.2.1;simp only[aC]at this;exact this
    | false=>simp only[aa];exact kU (d.le (Nat.le_succ k)) b (bD (by omega) (by omega)).1
theorem afW{P:List aj}{k:Nat}{m:aA}(h:MOk P k m):aA.mk m.tape m.w m.cell m.version m.reads (w64 (m.steps+1)) m.over=tick m:=by
 have:=h.s0;have:=h.s2;unfold tick;rw[bQ (by omega) (by omega)]
theorem aap{P:List aj}{k:Nat}{m:aA}(h:MOk P k m)(b:m.over=false)(a:(m.steps==200)=false):MOk P (k+1) (tick m):=by
 have:=h.rl;have:=h.s2;have a:m.steps≠200:=by simpa using a
 exact⟨h.tp,h.wl,h.rd,by show m.steps+1<=200;omega,(λhh=>by have hh:m.over=true:=hh;rw[b]at hh;cases hh),by show (m.reads.length:Int)+((k+1:Nat):Int)<=m.steps+1;omega⟩
theorem adY{P:List aj}{k n:Nat}{p:aA×List af}{A B:Option (aA×List af)}(h:Rl P k n p A B){F G:List af->Option af}{K:List af->af}
  (g:∀vs,vs.length=n->(∀x,x∈vs->VOk P x)->F vs=some (K vs)/\G vs=some (K vs)/\VOk P (K vs)) :
  Rv P k (fin p K) (A.bind λr=>(F r.2).bind λv=>some (r.1,ah v)) (B.bind λr=>bif r.1.over then some (r.1,zV)else (G r.2).bind λv=>some (r.1,ah v)):=by
 obtain⟨vs,us,i,j,l,o,q⟩:=h.ex;rw[i,j,zA,zA];obtain⟨b,e,c⟩:=g vs l o;cases a:p.1.over with
 | true=>
  have d:fin p K=(p.1,zV):=by unfold fin;rw[a];rfl
  simp only[b,zA,aC,a,ab,d];refine⟨rfl,h.m,CB,λ_=>rfl,K vs,rfl,c,λhh=>?_⟩;have hh:p.1.over=false:=hh;rw[a]at hh;cases hh
 | false=>
  obtain⟨f,s⟩:=q a;have d:fin p K=(p.1,K p.2):=by unfold fin;rw[a];rfl
  rw[f]at b e c;rw[f,s];have t:∀ {α:Type} (x y:α),(bif p.1.over then x else y)=y:=λx y=>by rw[a];rfl
  simp only[b,e,t,zA,aC,d];exact kU h.m a c
theorem ajA{P:List aj}(hP:P.length<=1048576):∀(n:Nat) (e:au) (d:Nat) (m:aA) (c:List ak) (k:Nat),siz e<n->ShX d e->ScD P d c->MOk P k m ->
  Rv P k (ev m e c) ((aT n).1 m e c) ((bH n).1 m e c):=by
 intro n;induction n using Nat.strongRecOn with
 | _ n ih=>
 intro e d m c k hn b hc o;cases n with
 | zero=>exact absurd hn (Nat.not_lt_zero _)
 | succ n=>
 have h4:=siz4 e;rw[RN m e c b];have hx':=b;cases b with
 | mk d _ k0 k9 num tx tl al op two three cl hs=>
 show Rv P k _ (lK (aT n).1 (aT n).2.1 (aT n).2.2.1 (aT n).2.2.2 m e c) (Hl (bH n).1 (bH n).2.1 (bH n).2.2.1 (bH n).2.2.2 m e c)
 unfold evB lK Hl;have hbad:(m.over||(m.steps==200))=true->Rv P k (ovr m,zV) (some (ovr m,zV)) (some (ovr m,zV)):=λZ=>⟨rfl,⟨o.tp,o.wl,o.rd,o.s2,(λ_=>by
  rw[Bool.or_eq_true]at Z;exact Z.elim o.o2 λh=>eq_of_beq h),o.rl⟩,CB,λ_=>rfl,zV,rfl,CB,λ_=>rfl⟩
 cases D:m.over with
 | true=>
  simp only[ab,Bool.true_or];exact hbad (by rw[D];rfl)
 | false=>
 cases E:(m.steps==200)with
 | true=>
  simp only[ab,aa,Bool.false_or];have:=hbad (by rw[D,E];rfl);exact this
 | false=>
 have q:=aap o D E;have t:(tick m).over=false:=D;have L:aA.mk m.tape m.w m.cell m.version m.reads (w64 (m.steps+1)) false=tick m:=by rw[<- D];exact afW o
 simp only[aa,Bool.false_or,L,Oj,LV,alh,akS,zA,aC,dA];have r:MOk P k (tick m):=q.le (Nat.le_succ k);have M:(e.args.length:Int)<=1048576:=by omega
 by_cases N:e.kind=1
 ·rw[N];exact kU r t (iO (num N)).1
 have b1:(e.kind==1)=false:=by simpa using N
 by_cases O:e.kind=2
 ·rw[O];exact kU r t (Ti (tx O)).1
 have b2:(e.kind==2)=false:=by simpa using O
 by_cases q3:e.kind=3
 ·rw[q3];simp only[ae1 c e.text hc.sc,adH c e.text hc.sc,zA,aC];exact kU r t (Xh c e.text hc.sc _)
 have b3:(e.kind==3)=false:=by simpa using q3
 obtain⟨j,rfl⟩:∃j,n=j+1:=⟨n-1,by omega⟩;have sub:∀x,x∈e.args->siz x<j:=λx b=>by have:=Ey b;omega
 have ihx:∀i,i<j+1+1->∀x,x∈e.args->siz x<i->∀(c':List ak),ScD P d c'->∀m k,MOk P k m->Rv P k (ev m x c') ((aT i).1 m x c') ((bH i).1 m x c'):=λi Q x b u c' R m k o=>ih i Q x d m c' k u (hs x b) R o
 have all:∀i,i<j+1+1->(∀x,x∈e.args->siz x<i)->Rl P (k+1) e.args.length (evL (λm x=>ev m x c) (tick m) e.args) ((aT (i+1)).2.1 (tick m) e.args c) ((bH (i+1)).2.1 (tick m) e.args c):=λi Q u=>
  ahG M (λx b m k o _=>ihx i Q x b (u x b) c hc.le m k o) (λx b m a=>by
   obtain⟨l,rfl⟩:∃l,i=l+1:=⟨i-1,by have:=u x b;omega⟩;exact aeW l m x c a) q t (aT i).2.1 (aT i).2.2.1 (aT i).2.2.2 (bH i).2.1 (bH i).2.2.1 (bH i).2.2.2
 by_cases q4:e.kind=4
 ·rw[q4];have:=adY (all j (by omega) sub) (F:=jC) (G:=iK) (K:=gX) (λvs hl s=>Sv vs (by omega) s);simp only[aC]at this;exact this.le (Nat.le_succ k)
 have b4:(e.kind==4)=false:=by simpa using q4
 by_cases S:e.kind=5
 ·rw[S];obtain⟨l,rfl⟩:∃l,j=l+1:=⟨j-1,by omega⟩;have:=WA (afy hP (cl S) (all l (by omega) (λx b=>by have:=Ey b;omega)) (aT (l+1)).1 (aT (l+1)).2.2.1 (aT (l+1)).2.2.2 (bH (l+1)).1 (bH (l+1)).2.2.1 (bH (l+1)).2.2.2);simp only[aC]at this;exact this
 have b5:(e.kind==5)=false:=by simpa using S
 by_cases H:e.kind=7
 ·have I:=two (.inl H);have T:idx e.args 0=some (arg e 0):=yg (i:=0) (by omega);have U:idx e.args 1=some (arg e 1):=yg (i:=1) (by omega);have A:arg e 0∈e.args:=dJ (by omega);have B:arg e 1∈e.args:=dJ (by omega);have p:=ihx (j+1) (by omega) (arg e 0) A (by have:=sub _ A;omega) c hc.le (tick m) (k+1) q;have b7t:(e.kind==7)=true:=by simpa using H
  have V:(e.kind==6)=false:=by rw[H];rfl
  simp only[b1,b2,b3,b4,b5,V,b7t,ab,aa,T,U,zA,dA];refine (Ut p (λa v s=>?_) (λa=>?_) (λa=>?_):Rv P (k+1) _ _ _).le (Nat.le_succ k)
  ·refine⟨zV,?_,CB⟩;simp only[OG c e.text v hc.sc s,zA,aeW j _ _ _ a]
  ·have z:∀ {α:Type} (x y:α),(bif (ev (tick m) (arg e 0) c).1.over then x else y)=x:=λx y=>by rw[a];rfl
   simp only[z];rfl
  ·have z:∀ {α:Type} (x y:α),(bif (ev (tick m) (arg e 0) c).1.over then x else y)=y:=λx y=>by rw[a];rfl
   simp only[z,OG c e.text _ hc.sc p.v,Wx c e.text _ hc.sc p.v,zA];have C:=WA (ihx (j+1) (by omega) (arg e 1) B (by have:=sub _ B;omega) _ (hc.bind e.text p.v) (ev (tick m) (arg e 0) c).1 (k+1) p.m);simp only[aC]at C;exact C
 have b7:(e.kind==7)=false:=by simpa using H
 by_cases J:e.kind=8
 ·have l3:=three J;have T:idx e.args 0=some (arg e 0):=yg (i:=0) (by omega);have U:idx e.args 1=some (arg e 1):=yg (i:=1) (by omega);have e2:idx e.args 2=some (arg e 2):=yg (i:=2) (by omega);have A:arg e 0∈e.args:=dJ (by omega);have B:arg e 1∈e.args:=dJ (by omega);have m2:arg e 2∈e.args:=dJ (by omega);have p:=ihx (j+1) (by omega) (arg e 0) A (by have:=sub _ A;omega) c hc.le (tick m) (k+1) q;have b8t:(e.kind==8)=true:=by simpa using J
  have V:(e.kind==6)=false:=by rw[J];rfl
  simp only[b1,b2,b3,b4,b5,V,b7,b8t,ab,aa,T,U,e2,zA,dA];refine (Ut p (λa v s=>⟨v,?_,s⟩) (λa=>?_) (λa=>?_):Rv P (k+1) _ _ _).le (Nat.le_succ k)
  ·have z:∀ {α:Type} (x y:α),(bif (ev (tick m) (arg e 0) c).1.over then x else y)=x:=λx y=>by rw[a];rfl
   simp only[z]
  ·have z:∀ {α:Type} (x y:α),(bif (ev (tick m) (arg e 0) c).1.over then x else y)=x:=λx y=>by rw[a];rfl
   simp only[z]
  ·have z:∀ {α:Type} (x y:α),(bif (ev (tick m) (arg e 0) c).1.over then x else y)=y:=λx y=>by rw[a];rfl
   simp only[z,aeX,adD,zA];have C:=WA (ihx (j+1) (by omega) (arg e 1) B (by have:=sub _ B;omega) c hc.le (ev (tick m) (arg e 0) c).1 (k+1) p.m);have r2:=WA (ihx (j+1) (by omega) (arg e 2) m2 (by have:=sub _ m2;omega) c hc.le (ev (tick m) (arg e 0) c).1 (k+1) p.m);simp only[aC]at C r2;cases ((ev (tick m) (arg e 0) c).2.kind==6)with
   | true=>simp only[ab];exact kU p.m a p.v
   | false=>
    simp only[aa];cases Em (ev (tick m) (arg e 0) c).2 with
    | true=>exact C
    | false=>exact r2
 have b8:(e.kind==8)=false:=by simpa using J
 by_cases W:e.kind=9
 ·have I:=two (.inr W);have A:arg e 0∈e.args:=dJ (by omega);have B:arg e 1∈e.args:=dJ (by omega);have p:=ihx j (by omega) (arg e 0) A (sub _ A) c hc.le (tick m) (k+1) q;have C:=WA (ahm I hc (g:=ev (tick m) (arg e 0) c) (f:=λm x=>ev m (arg e 1) (c++[ak.mk e.text x])) (aT j).2.1 (aT j).2.2.1 (aT j).2.2.2 (bH j).2.1 (bH j).2.2.1 (bH j).2.2.2 p
   (λx b m k o h0=>ihx j (by omega) (arg e 1) B (sub _ B) _ (hc.bind e.text b) m k o))
  simp only[aC]at C;rw[W];exact C.le (Nat.le_succ k)
 have b9:(e.kind==9)=false:=by simpa using W
 have q6:e.kind=6:=by omega
 have I:=op q6;have:=adY (all j (by omega) sub) (F:=λvs=>(idx vs 0).bind λX=>(idx vs 1).bind λY=>jm e.n X Y) (G:=λvs=>(idx vs 0).bind λX=>(idx vs 1).bind λY=>iL e.n X Y)
  (K:=λvs=>opV e.n (vs.getD 0 zV) (vs.getD 1 zV)) (λvs hl s=>by
   match vs,hl.trans I,s with
   | [x,y],_,s=>
    obtain⟨v,w1,w2,w3,_⟩:=ahT e.n x y (s x (by simp)) (s y (by simp));have:opV e.n x y=v:=by unfold opV;rw[w2];rfl
    show jm e.n x y=some (opV e.n x y)/\iL e.n x y=some (opV e.n x y)/\VOk P (opV e.n x y)
    rw[this];exact⟨w1,w2,w3⟩)
 rw[q6];simp only[aC,Option.bind_assoc]at this;exact this.le (Nat.le_succ k)
noncomputable def ev0(e:au)(c:List ak)(t:List aG)(w:bV)(a b:Int):aA×af:=ev (aA.mk t w a b [] 0 false) e c
noncomputable def evO(e:au)(c:List ak)(t:List aG)(w:bV)(a b:Int):dX:=
 dX.mk (bif (ev0 e c t w a b).1.over then dI 6 else (ev0 e c t w a b).2) (ev0 e c t w a b).1.reads (ev0 e c t w a b).1.steps
structure abd(P:List aj)(o:dX):Prop where
 v:VOk P o.value
 rd:∀r,r∈o.reads->Fit B20 (.base .read) r/\yR P r.result
 len:(o.reads.length:Int)<=o.steps
 s2:o.steps<=200
theorem abE{P:List aj}(l:List aG)(b:(l.length:Int)<=1048576)(h:∀r,r∈l->Fit B20 (.base .read) r/\yR P r.result):vO l=some l:=by
 unfold vO;have c:l.map id=l:=List.map_id l;refine (NH (λ(s:List aG) (i:Nat)=>((l,s,(i:Int)):(List aG)×(List aG)×Int)) l id (l.map id) (λi x a d=>?_) ?_).trans (by rw[c])
 ·have g:=(zC.1 a).1;have hf:=AA.1 (h x (zG a)).1;have e:EN x=some x:=by
   unfold EN;rw[aC,iJ _ hf.2.2.2.2,zA,aC]
  have f:gd (((l.take i).map id).length+[x].length)=some ():=bK (by rw[d];simp;omega);simp only[dw a,ab,aQ,a,zA,Bh,e,f,dW a b];rfl
 ·simp only[bP,aa]
theorem Jt{P:List aj}(k:P.length<=1048576){e:au}{c:List ak}{t:List aG}{w:bV}{a b:Int}{d:Nat}{v:Bool}(l:kX e=some v)(p:eF e=some v)(q:v=true->ShX d e)
  (hc:ScD P d c) (s:afN P t) (x:(w.files.length:Int)<=1048576):∃o,wL e c t w a b=some o/\Bd e c t w a b=some o/\abd P o/\(v=true->o=evO e c t w a b)/\(v=false->o=dX.mk (dI 4) [] 0):=by
 unfold wL Bd;simp only[dA,l,p,zA,jY,jX,aC];cases v with
 | false=>exact⟨_,rfl,rfl,⟨(bD (by omega) (by omega)).1,(λr i=>by cases i),Int.le_refl _,by show (0:Int)<=200;decide⟩,(λh=>by cases h),λ_=>rfl⟩
 | true=>
  have y:MOk P 0 (aA.mk t w a b [] 0 false):=⟨s,x,(λr i=>by cases i),by show (0:Int)<=200;decide,(λh=>by cases h),by show (0:Int)+0<=0;decide⟩;have R:Rv P 0 (ev0 e c t w a b) (yj (aA.mk t w a b [] 0 false) e c) (MC (aA.mk t w a b [] 0 false) e c):=ajA k _ e d _ c 0 (by omega) (q rfl) hc y;obtain⟨u,z,D,A⟩:=R.a;have E:=R.m.rl;have j:=R.m.s2;have B:=R.b;have g:=abE (P:=P) (ev0 e c t w a b).1.reads (by omega) R.m.rd;have C:abd P (evO e c t w a b):=by
   refine⟨?_,R.m.rd,by show ((ev0 e c t w a b).1.reads.length:Int)<=(ev0 e c t w a b).1.steps;omega,j⟩;show VOk P (bif (ev0 e c t w a b).1.over then dI 6 else (ev0 e c t w a b).2)
   cases (ev0 e c t w a b).1.over with
   | true=>exact (bD (by omega) (by omega)).1
   | false=>exact R.v
  refine⟨evO e c t w a b,?_,?_,C,λ_=>rfl,(λh=>by cases h)⟩
  ·simp only[aL,aa,z,zA];unfold evO;cases f:(ev0 e c t w a b).1.over with
   | true=>simp only[ab,fH _ (bD (P:=P) (n:=6) (by omega) (by omega)).1.fit,zA]
   | false=>simp only[aa,A f,fH _ R.v.fit,zA]
  ·simp only[aL,aa,B,zA];unfold evO;cases f:(ev0 e c t w a b).1.over with
   | true=>simp only[ab,g,zA,R.m.o2 f]
   | false=>simp only[aa,g,iJ _ R.v.fit,zA]
