import Derived.Test.YtjbajpfonnnfoaaGreatDoorVal13
set_option linter.unusedSimpArgs false
set_option linter.unusedVariables false
/- The machines' effects, alike on both sides. -/
namespace Go.Proofs.YtjbajpfonnnfoaaGreatDoor
open Go.Abs Go.Proofs
structure MOk(P:List aj)(k:Nat)(m:aA):Prop where
 tp:agA P m.tape
 wl:(m.w.files.length:Int)<=1048576
 rd:∀r,r∈m.reads->Fit B20 (.base .read) r/\zl P r.result
 s2:m.steps<=200
 o2:m.over=true->m.steps=200
 rl:(m.reads.length:Int)+(k:Int)<=m.steps
theorem MOk.s0{P:List aj}{k:Nat}{m:aA}(h:MOk P k m):0<=m.steps:=by have:=h.rl;omega
theorem MOk.le{P:List aj}{k j:Nat}{m:aA}(h:MOk P k m)(a:j<=k):MOk P j m:=⟨h.tp,h.wl,h.rd,h.s2,h.o2,by have:=h.rl;omega⟩
theorem gmk(m:aA):aA.mk m.tape (bT.mk m.w.clock m.w.seed m.w.files) m.cell m.version m.reads m.steps m.over=m:=rfl
theorem gvk(v:af):af.mk v.kind v.n v.step v.text v.list v.columns v.rows=v:=by cases v;rfl
noncomputable def adi(m:aA)(r:aG)(t:Int):aA×af:=
 (aA.mk m.tape m.w m.cell m.version (m.reads++[aG.mk r.kind r.n t r.text ((rdE m.tape (aG.mk r.kind r.n t r.text r.result)).getD (resV m.w m.cell m.version (aG.mk r.kind r.n t r.text r.result)))]) m.steps m.over,
  (rdE m.tape (aG.mk r.kind r.n t r.text r.result)).getD (resV m.w m.cell m.version (aG.mk r.kind r.n t r.text r.result)))
theorem ah9(m:aA)(r:aG):Df m r=adi m r (r.time+(m.reads.countP (qx r):Nat)):=rfl
theorem Yq(p:aG->Bool):∀(xs:List aG) (s:Int),xs.foldl (λs x=>bif p x then s+1 else s) s=s+(xs.countP p:Nat)
 | [],s=>by simp
 | x::r,s=>by
  rw[List.foldl_cons,Yq p r,List.countP_cons];cases p x<;>simp<;>omega
theorem aa2{P:List aj}(w:bT)(b c:Int)(d:aG)(e:(w.files.length:Int)<=1048576):jc w b c d=some (resV w b c d)/\jT w b c d=some (resV w b c d)/\VOk P (resV w b c d):=by
 obtain⟨v,f,a,h,_⟩:=adg (P:=P) w b c d e;have:resV w b c d=v:=by unfold resV;rw[a];rfl
 rw[this];exact⟨a,f,h⟩
theorem akF{P:List aj}{k:Nat}{m:aA}(h:MOk P k m)(d:aG):VOk P ((rdE m.tape d).getD (resV m.w m.cell m.version d)):=by
 cases a:rdE m.tape d with
 | none=>exact (aa2 m.w m.cell m.version d h.wl).2.2
 | some v=>exact Zw m.tape d 0 h.tp.val a
theorem Yg{P:List aj}{k:Nat}{m:aA}(h:MOk P k m)(r:aG)(t:Int) :
  ((wW m.tape (aG.mk r.kind r.n t r.text r.result)).bind λa=>bif (!a.2)then (jT m.w m.cell m.version (aG.mk r.kind r.n t r.text r.result)).bind λb=>(fD (ah b)).bind λc=>
   (gd (m.reads.length+[aG.mk r.kind r.n t r.text (ah c)].length)).bind λ_=>some (aA.mk m.tape m.w m.cell m.version (m.reads++[aG.mk r.kind r.n t r.text (ah c)]) m.steps m.over,ah b)
   else (fD (ah a.1)).bind λd=>(gd (m.reads.length+[aG.mk r.kind r.n t r.text (ah d)].length)).bind λ_=>some (aA.mk m.tape m.w m.cell m.version (m.reads++[aG.mk r.kind r.n t r.text (ah d)]) m.steps m.over,ah a.1))=some (adi m r t) /\
  ((wC m.tape (aG.mk r.kind r.n t r.text r.result)).bind λa=>bif (!a.2)then (jc m.w m.cell m.version (aG.mk r.kind r.n t r.text r.result)).bind λb=>
   (gd (m.reads.length+[aG.mk r.kind r.n t r.text (ah b)].length)).bind λ_=>some (aA.mk m.tape m.w m.cell m.version (m.reads++[aG.mk r.kind r.n t r.text (ah b)]) m.steps m.over,ah b)
   else (gd (m.reads.length+[aG.mk r.kind r.n t r.text (ah a.1)].length)).bind λ_=>some (aA.mk m.tape m.w m.cell m.version (m.reads++[aG.mk r.kind r.n t r.text (ah a.1)]) m.steps m.over,ah a.1))=some (adi m r t):=by
 have l:=h.rl;have o:=h.s2;have e:∀y:aG,gd (m.reads.length+[y].length)=some ():=λy=>bI (by simp only[List.length_singleton];omega)
 rw[afN _ _ h.tp,aeo _ _ h.tp,zA,zA];obtain⟨f,g,i⟩:=aa2 (P:=P) m.w m.cell m.version (aG.mk r.kind r.n t r.text r.result) h.wl;unfold adi;cases j:rdE m.tape (aG.mk r.kind r.n t r.text r.result)with
 | none=>
  simp only[opR,Bool.not_false,ac,f,g,zA,aC,fG _ i.fit,e,Option.getD_none];exact⟨trivial,trivial⟩
 | some v=>
  have hv:=Zw (P:=P) m.tape _ 0 h.tp.val j;simp only[opR,aR,aa,zA,aC,fG _ hv.fit,e,Option.getD_some];exact⟨trivial,trivial⟩
theorem alr{i:Int}(a:0<=i)(h:i<=1048576):w64 (i+1)=i+1:=bQ (by omega) (by omega)
theorem ak8{P:List aj}{k:Nat}{m:aA}(h:MOk P k m)(r:aG)(f:r.time=0):eY m r=some (Df m r)/\jB m r=some (Df m r):=by
 have j:=h.rl;have l:=h.s2;have d:(m.reads.length:Int)<=1048576:=by omega
 rw[ah9,<- Yq (qx r) m.reads r.time];have step:∀(x:aG) (t:Int) {X ρ:Type} (A:Int->X),0<=t->t<=1000->(bif (x.kind==r.kind)then bif (x.n==r.n)then bif (x.text==r.text)then (some (.inl (A (w64 (t+1)))):Option (X⊕ρ))else some (.inl (A t))else some (.inl (A t))else some (.inl (A t)))=some (.inl (A (bif qx r x then t+1 else t))):=by
  intro x t X ρ A g p;unfold qx;rw[alr g (by omega)];cases (x.kind==r.kind)<;>cases (x.n==r.n)<;>cases (x.text==r.text)<;>rfl
 have e:∀(i:Nat) (x:aG) (t:Int),m.reads[i]?=some x->(0<=t/\t<=(i:Int))->(0<=(bif qx r x then t+1 else t)/\(bif qx r x then t+1 else t)<=((i+1:Nat):Int)):=by
  intro i x t _ f;cases qx r x<;>simp<;>omega
 constructor
 ·refine (su (λ(t:Int) (i:Nat)=>((m.tape,m.w.clock,m.w.seed,m.w.files,m.cell,m.version,m.reads,m.steps,m.over,r.kind,r.n,t,r.text,r.result.kind,r.result.n,r.result.step,r.result.text,r.result.list,r.result.columns,r.result.rows,0,0,0,[],[],[],[],(m.reads.length:Int),(i:Int)) :
   (List aG)×Int×Int×(List fJ)×Int×Int×(List aG)×Int×Bool×Int×Int×Int×Str×Int×Int×Int×Str×(List af)×(List Str)×(List aB)×Int×Int×Int×Str×(List af)×(List Str)×(List aB)×Int×Int)) m.reads (λt x=>bif qx r x then t+1 else t) (adi m r) (λi t=>0<=t/\t<=(i:Int)) e (λi x t a b=>?_) (λt b=>?_) r.time ⟨by omega,by omega⟩).1
  ·have hi:=(zC.1 a).1;have c:m.reads[((i:Int)).toNat]?=some x:=by rw[aE];exact a
   simp only[dD a,ac,aP,a,c,zA,dY a d];exact step x t (λt=>(m.tape,m.w.clock,m.w.seed,m.w.files,m.cell,m.version,m.reads,m.steps,m.over,r.kind,r.n,t,r.text,r.result.kind,r.result.n,r.result.step,r.result.text,r.result.list,r.result.columns,r.result.rows,0,0,0,[],[],[],[],(m.reads.length:Int),((i+1:Nat):Int))) b.1 (by omega)
  ·simp only[bM,aa,gvk];exact congrArg (λo=>Option.bind o λr=>some (Sum.inr r)) (Yg h r t).1
 ·refine (su (λ(t:Int) (i:Nat)=>((m.tape,m.w.clock,m.w.seed,m.w.files,m.cell,m.version,m.reads,m.steps,m.over,r.kind,r.n,t,r.text,r.result.kind,r.result.n,r.result.step,r.result.text,r.result.list,r.result.columns,r.result.rows,0,0,0,[],[],[],[],(i:Int)) :
   (List aG)×Int×Int×(List fJ)×Int×Int×(List aG)×Int×Bool×Int×Int×Int×Str×Int×Int×Int×Str×(List af)×(List Str)×(List aB)×Int×Int×Int×Str×(List af)×(List Str)×(List aB)×Int)) m.reads (λt x=>bif qx r x then t+1 else t) (adi m r) (λi t=>0<=t/\t<=(i:Int)) e (λi x t a b=>?_) (λt b=>?_) r.time ⟨by omega,by omega⟩).1
  ·have hi:=(zC.1 a).1;have c:m.reads[((i:Int)).toNat]?=some x:=by rw[aE];exact a
   simp only[dD a,ac,aP,a,c,zA,dY a d];exact step x t (λt=>(m.tape,m.w.clock,m.w.seed,m.w.files,m.cell,m.version,m.reads,m.steps,m.over,r.kind,r.n,t,r.text,r.result.kind,r.result.n,r.result.step,r.result.text,r.result.list,r.result.columns,r.result.rows,0,0,0,[],[],[],[],((i+1:Nat):Int))) b.1 (by omega)
  ·simp only[bM,aa,gvk];exact congrArg (λo=>Option.bind o λr=>some (Sum.inr r)) (Yg h r t).2
theorem ah8{P:List aj}{k:Nat}{m:aA}(h:MOk P (k+1) m)(r:aG)(d:r.time=0)(hk:1<=r.kind/\r.kind<=3)(b:cu B20 (.int .i64 r.n))(c:cu B20 (.str r.text)):MOk P k (Df m r).1/\VOk P (Df m r).2:=by
 have e:=h.rl;have f:=h.s2;have hv:VOk P (Gy m r):=akF h (zk m r);refine⟨⟨h.tp,h.wl,λx a=>?_,h.s2,h.o2,?_⟩,hv⟩
 ·have a:x∈m.reads++[aG.mk r.kind r.n (zk m r).time r.text (Gy m r)]:=a;rcases List.mem_append.1 a with a | a
  ·exact h.rd x a
  ·rw[amd]at a;subst a;refine⟨Bg.2 ⟨og (dN (by show -1000000000<=r.kind;omega) (by show r.kind<=1000000000;omega)),b,og (dN ?_ ?_),c,hv.fit⟩,hv.org⟩
   ·show -1000000000<=r.time+(m.reads.countP (qx r):Nat)
    omega
   ·show r.time+(m.reads.countP (qx r):Nat)<=1000000000
    have:=List.countP_le_length (p:=qx r) (l:=m.reads);omega
 ·show ((m.reads++[aG.mk r.kind r.n (zk m r).time r.text (Gy m r)]).length:Int)+k<=m.steps
  rw[a8,List.length_singleton];omega
structure Rv(P:List aj)(k:Nat)(p:aA×af)(A B:Option (aA×af)):Prop where
 b:B=some p
 m:MOk P k p.1
 v:VOk P p.2
 z:p.1.over=true->p.2=zV
 a:∃v,A=some (p.1,v)/\VOk P v/\(p.1.over=false->v=p.2)
theorem Di{P:List aj}:VOk P zV:=⟨dQ.2 ⟨og (dN (by decide) (by decide)),og (dN (by decide) (by decide)),og (dN (by decide) (by decide)),qh,pU,pU,pU⟩,BL⟩
theorem Pv{α:Type}{xs r:List α}{i:Nat}{x:α}(h:xs.drop i=x::r):xs[i]?=some x/\xs.drop (i+1)=r/\i+1<=xs.length:=by
 have a:xs[i]?=some x:=by
  have:=congrArg (·[0]?) h;simpa using this
 refine⟨a,?_,(zC.1 a).1⟩;have:=congrArg List.tail h;simpa using this
theorem drop_end{α:Type}{xs:List α}{i:Nat}(h:xs.drop i=[])(hi:i<=xs.length):i=xs.length:=by
 have:=List.drop_eq_nil_iff.1 h;omega
theorem ain{α X Y:Type}{P:List aj}{gI:X->Option (X⊕(aA×List af))}{gS:Y->Option (Y⊕(aA×List af))}(pkI:aA->List af->Nat->X)(pkS:aA->List af->Nat->Y)
  (FI FS:aA->α->Option (aA×af)) (f:aA->α->aA×af) (xs:List α)
  (t:∀i x m s,xs[i]?=some x->s.length=i->gI (pkI m s i)=(FI m x).bind λr=>some (.inl (pkI r.1 (s++[r.2]) (i+1))))
  (eI:∀m s,gI (pkI m s xs.length)=some (.inr (m,s)))
  (w:∀i x m s,xs[i]?=some x->s.length=i->m.over=false->gS (pkS m s i)=(FS m x).bind λr=>some (.inl (pkS r.1 (s++[r.2]) (i+1))))
  (oS:∀i m s,i<=xs.length->m.over=true->gS (pkS m s i)=some (.inr (m,s)))
  (eS:∀m s,gS (pkS m s xs.length)=some (.inr (m,s)))
  (z:∀x,x∈xs->∀m k,MOk P k m->m.over=false->Rv P k (f m x) (FI m x) (FS m x))
  (A:∀x,x∈xs->∀m,m.over=true->FI m x=some (m,zV)) :
  ∀(r:List α) (i:Nat) (m:aA) (s:List af) (k:Nat),xs.drop i=r->i<=xs.length->MOk P k m->m.over=false->s.length=i ->
   ∃vs us,aN gI (pkI m s i)=some ((evL f m r).1,s++vs)/\aN gS (pkS m s i)=some ((evL f m r).1,s++us)/\MOk P k (evL f m r).1/\vs.length=r.length/\(∀v,v∈vs->VOk P v) /\
    (∀v,v∈(evL f m r).2->VOk P v)/\((evL f m r).1.over=false->vs=(evL f m r).2/\us=(evL f m r).2):=by
 have orun:∀(r:List α) (i:Nat) (m:aA) (s:List af),xs.drop i=r->i<=xs.length->m.over=true->s.length=i->aN gI (pkI m s i)=some (m,s++r.map λ_=>zV):=by
  intro r;induction r with
  | nil=>
   intro i m s l hi n g;have:=drop_end l hi;rw[aX,this,eI];simp
  | cons x r ih=>
   intro i m s l hi n g;obtain⟨j,p,o⟩:=Pv l;rw[aX,t i x m s j g,A x (zG j) m n];simp only[zA];rw[ih (i+1) m (s++[zV]) p o n (by simp[g])];simp
 intro r;induction r with
 | nil=>
  intro i m s k l hi n q g;have:=drop_end l hi;refine⟨[],[],?_,?_,n,rfl,(λv hv=>by cases hv),(λv hv=>by cases hv),λ_=>⟨rfl,rfl⟩⟩
  ·rw[aX,this,eI];simp[evL]
  ·rw[aX,this,eS];simp[evL]
 | cons x r ih=>
  intro i m s k l hi n q g;obtain⟨j,p,o⟩:=Pv l;have R:=z x (zG j) m k n q;obtain⟨v,y,B,C⟩:=R.a;cases c:(f m x).1.over with
  | true=>
   have e:evL f m (x::r)=((f m x).1,[]):=by
    show (bif (f m x).1.over then _ else _)=_
    rw[c];rfl
   refine⟨v::r.map λ_=>zV,[(f m x).2],?_,?_,by rw[e];exact R.m,by simp,λu d=>?_,(λu d=>by rw[e]at d;cases d),(λh=>by rw[e]at h;exact absurd c (by rw[h];decide))⟩
   ·rw[aX,t i x m s j g,y];simp only[zA];rw[orun r (i+1) (f m x).1 (s++[v]) p o c (by simp[g]),e];simp
   ·rw[aX,w i x m s j g q,R.b];simp only[zA];rw[aX,oS (i+1) (f m x).1 _ o c,e]
   ·rcases bh.1 d with rfl | d
    ·exact B
    ·obtain⟨_,_,rfl⟩:=List.mem_map.1 d;exact Di
  | false=>
   have e:evL f m (x::r)=((evL f (f m x).1 r).1,(f m x).2::(evL f (f m x).1 r).2):=by
    show (bif (f m x).1.over then _ else _)=_
    rw[c];rfl
   obtain⟨vs,us,D,E,F,G,H,I,J⟩:=ih (i+1) (f m x).1 (s++[(f m x).2]) k p o R.m c (by simp[g]);rw[e];refine⟨(f m x).2::vs,(f m x).2::us,?_,?_,F,by simp[G],λu d=>?_,λu d=>?_,λh=>?_⟩
   ·rw[aX,t i x m s j g,y,C c];simp only[zA];rw[D];simp
   ·rw[aX,w i x m s j g q,R.b];simp only[zA];rw[E];simp
   ·rcases bh.1 d with rfl | d
    ·exact R.v
    ·exact H u d
   ·rcases bh.1 d with rfl | d
    ·exact R.v
    ·exact I u d
   ·obtain⟨K,L⟩:=J h;rw[K,L];exact⟨rfl,rfl⟩
theorem Tc{P:List aj}(vs:List af)(b:(vs.length:Int)<=1048576)(h:∀x,x∈vs->VOk P x):jE vs=some (iM vs)/\iH vs=some (iM vs)/\VOk P (iM vs):=by
 obtain⟨v,c,a,hv,_⟩:=agn vs b h;have:iM vs=v:=by unfold iM;rw[a];rfl
 rw[this];exact⟨c,a,hv⟩
theorem ahZ{α X Y:Type}{P:List aj}{gI:X->Option (X⊕(aA×af))}{gS:Y->Option (Y⊕(aA×af))}(pkI:aA->List af->Nat->X)(pkS:aA->List af->Nat->Y)
  (FI FS:aA->α->Option (aA×af)) (f:aA->α->aA×af) (xs:List α) (F:(xs.length:Int)<=1048576)
  (p:∀i x m s,xs[i]?=some x->s.length=i->gI (pkI m s i)=(FI m x).bind λr=>bif r.1.over then some (.inr (r.1,zV))else some (.inl (pkI r.1 (s++[r.2]) (i+1))))
  (eI:∀m s,gI (pkI m s xs.length)=(jE s).bind λv=>some (.inr (m,v)))
  (q:∀i x m s,xs[i]?=some x->s.length=i->m.over=false->gS (pkS m s i)=(FS m x).bind λr=>some (.inl (pkS r.1 (s++[r.2]) (i+1))))
  (oS:∀i m s,i<=xs.length->m.over=true->gS (pkS m s i)=some (.inr (m,zV)))
  (eS:∀m s,m.over=false->gS (pkS m s xs.length)=(iH s).bind λv=>some (.inr (m,v)))
  (z:∀x,x∈xs->∀m k,MOk P k m->m.over=false->Rv P k (f m x) (FI m x) (FS m x)) :
  ∀(r:List α) (i:Nat) (m:aA) (s:List af) (k:Nat),xs.drop i=r->i<=xs.length->MOk P k m->m.over=false->s.length=i->(∀v,v∈s->VOk P v) ->
   Rv P k (fin ((evL f m r).1,s++(evL f m r).2) iM) (aN gI (pkI m s i)) (aN gS (pkS m s i)):=by
 intro r;induction r with
 | nil=>
  intro i m s k n hi o d g hv;have:=drop_end n hi;obtain⟨A,B,t⟩:=Tc (P:=P) s (by omega) hv;have e:fin ((evL f m ([]:List α)).1,s++(evL f m ([]:List α)).2) iM=(m,iM s):=by
   unfold fin evL;simp only[d,aa,amA]
  rw[e];refine⟨?_,o,t,(λh=>by rw[d]at h;cases h),iM s,?_,t,λ_=>rfl⟩
  ·rw[aX,this,eS m s d,B];rfl
  ·rw[aX,this,eI m s,A];rfl
 | cons x r ih=>
  intro i m s k n hi o d g hv;obtain⟨l,C,w⟩:=Pv n;have R:=z x (zG l) m k o d;obtain⟨v,y,G,D⟩:=R.a;cases c:(f m x).1.over with
  | true=>
   have e:fin ((evL f m (x::r)).1,s++(evL f m (x::r)).2) iM=((f m x).1,zV):=by
    have:evL f m (x::r)=((f m x).1,[]):=by
     show (bif (f m x).1.over then _ else _)=_
     rw[c];rfl
    rw[this];unfold fin;simp only[c,ac]
   rw[e];refine⟨?_,R.m,Di,λ_=>rfl,zV,?_,Di,λ_=>rfl⟩
   ·rw[aX,q i x m s l g d,R.b];simp only[zA];rw[aX,oS (i+1) (f m x).1 _ w c]
   ·rw[aX,p i x m s l g,y];simp only[zA,c,ac]
  | false=>
   have e:fin ((evL f m (x::r)).1,s++(evL f m (x::r)).2) iM=fin ((evL f (f m x).1 r).1,(s++[(f m x).2])++(evL f (f m x).1 r).2) iM:=by
    have:evL f m (x::r)=((evL f (f m x).1 r).1,(f m x).2::(evL f (f m x).1 r).2):=by
     show (bif (f m x).1.over then _ else _)=_
     rw[c];rfl
    rw[this];simp
   have I:=ih (i+1) (f m x).1 (s++[(f m x).2]) k C w R.m c (by simp[g]) λu j=>by
    rcases List.mem_append.1 j with j | j
    ·exact hv u j
    ·rw[amd]at j;rw[j];exact R.v
   have E:aN gI (pkI m s i)=aN gI (pkI (f m x).1 (s++[(f m x).2]) (i+1)):=by
    rw[aX,p i x m s l g,y,D c];simp only[zA,c,aa]
   have s2:aN gS (pkS m s i)=aN gS (pkS (f m x).1 (s++[(f m x).2]) (i+1)):=by
    rw[aX,q i x m s l g d,R.b];simp only[zA]
   rw[e,E,s2];exact I
structure ScD(P:List aj)(d:Nat)(c:List au):Prop where
 len:(c.length:Int)+(d:Int)<=1073741824
 val:∀b,b∈c->VOk P b.value
theorem ScD.sc{P:List aj}{d:Nat}{c:List au}(h:ScD P d c):adu P c:=⟨by have:=h.len;omega,h.val⟩
theorem ScD.bind{P:List aj}{d:Nat}{c:List au}(h:ScD P (d+1) c)(s:Str){v:af}(hv:VOk P v):ScD P d (c++[au.mk s v]):=⟨by have:=h.len;simp;omega,λb a=>by
 rcases List.mem_append.1 a with a | a
 ·exact h.val b a
 ·rw[amd]at a;rw[a];exact hv⟩
theorem ScD.le{P:List aj}{d:Nat}{c:List au}(h:ScD P (d+1) c):ScD P d c:=⟨by have:=h.len;omega,h.val⟩
theorem siz4(e:ak):4<=siz e:=by
 obtain⟨k,n,t,a⟩:=e;have b:1<=SizeOf.sizeOf t:=by
  cases t with
  | nil=>simp
  | cons c r=>rw[List.cons.sizeOf_spec];omega
 have d:1<=SizeOf.sizeOf n:=by
  cases n with
  | ofNat a=>rw[Int.ofNat.sizeOf_spec];omega
  | negSucc a=>rw[Int.negSucc.sizeOf_spec];omega
 have f:1<=SizeOf.sizeOf k:=by
  cases k with
  | ofNat a=>rw[Int.ofNat.sizeOf_spec];omega
  | negSucc a=>rw[Int.negSucc.sizeOf_spec];omega
 simp only[siz];rw[ak.mk.sizeOf_spec];omega
theorem aeV{m:aA}(h:m.over=true):ovr m=m:=by
 obtain⟨a,b,c,d,e,f,g⟩:=m;have:g=true:=h;subst this;rfl
theorem afH(n:Nat)(m:aA)(e:ak)(c:List au)(h:m.over=true):(aT (n+1)).1 m e c=some (m,zV):=by
 show lQ _ _ _ _ m e c=_
 unfold lQ;rw[h];show some (ovr m,zV)=_
 rw[aeV h]
theorem yF{e:ak}{i:Nat}(h:i<e.args.length):idx e.args (i:Int)=some (arg e i):=by
 unfold arg;rw[aP,zE,zF h];rfl
theorem Rv.le{P:List aj}{k j:Nat}{p:aA×af}{A B:Option (aA×af)}(h:Rv P k p A B)(c:j<=k):Rv P j p A B:=⟨h.b,h.m.le c,h.v,h.z,h.a⟩
theorem kW{P:List aj}{k:Nat}{m:aA}{v:af}(a:MOk P k m)(b:m.over=false)(hv:VOk P v):Rv P k (m,v) (some (m,v)) (some (m,v)):=⟨rfl,a,hv,λh=>(by have h:m.over=true:=h;rw[b]at h;cases h),v,rfl,hv,λ_=>rfl⟩
theorem UI{P:List aj}{k:Nat}{p:aA×af}{A B:Option (aA×af)}(h:Rv P k p A B){K:aA->af->aA×af}{F G:aA×af->Option (aA×af)}
  (d:p.1.over=true->∀v,VOk P v->∃u,F (p.1,v)=some (p.1,u)/\VOk P u) (f:p.1.over=true->G (p.1,zV)=some (p.1,zV)) (g:p.1.over=false->Rv P k (K p.1 p.2) (F p) (G p)):Rv P k (thn p K) (A.bind F) (B.bind G):=by
 obtain⟨v,i,j,l⟩:=h.a;rw[h.b,i,zA,zA];cases c:p.1.over with
 | true=>
  have e:thn p K=(p.1,zV):=by unfold thn;rw[c];rfl
  have n:=h.z c;obtain⟨u,o,q⟩:=d c v j;have hp:p=(p.1,zV):=by rw[<- n]
  rw[e,o];refine⟨by rw[hp];exact f c,h.m,Di,λ_=>rfl,u,rfl,q,λhh=>?_⟩;have hh:p.1.over=false:=hh;rw[c]at hh;cases hh
 | false=>
  have e:thn p K=K p.1 p.2:=by unfold thn;rw[c];rfl
  rw[e,l c];exact g c
theorem WW{P:List aj}{k:Nat}{p:aA×af}{A B:Option (aA×af)}(h:Rv P k p A B):Rv P k p (A.bind λr=>some (r.1,ah r.2)) (B.bind λr=>some (r.1,ah r.2)):=by
 obtain⟨v,c,d,e⟩:=h.a;refine⟨by rw[h.b,zA,aC],h.m,h.v,h.z,v,by rw[c,zA,aC],d,e⟩
structure Rl(P:List aj)(k n:Nat)(p:aA×List af)(A B:Option (aA×List af)):Prop where
 m:MOk P k p.1
 v:∀x,x∈p.2->VOk P x
 ex:∃vs us,A=some (p.1,vs)/\B=some (p.1,us)/\vs.length=n/\(∀x,x∈vs->VOk P x)/\(p.1.over=false->vs=p.2/\us=p.2)
theorem alF{P:List aj}{k n:Nat}{p:aA×List af}{A B:Option (aA×List af)}
  (h:∃vs us,A=some (p.1,[]++vs)/\B=some (p.1,[]++us)/\MOk P k p.1/\vs.length=n/\(∀v,v∈vs->VOk P v)/\(∀v,v∈p.2->VOk P v)/\(p.1.over=false->vs=p.2/\us=p.2)):Rl P k n p A B:=by
 obtain⟨vs,us,a,b,c,d,e,f,g⟩:=h;exact⟨c,f,vs,us,a,b,d,e,g⟩
theorem aip{P:List aj}{FI FS:aA->ak->List au->Option (aA×af)}{f:aA->ak->aA×af}{c:List au}{xs:List ak}(h:(xs.length:Int)<=1048576)
  (a:∀x,x∈xs->∀m k,MOk P k m->m.over=false->Rv P k (f m x) (FI m x c) (FS m x c)) (j:∀x,x∈xs->∀m,m.over=true->FI m x c=some (m,zV))
  {m:aA} {k:Nat} (l:MOk P k m) (b:m.over=false) (n o p q r t):Rl P k xs.length (evL f m xs) (yI FI n o p m xs c) (MS FS q r t m xs c):=by
 unfold yI MS;refine alF (ain (P:=P) (λ(m:aA) (s:List af) (i:Nat)=>((m.tape,m.w.clock,m.w.seed,m.w.files,m.cell,m.version,m.reads,m.steps,m.over,c,s,xs,(xs.length:Int),(i:Int)) :
   (List aG)×Int×Int×(List fJ)×Int×Int×(List aG)×Int×Bool×(List au)×(List af)×(List ak)×Int×Int))
  (λ(m:aA) (s:List af) (i:Nat)=>((m.tape,m.w.clock,m.w.seed,m.w.files,m.cell,m.version,m.reads,m.steps,m.over,xs,c,s,(i:Int)) :
   (List aG)×Int×Int×(List fJ)×Int×Int×(List aG)×Int×Bool×(List ak)×(List au)×(List af)×Int))
  (λm x=>FI m x c) (λm x=>FS m x c) f xs (λi x m s a d=>?_) (λm s=>?_) (λi x m s a d b=>?_) (λi m s hi b=>?_) (λm s=>?_) a j xs 0 m [] k rfl (Nat.zero_le _) l b rfl)
 ·have hi:=(zC.1 a).1;have g:∀v:af,gd (s.length+[v].length)=some ():=λv=>bI (by rw[d];simp;omega)
  simp only[dD a,ac,aP,a,zA,bV,aC,gmk,g,dY a h]
 ·simp only[bM,aa,gmk]
 ·have hi:=(zC.1 a).1;have g:∀v:af,gd (s.length+[v].length)=some ():=λv=>bI (by rw[d];simp;omega)
  have e:aA.mk m.tape (bT.mk m.w.clock m.w.seed m.w.files) m.cell m.version m.reads m.steps false=m:=by rw[<- b]
  simp only[dD a,b,ac,Bool.not_false,aP,a,zA,bV,aC,g,dY a h,e]
 ·have e:aA.mk m.tape (bT.mk m.w.clock m.w.seed m.w.files) m.cell m.version m.reads m.steps true=m:=by rw[<- b]
  simp only[b,aR,aa,e];cases decide ((i:Int)<(xs.length:Int))<;>rfl
 ·simp only[bM,aa,gmk]
theorem ah0{P:List aj}{FI FS:aA->ak->List au->Option (aA×af)}{f:aA->af->aA×af}{c:List au}{e:ak}(L:e.args.length=2){d:Nat}(hc:ScD P (d+1) c)
  {g:aA×af} (A B C D E F) {m:aA} {k:Nat} (l:Rv P k g (FI m (arg e 0) c) (FS m (arg e 0) c))
  (a:∀x,VOk P x->∀m k,MOk P k m->m.over=false->Rv P k (f m x) (FI m (arg e 1) (c++[au.mk e.text x])) (FS m (arg e 1) (c++[au.mk e.text x]))) :
  Rv P k (thn g λm v=>bif v.kind==6 then (m,v)else bif v.kind != 3 then (m,dM 4)else fin (evL f m v.list) iM) (vF FI A B C m e c) (MO FS D E F m e c):=by
 have G:idx e.args 0=some (arg e 0):=yF (i:=0) (by omega);have z:idx e.args 1=some (arg e 1):=yF (i:=1) (by omega);unfold vF MO;rw[G,zA,zA,bV];refine UI l (λb v hv=>⟨v,?_,hv⟩) (λb=>?_) (λb=>?_)
 ·simp only[b,ac,aC]
 ·simp only[b,ac,aC]
 obtain⟨M,v⟩:=g;have hv:VOk P v:=l.v;have o:MOk P k M:=l.m;have b:M.over=false:=b;have j:∀ {α:Type} (x y:α),(bif M.over then x else y)=y:=λx y=>by rw[b];rfl
 simp only[j,aC];cases H:(v.kind==6)with
 | true=>simp only[ac];exact kW o b hv
 | false=>
  simp only[aa];cases I:(v.kind != 3)with
  | true=>simp only[ac];exact kW o b (bG (by omega) (by omega)).1
  | false=>
   simp only[aa];have p:=bW (dQ.1 hv.fit).2.2.2.2.1;have hmem:∀x,x∈v.list->VOk P x:=λx a=>hv.mem a
   have hfin:fin (evL f M v.list) iM=fin ((evL f M v.list).1,[]++(evL f M v.list).2) iM:=rfl;rw[hfin];refine ahZ (P:=P) (λ(m:aA) (s:List af) (i:Nat)=>((m.tape,m.w.clock,m.w.seed,m.w.files,m.cell,m.version,m.reads,m.steps,m.over,c,e.kind,e.n,e.text,e.args,0,0,0,[],[],[],[],s,v.list,(v.list.length:Int),(i:Int)) :
     (List aG)×Int×Int×(List fJ)×Int×Int×(List aG)×Int×Bool×(List au)×Int×Int×Str×(List ak)×Int×Int×Int×Str×(List af)×(List Str)×(List aB)×(List af)×(List af)×Int×Int))
    (λ(m:aA) (s:List af) (i:Nat)=>((m.tape,m.w.clock,m.w.seed,m.w.files,m.cell,m.version,m.reads,m.steps,m.over,c,e.kind,e.n,e.text,e.args,0,0,0,[],[],[],[],v.kind,v.n,v.step,v.text,v.list,v.columns,v.rows,s,(i:Int)) :
     (List aG)×Int×Int×(List fJ)×Int×Int×(List aG)×Int×Bool×(List au)×Int×Int×Str×(List ak)×Int×Int×Int×Str×(List af)×(List Str)×(List aB)×Int×Int×Int×Str×(List af)×(List Str)×(List aB)×(List af)×Int))
    (λm x=>FI m (arg e 1) (c++[au.mk e.text x])) (λm x=>FS m (arg e 1) (c++[au.mk e.text x])) f v.list p (λi x m s a q=>?_) (λm s=>?_) (λi x m s a q h=>?_) (λi m s hi h=>?_) (λm s h=>?_)
    (λx r m k J h=>a x (hmem x r) m k J h) v.list 0 M [] k rfl (Nat.zero_le _) o b rfl (λu K=>by cases K)
   ·have hi:=(zC.1 a).1;have t:∀v:af,gd (s.length+[v].length)=some ():=λv=>bI (by rw[q];simp;omega)
    have j:=O0 c e.text x hc.sc (hmem x (zG a));simp only[dD a,ac,aP,a,z,zA,bV,aC,gmk,t,j,dY a p];rfl
   ·simp only[bM,aa,gmk,aC];cases jE s<;>rfl
   ·have hi:=(zC.1 a).1;have t:∀v:af,gd (s.length+[v].length)=some ():=λv=>bI (by rw[q];simp;omega)
    have j:=WU c e.text x hc.sc (hmem x (zG a));have em:aA.mk m.tape (bT.mk m.w.clock m.w.seed m.w.files) m.cell m.version m.reads m.steps false=m:=by rw[<- h]
    simp only[dD a,h,ac,Bool.not_false,aP,a,z,zA,bV,aC,t,j,dY a p,em]
   ·have em:aA.mk m.tape (bT.mk m.w.clock m.w.seed m.w.files) m.cell m.version m.reads m.steps true=m:=by rw[<- h]
    simp only[h,aR,aa,ac,em];cases decide ((i:Int)<(v.list.length:Int))<;>rfl
   ·have em:aA.mk m.tape (bT.mk m.w.clock m.w.seed m.w.files) m.cell m.version m.reads m.steps false=m:=by rw[<- h]
    simp only[bM,h,aa,em,aC];cases iH s<;>rfl
theorem Zq{P:List aj}{k:Nat}{M:aA}(h:MOk P (k+1) M)(b:M.over=false)(r:aG)(a:r.time=0)(hk:1<=r.kind/\r.kind<=3)(c:cu B20 (.int .i64 r.n))(d:cu B20 (.str r.text)) :
  Rv P k (Df M r) ((eY M r).bind λr=>some (r.1,ah r.2)) ((jB M r).bind λr=>some (r.1,ah r.2)):=by
 obtain⟨e,f⟩:=ak8 h r a;obtain⟨g,i⟩:=ah8 h r a hk c d;rw[e,f,zA,aC];exact kW g b i
theorem aav:dU [99,108,111,99,107]=some 0:=rfl
theorem YA:dU [99,104,97,110,99,101]=some 1:=rfl
theorem adt:dU [102,105,108,101]=some 1:=rfl
theorem X3:cu B20 (.int .i64 0):=og (dN (by decide) (by decide))
theorem agj{P:List aj}(I:P.length<=1048576){RA RS:aA->(List ak)->(List au)->Option (aA×(List af))}{m:aA}{e:ak}{c:List au}{k:Nat}{p:aA×List af}
  (f:dU e.text=some (e.args.length:Int)) (i:Rl P (k+1) e.args.length p (RA m e.args c) (RS m e.args c)) (J K L N O Q) :
  Rv P k (sW e.text p) (vG J RA K L m e c) (Ia N RS O Q m e c):=by
 obtain⟨vs,us,E,F,R,S,l⟩:=i.ex;have d:=i.m;have hv:=i.v;unfold vG Ia;rw[E,F,zA,zA];obtain⟨M,ws⟩:=p;simp only at d hv l;cases b:M.over with
 | true=>
  have j:∀ {α:Type} (x y:α),(bif M.over then x else y)=x:=λx y=>by rw[b];rfl
  have T:sW e.text (M,ws)=(M,zV):=by unfold sW;simp only[j]
  simp only[j];rw[T];exact⟨rfl,d.le (Nat.le_succ k),Di,λ_=>rfl,zV,rfl,Di,λ_=>rfl⟩
 | false=>
  have j:∀ {α:Type} (x y:α),(bif M.over then x else y)=y:=λx y=>by rw[b];rfl
  obtain⟨o,G⟩:=l b;rw[o]at R S;rw[o,G];clear E F o G l i;unfold sW;simp only[j,ac8,F8,zA];cases g:Ou e.text with
  | false=>
   have a:=g;unfold Ou at a;obtain⟨v,c1,c2,c3,_⟩:=aif I e.text ws hv (by rw[F8,a]);have q:agi e.text ws=v:=by unfold agi;rw[c2];rfl
   simp only[a,Bool.not_false,ac,c1,c2,q,zA,aC];exact kW (d.le (Nat.le_succ k)) b c3
  | true=>
   have a:=g;unfold Ou at a;simp only[a,aR,aa];by_cases r:e.text=[99,108,111,99,107]
   ·rw[r,aav,zD]at f;have:ws=[]:=List.length_eq_zero_iff.1 (by omega);subst this;rw[r];exact Zq d b (aG.mk 1 0 0 [] zV) rfl (by decide) X3 qh
   have U:(e.text==[99,108,111,99,107])=false:=bq r;by_cases s:e.text=[99,104,97,110,99,101]
   ·rw[s,YA,zD]at f;obtain⟨x,rfl⟩:=List.length_eq_one_iff.1 (show ws.length=1 by omega);have h:=hv x (List.mem_singleton.2 rfl);have fx:=dQ.1 h.fit;have hi:idx [x] 0=some x:=rfl;have t:[x].getD 0 zV=x:=rfl;have u:decide ((([x]:List af).length:Int)>0)=true:=rfl;have w:((([x]:List af).length:Int)==1)=true:=rfl;have z:(([99,104,97,110,99,101]:Str)==[99,108,111,99,107])=false:=rfl;have A:(([99,104,97,110,99,101]:Str)==[99,104,97,110,99,101])=true:=rfl;have B:(([99,104,97,110,99,101]:Str)==[102,105,108,101])=false:=rfl;simp only[s,u,w,z,A,B,hi,t,ac,aa,zA,aC,kz,jZ];cases C:(x.kind==6)with
    | true=>simp only[ac];exact kW (d.le (Nat.le_succ k)) b h
    | false=>
     simp only[aa];cases D:(x.kind==1)with
     | true=>
      simp only[ac];have:=Zq d b (aG.mk 2 x.n 0 [] zV) rfl ⟨(by decide:(1:Int)<=2),(by decide:(2:Int)<=3)⟩ fx.2.1 qh;simp only[aC]at this;exact this
     | false=>simp only[aa];exact kW (d.le (Nat.le_succ k)) b (bG (by omega) (by omega)).1
   have V:(e.text==[99,104,97,110,99,101])=false:=bq s;have H:e.text=[102,105,108,101]:=by
    rw[U,V,Bool.false_or,Bool.false_or]at a;exact eq_of_beq a
   rw[H,adt,zD]at f;obtain⟨x,rfl⟩:=List.length_eq_one_iff.1 (show ws.length=1 by omega);have h:=hv x (List.mem_singleton.2 rfl);have fx:=dQ.1 h.fit;have hi:idx [x] 0=some x:=rfl;have t:[x].getD 0 zV=x:=rfl;have u:decide ((([x]:List af).length:Int)>0)=true:=rfl;have w:((([x]:List af).length:Int)==1)=true:=rfl;have z:(([102,105,108,101]:Str)==[99,108,111,99,107])=false:=rfl;have A:(([102,105,108,101]:Str)==[99,104,97,110,99,101])=false:=rfl;have B:(([102,105,108,101]:Str)==[102,105,108,101])=true:=rfl;simp only[H,u,w,z,A,B,hi,t,ac,aa,zA,aC,kz,jZ];cases C:(x.kind==6)with
   | true=>simp only[ac];exact kW (d.le (Nat.le_succ k)) b h
   | false=>
    simp only[aa];cases D:(x.kind==2)with
    | true=>
     simp only[ac];have:=Zq d b (aG.mk 3 0 0 x.text zV) rfl ⟨(by decide:(1:Int)<=3),(by decide:(3:Int)<=3)⟩ X3 fx.2.2.2.1;simp only[aC]at this;exact this
    | false=>simp only[aa];exact kW (d.le (Nat.le_succ k)) b (bG (by omega) (by omega)).1
theorem agK{P:List aj}{k:Nat}{m:aA}(h:MOk P k m):aA.mk m.tape m.w m.cell m.version m.reads (w64 (m.steps+1)) m.over=tick m:=by
 have:=h.s0;have:=h.s2;unfold tick;rw[bQ (by omega) (by omega)]
theorem agJ{P:List aj}{k:Nat}{m:aA}(h:MOk P k m)(b:m.over=false)(a:(m.steps==200)=false):MOk P (k+1) (tick m):=by
 have:=h.rl;have:=h.s2;have a:m.steps≠200:=by simpa using a
 exact⟨h.tp,h.wl,h.rd,by show m.steps+1<=200;omega,(λhh=>by have hh:m.over=true:=hh;rw[b]at hh;cases hh),by show (m.reads.length:Int)+((k+1:Nat):Int)<=m.steps+1;omega⟩
theorem aeA{P:List aj}{k n:Nat}{p:aA×List af}{A B:Option (aA×List af)}(h:Rl P k n p A B){F G:List af->Option af}{K:List af->af}
  (g:∀vs,vs.length=n->(∀x,x∈vs->VOk P x)->F vs=some (K vs)/\G vs=some (K vs)/\VOk P (K vs)) :
  Rv P k (fin p K) (A.bind λr=>(F r.2).bind λv=>some (r.1,ah v)) (B.bind λr=>bif r.1.over then some (r.1,zV)else (G r.2).bind λv=>some (r.1,ah v)):=by
 obtain⟨vs,us,i,j,l,o,q⟩:=h.ex;rw[i,j,zA,zA];obtain⟨b,e,c⟩:=g vs l o;cases a:p.1.over with
 | true=>
  have d:fin p K=(p.1,zV):=by unfold fin;rw[a];rfl
  simp only[b,zA,aC,a,ac,d];refine⟨rfl,h.m,Di,λ_=>rfl,K vs,rfl,c,λhh=>?_⟩;have hh:p.1.over=false:=hh;rw[a]at hh;cases hh
 | false=>
  obtain⟨f,s⟩:=q a;have d:fin p K=(p.1,K p.2):=by unfold fin;rw[a];rfl
  rw[f]at b e c;rw[f,s];have t:∀ {α:Type} (x y:α),(bif p.1.over then x else y)=y:=λx y=>by rw[a];rfl
  simp only[b,e,t,zA,aC,d];exact kW h.m a c
theorem al6{P:List aj}(hP:P.length<=1048576):∀(n:Nat) (e:ak) (d:Nat) (m:aA) (c:List au) (k:Nat),siz e<n->ShX d e->ScD P d c->MOk P k m ->
  Rv P k (ev m e c) ((aT n).1 m e c) ((bF n).1 m e c):=by
 intro n;induction n using Nat.strongRecOn with
 | _ n ih=>
 intro e d m c k hn b hc o;cases n with
 | zero=>exact absurd hn (aml _)
 | succ n=>
 have h4:=siz4 e;rw[X9 m e c b];have hx':=b;cases b with
 | mk d _ k0 k9 num tx tl al op two three cl hs=>
 show Rv P k _ (lQ (aT n).1 (aT n).2.1 (aT n).2.2.1 (aT n).2.2.2 m e c) (H9 (bF n).1 (bF n).2.1 (bF n).2.2.1 (bF n).2.2.2 m e c)
 unfold evB lQ H9;have hbad:(m.over||(m.steps==200))=true->Rv P k (ovr m,zV) (some (ovr m,zV)) (some (ovr m,zV)):=λX=>⟨rfl,⟨o.tp,o.wl,o.rd,o.s2,(λ_=>by
  rw[Bool.or_eq_true]at X;exact X.elim o.o2 λh=>eq_of_beq h),o.rl⟩,Di,λ_=>rfl,zV,rfl,Di,λ_=>rfl⟩
 cases C:m.over with
 | true=>
  simp only[ac,Bool.true_or];exact hbad (by rw[C];rfl)
 | false=>
 cases D:(m.steps==200)with
 | true=>
  simp only[ac,aa,Bool.false_or];have:=hbad (by rw[C,D];rfl);exact this
 | false=>
 have q:=agJ o C D;have s:(tick m).over=false:=C;have J:aA.mk m.tape m.w m.cell m.version m.reads (w64 (m.steps+1)) false=tick m:=by rw[<- C];exact agK o
 simp only[aa,Bool.false_or,J,OH,MB,al3,alC,zA,aC,bV];have r:MOk P k (tick m):=q.le (Nat.le_succ k);have L:(e.args.length:Int)<=1048576:=by omega
 by_cases M:e.kind=1
 ·rw[M];exact kW r s (iW (num M)).1
 have Y:(e.kind==1)=false:=by simpa using M
 by_cases N:e.kind=2
 ·rw[N];exact kW r s (aaK (tx N)).1
 have Z:(e.kind==2)=false:=by simpa using N
 by_cases q3:e.kind=3
 ·rw[q3];simp only[afM c e.text hc.sc,aed c e.text hc.sc,zA,aC];exact kW r s (Xv c e.text hc.sc _)
 have b3:(e.kind==3)=false:=by simpa using q3
 obtain⟨j,rfl⟩:∃j,n=j+1:=⟨n-1,by omega⟩;have sub:∀x,x∈e.args->siz x<j:=λx b=>by have:=EO b;omega
 have ihx:∀i,i<j+1+1->∀x,x∈e.args->siz x<i->∀(c':List au),ScD P d c'->∀m k,MOk P k m->Rv P k (ev m x c') ((aT i).1 m x c') ((bF i).1 m x c'):=λi hi x b t c' O m k o=>ih i hi x d m c' k t (hs x b) O o
 have all:∀i,i<j+1+1->(∀x,x∈e.args->siz x<i)->Rl P (k+1) e.args.length (evL (λm x=>ev m x c) (tick m) e.args) ((aT (i+1)).2.1 (tick m) e.args c) ((bF (i+1)).2.1 (tick m) e.args c):=λi hi t=>
  aip L (λx b m k o _=>ihx i hi x b (t x b) c hc.le m k o) (λx b m a=>by
   obtain⟨l,rfl⟩:∃l,i=l+1:=⟨i-1,by have:=t x b;omega⟩;exact afH l m x c a) q s (aT i).2.1 (aT i).2.2.1 (aT i).2.2.2 (bF i).2.1 (bF i).2.2.1 (bF i).2.2.2
 by_cases q4:e.kind=4
 ·rw[q4];have:=aeA (all j (by omega) sub) (F:=jE) (G:=iH) (K:=iM) (λvs hl hv=>Tc vs (by omega) hv);simp only[aC]at this;exact this.le (Nat.le_succ k)
 have b4:(e.kind==4)=false:=by simpa using q4
 by_cases Q:e.kind=5
 ·rw[Q];obtain⟨l,rfl⟩:∃l,j=l+1:=⟨j-1,by omega⟩;have:=WW (agj hP (cl Q) (all l (by omega) (λx b=>by have:=EO b;omega)) (aT (l+1)).1 (aT (l+1)).2.2.1 (aT (l+1)).2.2.2 (bF (l+1)).1 (bF (l+1)).2.2.1 (bF (l+1)).2.2.2);simp only[aC]at this;exact this
 have b5:(e.kind==5)=false:=by simpa using Q
 by_cases E:e.kind=7
 ·have H:=two (.inl E);have R:idx e.args 0=some (arg e 0):=yF (i:=0) (by omega);have S:idx e.args 1=some (arg e 1):=yF (i:=1) (by omega);have z:arg e 0∈e.args:=dw (by omega);have A:arg e 1∈e.args:=dw (by omega);have p:=ihx (j+1) (by omega) (arg e 0) z (by have:=sub _ z;omega) c hc.le (tick m) (k+1) q;have b7t:(e.kind==7)=true:=by simpa using E
  have T:(e.kind==6)=false:=by rw[E];rfl
  simp only[Y,Z,b3,b4,b5,T,b7t,ac,aa,R,S,zA,bV];refine (UI p (λa v hv=>?_) (λa=>?_) (λa=>?_):Rv P (k+1) _ _ _).le (Nat.le_succ k)
  ·refine⟨zV,?_,Di⟩;simp only[O0 c e.text v hc.sc hv,zA,afH j _ _ _ a]
  ·have u:∀ {α:Type} (x y:α),(bif (ev (tick m) (arg e 0) c).1.over then x else y)=x:=λx y=>by rw[a];rfl
   simp only[u];rfl
  ·have u:∀ {α:Type} (x y:α),(bif (ev (tick m) (arg e 0) c).1.over then x else y)=y:=λx y=>by rw[a];rfl
   simp only[u,O0 c e.text _ hc.sc p.v,WU c e.text _ hc.sc p.v,zA];have B:=WW (ihx (j+1) (by omega) (arg e 1) A (by have:=sub _ A;omega) _ (hc.bind e.text p.v) (ev (tick m) (arg e 0) c).1 (k+1) p.m);simp only[aC]at B;exact B
 have b7:(e.kind==7)=false:=by simpa using E
 by_cases I:e.kind=8
 ·have l3:=three I;have R:idx e.args 0=some (arg e 0):=yF (i:=0) (by omega);have S:idx e.args 1=some (arg e 1):=yF (i:=1) (by omega);have e2:idx e.args 2=some (arg e 2):=yF (i:=2) (by omega);have z:arg e 0∈e.args:=dw (by omega);have A:arg e 1∈e.args:=dw (by omega);have m2:arg e 2∈e.args:=dw (by omega);have p:=ihx (j+1) (by omega) (arg e 0) z (by have:=sub _ z;omega) c hc.le (tick m) (k+1) q;have b8t:(e.kind==8)=true:=by simpa using I
  have T:(e.kind==6)=false:=by rw[I];rfl
  simp only[Y,Z,b3,b4,b5,T,b7,b8t,ac,aa,R,S,e2,zA,bV];refine (UI p (λa v hv=>⟨v,?_,hv⟩) (λa=>?_) (λa=>?_):Rv P (k+1) _ _ _).le (Nat.le_succ k)
  ·have u:∀ {α:Type} (x y:α),(bif (ev (tick m) (arg e 0) c).1.over then x else y)=x:=λx y=>by rw[a];rfl
   simp only[u]
  ·have u:∀ {α:Type} (x y:α),(bif (ev (tick m) (arg e 0) c).1.over then x else y)=x:=λx y=>by rw[a];rfl
   simp only[u]
  ·have u:∀ {α:Type} (x y:α),(bif (ev (tick m) (arg e 0) c).1.over then x else y)=y:=λx y=>by rw[a];rfl
   simp only[u,afI,ad9,zA];have B:=WW (ihx (j+1) (by omega) (arg e 1) A (by have:=sub _ A;omega) c hc.le (ev (tick m) (arg e 0) c).1 (k+1) p.m);have r2:=WW (ihx (j+1) (by omega) (arg e 2) m2 (by have:=sub _ m2;omega) c hc.le (ev (tick m) (arg e 0) c).1 (k+1) p.m);simp only[aC]at B r2;cases ((ev (tick m) (arg e 0) c).2.kind==6)with
   | true=>simp only[ac];exact kW p.m a p.v
   | false=>
    simp only[aa];cases Hl (ev (tick m) (arg e 0) c).2 with
    | true=>exact B
    | false=>exact r2
 have b8:(e.kind==8)=false:=by simpa using I
 by_cases U:e.kind=9
 ·have H:=two (.inr U);have z:arg e 0∈e.args:=dw (by omega);have A:arg e 1∈e.args:=dw (by omega);have p:=ihx j (by omega) (arg e 0) z (sub _ z) c hc.le (tick m) (k+1) q;have B:=WW (ah0 H hc (g:=ev (tick m) (arg e 0) c) (f:=λm x=>ev m (arg e 1) (c++[au.mk e.text x])) (aT j).2.1 (aT j).2.2.1 (aT j).2.2.2 (bF j).2.1 (bF j).2.2.1 (bF j).2.2.2 p
   (λx b m k o h0=>ihx j (by omega) (arg e 1) A (sub _ A) _ (hc.bind e.text b) m k o))
  simp only[aC]at B;rw[U];exact B.le (Nat.le_succ k)
 have b9:(e.kind==9)=false:=by simpa using U
 have q6:e.kind=6:=by omega
 have H:=op q6;have:=aeA (all j (by omega) sub) (F:=λvs=>(idx vs 0).bind λV=>(idx vs 1).bind λW=>jm e.n V W) (G:=λvs=>(idx vs 0).bind λV=>(idx vs 1).bind λW=>iI e.n V W)
  (K:=λvs=>opV e.n (vs.getD 0 zV) (vs.getD 1 zV)) (λvs hl hv=>by
   match vs,hl.trans H,hv with
   | [x,y],_,hv=>
    obtain⟨v,w1,w2,w3,_⟩:=alK e.n x y (hv x (by simp)) (hv y (by simp));have:opV e.n x y=v:=by unfold opV;rw[w2];rfl
    show jm e.n x y=some (opV e.n x y)/\iI e.n x y=some (opV e.n x y)/\VOk P (opV e.n x y)
    rw[this];exact⟨w1,w2,w3⟩)
 rw[q6];simp only[aC,Option.bind_assoc]at this;exact this.le (Nat.le_succ k)
noncomputable def ev0(e:ak)(c:List au)(t:List aG)(w:bT)(a b:Int):aA×af:=ev (aA.mk t w a b [] 0 false) e c
noncomputable def evO(e:ak)(c:List au)(t:List aG)(w:bT)(a b:Int):fB:=
 fB.mk (bif (ev0 e c t w a b).1.over then dM 6 else (ev0 e c t w a b).2) (ev0 e c t w a b).1.reads (ev0 e c t w a b).1.steps
structure abH(P:List aj)(o:fB):Prop where
 v:VOk P o.value
 rd:∀r,r∈o.reads->Fit B20 (.base .read) r/\zl P r.result
 len:(o.reads.length:Int)<=o.steps
 s2:o.steps<=200
theorem ab8{P:List aj}(l:List aG)(b:(l.length:Int)<=1048576)(h:∀r,r∈l->Fit B20 (.base .read) r/\zl P r.result):vY l=some l:=by
 unfold vY;have c:l.map id=l:=List.map_id l;refine (NY (λ(s:List aG) (i:Nat)=>((l,s,(i:Int)):(List aG)×(List aG)×Int)) l id (l.map id) (λi x a d=>?_) ?_).trans (by rw[c])
 ·have hi:=(zC.1 a).1;have hf:=Bg.1 (h x (zG a)).1;have e:E5 x=some x:=by
   unfold E5;rw[aC,iG _ hf.2.2.2.2,zA,aC]
  have f:gd (((l.take i).map id).length+[x].length)=some ():=bI (by rw[d];simp;omega);simp only[dD a,ac,aP,a,zA,BJ,e,f,dY a b];rfl
 ·simp only[bM,aa]
theorem JE{P:List aj}(k:P.length<=1048576){e:ak}{c:List au}{t:List aG}{w:bT}{a b:Int}{d:Nat}{v:Bool}(l:jD e=some v)(p:dF e=some v)(q:v=true->ShX d e)
  (hc:ScD P d c) (s:agA P t) (x:(w.files.length:Int)<=1048576):∃o,BZ e c t w a b=some o/\BH e c t w a b=some o/\abH P o/\(v=true->o=evO e c t w a b)/\(v=false->o=fB.mk (dM 4) [] 0):=by
 unfold BZ BH;simp only[bV,l,p,zA,kz,jZ,aC];cases v with
 | false=>exact⟨_,rfl,rfl,⟨(bG (by omega) (by omega)).1,(λr i=>by cases i),Int.le_refl _,by show (0:Int)<=200;decide⟩,(λh=>by cases h),λ_=>rfl⟩
 | true=>
  have y:MOk P 0 (aA.mk t w a b [] 0 false):=⟨s,x,(λr i=>by cases i),by show (0:Int)<=200;decide,(λh=>by cases h),by show (0:Int)+0<=0;decide⟩;have R:Rv P 0 (ev0 e c t w a b) (yH (aA.mk t w a b [] 0 false) e c) (MQ (aA.mk t w a b [] 0 false) e c):=al6 k _ e d _ c 0 (by omega) (q rfl) hc y;obtain⟨u,z,D,A⟩:=R.a;have E:=R.m.rl;have j:=R.m.s2;have B:=R.b;have g:=ab8 (P:=P) (ev0 e c t w a b).1.reads (by omega) R.m.rd;have C:abH P (evO e c t w a b):=by
   refine⟨?_,R.m.rd,by show ((ev0 e c t w a b).1.reads.length:Int)<=(ev0 e c t w a b).1.steps;omega,j⟩;show VOk P (bif (ev0 e c t w a b).1.over then dM 6 else (ev0 e c t w a b).2)
   cases (ev0 e c t w a b).1.over with
   | true=>exact (bG (by omega) (by omega)).1
   | false=>exact R.v
  refine⟨evO e c t w a b,?_,?_,C,λ_=>rfl,(λh=>by cases h)⟩
  ·simp only[aR,aa,z,zA];unfold evO;cases f:(ev0 e c t w a b).1.over with
   | true=>simp only[ac,fG _ (bG (P:=P) (n:=6) (by omega) (by omega)).1.fit,zA]
   | false=>simp only[aa,A f,fG _ R.v.fit,zA]
  ·simp only[aR,aa,B,zA];unfold evO;cases f:(ev0 e c t w a b).1.over with
   | true=>simp only[ac,g,zA,R.m.o2 f]
   | false=>simp only[aa,g,iG _ R.v.fit,zA]
