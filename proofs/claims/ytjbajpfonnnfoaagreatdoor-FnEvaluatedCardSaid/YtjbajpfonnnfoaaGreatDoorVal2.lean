import Derived.Test.YtjbajpfonnnfoaaGreatDoorPlain1
set_option linter.unusedSimpArgs false
set_option linter.unusedVariables false
/- Plain laws: IsValidValue, alike on both sides. -/
namespace Go.Proofs.YtjbajpfonnnfoaaGreatDoor
open Go.Abs Go.Proofs
def elB(v:af):Bool:=(v.kind==1)||((v.kind==2)||(v.kind==3))
mutual
noncomputable def vld:af->Bool
 | ⟨k,n,st,t,l,c,r⟩=>
  bif k==1 then l.isEmpty&&(c.isEmpty&&(r.isEmpty&&((st==0)&&((t==[])&&nB n))))
  else bif k==2 then l.isEmpty&&(c.isEmpty&&(r.isEmpty&&((n==0)&&((st==0)&&txB t))))
  else bif k==4 then l.isEmpty&&(c.isEmpty&&(r.isEmpty&&((t==[])&&(nB n&&nB st))))
  else bif k==6 then l.isEmpty&&(c.isEmpty&&(r.isEmpty&&((st==0)&&((t==[])&&(decide (1<=n)&&decide (n<=8))))))
  else bif k==5 then (n==0)&&((st==0)&&((t==[])&&(l.isEmpty&&tbB c r)))
  else bif k==3 then JD l&&((n==0)&&((st==0)&&((t==[])&&(c.isEmpty&&(r.isEmpty&&(decide ((l.length:Int)<=8)&&decide (w64 (oI l 0+1)<=3)))))))
  else false
noncomputable def JD:List af->Bool
 | []=>true
 | x::r=>(elB x&&vld x)&&JD r
end
theorem Ei:∀l:List af,JD l=l.all λx=>elB x&&vld x
 | []=>by simp[JD]
 | x::r=>by simp only[JD,List.all_cons,Ei r]
theorem len0{α:Type}(l:List α):((l.length:Int)==0)=l.isEmpty:=by
 cases l with
 | nil=>rfl
 | cons x r=>simp only[List.length_cons,List.isEmpty_cons,beq_eq_false_iff_ne];omega
theorem akd{α:Type}(l:List α):decide ((l.length:Int)>0) = !l.isEmpty:=by
 cases l with
 | nil=>rfl
 | cons x r=>simp only[List.length_cons,List.isEmpty_cons,Bool.not_false,decide_eq_true_eq];omega
theorem Xr:∀(n:Nat) (v:af),siz v<n->Fit B20 (.base .val) v->kJ n v=some (vld v)
 | 0,v,h,_=>absurd h (Nat.not_lt_zero _)
 | n+1,v,E,h=>by
  have ih:=Xr n;have f:=akm v h;have hdep:=aaR v h;have g:=lC (v:=v);obtain⟨k,m,st,t,l,c,r⟩:=v;obtain⟨_,_,_,c3,c4,G,H⟩:=dK.1 h;have p:=bT c4;simp only at g c3 c4 p;show sJ (kJ n) _=_
  unfold sJ;simp only[len0];have B:∀(F:Int×Int×Int×Str×(List af)×(List Str)×(List aB)×Bool->Option Bool),
   lJ (X:=Int×Int×Int×Str×(List af)×(List Str)×(List aB)×Bool) (bif l.isEmpty then bif c.isEmpty then some (.inl (k,m,st,t,l,c,r,r.isEmpty))else some (.inl (k,m,st,t,l,c,r,false))else some (.inl (k,m,st,t,l,c,r,false))) F=F (k,m,st,t,l,c,r,l.isEmpty&&(c.isEmpty&&r.isEmpty)):=by
   intro F
   cases l.isEmpty<;>cases c.isEmpty<;>rfl
  rw[B];simp only[IB,Xt t (aat c3),oz,zA,O9];by_cases q:k=1
  ·subst q;simp only[vld,beq_self_eq_true,ab];cases l.isEmpty<;>cases c.isEmpty<;>cases r.isEmpty<;>cases (st==0)<;>cases (t==[])<;>rfl
  have a:(k==1)=false:=by simpa using q
  by_cases s:k=2
  ·subst s;simp only[vld,beq_self_eq_true,ab,a,aa];cases l.isEmpty<;>cases c.isEmpty<;>cases r.isEmpty<;>cases (m==0)<;>cases (st==0)<;>rfl
  have b:(k==2)=false:=by simpa using s
  by_cases u:k=4
  ·subst u;simp only[vld,beq_self_eq_true,ab,a,b,aa];cases l.isEmpty<;>cases c.isEmpty<;>cases r.isEmpty<;>cases (t==[])<;>cases nB m<;>rfl
  have e:(k==4)=false:=by simpa using u
  by_cases w:k=6
  ·subst w;simp only[vld,beq_self_eq_true,ab,a,b,e,aa];cases l.isEmpty<;>cases c.isEmpty<;>cases r.isEmpty<;>cases (st==0)<;>cases (t==[])<;>rfl
  have j:(k==6)=false:=by simpa using w
  by_cases y:k=5
  ·subst y;simp only[vld,beq_self_eq_true,ab,a,b,e,j,aa];rw[f];cases (m==0)<;>cases (st==0)<;>cases (t==[])<;>cases l.isEmpty<;>rfl
  have z:(k==5)=false:=by simpa using y
  by_cases A:k=3
  ·subst A;simp only[vld,beq_self_eq_true,ab,a,b,e,z,j,aa];refine (congrArg (λo=>lJ o _) (nP (λi=>((3,m,st,t,l,c,r,l,(l.length:Int),(i:Int)):Int×Int×Int×Str×(List af)×(List Str)×(List aB)×(List af)×Int×Int)) l (λ_ x=>elB x&&vld x) (Sum.inr false) (Sum.inl (3,m,st,t,l,c,r)) (λi x d=>?_) ?_)).trans ?_
   ·have ihx:=ih x (by have:=qI (zG d);omega) (c4.dB x (zG d));simp only[dw d,ab,aQ,d,aC,zA,ihx,dW d p,bne];unfold elB;cases (x.kind==1)<;>cases (x.kind==2)<;>cases (x.kind==3)<;>cases vld x<;>rfl
   ·simp only[bP,aa]
   ·rw[jo,Ei];cases l.all λx=>elB x&&vld x with
    | false=>rfl
    | true=>
     show (bif (m==0)then _ else _)=_
     rw[hdep];have C:dep ⟨3,m,st,t,l,c,r⟩=w64 (oI l 0+1):=AL _;rw[C];cases (m==0)<;>cases (st==0)<;>cases (t==[])<;>cases c.isEmpty<;>cases r.isEmpty<;>cases decide ((l.length:Int)<=8)<;>rfl
  have D:(k==3)=false:=by simpa using A
  simp only[vld,a,b,D,e,z,j,aa]
theorem ahb(v:af)(h:Fit B20 (.base .val) v):ve v=some (vld v):=Xr _ v (Nat.lt_succ_self _) h
noncomputable def lsB(v:af):Bool:=JD v.list&&(decide ((v.list.length:Int)<=8)&&decide (dep v<=3))
theorem adU(v:af):rF v=some (elB v):=by
 unfold rF elB;cases (v.kind==1)<;>cases (v.kind==2)<;>rfl
theorem ajG{α β:Type}(c:List α)(r:List β)(hc:(c.length:Int)<=1048576)(a:(r.length:Int)<=1048576):decide (w64 ((c.length:Int)+(r.length:Int))>0) = !(c.isEmpty&&r.isEmpty):=by
 rw[bQ (by omega) (by omega)];cases c with
 | cons x c=>simp only[List.length_cons,List.isEmpty_cons,Bool.false_and,Bool.not_false,decide_eq_true_eq];omega
 | nil=>
  cases r with
  | nil=>rfl
  | cons y r=>simp only[List.length_cons,List.length_nil,List.isEmpty_cons,Bool.and_false,Bool.not_false,decide_eq_true_eq];omega
theorem adC:∀n:Nat,(∀v:af,Fit B20 (.base .val) v->siz v<n->(cZ n).1 v=some (vld v))/\(∀v:af,Fit B20 (.base .val) v->siz v<n+1->(cZ n).2 v=some (lsB v)):=by
 intro n;induction n with
 | zero=>exact⟨λv _ h=>absurd h (Nat.not_lt_zero _),λv _ h=>by have:=lC (v:=v);omega⟩
 | succ n ih=>
  refine⟨λv h y=>?_,λv h y=>?_⟩
  ·have b:=ih.2 v h y;have j:=ajT v h;obtain⟨k,m,st,t,l,c,r⟩:=v;obtain⟨_,_,_,c3,c4,z,A⟩:=dK.1 h;have p:=bT c4;simp only at c3 c4 p z A;show rQ (cZ n).1 (cZ n).2 _=_
   unfold rQ;simp only[akd,ajG c r (bT z) (bT A),Dj,EC t (aat c3),vK,zA,bne];have s:∀(F:Int×Int×Int×Str×(List af)×(List Str)×(List aB)->Option Bool),
    lJ (X:=Int×Int×Int×Str×(List af)×(List Str)×(List aB)) (
     bif (!(k==3))then
      bif (!l.isEmpty)then some (.inr false)
      else bif (!(k==5))then bif (!(c.isEmpty&&r.isEmpty))then some (.inr false)else some (.inl (k,m,st,t,l,c,r))else some (.inl (k,m,st,t,l,c,r))
     else bif (!(k==5))then bif (!(c.isEmpty&&r.isEmpty))then some (.inr false)else some (.inl (k,m,st,t,l,c,r))else some (.inl (k,m,st,t,l,c,r))) F
    = bif (!(k==3)&&!l.isEmpty)||(!(k==5)&&!(c.isEmpty&&r.isEmpty))then some false else F (k,m,st,t,l,c,r):=by
    intro F
    cases (k==3)<;>cases (k==5)<;>cases l.isEmpty<;>cases (c.isEmpty&&r.isEmpty)<;>rfl
   have u:∀(F:Int×Int×Int×Str×(List af)×(List Str)×(List aB)->Option Bool),
    lJ (X:=Int×Int×Int×Str×(List af)×(List Str)×(List aB)) (
     bif (!(k==2))then
      bif (!(t==[]))then some (.inr false)
      else bif (!(k==4))then bif (!(st==0))then some (.inr false)else some (.inl (k,m,st,t,l,c,r))else some (.inl (k,m,st,t,l,c,r))
     else bif (!(k==4))then bif (!(st==0))then some (.inr false)else some (.inl (k,m,st,t,l,c,r))else some (.inl (k,m,st,t,l,c,r))) F
    = bif (!(k==2)&&!(t==[]))||(!(k==4)&&!(st==0))then some false else F (k,m,st,t,l,c,r):=by
    intro F
    cases (k==2)<;>cases (k==4)<;>cases (t==[])<;>cases (st==0)<;>rfl
   refine (s _).trans ?_;refine (congrArg (λo=>bif (!(k==3)&&!l.isEmpty)||(!(k==5)&&!(c.isEmpty&&r.isEmpty))then some false else o) (u _)).trans ?_;simp only[Dj,EC t (aat c3),vK,zA];by_cases B:k=1
   ·subst B;simp only[vld,beq_self_eq_true,ab];cases l.isEmpty<;>cases c.isEmpty<;>cases r.isEmpty<;>cases (st==0)<;>cases (t==[])<;>rfl
   have a:(k==1)=false:=by simpa using B
   by_cases C:k=2
   ·subst C;simp only[vld,beq_self_eq_true,ab,a,aa];cases l.isEmpty<;>cases c.isEmpty<;>cases r.isEmpty<;>cases (m==0)<;>cases (st==0)<;>rfl
   have d:(k==2)=false:=by simpa using C
   by_cases D:k=4
   ·subst D;simp only[vld,beq_self_eq_true,ab,a,d,aa];cases l.isEmpty<;>cases c.isEmpty<;>cases r.isEmpty<;>cases (t==[])<;>cases nB m<;>rfl
   have g:(k==4)=false:=by simpa using D
   by_cases E:k=6
   ·subst E;simp only[vld,beq_self_eq_true,ab,a,d,g,aa];cases l.isEmpty<;>cases c.isEmpty<;>cases r.isEmpty<;>cases (st==0)<;>cases (t==[])<;>rfl
   have w:(k==6)=false:=by simpa using E
   by_cases G:k=5
   ·subst G;simp only[vld,beq_self_eq_true,ab,a,d,g,w,aa];have e:((y7 ⟨5,m,st,t,l,c,r⟩).bind λr=>some r)=some (tbB c r):=by rw[j];rfl
    cases (m==0)<;>cases (st==0)<;>cases (t==[])<;>cases l.isEmpty<;>first | rfl | exact e
   have H:(k==5)=false:=by simpa using G
   by_cases I:k=3
   ·subst I;have J:dep ⟨3,m,st,t,l,c,r⟩=w64 (oI l 0+1):=AL _;have K:lsB ⟨3,m,st,t,l,c,r⟩=(JD l&&(decide ((l.length:Int)<=8)&&decide (w64 (oI l 0+1)<=3))):=by unfold lsB;rw[J]
    rw[K]at b;simp only[vld,beq_self_eq_true,ab,a,d,g,H,w,aa];have e:((cZ n).2 ⟨3,m,st,t,l,c,r⟩).bind (λr=>some r)=some (JD l&&(decide ((l.length:Int)<=8)&&decide (w64 (oI l 0+1)<=3))):=by rw[b];rfl
    generalize (decide ((l.length:Int)<=8)&&decide (w64 (oI l 0+1)<=3))=q at e ⊢;generalize L:JD l=vl at e ⊢;cases (m==0)<;>cases (st==0)<;>cases (t==[])<;>cases c.isEmpty<;>cases r.isEmpty<;>cases vl<;>first | rfl | exact e
   have M:(k==3)=false:=by simpa using I
   simp only[vld,a,d,M,g,H,w,aa];cases l.isEmpty<;>cases c.isEmpty<;>cases r.isEmpty<;>cases (st==0)<;>cases (t==[])<;>rfl
  ·obtain⟨_,_,_,_,c4,_,_⟩:=dK.1 h;have p:=bT c4;have N:=lC (v:=v);have hdep:=aay v h;show L6 (cZ n).1 (cZ n).2 v=_
   unfold L6;refine (nP (λi=>((v.kind,v.n,v.step,v.text,v.list,v.columns,v.rows,(i:Int)):Int×Int×Int×Str×(List af)×(List Str)×(List aB)×Int)) v.list (λ_ x=>elB x&&vld x) false (decide ((v.list.length:Int)<=8)&&decide (dep v<=3)) (λi x f=>?_) ?_).trans ?_
   ·have ihx:=ih.1 x (c4.dB x (zG f)) (by have:=qI (zG f);omega);simp only[dw f,ab,aQ,f,aC,adU,zA,ihx,dW f p];cases elB x<;>cases vld x<;>rfl
   ·simp only[bP,aa];rw[show (af.mk v.kind v.n v.step v.text v.list v.columns v.rows)=v from by cases v;rfl,hdep];cases decide ((v.list.length:Int)<=8)<;>rfl
   ·rw[jo,O9];unfold lsB;rw[Ei]
theorem J8(v:af)(h:Fit B20 (.base .val) v):iC v=some (vld v):=(adC _).1 v h (Nat.lt_succ_self _)
inductive yR(P:List aj):af->Prop
 | mk {v:af} (hr:∀r,r∈v.rows->∀o,o∈r.orig->o∈P) (hl:∀x,x∈v.list->yR P x):yR P v
structure VOk(P:List aj)(v:af):Prop where
 fit:Fit B20 (.base .val) v
 org:yR P v
def dI(n:Int):af:=⟨6,n,0,[],[],[],[]⟩
def lX(n:Int):af:=⟨1,n,0,[],[],[],[]⟩
def C9(s:Str):af:=⟨2,0,0,s,[],[],[]⟩
theorem jY(n:Int):aJ n=some (dI n):=rfl
theorem jX(n:Int):aF n=some (dI n):=rfl
theorem Oj(n:Int):dV n=some (lX n):=rfl
theorem LV(n:Int):bF n=some (lX n):=rfl
theorem alh(s:Str):sG s=some (C9 s):=rfl
theorem akS(s:Str):iI s=some (C9 s):=rfl
theorem pU{t:Ty}:bZ B20 (.list t []):=dh (by simp) (λx a=>by cases a)
theorem Bo{P:List aj}{k n st:Int}{t:Str}{c:List Str}:yR P ⟨k,n,st,t,[],c,[]⟩:=.mk (λr h=>by cases h) (λx h=>by cases h)
theorem bD{P:List aj}{n:Int}(a:1<=n)(b:n<=8):VOk P (dI n)/\vld (dI n)=true:=by
 refine⟨⟨dK.2 ⟨nU (dL (by simp[dI]) (by simp[dI])),nU (dL (by show -1000000000<=n;omega) (by show n<=1000000000;omega)),nU (dL (by simp[dI]) (by simp[dI])),qm,pU,pU,pU⟩,Bo⟩,?_⟩;simp only[dI,vld,show ((6:Int)==1)=false from rfl,show ((6:Int)==2)=false from rfl,show ((6:Int)==4)=false from rfl,beq_self_eq_true,ab,aa,List.isEmpty_nil,Bool.true_and,ae a,ae b]
theorem iO{P:List aj}{n:Int}(h:nB n=true):VOk P (lX n)/\vld (lX n)=true:=by
 have a:=h;unfold nB at a;simp only[zI,decide_eq_true_eq]at a;refine⟨⟨dK.2 ⟨nU (dL (by simp[lX]) (by simp[lX])),nU (dL a.1 a.2),nU (dL (by simp[lX]) (by simp[lX])),qm,pU,pU,pU⟩,Bo⟩,?_⟩;simp only[lX,vld,beq_self_eq_true,ab,List.isEmpty_nil,Bool.true_and,h]
theorem Ti{P:List aj}{s:Str}(h:txB s=true):VOk P (C9 s)/\vld (C9 s)=true:=by
 have a:=h;unfold txB at a;simp only[zI,decide_eq_true_eq]at a;refine⟨⟨dK.2 ⟨nU (dL (by simp[C9]) (by simp[C9])),nU (dL (by simp[C9]) (by simp[C9])),nU (dL (by simp[C9]) (by simp[C9])),Fz (by have:=a.2;show (s.length:Int)<=1048576;omega),pU,pU,pU⟩,Bo⟩,?_⟩;simp only[C9,vld,show ((2:Int)==1)=false from rfl,beq_self_eq_true,ab,aa,List.isEmpty_nil,Bool.true_and,h]
def fQ{α ρ:Type}(q:Nat->α->Option ρ):Nat->List α->Option ρ
 | _,[]=>none
 | i,x::r=>match q i x with
  | some v=>some v
  | none=>fQ q (i+1) r
theorem qQ{α X ρ:Type}{g:X->Option (X⊕ρ)}(pk:Nat->X)(xs:List α)(q:Nat->α->Option ρ)(yes:ρ)
  (d:∀i x,xs[i]?=some x->g (pk i)=match q i x with | some r=>some (.inr r) | none=>some (.inl (pk (i+1))))
  (hf:g (pk xs.length)=some (.inr yes)):aO g (pk 0)=some ((fQ q 0 xs).getD yes):=by
 have key:∀(ys:List α) (i:Nat),xs.drop i=ys->i<=xs.length->aO g (pk i)=some ((fQ q i ys).getD yes):=by
  intro ys;induction ys with
  | nil=>
   intro i a e;have f:xs.length<=i:=List.drop_eq_nil_iff.1 a;have:i=xs.length:=by omega
   subst this;rw[aX,hf];rfl
  | cons y r ih=>
   intro i a e;have c:xs[i]?=some y:=by
    have:=congrArg (·[0]?) a;simpa using this
   have b:=(zC.1 c).1;rw[aX,d i y c];unfold fQ;cases h:q i y with
   | some v=>rfl
   | none=>
    simp only;refine ih (i+1) ?_ b;have:=congrArg List.tail a;simpa using this
 exact key xs 0 rfl (Nat.zero_le _)
noncomputable def opQ(v:af):Option af:=bif !vld v then some (dI 4)else bif v.kind==6 then some v else none
noncomputable def opE(xs:List af):Option (af):=fQ (λ_ v=>opQ v) 0 xs
theorem aam{v:af}(h:vld v=true)(hk:v.kind=6):v=dI v.n/\1<=v.n/\v.n<=8:=by
 obtain⟨k,n,st,t,l,c,r⟩:=v;simp only at hk;subst hk;simp only[vld,show ((6:Int)==1)=false from rfl,show ((6:Int)==2)=false from rfl,show ((6:Int)==4)=false from rfl,beq_self_eq_true,ab,aa,zI,List.isEmpty_iff,beq_iff_eq,decide_eq_true_eq]at h;obtain⟨rfl,rfl,rfl,rfl,rfl,a,b⟩:=h;exact⟨rfl,a,b⟩
theorem agQ{P:List aj}{v e:af}(h:opQ v=some e):VOk P e/\vld e=true/\e.kind=6:=by
 unfold opQ at h;cases a:vld v with
 | false=>rw[a]at h;cases h;exact⟨(bD (by omega) (by omega)).1,(bD (P:=P) (by omega) (by omega)).2,rfl⟩
 | true=>
  rw[a]at h;cases hk:v.kind==6 with
  | false=>rw[hk]at h;cases h
  | true=>
   rw[hk]at h;have h:some v=some e:=h;cases h
   have hk:v.kind=6:=by simpa using hk
   obtain⟨b,c,d⟩:=aam a hk;refine⟨?_,a,hk⟩;rw[b];exact (bD c d).1
theorem E5{P:List aj}:∀(xs:List af) (i:Nat) {e:af},fQ (λ_ v=>opQ v) i xs=some e->VOk P e/\vld e=true/\e.kind=6
 | [],_,_,h=>by cases h
 | x::r,i,e,h=>by
  unfold fQ at h;cases a:opQ x with
  | some v=>rw[a]at h;cases h;exact agQ a
  | none=>rw[a]at h;exact E5 r (i+1) h
theorem zZ:∀(xs:List af) (i:Nat),fQ (λ_ v=>opQ v) i xs=none->∀x,x∈xs->vld x=true/\x.kind≠6
 | [],_,_,x,b=>by cases b
 | y::r,i,h,x,b=>by
  unfold fQ at h;cases a:opQ y with
  | some v=>rw[a]at h;cases h
  | none=>
   rw[a]at h;rcases ba.1 b with rfl | b
   ·unfold opQ at a;cases c:vld x with
    | false=>rw[c]at a;cases a
    | true=>
     rw[c]at a;refine⟨rfl,λhk=>?_⟩;rw[hk]at a;cases a
   ·exact zZ r (i+1) h x b
def zV:af:=⟨0,0,0,[],[],[],[]⟩
def opR:Option af->af×Bool
 | some e=>(e,true)
 | none=>(zV,false)
theorem jD{α ρ σ:Type}(q:Nat->α->Option ρ)(f:ρ->σ):∀(xs:List α) (i:Nat),fQ (λi x=>(q i x).map f) i xs=(fQ q i xs).map f
 | [],_=>rfl
 | x::r,i=>by
  unfold fQ;cases q i x with
  | some v=>rfl
  | none=>exact jD q f r (i+1)
theorem Bq(o:Option af):(o.map λe=>(e,true)).getD (zV,false)=opR o:=by cases o<;>rfl
theorem FK(xs:List af)(h:bZ B20 (.list (.base .val) xs)):fZ xs=some (opR (opE xs)):=by
 have b:=bT h;unfold fZ opE;rw[<- Bq,<- jD];refine qQ (λi=>((0,0,0,[],[],[],[],xs,(xs.length:Int),(i:Int)):Int×Int×Int×Str×(List af)×(List Str)×(List aB)×(List af)×Int×Int)) xs _ _ (λi x a=>?_) ?_
 ·simp only[dw a,ab,aQ,a,zA,aC,ahb x (h.dB x (zG a)),jY,dW a b];unfold opQ;cases vld x<;>cases (x.kind==6)<;>rfl
 ·simp only[bP,aa];rfl
theorem EG(xs:List af)(h:bZ B20 (.list (.base .val) xs)):lD xs=some (opR (opE xs)):=by
 have b:=bT h;unfold lD opE;rw[<- Bq,<- jD];refine qQ (λi=>((xs,0,0,0,[],[],[],[],(i:Int)):(List af)×Int×Int×Int×Str×(List af)×(List Str)×(List aB)×Int)) xs _ _ (λi x a=>?_) ?_
 ·simp only[dw a,ab,aQ,a,zA,aC,J8 x (h.dB x (zG a)),jX,dW a b];unfold opQ;cases c:vld x with
  | false=>rfl
  | true=>
   cases hk:(x.kind==6)with
   | false=>rfl
   | true=>
    simp only[aL,aa,ab];rw[<- (aam c (by simpa using hk)).1];rfl
 ·simp only[bP,aa];rfl
def Al(P:List aj)(a b:Option af):Prop:=∃r,a=some r/\b=some r/\VOk P r/\vld r=true
theorem sW{P:List aj}{n:Int}(a:1<=n)(b:n<=8):Al P (some (dI n)) (some (dI n)):=⟨_,rfl,rfl,bD a b⟩
theorem akq{a:af}(b:Fit B20 (.base .val) a):bZ B20 (.list (.base .val) [a]):=dh (by simp) (by simpa using b)
theorem Vt{a b:af}(c:Fit B20 (.base .val) a)(d:Fit B20 (.base .val) b):bZ B20 (.list (.base .val) [a,b]):=dh (by simp) (by simp only[ba,List.not_mem_nil,or_false];rintro x (rfl | rfl)<;>assumption)
theorem akp{a b c:af}(d:Fit B20 (.base .val) a)(e:Fit B20 (.base .val) b)(hc:Fit B20 (.base .val) c):bZ B20 (.list (.base .val) [a,b,c]):=dh (by simp) (by simp only[ba,List.not_mem_nil,or_false];rintro x (rfl | rfl | rfl)<;>assumption)
theorem fit4{a b c d:af}(e:Fit B20 (.base .val) a)(f:Fit B20 (.base .val) b)(hc:Fit B20 (.base .val) c)(g:Fit B20 (.base .val) d):bZ B20 (.list (.base .val) [a,b,c,d]):=dh (by simp) (by simp only[ba,List.not_mem_nil,or_false];rintro x (rfl | rfl | rfl | rfl)<;>assumption)
theorem UF{P:List aj}{xs:List af}{F G:af×Bool->Option af}(h:bZ B20 (.list (.base .val) xs))
  (f:∀e,F (e,true)=some e) (g:∀e,G (e,true)=some e) (i:(∀x,x∈xs->vld x=true/\x.kind≠6)->Al P (F (zV,false)) (G (zV,false))) :
  Al P ((fZ xs).bind F) ((lD xs).bind G):=by
 rw[FK xs h,EG xs h,zA,zA];cases d:opE xs with
 | some e=>
  obtain⟨a,b,c⟩:=E5 (P:=P) xs 0 d;exact⟨e,f e,g e,a,b⟩
 | none=>exact i (zZ xs 0 d)
def kdQ(ks:List Int)(i:Nat)(x:af):Option af:=bif x.kind != ks.getD i 0 then some (dI 4)else none
noncomputable def kdE(ks:List Int)(xs:List af):Option af:=match opE xs with
 | some e=>some e
 | none=>fQ (kdQ ks) 0 xs
theorem ajw{ks:List Int}{xs:List af}(hlen:ks.length=xs.length){i:Nat}{x:af}(a:xs[i]?=some x):∃k,ks[i]?=some k:=⟨_,zF (by rw[hlen];exact (zC.1 a).1)⟩
theorem ahf(ks:List Int)(xs:List af)(h:bZ B20 (.list (.base .val) xs))(hlen:ks.length=xs.length):fB ks xs=some (opR (kdE ks xs)):=by
 have b:=bT h;unfold fB kdE;rw[FK xs h,zA];cases opE xs with
 | some e=>simp only[opR,ab,aC]
 | none=>
  show aO _ _=some (opR (fQ (kdQ ks) 0 xs))
  rw[<- Bq,<- jD];refine qQ (λi=>((ks,0,0,0,[],[],[],[],xs,(xs.length:Int),(i:Int)):(List Int)×Int×Int×Int×Str×(List af)×(List Str)×(List aB)×(List af)×Int×Int)) xs _ _ (λi x a=>?_) ?_
  ·obtain⟨k,hk⟩:=ajw hlen a;unfold kdQ;simp only[dw a,ab,aQ,a,hk,zA,jY,dW a b,zE,Option.getD_some];cases (x.kind != k)<;>rfl
  ·simp only[bP,aa];rfl
theorem agq(ks:List Int)(xs:List af)(h:bZ B20 (.list (.base .val) xs))(hlen:ks.length=xs.length):jk xs ks=some (opR (kdE ks xs)):=by
 have b:=bT h;unfold jk kdE;rw[EG xs h,zA];cases opE xs with
 | some e=>simp only[opR,ab,aC]
 | none=>
  show aO _ _=some (opR (fQ (kdQ ks) 0 xs))
  rw[<- Bq,<- jD];refine qQ (λi=>((xs,ks,0,0,0,[],[],[],[],(i:Int)):(List af)×(List Int)×Int×Int×Int×Str×(List af)×(List Str)×(List aB)×Int)) xs _ _ (λi x a=>?_) ?_
  ·obtain⟨k,hk⟩:=ajw hlen a;unfold kdQ;simp only[dw a,ab,aQ,a,hk,zA,jX,dW a b,zE,Option.getD_some];cases (x.kind != k)<;>rfl
  ·simp only[bP,aa];rfl
theorem NY(ks:List Int):∀(ys:List af) (j:Nat),fQ (kdQ ks) j ys=some (dI 4)\/(fQ (kdQ ks) j ys=none/\∀(i:Nat) (x:af),ys[i]?=some x->x.kind=ks.getD (j+i) 0)
 | [],j=>.inr ⟨rfl,λi x b=>by simp at b⟩
 | y::ys,j=>by
  unfold fQ;cases a:kdQ ks j y with
  | some v=>
   unfold kdQ at a;cases hk:y.kind != ks.getD j 0 with
   | true=>rw[hk]at a;cases a;exact .inl rfl
   | false=>rw[hk]at a;cases a
  | none=>
   simp only;have hk:y.kind=ks.getD j 0:=by
    unfold kdQ at a;cases hk:y.kind != ks.getD j 0 with
    | true=>rw[hk]at a;cases a
    | false=>simpa using hk
   rcases NY ks ys (j+1)with c | ⟨c,d⟩
   ·exact .inl c
   ·refine .inr ⟨c,λi x b=>?_⟩;cases i with
    | zero=>
     simp at b;subst b;exact hk
    | succ i=>rw[show j+(i+1)=j+1+i by omega];exact d i x (by simpa using b)
theorem ag6{P:List aj}{ks:List Int}{xs:List af}{e:af}(h:kdE ks xs=some e):VOk P e/\vld e=true:=by
 unfold kdE at h;cases d:opE xs with
 | some e'=>
  rw[d]at h;cases h
  obtain⟨a,b,c⟩:=E5 (P:=P) xs 0 d;exact⟨a,b⟩
 | none=>
  rw[d]at h;rcases NY ks xs 0 with f | ⟨f,_⟩
  ·have h:fQ (kdQ ks) 0 xs=some e:=h;rw[f]at h;cases h
   exact bD (by omega) (by omega)
  ·have h:fQ (kdQ ks) 0 xs=some e:=h;rw[f]at h;cases h
theorem Xn{ks:List Int}{xs:List af}(hlen:ks.length=xs.length)(h:kdE ks xs=none):(∀x,x∈xs->vld x=true)/\∀(i:Nat) (x:af) (k:Int),xs[i]?=some x->ks[i]?=some k->x.kind=k:=by
 unfold kdE at h;cases a:opE xs with
 | some e'=>rw[a]at h;cases h
 | none=>
  rw[a]at h;have h:fQ (kdQ ks) 0 xs=none:=h;refine⟨λx b=>(zZ xs 0 a x b).1,λi x k b hk=>?_⟩;rcases NY ks xs 0 with c | ⟨c,d⟩
  ·rw[c]at h;cases h
  ·have:=d i x b;rw[this,zE,Nat.zero_add,hk];rfl
theorem qN{P:List aj}(ks:List Int){xs:List af}{F G:af×Bool->Option af}(h:bZ B20 (.list (.base .val) xs))(hlen:ks.length=xs.length)
  (b:∀e,F (e,true)=some e) (c:∀e,G (e,true)=some e) (d:(∀x,x∈xs->vld x=true)->(∀(i:Nat) (x:af) (k:Int),xs[i]?=some x->ks[i]?=some k->x.kind=k)->Al P (F (zV,false)) (G (zV,false))) :
  Al P ((fB ks xs).bind F) ((jk xs ks).bind G):=by
 rw[ahf ks xs h hlen,agq ks xs h hlen,zA,zA];cases a:kdE ks xs with
 | some e=>exact⟨e,b e,c e,ag6 a⟩
 | none=>exact d (Xn hlen a).1 (Xn hlen a).2
theorem Gi:∀(l:List af) (s B:Int),oI l s<=B↔s<=B/\∀x,x∈l->dep x<=B
 | [],s,B=>by simp[oI]
 | x::r,s,B=>by
  simp only[oI,Gi r,ba,forall_eq_or_imp];by_cases h:dep x>s
  ·rw[if_pos h];exact⟨λ⟨a,b⟩=>⟨by omega,a,b⟩,λ⟨a,b,c⟩=>⟨b,c⟩⟩
  ·rw[if_neg h];exact⟨λ⟨a,b⟩=>⟨a,by omega,b⟩,λ⟨a,b,c⟩=>⟨a,c⟩⟩
theorem VB:∀(l:List af) (s:Int),s<=oI l s
 | [],s=>by simp[oI]
 | x::r,s=>by
  simp only[oI];have:=VB r (if dep x>s then dep x else s);split at this<;>(have a:=this;rename_i h;first | omega | (simp only[h,if_true,if_false]at this ⊢;omega))
theorem rq(l:List af):JD l=true↔∀x,x∈l->elB x=true/\vld x=true:=by
 rw[Ei,List.all_eq_true];exact forall_congr' λx=>by rw[zI]
theorem k12:((2:Int)==1)=false:=rfl
theorem k31:((3:Int)==1)=false:=rfl
theorem k32:((3:Int)==2)=false:=rfl
theorem k34:((3:Int)==4)=false:=rfl
theorem k36:((3:Int)==6)=false:=rfl
theorem k35:((3:Int)==5)=false:=rfl
theorem k41:((4:Int)==1)=false:=rfl
theorem k42:((4:Int)==2)=false:=rfl
theorem k51:((5:Int)==1)=false:=rfl
theorem k52:((5:Int)==2)=false:=rfl
theorem k54:((5:Int)==4)=false:=rfl
theorem k56:((5:Int)==6)=false:=rfl
theorem SV{v:af}(h:vld v=true)(hk:v.kind=1):v=lX v.n/\nB v.n=true:=by
 obtain⟨k,n,st,t,l,c,r⟩:=v;simp only at hk;subst hk;simp only[vld,beq_self_eq_true,ab,zI,List.isEmpty_iff,beq_iff_eq]at h;obtain⟨rfl,rfl,rfl,rfl,rfl,h⟩:=h;exact⟨rfl,h⟩
theorem tX{v:af}(h:vld v=true)(hk:v.kind=2):v=C9 v.text/\txB v.text=true:=by
 obtain⟨k,n,st,t,l,c,r⟩:=v;simp only at hk;subst hk;simp only[vld,k12,beq_self_eq_true,ab,aa,zI,List.isEmpty_iff,beq_iff_eq]at h;obtain⟨rfl,rfl,rfl,rfl,rfl,h⟩:=h;exact⟨rfl,h⟩
def JE(n st:Int):af:=⟨4,n,st,[],[],[],[]⟩
theorem aal{v:af}(h:vld v=true)(hk:v.kind=4):v=JE v.n v.step/\nB v.n=true/\nB v.step=true:=by
 obtain⟨k,n,st,t,l,c,r⟩:=v;simp only at hk;subst hk;simp only[vld,k41,k42,beq_self_eq_true,ab,aa,zI,List.isEmpty_iff,beq_iff_eq]at h;obtain⟨rfl,rfl,rfl,rfl,h⟩:=h;exact⟨rfl,h⟩
def tK(c:List Str)(r:List aB):af:=⟨5,0,0,[],[],c,r⟩
theorem tY{v:af}(h:vld v=true)(hk:v.kind=5):v=tK v.columns v.rows/\tbB v.columns v.rows=true:=by
 obtain⟨k,n,st,t,l,c,r⟩:=v;simp only at hk;subst hk;simp only[vld,k51,k52,k54,k56,beq_self_eq_true,ab,aa,zI,List.isEmpty_iff,beq_iff_eq]at h;obtain⟨rfl,rfl,rfl,rfl,h⟩:=h;exact⟨rfl,h⟩
theorem AY(c:List Str)(r:List aB):vld (tK c r)=tbB c r:=by
 simp only[tK,vld,k51,k52,k54,k56,beq_self_eq_true,ab,aa,List.isEmpty_nil,Bool.true_and]
theorem af0(n st:Int):vld (JE n st)=(nB n&&nB st):=by
 simp only[JE,vld,k41,k42,beq_self_eq_true,ab,aa,List.isEmpty_nil,Bool.true_and]
def nT(l:List af):af:=⟨3,0,0,[],l,[],[]⟩
theorem kD{v:af}(h:vld v=true)(hk:v.kind=3):v=nT v.list/\JD v.list=true/\(v.list.length:Int)<=8/\w64 (oI v.list 0+1)<=3:=by
 obtain⟨k,n,st,t,l,c,r⟩:=v;simp only at hk;subst hk;simp only[vld,k31,k32,k34,k35,k36,beq_self_eq_true,ab,aa,zI,List.isEmpty_iff,beq_iff_eq,decide_eq_true_eq]at h;obtain⟨a,rfl,rfl,rfl,rfl,rfl,b,d⟩:=h;exact⟨rfl,a,b,d⟩
theorem aaM(l:List af):vld (nT l)=(JD l&&(decide ((l.length:Int)<=8)&&decide (w64 (oI l 0+1)<=3))):=by
 simp only[nT,vld,k31,k32,k34,k35,k36,beq_self_eq_true,ab,aa,List.isEmpty_nil,Bool.true_and]
theorem Yu{v:af}(h:vld v=true)(hk:v.kind≠3):v.list=[]:=by
 obtain⟨k,n,st,t,l,c,r⟩:=v;have a:(k==3)=false:=by simpa using hk
 simp only[vld,a,aa]at h;show l=[]
 cases l with
 | nil=>rfl
 | cons x l=>
  simp only[List.isEmpty_cons,Bool.false_and,Bool.and_false]at h;revert h;cases (k==1)<;>cases (k==2)<;>cases (k==4)<;>cases (k==6)<;>cases (k==5)<;>simp
theorem aan:∀(n:Nat) (v:af),siz v<n->vld v=true->1<=dep v/\dep v<=3
 | 0,v,a,_=>absurd a (Nat.not_lt_zero _)
 | n+1,v,a,h=>by
  rw[AL];by_cases hk:v.kind=3
  ·obtain⟨_,c,_,d⟩:=kD h hk;have e:oI v.list 0<=3:=(Gi _ _ _).2 ⟨by omega,λx b=>(aan n x (by have:=qI b;have:=lC (v:=v);omega) ((rq _).1 c x b).2).2⟩;have f:=VB v.list 0;rw[bQ (by omega) (by omega)]at d ⊢;omega
  ·rw[Yu h hk];simp only[oI];decide
theorem uw(l:List af):vld (nT l)=true↔(∀x,x∈l->elB x=true/\vld x=true/\dep x<=2)/\(l.length:Int)<=8:=by
 rw[aaM,zI,zI,decide_eq_true_eq,decide_eq_true_eq,rq];have f:=VB l 0;constructor
 ·rintro⟨b,c,d⟩;have e:oI l 0<=3:=(Gi _ _ _).2 ⟨by omega,λx a=>(aan _ x (Nat.lt_succ_self _) (b x a).2).2⟩;rw[bQ (by omega) (by omega)]at d;have:=(Gi l 0 2).1 (by omega);exact⟨λx a=>⟨(b x a).1,(b x a).2,this.2 x a⟩,c⟩
 ·rintro⟨b,c⟩;have e:oI l 0<=2:=(Gi _ _ _).2 ⟨by omega,λx a=>(b x a).2.2⟩;refine⟨λx a=>⟨(b x a).1,(b x a).2.1⟩,c,?_⟩;rw[bQ (by omega) (by omega)];omega
theorem Iu{P:List aj}{l:List af}(b:(l.length:Int)<=1048576)(h:∀x,x∈l->VOk P x):VOk P (nT l):=
 ⟨dK.2 ⟨nU (dL (by simp[nT]) (by simp[nT])),nU (dL (by simp[nT]) (by simp[nT])),nU (dL (by simp[nT]) (by simp[nT])),qm,dh b λx a=>(h x a).fit,pU,pU⟩,.mk (λr c=>by cases c) λx a=>(h x a).org⟩
theorem VOk.mem{P:List aj}{v:af}(h:VOk P v){x:af}(a:x∈v.list):VOk P x:=by
 obtain⟨f,o⟩:=h;obtain⟨_,_,_,_,c4,_,_⟩:=dK.1 f;cases o with
 | mk _ b=>exact⟨c4.dB x a,b x a⟩
theorem aas{P:List aj}{n st:Int}(c:nB n=true)(d:nB st=true):VOk P (JE n st)/\vld (JE n st)=true:=by
 have a:=c;have b:=d;unfold nB at a b;simp only[zI,decide_eq_true_eq]at a b;refine⟨⟨dK.2 ⟨nU (dL (by simp[JE]) (by simp[JE])),nU (dL a.1 a.2),nU (dL b.1 b.2),qm,pU,pU,pU⟩,Bo⟩,?_⟩;rw[af0,c,d];rfl
def Ef(n:Int):af:=bif nB n then lX n else dI 5
theorem aaZ{P:List aj}(n:Int):VOk P (Ef n)/\vld (Ef n)=true:=by
 unfold Ef;cases h:nB n with
 | true=>exact iO h
 | false=>exact bD (by omega) (by omega)
theorem aaS(n:Int):gq n=some (Ef n):=by
 unfold gq Ef;simp only[IB,zA,jY,Oj,aC];cases nB n<;>rfl
theorem Un(n:Int):eH n=some (Ef n):=by
 unfold eH Ef;simp only[Dj,zA,jX,LV,aC];cases nB n<;>rfl
def adk(b:Bool):af:=bif b then lX 1 else lX 0
theorem afV{P:List aj}(b:Bool):VOk P (adk b)/\vld (adk b)=true:=by
 cases b<;>exact iO rfl
theorem ahc(b:Bool):kH b=some (adk b):=by cases b<;>rfl
theorem agf(b:Bool):iW b=some (adk b):=by cases b<;>rfl
theorem LG{α:Type}(l:List α)(h:(l.length:Int)<=20):nB (l.length:Int)=true:=by
 unfold nB;rw[ae (by omega),ae (by omega)];rfl
theorem dZ(v:af):(some (ah v))=some v:=by rw[aC]
theorem aco{P:List aj}(a:af)(g:VOk P a):Al P (wH a) (vJ a):=by
 unfold wH vJ;rw[aC];refine UF (akq g.fit) (λe=>dZ e) (λe=>dZ e) λb=>?_
 obtain⟨b,_⟩:=b a (List.mem_singleton.2 rfl);simp only[zV,aa,jY,jX,Oj,LV,zA,aC];by_cases c:a.kind=3
 ·obtain⟨_,_,d,_⟩:=kD b c;rw[c];exact⟨_,rfl,rfl,iO (LG _ (by omega))⟩
 have h:(a.kind==3)=false:=by simpa using c
 by_cases f:a.kind=2
 ·obtain⟨_,d⟩:=tX b f;unfold txB at d;rw[zI,decide_eq_true_eq]at d;rw[f];exact⟨_,rfl,rfl,iO (LG _ (by omega))⟩
 have i:(a.kind==2)=false:=by simpa using f
 rw[h,i];exact sW (by omega) (by omega)
theorem afa{a b:af}:a∈[a,b]:=by simp
theorem abA{a b:af}:b∈[a,b]:=by simp
theorem OD(xs:List af)(h:bZ B20 (.list (.base .val) xs)):kK xs=some xs:=(sO (siz xs+1)).2 xs (Nat.lt_succ_self _) h
theorem U8(xs:List af)(h:bZ B20 (.list (.base .val) xs)):oC xs=some (nT xs):=by
 unfold oC;rw[OD xs h];rfl
theorem TQ(xs:List af)(h:bZ B20 (.list (.base .val) xs)):jd xs=some (nT xs):=by
 have l:=bT h;unfold jd;refine yC (λ(s:List af) (i:Nat)=>((xs,0,0,0,[],[],[],[],3,0,0,[],s,[],[],(i:Int)):(List af)×Int×Int×Int×Str×(List af)×(List Str)×(List aB)×Int×Int×Int×Str×(List af)×(List Str)×(List aB)×Int)) xs (some (nT xs)) (λi y a b=>?_) ?_
 ·have c:=(zC.1 a).1;simp only[dw a,ab,aQ,a,aC,zA,iJ y (h.dB y (zG a)),gd1 b c l,dW a l]
 ·simp only[bP,aa];rfl
theorem Rh:∀(xs:List af) (i:Nat),(∀x,x∈xs->vld x=true/\x.kind≠6)->fQ (λ_ v=>opQ v) i xs=none
 | [],_,_=>rfl
 | x::r,i,h=>by
  unfold fQ;obtain⟨a,b⟩:=h x (aq ..);have e:(x.kind==6)=false:=by simpa using b
  have:opQ x=none:=by unfold opQ;rw[a,e];rfl
  rw[this];exact Rh r (i+1) λy c=>h y (ao _ c)
def Cc(n:Int)(v:af):af:=bif decide (n<0)then dI 5 else bif v.kind==3 then (match v.list[n.toNat]? with | some x=>x | none=>dI 5)else Ef (w64 (v.n+(w64 (n*v.step))))
theorem aaL{P:List aj}(n:Int)(v:af)(d:VOk P v)(h:vld v=true):VOk P (Cc n v)/\vld (Cc n v)=true:=by
 unfold Cc;cases decide (n<0)with
 | true=>exact bD (by omega) (by omega)
 | false=>
  by_cases a:v.kind=3
  ·have b:(v.kind==3)=true:=by simpa using a
   rw[b];simp only[aa,ab];cases e:v.list[n.toNat]? with
   | none=>exact bD (by omega) (by omega)
   | some x=>
    have c:=zG e;obtain⟨_,f,_,_⟩:=kD h a;exact⟨d.mem c,((rq _).1 f x c).2⟩
  ·have b:(v.kind==3)=false:=by simpa using a
   rw[b];exact aaZ _
theorem KG{P:List aj}(a b:af)(d:VOk P a)(e:VOk P b)(F:af×Bool->Option af)
  (va:vld a=true) (vb:vld b=true) (f:a.kind=1) (c:b.kind=3\/b.kind=4):(gU a b).bind F=F (dI 4,false)/\(uf a b).bind F=F (zV,false):=by
 have g:opE [a,b]=none:=Rh _ 0 (by
  simp only[ba,List.not_mem_nil,or_false];rintro x (rfl | rfl)
  ·exact⟨va,by omega⟩
  ·exact⟨vb,by omega⟩)
 unfold gU uf;rw[aC,aC,FK _ (Vt d.fit e.fit),EG _ (Vt d.fit e.fit),zA,zA,g];simp only[opR,aa,jY,jX,zA,aC,bne];have h:(a.kind==1)=true:=by simpa using f
 rw[h];rcases c with c | c
 ·rw[c];exact⟨rfl,rfl⟩
 ·rw[c];exact⟨rfl,rfl⟩
theorem toNat_eq{n:Int}(h:¬n<0):((n.toNat:Nat):Int)=n:=Int.toNat_of_nonneg (by omega)
theorem Ol{P:List aj}(a b:af)(g:VOk P a)(e:VOk P b)(va:vld a=true)(vb:vld b=true)(h:a.kind=1)(i:b.kind=3\/b.kind=4):yh a b=some (Cc a.n b):=by
 unfold yh Cc;rw[aC,aC,(KG a b g e _ va vb h i).1];simp only[aa,jY,zA,aC,aaS];by_cases c:a.n<0
 ·rw[ae c];rfl
 ·rw[ac c];simp only[aa];cases (b.kind==3)with
  | false=>rfl
  | true=>
   simp only[ab];by_cases f:a.n>=(b.list.length:Int)
   ·rw[ae f,zJ (by omega)];rfl
   ·rw[ac f];have d:b.list[a.n.toNat]?=some b.list[a.n.toNat]:=zF (by omega);have j:idx b.list a.n=some b.list[a.n.toNat]:=by
     have:=aQ b.list a.n.toNat;rw[toNat_eq c]at this;rw[this,d]
    simp only[aa,j,d,zA,fH _ (e.mem (zG d)).fit]
theorem EH{P:List aj}(a b:af)(g:VOk P a)(e:VOk P b)(va:vld a=true)(vb:vld b=true)(h:a.kind=1)(i:b.kind=3\/b.kind=4):uO a b=some (Cc a.n b):=by
 unfold uO Cc;rw[aC,aC,(KG a b g e _ va vb h i).2];simp only[aa,jX,zA,aC,Un];by_cases c:a.n<0
 ·rw[ae c];rfl
 ·rw[ac c];simp only[aa];cases (b.kind==3)with
  | false=>rfl
  | true=>
   simp only[ab];by_cases f:a.n>=(b.list.length:Int)
   ·rw[ae f,zJ (by omega)];rfl
   ·rw[ac f];have d:b.list[a.n.toNat]?=some b.list[a.n.toNat]:=zF (by omega);have j:idx b.list a.n=some b.list[a.n.toNat]:=by
     have:=aQ b.list a.n.toNat;rw[toNat_eq c]at this;rw[this,d]
    simp only[aa,j,d,zA,iJ _ (e.mem (zG d)).fit]
theorem Ns{P:List aj}(a b:af)(d:VOk P a)(f:VOk P b){F G:af×Bool->Option af}
  (g:∀e,F (e,true)=some e) (i:∀e,G (e,true)=some e)
  (p:vld a=true->vld b=true->a.kind=1->(b.kind=3\/b.kind=4)->Al P (F (dI 4,false)) (G (zV,false))) :
  Al P ((gU a b).bind F) ((uf a b).bind G):=by
 by_cases hk:vld a=true/\vld b=true/\a.kind=1/\(b.kind=3\/b.kind=4)
 ·obtain⟨c,j,k,l⟩:=hk;rw[(KG a b d f F c j k l).1,(KG a b d f G c j k l).2];exact p c j k l
 ·unfold gU uf;rw[aC,aC,FK _ (Vt d.fit f.fit),EG _ (Vt d.fit f.fit),zA,zA];cases n:opE [a,b]with
  | some e=>
   obtain⟨x,y,z⟩:=E5 (P:=P) _ 0 n;refine⟨e,?_,?_,x,y⟩
   ·simp only[opR,ab,aC,zA,g]
   ·simp only[opR,ab,aC,zA,i]
  | none=>
   have o:=zZ _ 0 n;have va:=(o a afa).1;have vb:=(o b abA).1;simp only[opR,aa,jY,jX,zA,aC,bne];by_cases c:a.kind=1
   ·have m:(a.kind==1)=true:=by simpa using c
    have q:(b.kind==3)=false:=by simpa using λh=>hk ⟨va,vb,c,.inl h⟩
    have r:(b.kind==4)=false:=by simpa using λh=>hk ⟨va,vb,c,.inr h⟩
    rw[m,q,r];simp only[aL,Bool.not_false,ab,aa,zA,g,i];exact sW (by omega) (by omega)
   ·have m:(a.kind==1)=false:=by simpa using c
    rw[m];simp only[Bool.not_false,ab,zA,g,i];exact sW (by omega) (by omega)
theorem aj6{P:List aj}(a b:af)(i:VOk P a)(d:VOk P b):Al P (yh a b) (uO a b):=by
 by_cases hk:vld a=true/\vld b=true/\a.kind=1/\(b.kind=3\/b.kind=4)
 ·obtain⟨f,c,g,h⟩:=hk;exact⟨_,Ol a b i d f c g h,EH a b i d f c g h,aaL _ _ d c⟩
 ·unfold yh uO;rw[aC,aC];exact Ns a b i d (λe=>dZ e) (λe=>dZ e) λf c g h=>absurd ⟨f,c,g,h⟩ hk
theorem nthL{v:af}(a:v.kind=3){i:Nat}{x:af}(b:v.list[i]?=some x):Cc (i:Int) v=x:=by
 unfold Cc;rw[ac (by omega),a];simp only[aa,beq_self_eq_true,ab,aw,b]
theorem aar{l l':List af}(h:vld (nT l)=true)(a:∀x,x∈l'->x∈l)(d:l'.length<=l.length):vld (nT l')=true:=by
 obtain⟨b,e⟩:=(uw l).1 h;exact (uw l').2 ⟨λx c=>b x (a x c),by omega⟩
theorem Rt(n:Int):((lX n).kind==6)=false:=rfl
theorem ahy{X ρ:Type}{g:X->Option (X⊕ρ)}(pk:Nat->X)(n:Nat)(res:ρ)(I:Nat->Prop)(c:I 0)
  (d:∀i,i<n->I i->(g (pk i)=some (.inl (pk (i+1)))/\I (i+1))\/g (pk i)=some (.inr res)) (e:I n->g (pk n)=some (.inr res)):aO g (pk 0)=some res:=by
 have key:∀(k i:Nat),n=i+k->I i->aO g (pk i)=some res:=by
  intro k;induction k with
  | zero=>
   intro i f a;have:n=i:=by omega
   subst this;rw[aX,e a]
  | succ k ih=>
   intro i f a;rw[aX];rcases d i (by omega) a with ⟨h,b⟩ | h
   ·rw[h];exact ih (i+1) (by omega) b
   ·rw[h]
 exact key n 0 (by omega) c
theorem afY{P:List aj}(a b:af)(H:VOk P a)(g:VOk P b):Al P (FD a b) (ED a b):=by
 unfold FD ED;rw[aC,aC];refine Ns a b H g (λe=>dZ e) (λe=>dZ e) λva vb N d=>?_
 simp only[aa,oz,vK,zA,jY,jX,Oj,LV,aC,dZ];by_cases t:0<=a.n/\a.n<=8
 case neg=>
  have:(decide (0<=a.n)&&decide (a.n<=8))=false:=by
   rw[Bool.and_eq_false_iff,decide_eq_false_iff_not,decide_eq_false_iff_not];omega
  rw[this]
  exact sW (by omega) (by omega)
 obtain⟨n,F⟩:∃n:Nat,a.n=(n:Int):=⟨a.n.toNat,(toNat_eq (by omega)).symm⟩;rw[ae t.1,ae t.2,F];simp only[Bool.and_self,aL,aa];rw[F]at t;rcases d with d | d
 ·obtain⟨l,u,v,I⟩:=kD vb d;have o:vld (nT b.list)=true:=by rw[<- l];exact vb
  rw[d];simp only[beq_self_eq_true,ab];have q:eff.cutL b.list none (some (if (b.list.length:Int)<(n:Int)then (b.list.length:Int)else (n:Int)))=some (b.list.take n):=by
   by_cases hc:(b.list.length:Int)<(n:Int)
   ·rw[if_pos hc,X6 _ _ (ar _),List.take_length,List.take_of_length_le (by omega)]
   ·rw[if_neg hc,X6 _ _ (by omega)]
  have hmem:∀x,x∈b.list.take n->x∈b.list:=λx c=>List.mem_of_mem_take c
  have hlen:(b.list.take n).length<=b.list.length:=by rw[a8];omega
  rw[q,zA,U8 _ (dh (by omega) λx c=>(g.mem (hmem x c)).fit),zA];refine⟨nT (b.list.take n),rfl,?_,Iu (by omega) λx c=>g.mem (hmem x c),aar o hmem hlen⟩;refine ahy (λi=>(a.kind,(n:Int),a.step,a.text,a.list,a.columns,a.rows,(3:Int),b.n,b.step,b.text,b.list,b.columns,b.rows,(0:Int),(0:Int),(0:Int),([]:Str),([]:List af),([]:List Str),([]:List aB),(3:Int),(0:Int),(0:Int),([]:Str),b.list.take i,([]:List Str),([]:List aB),(i:Int))) n (nT (b.list.take n)) (λi=>i<=b.list.length) (Nat.zero_le _) (λi q w=>?_) (λw=>?_)
  ·have z:decide ((i:Int)<(n:Int))=true:=by simp;omega
   simp only[z,ab];by_cases hc:i=b.list.length
   ·subst hc;simp only[beq_self_eq_true,ab,List.take_length];rw[List.take_of_length_le (show b.list.length<=n by omega)];exact .inr rfl
   ·have J:((i:Int)==(b.list.length:Int))=false:=by simp;omega
    have c:b.list[i]?=some b.list[i]:=zF (by omega);have h:(af.mk 3 b.n b.step b.text b.list b.columns b.rows)=b:=by cases b;simp only at d;rw[d]
    have f:=iO (P:=P) (n:=(i:Int)) (by unfold nB;rw[ae (by omega),ae (by omega)];rfl);have p:=EH (lX (i:Int)) b f.1 g f.2 vb rfl (.inl d);have A:=((uw _).1 o).1 _ (zG c);have K:((b.list[i]).kind==6)=false:=by
     have:=A.1;unfold elB at this;simp only[Bool.or_eq_true,beq_iff_eq]at this;simp only[beq_eq_false_iff_ne];omega
    rw[show (lX (i:Int)).n=(i:Int)from rfl,nthL d c]at p;have r:w64 ((i:Int)+1)=((i+1:Nat):Int):=by rw[bQ (by omega) (by omega)];rfl
    simp only[J,aa,h,p,zA,K,r];rw[bK (by rw[a8];simp;omega),zA,<- take_snoc c];exact .inl ⟨rfl,by omega⟩
  ·simp only[Int.lt_irrefl,decide_false,aa];rfl
 ·obtain⟨l,u,v⟩:=aal vb d;rw[d];simp only[show ((4:Int)==3)=false from rfl,aa];have h:(af.mk 4 b.n b.step b.text b.list b.columns b.rows)=b:=by cases b;simp only at d;rw[d]
  refine jP (λ(s:List af) (i:Nat)=>(a.kind,(n:Int),a.step,a.text,a.list,a.columns,a.rows,(4:Int),b.n,b.step,b.text,b.list,b.columns,b.rows,(0:Int),(0:Int),(0:Int),([]:Str),([]:List af),([]:List Str),([]:List aB),(3:Int),(0:Int),(0:Int),([]:Str),s,([]:List Str),([]:List aB),(i:Int)))
   (λ(s:List af) (i:Nat)=>(a.kind,(n:Int),a.step,a.text,a.list,a.columns,a.rows,(4:Int),b.n,b.step,b.text,b.list,b.columns,b.rows,(0:Int),(0:Int),(0:Int),([]:Str),([]:List af),([]:List Str),([]:List aB),(3:Int),(0:Int),(0:Int),([]:Str),s,([]:List Str),([]:List aB),(i:Int)))
   (List.replicate n ()) (λi s=>s.length=i/\∀x,x∈s->∃m,x=lX m/\nB m=true) _ (λi x s c j=>?_) (λs j=>?_) [] ⟨rfl,λx c=>by cases c⟩
  ·have q:=(zC.1 c).1;rw[List.length_replicate]at q;have z:decide ((i:Int)<(n:Int))=true:=by simp;omega
   have f:=iO (P:=P) (n:=(i:Int)) (by unfold nB;rw[ae (by omega),ae (by omega)];rfl);have B:=Ol (lX (i:Int)) b f.1 g f.2 vb rfl (.inr d);have C:=EH (lX (i:Int)) b f.1 g f.2 vb rfl (.inr d);have L:=aaL (P:=P) (i:Int) b g vb;have D:gd (s.length+[Cc (i:Int) b].length)=some ():=bK (by rw[j.1];simp;omega);simp only[z,ab,h,B,C,show (lX (i:Int)).n=(i:Int)from rfl,zA];have r:w64 ((i:Int)+1)=((i+1:Nat):Int):=by rw[bQ (by omega) (by omega)];rfl
   have G:Cc (i:Int) b=Ef (w64 (b.n+w64 ((i:Int)*b.step))):=by
    unfold Cc;rw[ac (by omega),d];rfl
   cases hk:nB (w64 (b.n+w64 ((i:Int)*b.step)))with
   | false=>
    have:Cc (i:Int) b=dI 5:=by rw[G];unfold Ef;rw[hk];rfl
    rw[this];exact .inr ⟨_,rfl,rfl,bD (by omega) (by omega)⟩
   | true=>
    have M:Cc (i:Int) b=lX (w64 (b.n+w64 ((i:Int)*b.step))):=by rw[G];unfold Ef;rw[hk];rfl
    rw[M]at D ⊢;refine .inl ⟨s++[lX (w64 (b.n+w64 ((i:Int)*b.step)))],?_,?_,by simp[j.1],λy k=>?_⟩
    ·simp only[Rt,aa,D,zA,r]
    ·simp only[Rt,aa,D,zA,r];rfl
    ·rcases List.mem_append.1 k with k | k
     ·exact j.2 y k
     ·rw[List.mem_singleton]at k;exact⟨_,k,hk⟩
  ·rw[List.length_replicate]at j ⊢;refine⟨nT s,by simp only[Int.lt_irrefl,decide_false,aa];rfl,by simp only[Int.lt_irrefl,decide_false,aa];rfl,Iu (by omega) λx c=>?_,(uw s).2 ⟨λx c=>?_,by omega⟩⟩
   ·obtain⟨m,rfl,E⟩:=j.2 x c;exact (iO E).1
   ·obtain⟨m,rfl,E⟩:=j.2 x c;exact⟨rfl,(iO (P:=P) E).2,by rw[AL];simp only[lX,oI];decide⟩
theorem ali(a b:Int):nH a b=some (JE a b):=rfl
theorem akT(a b:Int):kQ a b=some (JE a b):=rfl
theorem af6{P:List aj}(a b:af)(k:VOk P a)(d:VOk P b):Al P (FH a b) (EF a b):=by
 unfold FH EF;rw[aC,aC];refine Ns a b k d (λe=>dZ e) (λe=>dZ e) λva vb p c=>?_
 simp only[aa,zA,jY,jX,aC];by_cases q:a.n<0
 ·rw[ae q];exact sW (by omega) (by omega)
 obtain⟨n,t⟩:∃n:Nat,a.n=(n:Int):=⟨a.n.toNat,(toNat_eq q).symm⟩;have r:decide ((n:Int)<0)=false:=by simp
 have f:=Ol a b k d va vb p c;have g:=EH a b k d va vb p c;rw[t]at f g ⊢;rw[r];simp only[aa];rcases c with c | c
 ·obtain⟨h,l,i,u⟩:=kD vb c;have o:vld (nT b.list)=true:=by rw[<- h];exact vb
  rw[c];simp only[beq_self_eq_true,ab];obtain⟨m,v,hmin,hmin2⟩:∃m:Nat,m<=b.list.length/\(if (b.list.length:Int)<(n:Int)then (b.list.length:Int)else (n:Int))=(m:Int)/\Ug (n:Int) (b.list.length:Int)=some (m:Int):=by
   unfold Ug;by_cases hc:(b.list.length:Int)<(n:Int)
   ·exact⟨b.list.length,ar _,by rw[if_pos hc],by rw[ac (by omega)];rfl⟩
   ·refine⟨n,by omega,by rw[if_neg hc],?_⟩;by_cases s:(n:Int)<(b.list.length:Int)
    ·rw[ae s];rfl
    ·rw[ac s];show some _=some _
     congr 1;omega
  have hmem:∀x,x∈b.list.drop m->x∈b.list:=λx j=>List.mem_of_mem_drop j
  have hlen:(b.list.drop m).length<=b.list.length:=by rw[List.length_drop];omega
  have hf:bZ B20 (.list (.base .val) (b.list.drop m)):=dh (by omega) λx j=>(d.mem (hmem x j)).fit
  rw[hmin,hmin2,zA,acQ _ m v,zA,zA,U8 _ hf,TQ _ hf];exact⟨_,rfl,rfl,Iu (by omega) λx j=>d.mem (hmem x j),aar o hmem hlen⟩
 ·obtain⟨h,l,i⟩:=aal vb c;rw[c];simp only[show ((4:Int)==3)=false from rfl,aa,f,g,zA,ali,akT];have w:Cc (n:Int) b=Ef (w64 (b.n+w64 ((n:Int)*b.step))):=by
   unfold Cc;rw[r,c];rfl
  rw[w];unfold Ef;cases hk:nB (w64 (b.n+w64 ((n:Int)*b.step)))with
  | false=>exact⟨_,rfl,rfl,bD (by omega) (by omega)⟩
  | true=>exact⟨_,rfl,rfl,aas hk i⟩
theorem ajF{P:List aj}(a:af)(g:VOk P a):Al P (Ob a) (LJ a):=by
 unfold Ob LJ;rw[aC];refine UF (akq g.fit) (λe=>dZ e) (λe=>dZ e) λb=>?_
 obtain⟨b,_⟩:=b a (List.mem_singleton.2 rfl);simp only[zV,aa,jY,jX,LV,zA,aC,bne];by_cases c:a.kind=3
 case neg=>
  have h:(a.kind==3)=false:=by simpa using c
  rw[h]
  exact sW (by omega) (by omega)
 obtain⟨j,k,l,m⟩:=kD b c;rw[c];simp only[beq_self_eq_true,aL,aa];refine jP (λ(s:Int) (i:Nat)=>((0:Int),(0:Int),(0:Int),([]:Str),([]:List af),([]:List Str),([]:List aB),s,a.list,(a.list.length:Int),(i:Int)))
  (λ(s:Int) (i:Nat)=>((3:Int),a.n,a.step,a.text,a.list,a.columns,a.rows,(0:Int),(0:Int),(0:Int),([]:Str),([]:List af),([]:List Str),([]:List aB),(1:Int),s,(0:Int),([]:Str),([]:List af),([]:List Str),([]:List aB),(i:Int)))
  a.list (λi s=>nB s=true) _ (λi x s d f=>?_) (λs f=>?_) 0 rfl
 ·simp only[dw d,ab,aQ,d,zA,IB,Un,dW d (by omega)];cases hk:(x.kind==1)with
  | false=>exact .inr ⟨_,rfl,rfl,bD (by omega) (by omega)⟩
  | true=>
   simp only[aL,aa];unfold Ef;cases o:nB (w64 (s+x.n))with
   | false=>exact .inr ⟨_,rfl,rfl,bD (by omega) (by omega)⟩
   | true=>exact .inl ⟨w64 (s+x.n),rfl,rfl,o⟩
 ·simp only[bP,aa,Oj];exact⟨_,rfl,rfl,iO f⟩
theorem afr{P:List aj}(a:af)(c:VOk P a):Al P (sK a) (rV a):=by
 unfold sK rV;rw[aC];refine qN [5] (akq c.fit) rfl (λe=>dZ e) (λe=>dZ e) λd hk=>?_
 have f:a.kind=5:=hk 0 a 5 rfl rfl;obtain⟨g,b⟩:=tY (d a (List.mem_singleton.2 rfl)) f;unfold tbB at b;simp only[zI,decide_eq_true_eq]at b;exact⟨_,rfl,rfl,iO (LG _ (by omega))⟩
theorem alk{ρ:Type}{A B:Option ρ}(h:∃r,A=some r/\B=some r/\True):∃r,A=some r/\B=some r:=h.imp λr h=>⟨h.1,h.2.1⟩
theorem VT:∀(n:Nat) (a b:af) (c:Bool),siz a<n->Fit B20 (.base .val) a->∃r,BG n a b c=some r/\pz n a b c=some r
 | 0,a,b,c,h,_=>absurd h (Nat.not_lt_zero _)
 | n+1,a,b,c,t,l=>by
  have ih:=VT n;rw[dK]at l;obtain⟨_,_,_,_,c4,m,o⟩:=l;have e:=lI (bT c4);have f:=lI (bT o);show ∃r,Vg (BG n) a b c=some r/\y9 (pz n) a b c=some r
  unfold Vg y9;rw[Oe _ _ (lI (bT m)),Jd _ _ (lI (bT m)),zA,zA];simp only[Gu,uK,jF];cases eqd a.kind b.kind with
  | false=>exact⟨_,rfl,rfl⟩
  | true=>
  cases eqd a.n b.n with
  | false=>exact⟨_,rfl,rfl⟩
  | true=>
  cases eqd a.step b.step with
  | false=>exact⟨_,rfl,rfl⟩
  | true=>
  cases eqd a.text b.text with
  | false=>exact⟨_,rfl,rfl⟩
  | true=>
  simp only[ab];by_cases u:a.list.length=b.list.length
  case neg=>
   rw[iF (show ¬((a.list.length:Int)=(b.list.length:Int)) by omega)]
   cases eqd a.columns b.columns<;>exact⟨_,rfl,rfl⟩
  rw[gV (show (a.list.length:Int)=(b.list.length:Int) by omega)];cases eqd a.columns b.columns with
  | false=>exact⟨_,rfl,rfl⟩
  | true=>
  simp only[ab];by_cases w:a.rows.length=b.rows.length
  case neg=>
   rw[iF (show ¬((a.rows.length:Int)=(b.rows.length:Int)) by omega)]
   exact⟨_,rfl,rfl⟩
  rw[gV (show (a.rows.length:Int)=(b.rows.length:Int) by omega)];simp only[ab];refine alk (jP (λ(_:Unit) (i:Nat)=>(c,a.kind,a.n,a.step,a.text,a.list,a.columns,a.rows,b.kind,b.n,b.step,b.text,b.list,b.columns,b.rows,(a.list.length:Int),(i:Int)))
   (λ(_:Unit) (i:Nat)=>(c,a.kind,a.n,a.step,a.text,a.list,a.columns,a.rows,b.kind,b.n,b.step,b.text,b.list,b.columns,b.rows,(i:Int))) a.list (λ_ _=>True) (λ_:Bool=>True) (λi x s d g=>?_) (λs g=>?_) () trivial)
  ·have j:=(zC.1 d).1;obtain⟨y,k⟩:∃y,b.list[i]?=some y:=⟨_,zF (by omega)⟩;obtain⟨r,p,q⟩:=ih x y c (by have:=qI (zG d);have:=lC (v:=a);omega) (c4.dB x (zG d));simp only[dw d,ab,aQ,d,k,zA,aC,p,q,ji j e,jF];cases r with
   | false=>exact .inr ⟨_,rfl,rfl,trivial⟩
   | true=>exact .inl ⟨(),rfl,rfl,trivial⟩
  ·simp only[dQ,aa];refine aa5 (jP (λ(_:Unit) (i:Nat)=>(c,a.kind,a.n,a.step,a.text,a.list,a.columns,a.rows,b.kind,b.n,b.step,b.text,b.list,b.columns,b.rows,(a.rows.length:Int),(i:Int)))
    (λ(_:Unit) (i:Nat)=>(c,a.kind,a.n,a.step,a.text,a.list,a.columns,a.rows,b.kind,b.n,b.step,b.text,b.list,b.columns,b.rows,(i:Int))) a.rows (λ_ _=>True) (λ_:Bool=>True) (λi x s d g=>?_) (λs g=>?_) () trivial)
   ·have j:=(zC.1 d).1;obtain⟨y,k⟩:∃y,b.rows[i]?=some y:=⟨_,zF (by omega)⟩;have hf:=o.dB x (zG d);rw[iy]at hf;simp only[dw d,ab,aQ,d,k,zA,Xv _ _ (lI (bT hf.1)),Md _ _ (lI (bT hf.1)),Og _ _ (lI (bT hf.2)),CJ _ _ (lI (bT hf.2)),ji j f,jF];cases eqd x.cells y.cells with
    | false=>exact .inr ⟨_,rfl,rfl,trivial⟩
    | true=>
     cases c with
     | false=>exact .inl ⟨(),rfl,rfl,trivial⟩
     | true=>
      cases eqd x.orig y.orig with
      | false=>exact .inr ⟨_,rfl,rfl,trivial⟩
      | true=>exact .inl ⟨(),rfl,rfl,trivial⟩
   ·simp only[dQ,aa];exact⟨_,rfl,rfl,trivial⟩
theorem ZY(a b:af)(c:Fit B20 (.base .val) a):∃r,uG a b=some r/\pJ a b=some r:=by
 obtain⟨r,d,e⟩:=VT (siz a+siz b+1) a b false (by omega) c;refine⟨r,?_,?_⟩
 ·show (ZM (ah a) (ah b) false).bind _=_
  rw[aC,aC];show (BG (siz a+siz b+1) a b false).bind _=_
  rw[d];rfl
 ·show (EI (ah a) (ah b) false).bind _=_
  rw[aC,aC];show (pz (siz a+siz b+1) a b false).bind _=_
  rw[e];rfl
theorem ag8{X ρ:Type}(x:X)(F:X->Option ρ):lJ (some (.inl x)) F=F x:=rfl
theorem akE{P:List aj}(n:Int):Al P ((gq n).bind λr=>some (ah r)) ((eH n).bind λr=>some (ah r)):=
 ⟨Ef n,by rw[aaS,zA,aC],by rw[Un,zA,aC],aaZ n⟩
theorem afK{P:List aj}(b:Bool):Al P ((kH b).bind λr=>some (ah r)) ((iW b).bind λr=>some (ah r)):=
 ⟨adk b,by rw[ahc,zA,aC],by rw[agf,zA,aC],afV b⟩
theorem VH{P:List aj}{A B:Option af}(h:Al P A B):Al P A (B.bind λr=>some (ah r)):=by
 obtain⟨r,a,b,h⟩:=h;exact⟨r,a,by rw[b,zA,aC],h⟩
theorem Gz{P:List aj}{A B:Option af}(h:Al P A B):Al P (A.bind λr=>some (ah r)) (B.bind λr=>some (ah r)):=by
 obtain⟨r,a,b,h⟩:=h;exact⟨r,by rw[a,zA,aC],by rw[b,zA,aC],h⟩
theorem afL{P:List aj}(b c:af)(a:VOk P b):Al P ((uG b c).bind λr=>(kH r).bind λq=>some (ah q)) ((pJ b c).bind λr=>(iW r).bind λq=>some (ah q)):=by
 obtain⟨r,d,e⟩:=ZY b c a.fit;rw[d,e,zA,zA];exact afK r
theorem ahH{P:List aj}(s t:Str)(a:txB s=true)(b:txB t=true) :
  Al P (bif decide (w64 ((s.length:Int)+(t.length:Int))>20)then (aJ 6).bind λr=>some (ah r)else (gd (s.length+t.length)).bind λ_=>(sG (s++t)).bind λr=>some (ah r))
   (bif decide (w64 ((s.length:Int)+(t.length:Int))>20)then (aF 6).bind λr=>some (ah r)else (gd (s.length+t.length)).bind λ_=>(iI (s++t)).bind λr=>some (ah r)):=by
 unfold txB at a b;simp only[zI,decide_eq_true_eq]at a b;rw[bQ (by omega) (by omega)];by_cases h:(s.length:Int)+(t.length:Int)>20
 ·rw[ae h];exact⟨dI 6,rfl,rfl,bD (by omega) (by omega)⟩
 ·rw[ac h];simp only[aa,bK (show s.length+t.length<=34359738368 by omega),zA];refine⟨C9 (s++t),rfl,rfl,Ti ?_⟩;unfold txB;rw[List.all_append,a.1,b.1,ae (by rw[a6];omega)];rfl
theorem afM{P:List aj}(b c:af)(f:VOk P b)(hc:VOk P c)(vb:vld b=true)(vc:vld c=true)(kb:b.kind=3)(kc:c.kind=3) :
  Al P (bif decide (w64 ((b.list.length:Int)+(c.list.length:Int))>8)then (aJ 6).bind λr=>some (ah r)else (kK b.list).bind λg=>(kK c.list).bind λi=>(gd (g.length+i.length)).bind λ_=>some (af.mk 3 0 0 [] (g++i) [] []))
   (bif decide (w64 ((b.list.length:Int)+(c.list.length:Int))>8)then (aF 6).bind λr=>some (ah r)else (gd (0+b.list.length)).bind λ_=>(gd (([]++b.list).length+c.list.length)).bind λ_=>(jd (([]++b.list)++c.list)).bind λr=>some (ah r)):=by
 obtain⟨d,_,k,_⟩:=kD vb kb;obtain⟨e,_,l,_⟩:=kD vc kc;have lb:vld (nT b.list)=true:=by rw[<- d];exact vb
 have lc:vld (nT c.list)=true:=by rw[<- e];exact vc
 have fb:=(dK.1 f.fit).2.2.2.2.1;have fc:=(dK.1 hc.fit).2.2.2.2.1;rw[bQ (by omega) (by omega)];by_cases h:(b.list.length:Int)+(c.list.length:Int)>8
 ·rw[ae h];exact⟨dI 6,rfl,rfl,bD (by omega) (by omega)⟩
 ·rw[ac h];have j:∀x,x∈b.list++c.list->VOk P x:=λx a=>(List.mem_append.1 a).elim (λh=>f.mem h) λh=>hc.mem h
  have m:((b.list++c.list).length:Int)<=8:=by rw[a6];omega
  simp only[aa,List.nil_append,OD _ fb,OD _ fc,bK (show b.list.length+c.list.length<=34359738368 by omega),bK (show 0+b.list.length<=34359738368 by omega),zA,TQ _ (dh (show ((b.list++c.list).length:Int)<=1048576 by omega) λx a=>(j x a).fit),aC];refine⟨nT (b.list++c.list),rfl,rfl,Iu (by omega) j,(uw _).2 ⟨λx a=>?_,m⟩⟩;rcases List.mem_append.1 a with h | h
  ·exact ((uw _).1 lb).1 x h
  ·exact ((uw _).1 lc).1 x h
theorem kcls(k:Int):(k=1/\(k==1)=true/\(k==2)=false/\(k==3)=false)\/(k=2/\(k==1)=false/\(k==2)=true/\(k==3)=false)\/(k=3/\(k==1)=false/\(k==2)=false/\(k==3)=true)\/((k≠1/\k≠2/\k≠3)/\(k==1)=false/\(k==2)=false/\(k==3)=false):=by
 by_cases a:k=1
 ·subst a;exact .inl ⟨rfl,rfl,rfl,rfl⟩
 by_cases b:k=2
 ·subst b;exact .inr (.inl ⟨rfl,rfl,rfl,rfl⟩)
 by_cases c:k=3
 ·subst c;exact .inr (.inr (.inl ⟨rfl,rfl,rfl,rfl⟩))
 exact .inr (.inr (.inr ⟨⟨a,b,c⟩,by simpa using a,by simpa using b,by simpa using c⟩))
theorem akZ(k:Int):((k==1)=true/\(k==2)=false/\(k==3)=false/\(k==4)=false/\(k==5)=false)\/((k==1)=false/\(k==2)=true/\(k==3)=false/\(k==4)=false/\(k==5)=false)\/((k==1)=false/\(k==2)=false/\(k==3)=true/\(k==4)=false/\(k==5)=false) \/
  ((k==1)=false/\(k==2)=false/\(k==3)=false/\(k==4)=true/\(k==5)=false)\/((k==1)=false/\(k==2)=false/\(k==3)=false/\(k==4)=false/\(k==5)=true)\/((k==1)=false/\(k==2)=false/\(k==3)=false/\(k==4)=false/\(k==5)=false):=by
 by_cases a:k=1
 ·subst a;exact .inl ⟨rfl,rfl,rfl,rfl,rfl⟩
 by_cases b:k=2
 ·subst b;exact .inr (.inl ⟨rfl,rfl,rfl,rfl,rfl⟩)
 by_cases c:k=3
 ·subst c;exact .inr (.inr (.inl ⟨rfl,rfl,rfl,rfl,rfl⟩))
 by_cases d:k=4
 ·subst d;exact .inr (.inr (.inr (.inl ⟨rfl,rfl,rfl,rfl,rfl⟩)))
 by_cases e:k=5
 ·subst e;exact .inr (.inr (.inr (.inr (.inl ⟨rfl,rfl,rfl,rfl,rfl⟩))))
 exact .inr (.inr (.inr (.inr (.inr ⟨by simpa using a,by simpa using b,by simpa using c,by simpa using d,by simpa using e⟩))))
set_option maxHeartbeats 2000000 in
theorem ahT{P:List aj}(o:Int)(b c:af)(t:VOk P b)(hc:VOk P c):Al P (jm o b c) (iL o b c):=by
 unfold jm iL;rw[aC,aC];refine UF (Vt t.fit hc.fit) (λe=>dZ e) (λe=>dZ e) λu=>?_
 have vb:=(u b afa).1;have vc:=(u c abA).1;have tl:=λkb kc=>VH (afM b c t hc vb vc kb kc)
 have ts:=afL b c t;have tt:b.kind=2->c.kind=2->_:=λh v=>VH (ahH (P:=P) b.text c.text (tX vb h).2 (tX vc v).2)
 have ea:Al P ((aJ 4).bind λr=>some (ah r)) ((aF 4).bind λr=>some (ah r)):=⟨dI 4,rfl,rfl,bD (by omega) (by omega)⟩;have i:=λn=>akE (P:=P) n
 have j:=λn=>afK (P:=P) n
 obtain⟨kb,w,x,y,z,c1,A⟩:=b;obtain⟨kc,B,s2,C,D,c2,E⟩:=c;simp only[aC,Option.bind_fun_some]at tl ts tt i j ea;simp only[aa,aC];rcases kcls kb with ⟨eb,k,l,m⟩ | ⟨eb,k,l,m⟩ | ⟨eb,k,l,m⟩ | ⟨eb,k,l,m⟩<;>rcases kcls kc with ⟨ec,p,q,s⟩ | ⟨ec,p,q,s⟩ | ⟨ec,p,q,s⟩ | ⟨ec,p,q,s⟩<;>rcases akZ o with ⟨a,o2,d,f,g⟩ | ⟨a,o2,d,f,g⟩ | ⟨a,o2,d,f,g⟩ | ⟨a,o2,d,f,g⟩ | ⟨a,o2,d,f,g⟩ | ⟨a,o2,d,f,g⟩<;>
  simp only[ag8,ab,aa,TW,Kq,k,l,m,p,q,s,a,o2,d,f,g,aC,Option.bind_fun_some]<;>
  first
  | with_reducible exact i _
  | with_reducible exact j _
  | with_reducible exact ea
  | with_reducible exact tt eb ec
  | with_reducible exact tl eb ec
  | with_reducible exact ts
  | skip
