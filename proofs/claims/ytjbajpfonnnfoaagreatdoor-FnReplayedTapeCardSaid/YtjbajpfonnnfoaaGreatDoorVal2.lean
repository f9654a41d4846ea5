import Derived.Test.YtjbajpfonnnfoaaGreatDoorPlain1
set_option linter.unusedSimpArgs false
set_option linter.unusedVariables false
/- Plain laws: IsValidValue, alike on both sides. -/
namespace Go.Proofs.YtjbajpfonnnfoaaGreatDoor
open Go.Abs Go.Proofs
def elB(v:af):Bool:=(v.kind==1)||((v.kind==2)||(v.kind==3))
mutual
noncomputable def vld:af->Bool
 | ⟨k,n,st,t,l,c,r⟩=>
  bif k==1 then l.isEmpty&&(c.isEmpty&&(r.isEmpty&&((st==0)&&((t==[])&&nB n))))
  else bif k==2 then l.isEmpty&&(c.isEmpty&&(r.isEmpty&&((n==0)&&((st==0)&&txB t))))
  else bif k==4 then l.isEmpty&&(c.isEmpty&&(r.isEmpty&&((t==[])&&(nB n&&nB st))))
  else bif k==6 then l.isEmpty&&(c.isEmpty&&(r.isEmpty&&((st==0)&&((t==[])&&(decide (1<=n)&&decide (n<=8))))))
  else bif k==5 then (n==0)&&((st==0)&&((t==[])&&(l.isEmpty&&tbB c r)))
  else bif k==3 then JF l&&((n==0)&&((st==0)&&((t==[])&&(c.isEmpty&&(r.isEmpty&&(decide ((l.length:Int)<=8)&&decide (w64 (oL l 0+1)<=3)))))))
  else false
noncomputable def JF:List af->Bool
 | []=>true
 | x::r=>(elB x&&vld x)&&JF r
end
theorem Eo:∀l:List af,JF l=l.all fun x=>elB x&&vld x
 | []=>by simp[JF]
 | x::r=>by simp only[JF,List.all_cons,Eo r]
theorem len0{α:Type}(l:List α):((l.length:Int)==0)=l.isEmpty:=by
 cases l with
 | nil=>rfl
 | cons x r=>simp only[List.length_cons,List.isEmpty_cons,beq_eq_false_iff_ne];omega
theorem aj3{α:Type}(l:List α):decide ((l.length:Int)>0) = !l.isEmpty:=by
 cases l with
 | nil=>rfl
 | cons x r=>simp only[List.length_cons,List.isEmpty_cons,Bool.not_false,decide_eq_true_eq];omega
theorem Xo:∀(n:Nat) (v:af),siz v<n->Fit B20 (.base .val) v->kP n v=some (vld v)
 | 0,v,h,_=>absurd h (Nat.not_lt_zero _)
 | n+1,v,E,h=>by
  have ih:=Xo n;have f:=akf v h;have hdep:=aaN v h;have g:=lI (v:=v);obtain⟨k,m,st,t,l,c,r⟩:=v;obtain⟨_,_,_,c3,c4,G,H⟩:=dP.1 h;have p:=bU c4;simp only at g c3 c4 p;show sN (kP n) _=_
  unfold sN;simp only[len0];have B:∀(F:Int×Int×Int×Str×(List af)×(List Str)×(List aB)×Bool->Option Bool),
   lQ (X:=Int×Int×Int×Str×(List af)×(List Str)×(List aB)×Bool) (bif l.isEmpty then bif c.isEmpty then some (.inl (k,m,st,t,l,c,r,r.isEmpty))else some (.inl (k,m,st,t,l,c,r,false))else some (.inl (k,m,st,t,l,c,r,false))) F=F (k,m,st,t,l,c,r,l.isEmpty&&(c.isEmpty&&r.isEmpty)):=by
   intro F
   cases l.isEmpty<;>cases c.isEmpty<;>rfl
  rw[B];simp only[IE,Xp t (aao c3),oD,zA,Ph];by_cases q:k=1
  ·subst q;simp only[vld,beq_self_eq_true,ab];cases l.isEmpty<;>cases c.isEmpty<;>cases r.isEmpty<;>cases (st==0)<;>cases (t==[])<;>rfl
  have a:(k==1)=false:=by simpa using q
  by_cases s:k=2
  ·subst s;simp only[vld,beq_self_eq_true,ab,a,aa];cases l.isEmpty<;>cases c.isEmpty<;>cases r.isEmpty<;>cases (m==0)<;>cases (st==0)<;>rfl
  have b:(k==2)=false:=by simpa using s
  by_cases u:k=4
  ·subst u;simp only[vld,beq_self_eq_true,ab,a,b,aa];cases l.isEmpty<;>cases c.isEmpty<;>cases r.isEmpty<;>cases (t==[])<;>cases nB m<;>rfl
  have e:(k==4)=false:=by simpa using u
  by_cases w:k=6
  ·subst w;simp only[vld,beq_self_eq_true,ab,a,b,e,aa];cases l.isEmpty<;>cases c.isEmpty<;>cases r.isEmpty<;>cases (st==0)<;>cases (t==[])<;>rfl
  have j:(k==6)=false:=by simpa using w
  by_cases y:k=5
  ·subst y;simp only[vld,beq_self_eq_true,ab,a,b,e,j,aa];rw[f];cases (m==0)<;>cases (st==0)<;>cases (t==[])<;>cases l.isEmpty<;>rfl
  have z:(k==5)=false:=by simpa using y
  by_cases A:k=3
  ·subst A;simp only[vld,beq_self_eq_true,ab,a,b,e,z,j,aa];refine (congrArg (fun o=>lQ o _) (nS (fun i=>((3,m,st,t,l,c,r,l,(l.length:Int),(i:Int)):Int×Int×Int×Str×(List af)×(List Str)×(List aB)×(List af)×Int×Int)) l (fun _ x=>elB x&&vld x) (Sum.inr false) (Sum.inl (3,m,st,t,l,c,r)) (fun i x d=>?_) ?_)).trans ?_
   ·have ihx:=ih x (by have:=qJ (zG d);omega) (c4.bY x (zG d));simp only[dA d,ab,aQ,d,aC,zA,ihx,dW d p,bne];unfold elB;cases (x.kind==1)<;>cases (x.kind==2)<;>cases (x.kind==3)<;>cases vld x<;>rfl
   ·simp only[bM,aa]
   ·rw[jq,Eo];cases l.all fun x=>elB x&&vld x with
    | false=>rfl
    | true=>
     show (bif (m==0)then _ else _)=_
     rw[hdep];have C:dep ⟨3,m,st,t,l,c,r⟩=w64 (oL l 0+1):=AZ _;rw[C];cases (m==0)<;>cases (st==0)<;>cases (t==[])<;>cases c.isEmpty<;>cases r.isEmpty<;>cases decide ((l.length:Int)<=8)<;>rfl
  have D:(k==3)=false:=by simpa using A
  simp only[vld,a,b,D,e,z,j,aa]
theorem aha(v:af)(h:Fit B20 (.base .val) v):vF v=some (vld v):=Xo _ v (Nat.lt_succ_self _) h
noncomputable def lsB(v:af):Bool:=JF v.list&&(decide ((v.list.length:Int)<=8)&&decide (dep v<=3))
theorem adR(v:af):rH v=some (elB v):=by
 unfold rH elB;cases (v.kind==1)<;>cases (v.kind==2)<;>rfl
theorem ajA{α β:Type}(c:List α)(r:List β)(hc:(c.length:Int)<=1048576)(a:(r.length:Int)<=1048576):decide (w64 ((c.length:Int)+(r.length:Int))>0) = !(c.isEmpty&&r.isEmpty):=by
 rw[bT (by omega) (by omega)];cases c with
 | cons x c=>simp only[List.length_cons,List.isEmpty_cons,Bool.false_and,Bool.not_false,decide_eq_true_eq];omega
 | nil=>
  cases r with
  | nil=>rfl
  | cons y r=>simp only[List.length_cons,List.length_nil,List.isEmpty_cons,Bool.and_false,Bool.not_false,decide_eq_true_eq];omega
theorem adz:∀n:Nat,(∀v:af,Fit B20 (.base .val) v->siz v<n->(dw n).1 v=some (vld v))/\(∀v:af,Fit B20 (.base .val) v->siz v<n+1->(dw n).2 v=some (lsB v)):=by
 intro n;induction n with
 | zero=>exact⟨fun v _ h=>absurd h (Nat.not_lt_zero _),fun v _ h=>by have:=lI (v:=v);omega⟩
 | succ n ih=>
  refine⟨fun v h y=>?_,fun v h y=>?_⟩
  ·have b:=ih.2 v h y;have j:=ajN v h;obtain⟨k,m,st,t,l,c,r⟩:=v;obtain⟨_,_,_,c3,c4,z,A⟩:=dP.1 h;have p:=bU c4;simp only at c3 c4 p z A;show rV (dw n).1 (dw n).2 _=_
   unfold rV;simp only[aj3,ajA c r (bU z) (bU A),Dp,EH t (aao c3),vW,zA,bne];have s:∀(F:Int×Int×Int×Str×(List af)×(List Str)×(List aB)->Option Bool),
    lQ (X:=Int×Int×Int×Str×(List af)×(List Str)×(List aB)) (
     bif (!(k==3))then
      bif (!l.isEmpty)then some (.inr false)
      else bif (!(k==5))then bif (!(c.isEmpty&&r.isEmpty))then some (.inr false)else some (.inl (k,m,st,t,l,c,r))else some (.inl (k,m,st,t,l,c,r))
     else bif (!(k==5))then bif (!(c.isEmpty&&r.isEmpty))then some (.inr false)else some (.inl (k,m,st,t,l,c,r))else some (.inl (k,m,st,t,l,c,r))) F
    = bif (!(k==3)&&!l.isEmpty)||(!(k==5)&&!(c.isEmpty&&r.isEmpty))then some false else F (k,m,st,t,l,c,r):=by
    intro F
    cases (k==3)<;>cases (k==5)<;>cases l.isEmpty<;>cases (c.isEmpty&&r.isEmpty)<;>rfl
   have u:∀(F:Int×Int×Int×Str×(List af)×(List Str)×(List aB)->Option Bool),
    lQ (X:=Int×Int×Int×Str×(List af)×(List Str)×(List aB)) (
     bif (!(k==2))then
      bif (!(t==[]))then some (.inr false)
      else bif (!(k==4))then bif (!(st==0))then some (.inr false)else some (.inl (k,m,st,t,l,c,r))else some (.inl (k,m,st,t,l,c,r))
     else bif (!(k==4))then bif (!(st==0))then some (.inr false)else some (.inl (k,m,st,t,l,c,r))else some (.inl (k,m,st,t,l,c,r))) F
    = bif (!(k==2)&&!(t==[]))||(!(k==4)&&!(st==0))then some false else F (k,m,st,t,l,c,r):=by
    intro F
    cases (k==2)<;>cases (k==4)<;>cases (t==[])<;>cases (st==0)<;>rfl
   refine (s _).trans ?_;refine (congrArg (fun o=>bif (!(k==3)&&!l.isEmpty)||(!(k==5)&&!(c.isEmpty&&r.isEmpty))then some false else o) (u _)).trans ?_;simp only[Dp,EH t (aao c3),vW,zA];by_cases B:k=1
   ·subst B;simp only[vld,beq_self_eq_true,ab];cases l.isEmpty<;>cases c.isEmpty<;>cases r.isEmpty<;>cases (st==0)<;>cases (t==[])<;>rfl
   have a:(k==1)=false:=by simpa using B
   by_cases C:k=2
   ·subst C;simp only[vld,beq_self_eq_true,ab,a,aa];cases l.isEmpty<;>cases c.isEmpty<;>cases r.isEmpty<;>cases (m==0)<;>cases (st==0)<;>rfl
   have d:(k==2)=false:=by simpa using C
   by_cases D:k=4
   ·subst D;simp only[vld,beq_self_eq_true,ab,a,d,aa];cases l.isEmpty<;>cases c.isEmpty<;>cases r.isEmpty<;>cases (t==[])<;>cases nB m<;>rfl
   have g:(k==4)=false:=by simpa using D
   by_cases E:k=6
   ·subst E;simp only[vld,beq_self_eq_true,ab,a,d,g,aa];cases l.isEmpty<;>cases c.isEmpty<;>cases r.isEmpty<;>cases (st==0)<;>cases (t==[])<;>rfl
   have w:(k==6)=false:=by simpa using E
   by_cases G:k=5
   ·subst G;simp only[vld,beq_self_eq_true,ab,a,d,g,w,aa];have e:((zk ⟨5,m,st,t,l,c,r⟩).bind fun r=>some r)=some (tbB c r):=by rw[j];rfl
    cases (m==0)<;>cases (st==0)<;>cases (t==[])<;>cases l.isEmpty<;>first | rfl | exact e
   have H:(k==5)=false:=by simpa using G
   by_cases I:k=3
   ·subst I;have J:dep ⟨3,m,st,t,l,c,r⟩=w64 (oL l 0+1):=AZ _;have K:lsB ⟨3,m,st,t,l,c,r⟩=(JF l&&(decide ((l.length:Int)<=8)&&decide (w64 (oL l 0+1)<=3))):=by unfold lsB;rw[J]
    rw[K]at b;simp only[vld,beq_self_eq_true,ab,a,d,g,H,w,aa];have e:((dw n).2 ⟨3,m,st,t,l,c,r⟩).bind (fun r=>some r)=some (JF l&&(decide ((l.length:Int)<=8)&&decide (w64 (oL l 0+1)<=3))):=by rw[b];rfl
    generalize (decide ((l.length:Int)<=8)&&decide (w64 (oL l 0+1)<=3))=q at e ⊢;generalize L:JF l=vl at e ⊢;cases (m==0)<;>cases (st==0)<;>cases (t==[])<;>cases c.isEmpty<;>cases r.isEmpty<;>cases vl<;>first | rfl | exact e
   have M:(k==3)=false:=by simpa using I
   simp only[vld,a,d,M,g,H,w,aa];cases l.isEmpty<;>cases c.isEmpty<;>cases r.isEmpty<;>cases (st==0)<;>cases (t==[])<;>rfl
  ·obtain⟨_,_,_,_,c4,_,_⟩:=dP.1 h;have p:=bU c4;have N:=lI (v:=v);have hdep:=aau v h;show L6 (dw n).1 (dw n).2 v=_
   unfold L6;refine (nS (fun i=>((v.kind,v.n,v.step,v.text,v.list,v.columns,v.rows,(i:Int)):Int×Int×Int×Str×(List af)×(List Str)×(List aB)×Int)) v.list (fun _ x=>elB x&&vld x) false (decide ((v.list.length:Int)<=8)&&decide (dep v<=3)) (fun i x f=>?_) ?_).trans ?_
   ·have ihx:=ih.1 x (c4.bY x (zG f)) (by have:=qJ (zG f);omega);simp only[dA f,ab,aQ,f,aC,adR,zA,ihx,dW f p];cases elB x<;>cases vld x<;>rfl
   ·simp only[bM,aa];rw[show (af.mk v.kind v.n v.step v.text v.list v.columns v.rows)=v from by cases v;rfl,hdep];cases decide ((v.list.length:Int)<=8)<;>rfl
   ·rw[jq,Ph];unfold lsB;rw[Eo]
theorem aat(v:af)(h:Fit B20 (.base .val) v):oQ v=some (vld v):=(adz _).1 v h (Nat.lt_succ_self _)
inductive nY(P:List aj):af->Prop
 | mk {v:af} (hr:∀r,r∈v.rows->∀o,o∈r.orig->o∈P) (hl:∀x,x∈v.list->nY P x):nY P v
structure VOk(P:List aj)(v:af):Prop where
 fit:Fit B20 (.base .val) v
 org:nY P v
def dI(n:Int):af:=⟨6,n,0,[],[],[],[]⟩
def mg(n:Int):af:=⟨1,n,0,[],[],[],[]⟩
def Di(s:Str):af:=⟨2,0,0,s,[],[],[]⟩
theorem kC(n:Int):aJ n=some (dI n):=rfl
theorem ku(n:Int):aG n=some (dI n):=rfl
theorem Om(n:Int):dV n=some (mg n):=rfl
theorem LV(n:Int):bD n=some (mg n):=rfl
theorem ala(s:Str):sJ s=some (Di s):=rfl
theorem akL(s:Str):iH s=some (Di s):=rfl
theorem qc{t:Ty}:bQ B20 (.list t []):=cO (by simp) (fun x a=>by cases a)
theorem BA{P:List aj}{k n st:Int}{t:Str}{c:List Str}:nY P ⟨k,n,st,t,[],c,[]⟩:=.mk (fun r h=>by cases h) (fun x h=>by cases h)
theorem bH{P:List aj}{n:Int}(a:1<=n)(b:n<=8):VOk P (dI n)/\vld (dI n)=true:=by
 refine⟨⟨dP.2 ⟨nX (dL (by simp[dI]) (by simp[dI])),nX (dL (by show -1000000000<=n;omega) (by show n<=1000000000;omega)),nX (dL (by simp[dI]) (by simp[dI])),qw,qc,qc,qc⟩,BA⟩,?_⟩;simp only[dI,vld,show ((6:Int)==1)=false from rfl,show ((6:Int)==2)=false from rfl,show ((6:Int)==4)=false from rfl,beq_self_eq_true,ab,aa,List.isEmpty_nil,Bool.true_and,ae a,ae b]
theorem ji{P:List aj}{n:Int}(h:nB n=true):VOk P (mg n)/\vld (mg n)=true:=by
 have a:=h;unfold nB at a;simp only[zI,decide_eq_true_eq]at a;refine⟨⟨dP.2 ⟨nX (dL (by simp[mg]) (by simp[mg])),nX (dL a.1 a.2),nX (dL (by simp[mg]) (by simp[mg])),qw,qc,qc,qc⟩,BA⟩,?_⟩;simp only[mg,vld,beq_self_eq_true,ab,List.isEmpty_nil,Bool.true_and,h]
theorem aaj{P:List aj}{s:Str}(h:txB s=true):VOk P (Di s)/\vld (Di s)=true:=by
 have a:=h;unfold txB at a;simp only[zI,decide_eq_true_eq]at a;refine⟨⟨dP.2 ⟨nX (dL (by simp[Di]) (by simp[Di])),nX (dL (by simp[Di]) (by simp[Di])),nX (dL (by simp[Di]) (by simp[Di])),FK (by have:=a.2;show (s.length:Int)<=1048576;omega),qc,qc,qc⟩,BA⟩,?_⟩;simp only[Di,vld,show ((2:Int)==1)=false from rfl,beq_self_eq_true,ab,aa,List.isEmpty_nil,Bool.true_and,h]
def fP{α ρ:Type}(q:Nat->α->Option ρ):Nat->List α->Option ρ
 | _,[]=>none
 | i,x::r=>match q i x with
  | some v=>some v
  | none=>fP q (i+1) r
theorem qR{α X ρ:Type}{g:X->Option (X⊕ρ)}(pk:Nat->X)(xs:List α)(q:Nat->α->Option ρ)(yes:ρ)
  (d:∀i x,xs[i]?=some x->g (pk i)=match q i x with | some r=>some (.inr r) | none=>some (.inl (pk (i+1))))
  (hf:g (pk xs.length)=some (.inr yes)):aO g (pk 0)=some ((fP q 0 xs).getD yes):=by
 have key:∀(ys:List α) (i:Nat),xs.drop i=ys->i<=xs.length->aO g (pk i)=some ((fP q i ys).getD yes):=by
  intro ys;induction ys with
  | nil=>
   intro i a e;have f:xs.length<=i:=List.drop_eq_nil_iff.1 a;have:i=xs.length:=by omega
   subst this;rw[aX,hf];rfl
  | cons y r ih=>
   intro i a e;have c:xs[i]?=some y:=by
    have:=congrArg (·[0]?) a;simpa using this
   have b:=(zC.1 c).1;rw[aX,d i y c];unfold fP;cases h:q i y with
   | some v=>rfl
   | none=>
    simp only;refine ih (i+1) ?_ b;have:=congrArg List.tail a;simpa using this
 exact key xs 0 rfl (Nat.zero_le _)
noncomputable def opQ(v:af):Option af:=bif !vld v then some (dI 4)else bif v.kind==6 then some v else none
noncomputable def opE(xs:List af):Option (af):=fP (fun _ v=>opQ v) 0 xs
theorem aah{v:af}(h:vld v=true)(hk:v.kind=6):v=dI v.n/\1<=v.n/\v.n<=8:=by
 obtain⟨k,n,st,t,l,c,r⟩:=v;simp only at hk;subst hk;simp only[vld,show ((6:Int)==1)=false from rfl,show ((6:Int)==2)=false from rfl,show ((6:Int)==4)=false from rfl,beq_self_eq_true,ab,aa,zI,List.isEmpty_iff,beq_iff_eq,decide_eq_true_eq]at h;obtain⟨rfl,rfl,rfl,rfl,rfl,a,b⟩:=h;exact⟨rfl,a,b⟩
theorem agQ{P:List aj}{v e:af}(h:opQ v=some e):VOk P e/\vld e=true/\e.kind=6:=by
 unfold opQ at h;cases a:vld v with
 | false=>rw[a]at h;cases h;exact⟨(bH (by omega) (by omega)).1,(bH (P:=P) (by omega) (by omega)).2,rfl⟩
 | true=>
  rw[a]at h;cases hk:v.kind==6 with
  | false=>rw[hk]at h;cases h
  | true=>
   rw[hk]at h;have h:some v=some e:=h;cases h
   have hk:v.kind=6:=by simpa using hk
   obtain⟨b,c,d⟩:=aah a hk;refine⟨?_,a,hk⟩;rw[b];exact (bH c d).1
theorem Ff{P:List aj}:∀(xs:List af) (i:Nat) {e:af},fP (fun _ v=>opQ v) i xs=some e->VOk P e/\vld e=true/\e.kind=6
 | [],_,_,h=>by cases h
 | x::r,i,e,h=>by
  unfold fP at h;cases a:opQ x with
  | some v=>rw[a]at h;cases h;exact agQ a
  | none=>rw[a]at h;exact Ff r (i+1) h
theorem Ad:∀(xs:List af) (i:Nat),fP (fun _ v=>opQ v) i xs=none->∀x,x∈xs->vld x=true/\x.kind≠6
 | [],_,_,x,b=>by cases b
 | y::r,i,h,x,b=>by
  unfold fP at h;cases a:opQ y with
  | some v=>rw[a]at h;cases h
  | none=>
   rw[a]at h;rcases ba.1 b with rfl | b
   ·unfold opQ at a;cases c:vld x with
    | false=>rw[c]at a;cases a
    | true=>
     rw[c]at a;refine⟨rfl,fun hk=>?_⟩;rw[hk]at a;cases a
   ·exact Ad r (i+1) h x b
def zV:af:=⟨0,0,0,[],[],[],[]⟩
def opR:Option af->af×Bool
 | some e=>(e,true)
 | none=>(zV,false)
theorem jF{α ρ σ:Type}(q:Nat->α->Option ρ)(f:ρ->σ):∀(xs:List α) (i:Nat),fP (fun i x=>(q i x).map f) i xs=(fP q i xs).map f
 | [],_=>rfl
 | x::r,i=>by
  unfold fP;cases q i x with
  | some v=>rfl
  | none=>exact jF q f r (i+1)
theorem BB(o:Option af):(o.map fun e=>(e,true)).getD (zV,false)=opR o:=by cases o<;>rfl
theorem FV(xs:List af)(h:bQ B20 (.list (.base .val) xs)):fZ xs=some (opR (opE xs)):=by
 have b:=bU h;unfold fZ opE;rw[<- BB,<- jF];refine qR (fun i=>((0,0,0,[],[],[],[],xs,(xs.length:Int),(i:Int)):Int×Int×Int×Str×(List af)×(List Str)×(List aB)×(List af)×Int×Int)) xs _ _ (fun i x a=>?_) ?_
 ·simp only[dA a,ab,aQ,a,zA,aC,aha x (h.bY x (zG a)),kC,dW a b];unfold opQ;cases vld x<;>cases (x.kind==6)<;>rfl
 ·simp only[bM,aa];rfl
theorem EK(xs:List af)(h:bQ B20 (.list (.base .val) xs)):lJ xs=some (opR (opE xs)):=by
 have b:=bU h;unfold lJ opE;rw[<- BB,<- jF];refine qR (fun i=>((xs,0,0,0,[],[],[],[],(i:Int)):(List af)×Int×Int×Int×Str×(List af)×(List Str)×(List aB)×Int)) xs _ _ (fun i x a=>?_) ?_
 ·simp only[dA a,ab,aQ,a,zA,aC,aat x (h.bY x (zG a)),ku,dW a b];unfold opQ;cases c:vld x with
  | false=>rfl
  | true=>
   cases hk:(x.kind==6)with
   | false=>rfl
   | true=>
    simp only[aL,aa,ab];rw[<- (aah c (by simpa using hk)).1];rfl
 ·simp only[bM,aa];rfl
def Al(P:List aj)(a b:Option af):Prop:=∃r,a=some r/\b=some r/\VOk P r/\vld r=true
theorem tJ{P:List aj}{n:Int}(a:1<=n)(b:n<=8):Al P (some (dI n)) (some (dI n)):=⟨_,rfl,rfl,bH a b⟩
theorem akj{a:af}(b:Fit B20 (.base .val) a):bQ B20 (.list (.base .val) [a]):=cO (by simp) (by simpa using b)
theorem Vm{a b:af}(c:Fit B20 (.base .val) a)(d:Fit B20 (.base .val) b):bQ B20 (.list (.base .val) [a,b]):=cO (by simp) (by simp only[ba,List.not_mem_nil,or_false];rintro x (rfl | rfl)<;>assumption)
theorem aki{a b c:af}(d:Fit B20 (.base .val) a)(e:Fit B20 (.base .val) b)(hc:Fit B20 (.base .val) c):bQ B20 (.list (.base .val) [a,b,c]):=cO (by simp) (by simp only[ba,List.not_mem_nil,or_false];rintro x (rfl | rfl | rfl)<;>assumption)
theorem fit4{a b c d:af}(e:Fit B20 (.base .val) a)(f:Fit B20 (.base .val) b)(hc:Fit B20 (.base .val) c)(g:Fit B20 (.base .val) d):bQ B20 (.list (.base .val) [a,b,c,d]):=cO (by simp) (by simp only[ba,List.not_mem_nil,or_false];rintro x (rfl | rfl | rfl | rfl)<;>assumption)
theorem UA{P:List aj}{xs:List af}{F G:af×Bool->Option af}(h:bQ B20 (.list (.base .val) xs))
  (f:∀e,F (e,true)=some e) (g:∀e,G (e,true)=some e) (i:(∀x,x∈xs->vld x=true/\x.kind≠6)->Al P (F (zV,false)) (G (zV,false))) :
  Al P ((fZ xs).bind F) ((lJ xs).bind G):=by
 rw[FV xs h,EK xs h,zA,zA];cases d:opE xs with
 | some e=>
  obtain⟨a,b,c⟩:=Ff (P:=P) xs 0 d;exact⟨e,f e,g e,a,b⟩
 | none=>exact i (Ad xs 0 d)
def kdQ(ks:List Int)(i:Nat)(x:af):Option af:=bif x.kind != ks.getD i 0 then some (dI 4)else none
noncomputable def kdE(ks:List Int)(xs:List af):Option af:=match opE xs with
 | some e=>some e
 | none=>fP (kdQ ks) 0 xs
theorem ajr{ks:List Int}{xs:List af}(hlen:ks.length=xs.length){i:Nat}{x:af}(a:xs[i]?=some x):∃k,ks[i]?=some k:=⟨_,zF (by rw[hlen];exact (zC.1 a).1)⟩
theorem ahe(ks:List Int)(xs:List af)(h:bQ B20 (.list (.base .val) xs))(hlen:ks.length=xs.length):fD ks xs=some (opR (kdE ks xs)):=by
 have b:=bU h;unfold fD kdE;rw[FV xs h,zA];cases opE xs with
 | some e=>simp only[opR,ab,aC]
 | none=>
  show aO _ _=some (opR (fP (kdQ ks) 0 xs))
  rw[<- BB,<- jF];refine qR (fun i=>((ks,0,0,0,[],[],[],[],xs,(xs.length:Int),(i:Int)):(List Int)×Int×Int×Int×Str×(List af)×(List Str)×(List aB)×(List af)×Int×Int)) xs _ _ (fun i x a=>?_) ?_
  ·obtain⟨k,hk⟩:=ajr hlen a;unfold kdQ;simp only[dA a,ab,aQ,a,hk,zA,kC,dW a b,zE,Option.getD_some];cases (x.kind != k)<;>rfl
  ·simp only[bM,aa];rfl
theorem agr(ks:List Int)(xs:List af)(h:bQ B20 (.list (.base .val) xs))(hlen:ks.length=xs.length):jl xs ks=some (opR (kdE ks xs)):=by
 have b:=bU h;unfold jl kdE;rw[EK xs h,zA];cases opE xs with
 | some e=>simp only[opR,ab,aC]
 | none=>
  show aO _ _=some (opR (fP (kdQ ks) 0 xs))
  rw[<- BB,<- jF];refine qR (fun i=>((xs,ks,0,0,0,[],[],[],[],(i:Int)):(List af)×(List Int)×Int×Int×Int×Str×(List af)×(List Str)×(List aB)×Int)) xs _ _ (fun i x a=>?_) ?_
  ·obtain⟨k,hk⟩:=ajr hlen a;unfold kdQ;simp only[dA a,ab,aQ,a,hk,zA,ku,dW a b,zE,Option.getD_some];cases (x.kind != k)<;>rfl
  ·simp only[bM,aa];rfl
theorem NZ(ks:List Int):∀(ys:List af) (j:Nat),fP (kdQ ks) j ys=some (dI 4)\/(fP (kdQ ks) j ys=none/\∀(i:Nat) (x:af),ys[i]?=some x->x.kind=ks.getD (j+i) 0)
 | [],j=>.inr ⟨rfl,fun i x b=>by simp at b⟩
 | y::ys,j=>by
  unfold fP;cases a:kdQ ks j y with
  | some v=>
   unfold kdQ at a;cases hk:y.kind != ks.getD j 0 with
   | true=>rw[hk]at a;cases a;exact .inl rfl
   | false=>rw[hk]at a;cases a
  | none=>
   simp only;have hk:y.kind=ks.getD j 0:=by
    unfold kdQ at a;cases hk:y.kind != ks.getD j 0 with
    | true=>rw[hk]at a;cases a
    | false=>simpa using hk
   rcases NZ ks ys (j+1)with c | ⟨c,d⟩
   ·exact .inl c
   ·refine .inr ⟨c,fun i x b=>?_⟩;cases i with
    | zero=>
     simp at b;subst b;exact hk
    | succ i=>rw[show j+(i+1)=j+1+i by omega];exact d i x (by simpa using b)
theorem ag5{P:List aj}{ks:List Int}{xs:List af}{e:af}(h:kdE ks xs=some e):VOk P e/\vld e=true:=by
 unfold kdE at h;cases d:opE xs with
 | some e'=>
  rw[d]at h;cases h
  obtain⟨a,b,c⟩:=Ff (P:=P) xs 0 d;exact⟨a,b⟩
 | none=>
  rw[d]at h;rcases NZ ks xs 0 with f | ⟨f,_⟩
  ·have h:fP (kdQ ks) 0 xs=some e:=h;rw[f]at h;cases h
   exact bH (by omega) (by omega)
  ·have h:fP (kdQ ks) 0 xs=some e:=h;rw[f]at h;cases h
theorem Xk{ks:List Int}{xs:List af}(hlen:ks.length=xs.length)(h:kdE ks xs=none):(∀x,x∈xs->vld x=true)/\∀(i:Nat) (x:af) (k:Int),xs[i]?=some x->ks[i]?=some k->x.kind=k:=by
 unfold kdE at h;cases a:opE xs with
 | some e'=>rw[a]at h;cases h
 | none=>
  rw[a]at h;have h:fP (kdQ ks) 0 xs=none:=h;refine⟨fun x b=>(Ad xs 0 a x b).1,fun i x k b hk=>?_⟩;rcases NZ ks xs 0 with c | ⟨c,d⟩
  ·rw[c]at h;cases h
  ·have:=d i x b;rw[this,zE,Nat.zero_add,hk];rfl
theorem qO{P:List aj}(ks:List Int){xs:List af}{F G:af×Bool->Option af}(h:bQ B20 (.list (.base .val) xs))(hlen:ks.length=xs.length)
  (b:∀e,F (e,true)=some e) (c:∀e,G (e,true)=some e) (d:(∀x,x∈xs->vld x=true)->(∀(i:Nat) (x:af) (k:Int),xs[i]?=some x->ks[i]?=some k->x.kind=k)->Al P (F (zV,false)) (G (zV,false))) :
  Al P ((fD ks xs).bind F) ((jl xs ks).bind G):=by
 rw[ahe ks xs h hlen,agr ks xs h hlen,zA,zA];cases a:kdE ks xs with
 | some e=>exact⟨e,b e,c e,ag5 a⟩
 | none=>exact d (Xk hlen a).1 (Xk hlen a).2
theorem Gn:∀(l:List af) (s B:Int),oL l s<=B↔s<=B/\∀x,x∈l->dep x<=B
 | [],s,B=>by simp[oL]
 | x::r,s,B=>by
  simp only[oL,Gn r,ba,forall_eq_or_imp];by_cases h:dep x>s
  ·rw[if_pos h];exact⟨fun⟨a,b⟩=>⟨by omega,a,b⟩,fun⟨a,b,c⟩=>⟨b,c⟩⟩
  ·rw[if_neg h];exact⟨fun⟨a,b⟩=>⟨a,by omega,b⟩,fun⟨a,b,c⟩=>⟨a,c⟩⟩
theorem Vs:∀(l:List af) (s:Int),s<=oL l s
 | [],s=>by simp[oL]
 | x::r,s=>by
  simp only[oL];have:=Vs r (if dep x>s then dep x else s);split at this<;>(have a:=this;rename_i h;first | omega | (simp only[h,if_true,if_false]at this ⊢;omega))
theorem vJ(l:List af):JF l=true↔∀x,x∈l->elB x=true/\vld x=true:=by
 rw[Eo,List.all_eq_true];exact forall_congr' fun x=>by rw[zI]
theorem k12:((2:Int)==1)=false:=rfl
theorem k31:((3:Int)==1)=false:=rfl
theorem k32:((3:Int)==2)=false:=rfl
theorem k34:((3:Int)==4)=false:=rfl
theorem k36:((3:Int)==6)=false:=rfl
theorem k35:((3:Int)==5)=false:=rfl
theorem k41:((4:Int)==1)=false:=rfl
theorem k42:((4:Int)==2)=false:=rfl
theorem k51:((5:Int)==1)=false:=rfl
theorem k52:((5:Int)==2)=false:=rfl
theorem k54:((5:Int)==4)=false:=rfl
theorem k56:((5:Int)==6)=false:=rfl
theorem SX{v:af}(h:vld v=true)(hk:v.kind=1):v=mg v.n/\nB v.n=true:=by
 obtain⟨k,n,st,t,l,c,r⟩:=v;simp only at hk;subst hk;simp only[vld,beq_self_eq_true,ab,zI,List.isEmpty_iff,beq_iff_eq]at h;obtain⟨rfl,rfl,rfl,rfl,rfl,h⟩:=h;exact⟨rfl,h⟩
theorem uh{v:af}(h:vld v=true)(hk:v.kind=2):v=Di v.text/\txB v.text=true:=by
 obtain⟨k,n,st,t,l,c,r⟩:=v;simp only at hk;subst hk;simp only[vld,k12,beq_self_eq_true,ab,aa,zI,List.isEmpty_iff,beq_iff_eq]at h;obtain⟨rfl,rfl,rfl,rfl,rfl,h⟩:=h;exact⟨rfl,h⟩
def JG(n st:Int):af:=⟨4,n,st,[],[],[],[]⟩
theorem aag{v:af}(h:vld v=true)(hk:v.kind=4):v=JG v.n v.step/\nB v.n=true/\nB v.step=true:=by
 obtain⟨k,n,st,t,l,c,r⟩:=v;simp only at hk;subst hk;simp only[vld,k41,k42,beq_self_eq_true,ab,aa,zI,List.isEmpty_iff,beq_iff_eq]at h;obtain⟨rfl,rfl,rfl,rfl,h⟩:=h;exact⟨rfl,h⟩
def uf(c:List Str)(r:List aB):af:=⟨5,0,0,[],[],c,r⟩
theorem uj{v:af}(h:vld v=true)(hk:v.kind=5):v=uf v.columns v.rows/\tbB v.columns v.rows=true:=by
 obtain⟨k,n,st,t,l,c,r⟩:=v;simp only at hk;subst hk;simp only[vld,k51,k52,k54,k56,beq_self_eq_true,ab,aa,zI,List.isEmpty_iff,beq_iff_eq]at h;obtain⟨rfl,rfl,rfl,rfl,h⟩:=h;exact⟨rfl,h⟩
theorem Be(c:List Str)(r:List aB):vld (uf c r)=tbB c r:=by
 simp only[uf,vld,k51,k52,k54,k56,beq_self_eq_true,ab,aa,List.isEmpty_nil,Bool.true_and]
theorem af2(n st:Int):vld (JG n st)=(nB n&&nB st):=by
 simp only[JG,vld,k41,k42,beq_self_eq_true,ab,aa,List.isEmpty_nil,Bool.true_and]
def nV(l:List af):af:=⟨3,0,0,[],l,[],[]⟩
theorem lH{v:af}(h:vld v=true)(hk:v.kind=3):v=nV v.list/\JF v.list=true/\(v.list.length:Int)<=8/\w64 (oL v.list 0+1)<=3:=by
 obtain⟨k,n,st,t,l,c,r⟩:=v;simp only at hk;subst hk;simp only[vld,k31,k32,k34,k35,k36,beq_self_eq_true,ab,aa,zI,List.isEmpty_iff,beq_iff_eq,decide_eq_true_eq]at h;obtain⟨a,rfl,rfl,rfl,rfl,rfl,b,d⟩:=h;exact⟨rfl,a,b,d⟩
theorem aaI(l:List af):vld (nV l)=(JF l&&(decide ((l.length:Int)<=8)&&decide (w64 (oL l 0+1)<=3))):=by
 simp only[nV,vld,k31,k32,k34,k35,k36,beq_self_eq_true,ab,aa,List.isEmpty_nil,Bool.true_and]
theorem Yo{v:af}(h:vld v=true)(hk:v.kind≠3):v.list=[]:=by
 obtain⟨k,n,st,t,l,c,r⟩:=v;have a:(k==3)=false:=by simpa using hk
 simp only[vld,a,aa]at h;show l=[]
 cases l with
 | nil=>rfl
 | cons x l=>
  simp only[List.isEmpty_cons,Bool.false_and,Bool.and_false]at h;revert h;cases (k==1)<;>cases (k==2)<;>cases (k==4)<;>cases (k==6)<;>cases (k==5)<;>simp
theorem aai:∀(n:Nat) (v:af),siz v<n->vld v=true->1<=dep v/\dep v<=3
 | 0,v,a,_=>absurd a (Nat.not_lt_zero _)
 | n+1,v,a,h=>by
  rw[AZ];by_cases hk:v.kind=3
  ·obtain⟨_,c,_,d⟩:=lH h hk;have e:oL v.list 0<=3:=(Gn _ _ _).2 ⟨by omega,fun x b=>(aai n x (by have:=qJ b;have:=lI (v:=v);omega) ((vJ _).1 c x b).2).2⟩;have f:=Vs v.list 0;rw[bT (by omega) (by omega)]at d ⊢;omega
  ·rw[Yo h hk];simp only[oL];decide
theorem uG(l:List af):vld (nV l)=true↔(∀x,x∈l->elB x=true/\vld x=true/\dep x<=2)/\(l.length:Int)<=8:=by
 rw[aaI,zI,zI,decide_eq_true_eq,decide_eq_true_eq,vJ];have f:=Vs l 0;constructor
 ·rintro⟨b,c,d⟩;have e:oL l 0<=3:=(Gn _ _ _).2 ⟨by omega,fun x a=>(aai _ x (Nat.lt_succ_self _) (b x a).2).2⟩;rw[bT (by omega) (by omega)]at d;have:=(Gn l 0 2).1 (by omega);exact⟨fun x a=>⟨(b x a).1,(b x a).2,this.2 x a⟩,c⟩
 ·rintro⟨b,c⟩;have e:oL l 0<=2:=(Gn _ _ _).2 ⟨by omega,fun x a=>(b x a).2.2⟩;refine⟨fun x a=>⟨(b x a).1,(b x a).2.1⟩,c,?_⟩;rw[bT (by omega) (by omega)];omega
theorem Iy{P:List aj}{l:List af}(b:(l.length:Int)<=1048576)(h:∀x,x∈l->VOk P x):VOk P (nV l):=
 ⟨dP.2 ⟨nX (dL (by simp[nV]) (by simp[nV])),nX (dL (by simp[nV]) (by simp[nV])),nX (dL (by simp[nV]) (by simp[nV])),qw,cO b fun x a=>(h x a).fit,qc,qc⟩,.mk (fun r c=>by cases c) fun x a=>(h x a).org⟩
theorem VOk.mem{P:List aj}{v:af}(h:VOk P v){x:af}(a:x∈v.list):VOk P x:=by
 obtain⟨f,o⟩:=h;obtain⟨_,_,_,_,c4,_,_⟩:=dP.1 f;cases o with
 | mk _ b=>exact⟨c4.bY x a,b x a⟩
theorem aan{P:List aj}{n st:Int}(c:nB n=true)(d:nB st=true):VOk P (JG n st)/\vld (JG n st)=true:=by
 have a:=c;have b:=d;unfold nB at a b;simp only[zI,decide_eq_true_eq]at a b;refine⟨⟨dP.2 ⟨nX (dL (by simp[JG]) (by simp[JG])),nX (dL a.1 a.2),nX (dL b.1 b.2),qw,qc,qc,qc⟩,BA⟩,?_⟩;rw[af2,c,d];rfl
def Ei(n:Int):af:=bif nB n then mg n else dI 5
theorem aaU{P:List aj}(n:Int):VOk P (Ei n)/\vld (Ei n)=true:=by
 unfold Ei;cases h:nB n with
 | true=>exact ji h
 | false=>exact bH (by omega) (by omega)
theorem aaO(n:Int):gq n=some (Ei n):=by
 unfold gq Ei;simp only[IE,zA,kC,Om,aC];cases nB n<;>rfl
theorem Uj(n:Int):eG n=some (Ei n):=by
 unfold eG Ei;simp only[Dp,zA,ku,LV,aC];cases nB n<;>rfl
def adg(b:Bool):af:=bif b then mg 1 else mg 0
theorem afV{P:List aj}(b:Bool):VOk P (adg b)/\vld (adg b)=true:=by
 cases b<;>exact ji rfl
theorem ahb(b:Bool):kL b=some (adg b):=by cases b<;>rfl
theorem agh(b:Bool):iW b=some (adg b):=by cases b<;>rfl
theorem LG{α:Type}(l:List α)(h:(l.length:Int)<=20):nB (l.length:Int)=true:=by
 unfold nB;rw[ae (by omega),ae (by omega)];rfl
theorem dZ(v:af):(some (ah v))=some v:=by rw[aC]
theorem aci{P:List aj}(a:af)(g:VOk P a):Al P (wR a) (vV a):=by
 unfold wR vV;rw[aC];refine UA (akj g.fit) (fun e=>dZ e) (fun e=>dZ e) fun b=>?_
 obtain⟨b,_⟩:=b a (List.mem_singleton.2 rfl);simp only[zV,aa,kC,ku,Om,LV,zA,aC];by_cases c:a.kind=3
 ·obtain⟨_,_,d,_⟩:=lH b c;rw[c];exact⟨_,rfl,rfl,ji (LG _ (by omega))⟩
 have h:(a.kind==3)=false:=by simpa using c
 by_cases f:a.kind=2
 ·obtain⟨_,d⟩:=uh b f;unfold txB at d;rw[zI,decide_eq_true_eq]at d;rw[f];exact⟨_,rfl,rfl,ji (LG _ (by omega))⟩
 have i:(a.kind==2)=false:=by simpa using f
 rw[h,i];exact tJ (by omega) (by omega)
theorem afa{a b:af}:a∈[a,b]:=by simp
theorem abt{a b:af}:b∈[a,b]:=by simp
theorem OG(xs:List af)(h:bQ B20 (.list (.base .val) xs)):kQ xs=some xs:=(sS (siz xs+1)).2 xs (Nat.lt_succ_self _) h
theorem U3(xs:List af)(h:bQ B20 (.list (.base .val) xs)):oH xs=some (nV xs):=by
 unfold oH;rw[OG xs h];rfl
theorem TN(xs:List af)(h:bQ B20 (.list (.base .val) xs)):jd xs=some (nV xs):=by
 have l:=bU h;unfold jd;refine uP (fun (s:List af) (i:Nat)=>((xs,0,0,0,[],[],[],[],3,0,0,[],s,[],[],(i:Int)):(List af)×Int×Int×Int×Str×(List af)×(List Str)×(List aB)×Int×Int×Int×Str×(List af)×(List Str)×(List aB)×Int)) xs (some (nV xs)) (fun i y a b=>?_) ?_
 ·have c:=(zC.1 a).1;simp only[dA a,ab,aQ,a,aC,zA,iI y (h.bY y (zG a)),gd1 b c l,dW a l]
 ·simp only[bM,aa];rfl
theorem Rn:∀(xs:List af) (i:Nat),(∀x,x∈xs->vld x=true/\x.kind≠6)->fP (fun _ v=>opQ v) i xs=none
 | [],_,_=>rfl
 | x::r,i,h=>by
  unfold fP;obtain⟨a,b⟩:=h x (aq ..);have e:(x.kind==6)=false:=by simpa using b
  have:opQ x=none:=by unfold opQ;rw[a,e];rfl
  rw[this];exact Rn r (i+1) fun y c=>h y (ao _ c)
def Ci(n:Int)(v:af):af:=bif decide (n<0)then dI 5 else bif v.kind==3 then (match v.list[n.toNat]? with | some x=>x | none=>dI 5)else Ei (w64 (v.n+(w64 (n*v.step))))
theorem aaH{P:List aj}(n:Int)(v:af)(d:VOk P v)(h:vld v=true):VOk P (Ci n v)/\vld (Ci n v)=true:=by
 unfold Ci;cases decide (n<0)with
 | true=>exact bH (by omega) (by omega)
 | false=>
  by_cases a:v.kind=3
  ·have b:(v.kind==3)=true:=by simpa using a
   rw[b];simp only[aa,ab];cases e:v.list[n.toNat]? with
   | none=>exact bH (by omega) (by omega)
   | some x=>
    have c:=zG e;obtain⟨_,f,_,_⟩:=lH h a;exact⟨d.mem c,((vJ _).1 f x c).2⟩
  ·have b:(v.kind==3)=false:=by simpa using a
   rw[b];exact aaU _
theorem KH{P:List aj}(a b:af)(d:VOk P a)(e:VOk P b)(F:af×Bool->Option af)
  (va:vld a=true) (vb:vld b=true) (f:a.kind=1) (c:b.kind=3\/b.kind=4):(gV a b).bind F=F (dI 4,false)/\(um a b).bind F=F (zV,false):=by
 have g:opE [a,b]=none:=Rn _ 0 (by
  simp only[ba,List.not_mem_nil,or_false];rintro x (rfl | rfl)
  ·exact⟨va,by omega⟩
  ·exact⟨vb,by omega⟩)
 unfold gV um;rw[aC,aC,FV _ (Vm d.fit e.fit),EK _ (Vm d.fit e.fit),zA,zA,g];simp only[opR,aa,kC,ku,zA,aC,bne];have h:(a.kind==1)=true:=by simpa using f
 rw[h];rcases c with c | c
 ·rw[c];exact⟨rfl,rfl⟩
 ·rw[c];exact⟨rfl,rfl⟩
theorem toNat_eq{n:Int}(h:¬n<0):((n.toNat:Nat):Int)=n:=Int.toNat_of_nonneg (by omega)
theorem Oo{P:List aj}(a b:af)(g:VOk P a)(e:VOk P b)(va:vld a=true)(vb:vld b=true)(h:a.kind=1)(i:b.kind=3\/b.kind=4):yA a b=some (Ci a.n b):=by
 unfold yA Ci;rw[aC,aC,(KH a b g e _ va vb h i).1];simp only[aa,kC,zA,aC,aaO];by_cases c:a.n<0
 ·rw[ae c];rfl
 ·rw[ac c];simp only[aa];cases (b.kind==3)with
  | false=>rfl
  | true=>
   simp only[ab];by_cases f:a.n>=(b.list.length:Int)
   ·rw[ae f,zJ (by omega)];rfl
   ·rw[ac f];have d:b.list[a.n.toNat]?=some b.list[a.n.toNat]:=zF (by omega);have j:idx b.list a.n=some b.list[a.n.toNat]:=by
     have:=aQ b.list a.n.toNat;rw[toNat_eq c]at this;rw[this,d]
    simp only[aa,j,d,zA,dX _ (e.mem (zG d)).fit]
theorem EL{P:List aj}(a b:af)(g:VOk P a)(e:VOk P b)(va:vld a=true)(vb:vld b=true)(h:a.kind=1)(i:b.kind=3\/b.kind=4):uU a b=some (Ci a.n b):=by
 unfold uU Ci;rw[aC,aC,(KH a b g e _ va vb h i).2];simp only[aa,ku,zA,aC,Uj];by_cases c:a.n<0
 ·rw[ae c];rfl
 ·rw[ac c];simp only[aa];cases (b.kind==3)with
  | false=>rfl
  | true=>
   simp only[ab];by_cases f:a.n>=(b.list.length:Int)
   ·rw[ae f,zJ (by omega)];rfl
   ·rw[ac f];have d:b.list[a.n.toNat]?=some b.list[a.n.toNat]:=zF (by omega);have j:idx b.list a.n=some b.list[a.n.toNat]:=by
     have:=aQ b.list a.n.toNat;rw[toNat_eq c]at this;rw[this,d]
    simp only[aa,j,d,zA,iI _ (e.mem (zG d)).fit]
theorem Ns{P:List aj}(a b:af)(d:VOk P a)(f:VOk P b){F G:af×Bool->Option af}
  (g:∀e,F (e,true)=some e) (i:∀e,G (e,true)=some e)
  (p:vld a=true->vld b=true->a.kind=1->(b.kind=3\/b.kind=4)->Al P (F (dI 4,false)) (G (zV,false))) :
  Al P ((gV a b).bind F) ((um a b).bind G):=by
 by_cases hk:vld a=true/\vld b=true/\a.kind=1/\(b.kind=3\/b.kind=4)
 ·obtain⟨c,j,k,l⟩:=hk;rw[(KH a b d f F c j k l).1,(KH a b d f G c j k l).2];exact p c j k l
 ·unfold gV um;rw[aC,aC,FV _ (Vm d.fit f.fit),EK _ (Vm d.fit f.fit),zA,zA];cases n:opE [a,b]with
  | some e=>
   obtain⟨x,y,z⟩:=Ff (P:=P) _ 0 n;refine⟨e,?_,?_,x,y⟩
   ·simp only[opR,ab,aC,zA,g]
   ·simp only[opR,ab,aC,zA,i]
  | none=>
   have o:=Ad _ 0 n;have va:=(o a afa).1;have vb:=(o b abt).1;simp only[opR,aa,kC,ku,zA,aC,bne];by_cases c:a.kind=1
   ·have m:(a.kind==1)=true:=by simpa using c
    have q:(b.kind==3)=false:=by simpa using fun h=>hk ⟨va,vb,c,.inl h⟩
    have r:(b.kind==4)=false:=by simpa using fun h=>hk ⟨va,vb,c,.inr h⟩
    rw[m,q,r];simp only[aL,Bool.not_false,ab,aa,zA,g,i];exact tJ (by omega) (by omega)
   ·have m:(a.kind==1)=false:=by simpa using c
    rw[m];simp only[Bool.not_false,ab,zA,g,i];exact tJ (by omega) (by omega)
theorem ajX{P:List aj}(a b:af)(i:VOk P a)(d:VOk P b):Al P (yA a b) (uU a b):=by
 by_cases hk:vld a=true/\vld b=true/\a.kind=1/\(b.kind=3\/b.kind=4)
 ·obtain⟨f,c,g,h⟩:=hk;exact⟨_,Oo a b i d f c g h,EL a b i d f c g h,aaH _ _ d c⟩
 ·unfold yA uU;rw[aC,aC];exact Ns a b i d (fun e=>dZ e) (fun e=>dZ e) fun f c g h=>absurd ⟨f,c,g,h⟩ hk
theorem nthL{v:af}(a:v.kind=3){i:Nat}{x:af}(b:v.list[i]?=some x):Ci (i:Int) v=x:=by
 unfold Ci;rw[ac (by omega),a];simp only[aa,beq_self_eq_true,ab,aw,b]
theorem aam{l l':List af}(h:vld (nV l)=true)(a:∀x,x∈l'->x∈l)(d:l'.length<=l.length):vld (nV l')=true:=by
 obtain⟨b,e⟩:=(uG l).1 h;exact (uG l').2 ⟨fun x c=>b x (a x c),by omega⟩
theorem Rz(n:Int):((mg n).kind==6)=false:=rfl
theorem ahx{X ρ:Type}{g:X->Option (X⊕ρ)}(pk:Nat->X)(n:Nat)(res:ρ)(I:Nat->Prop)(c:I 0)
  (d:∀i,i<n->I i->(g (pk i)=some (.inl (pk (i+1)))/\I (i+1))\/g (pk i)=some (.inr res)) (e:I n->g (pk n)=some (.inr res)):aO g (pk 0)=some res:=by
 have key:∀(k i:Nat),n=i+k->I i->aO g (pk i)=some res:=by
  intro k;induction k with
  | zero=>
   intro i f a;have:n=i:=by omega
   subst this;rw[aX,e a]
  | succ k ih=>
   intro i f a;rw[aX];rcases d i (by omega) a with ⟨h,b⟩ | h
   ·rw[h];exact ih (i+1) (by omega) b
   ·rw[h]
 exact key n 0 (by omega) c
theorem afZ{P:List aj}(a b:af)(H:VOk P a)(g:VOk P b):Al P (FT a b) (EI a b):=by
 unfold FT EI;rw[aC,aC];refine Ns a b H g (fun e=>dZ e) (fun e=>dZ e) fun va vb N d=>?_
 simp only[aa,oD,vW,zA,kC,ku,Om,LV,aC,dZ];by_cases t:0<=a.n/\a.n<=8
 case neg=>
  have:(decide (0<=a.n)&&decide (a.n<=8))=false:=by
   rw[Bool.and_eq_false_iff,decide_eq_false_iff_not,decide_eq_false_iff_not];omega
  rw[this]
  exact tJ (by omega) (by omega)
 obtain⟨n,F⟩:∃n:Nat,a.n=(n:Int):=⟨a.n.toNat,(toNat_eq (by omega)).symm⟩;rw[ae t.1,ae t.2,F];simp only[Bool.and_self,aL,aa];rw[F]at t;rcases d with d | d
 ·obtain⟨l,u,v,I⟩:=lH vb d;have o:vld (nV b.list)=true:=by rw[<- l];exact vb
  rw[d];simp only[beq_self_eq_true,ab];have q:eff.cutL b.list none (some (if (b.list.length:Int)<(n:Int)then (b.list.length:Int)else (n:Int)))=some (b.list.take n):=by
   by_cases hc:(b.list.length:Int)<(n:Int)
   ·rw[if_pos hc,X0 _ _ (ar _),List.take_length,List.take_of_length_le (by omega)]
   ·rw[if_neg hc,X0 _ _ (by omega)]
  have hmem:∀x,x∈b.list.take n->x∈b.list:=fun x c=>List.mem_of_mem_take c
  have hlen:(b.list.take n).length<=b.list.length:=by rw[a8];omega
  rw[q,zA,U3 _ (cO (by omega) fun x c=>(g.mem (hmem x c)).fit),zA];refine⟨nV (b.list.take n),rfl,?_,Iy (by omega) fun x c=>g.mem (hmem x c),aam o hmem hlen⟩;refine ahx (fun i=>(a.kind,(n:Int),a.step,a.text,a.list,a.columns,a.rows,(3:Int),b.n,b.step,b.text,b.list,b.columns,b.rows,(0:Int),(0:Int),(0:Int),([]:Str),([]:List af),([]:List Str),([]:List aB),(3:Int),(0:Int),(0:Int),([]:Str),b.list.take i,([]:List Str),([]:List aB),(i:Int))) n (nV (b.list.take n)) (fun i=>i<=b.list.length) (Nat.zero_le _) (fun i q w=>?_) (fun w=>?_)
  ·have z:decide ((i:Int)<(n:Int))=true:=by simp;omega
   simp only[z,ab];by_cases hc:i=b.list.length
   ·subst hc;simp only[beq_self_eq_true,ab,List.take_length];rw[List.take_of_length_le (show b.list.length<=n by omega)];exact .inr rfl
   ·have J:((i:Int)==(b.list.length:Int))=false:=by simp;omega
    have c:b.list[i]?=some b.list[i]:=zF (by omega);have h:(af.mk 3 b.n b.step b.text b.list b.columns b.rows)=b:=by cases b;simp only at d;rw[d]
    have f:=ji (P:=P) (n:=(i:Int)) (by unfold nB;rw[ae (by omega),ae (by omega)];rfl);have p:=EL (mg (i:Int)) b f.1 g f.2 vb rfl (.inl d);have A:=((uG _).1 o).1 _ (zG c);have K:((b.list[i]).kind==6)=false:=by
     have:=A.1;unfold elB at this;simp only[Bool.or_eq_true,beq_iff_eq]at this;simp only[beq_eq_false_iff_ne];omega
    rw[show (mg (i:Int)).n=(i:Int)from rfl,nthL d c]at p;have r:w64 ((i:Int)+1)=((i+1:Nat):Int):=by rw[bT (by omega) (by omega)];rfl
    simp only[J,aa,h,p,zA,K,r];rw[bP (by rw[a8];simp;omega),zA,<- take_snoc c];exact .inl ⟨rfl,by omega⟩
  ·simp only[Int.lt_irrefl,decide_false,aa];rfl
 ·obtain⟨l,u,v⟩:=aag vb d;rw[d];simp only[show ((4:Int)==3)=false from rfl,aa];have h:(af.mk 4 b.n b.step b.text b.list b.columns b.rows)=b:=by cases b;simp only at d;rw[d]
  refine jS (fun (s:List af) (i:Nat)=>(a.kind,(n:Int),a.step,a.text,a.list,a.columns,a.rows,(4:Int),b.n,b.step,b.text,b.list,b.columns,b.rows,(0:Int),(0:Int),(0:Int),([]:Str),([]:List af),([]:List Str),([]:List aB),(3:Int),(0:Int),(0:Int),([]:Str),s,([]:List Str),([]:List aB),(i:Int)))
   (fun (s:List af) (i:Nat)=>(a.kind,(n:Int),a.step,a.text,a.list,a.columns,a.rows,(4:Int),b.n,b.step,b.text,b.list,b.columns,b.rows,(0:Int),(0:Int),(0:Int),([]:Str),([]:List af),([]:List Str),([]:List aB),(3:Int),(0:Int),(0:Int),([]:Str),s,([]:List Str),([]:List aB),(i:Int)))
   (List.replicate n ()) (fun i s=>s.length=i/\∀x,x∈s->∃m,x=mg m/\nB m=true) _ (fun i x s c j=>?_) (fun s j=>?_) [] ⟨rfl,fun x c=>by cases c⟩
  ·have q:=(zC.1 c).1;rw[List.length_replicate]at q;have z:decide ((i:Int)<(n:Int))=true:=by simp;omega
   have f:=ji (P:=P) (n:=(i:Int)) (by unfold nB;rw[ae (by omega),ae (by omega)];rfl);have B:=Oo (mg (i:Int)) b f.1 g f.2 vb rfl (.inr d);have C:=EL (mg (i:Int)) b f.1 g f.2 vb rfl (.inr d);have L:=aaH (P:=P) (i:Int) b g vb;have D:gd (s.length+[Ci (i:Int) b].length)=some ():=bP (by rw[j.1];simp;omega);simp only[z,ab,h,B,C,show (mg (i:Int)).n=(i:Int)from rfl,zA];have r:w64 ((i:Int)+1)=((i+1:Nat):Int):=by rw[bT (by omega) (by omega)];rfl
   have G:Ci (i:Int) b=Ei (w64 (b.n+w64 ((i:Int)*b.step))):=by
    unfold Ci;rw[ac (by omega),d];rfl
   cases hk:nB (w64 (b.n+w64 ((i:Int)*b.step)))with
   | false=>
    have:Ci (i:Int) b=dI 5:=by rw[G];unfold Ei;rw[hk];rfl
    rw[this];exact .inr ⟨_,rfl,rfl,bH (by omega) (by omega)⟩
   | true=>
    have M:Ci (i:Int) b=mg (w64 (b.n+w64 ((i:Int)*b.step))):=by rw[G];unfold Ei;rw[hk];rfl
    rw[M]at D ⊢;refine .inl ⟨s++[mg (w64 (b.n+w64 ((i:Int)*b.step)))],?_,?_,by simp[j.1],fun y k=>?_⟩
    ·simp only[Rz,aa,D,zA,r]
    ·simp only[Rz,aa,D,zA,r];rfl
    ·rcases List.mem_append.1 k with k | k
     ·exact j.2 y k
     ·rw[List.mem_singleton]at k;exact⟨_,k,hk⟩
  ·rw[List.length_replicate]at j ⊢;refine⟨nV s,by simp only[Int.lt_irrefl,decide_false,aa];rfl,by simp only[Int.lt_irrefl,decide_false,aa];rfl,Iy (by omega) fun x c=>?_,(uG s).2 ⟨fun x c=>?_,by omega⟩⟩
   ·obtain⟨m,rfl,E⟩:=j.2 x c;exact (ji E).1
   ·obtain⟨m,rfl,E⟩:=j.2 x c;exact⟨rfl,(ji (P:=P) E).2,by rw[AZ];simp only[mg,oL];decide⟩
theorem alb(a b:Int):nK a b=some (JG a b):=rfl
theorem akM(a b:Int):kU a b=some (JG a b):=rfl
theorem af7{P:List aj}(a b:af)(k:VOk P a)(d:VOk P b):Al P (FU a b) (EJ a b):=by
 unfold FU EJ;rw[aC,aC];refine Ns a b k d (fun e=>dZ e) (fun e=>dZ e) fun va vb p c=>?_
 simp only[aa,zA,kC,ku,aC];by_cases q:a.n<0
 ·rw[ae q];exact tJ (by omega) (by omega)
 obtain⟨n,t⟩:∃n:Nat,a.n=(n:Int):=⟨a.n.toNat,(toNat_eq q).symm⟩;have r:decide ((n:Int)<0)=false:=by simp
 have f:=Oo a b k d va vb p c;have g:=EL a b k d va vb p c;rw[t]at f g ⊢;rw[r];simp only[aa];rcases c with c | c
 ·obtain⟨h,l,i,u⟩:=lH vb c;have o:vld (nV b.list)=true:=by rw[<- h];exact vb
  rw[c];simp only[beq_self_eq_true,ab];obtain⟨m,v,hmin,hmin2⟩:∃m:Nat,m<=b.list.length/\(if (b.list.length:Int)<(n:Int)then (b.list.length:Int)else (n:Int))=(m:Int)/\Ud (n:Int) (b.list.length:Int)=some (m:Int):=by
   unfold Ud;by_cases hc:(b.list.length:Int)<(n:Int)
   ·exact⟨b.list.length,ar _,by rw[if_pos hc],by rw[ac (by omega)];rfl⟩
   ·refine⟨n,by omega,by rw[if_neg hc],?_⟩;by_cases s:(n:Int)<(b.list.length:Int)
    ·rw[ae s];rfl
    ·rw[ac s];show some _=some _
     congr 1;omega
  have hmem:∀x,x∈b.list.drop m->x∈b.list:=fun x j=>List.mem_of_mem_drop j
  have hlen:(b.list.drop m).length<=b.list.length:=by rw[List.length_drop];omega
  have hf:bQ B20 (.list (.base .val) (b.list.drop m)):=cO (by omega) fun x j=>(d.mem (hmem x j)).fit
  rw[hmin,hmin2,zA,acN _ m v,zA,zA,U3 _ hf,TN _ hf];exact⟨_,rfl,rfl,Iy (by omega) fun x j=>d.mem (hmem x j),aam o hmem hlen⟩
 ·obtain⟨h,l,i⟩:=aag vb c;rw[c];simp only[show ((4:Int)==3)=false from rfl,aa,f,g,zA,alb,akM];have w:Ci (n:Int) b=Ei (w64 (b.n+w64 ((n:Int)*b.step))):=by
   unfold Ci;rw[r,c];rfl
  rw[w];unfold Ei;cases hk:nB (w64 (b.n+w64 ((n:Int)*b.step)))with
  | false=>exact⟨_,rfl,rfl,bH (by omega) (by omega)⟩
  | true=>exact⟨_,rfl,rfl,aan hk i⟩
theorem ajz{P:List aj}(a:af)(g:VOk P a):Al P (Oe a) (LK a):=by
 unfold Oe LK;rw[aC];refine UA (akj g.fit) (fun e=>dZ e) (fun e=>dZ e) fun b=>?_
 obtain⟨b,_⟩:=b a (List.mem_singleton.2 rfl);simp only[zV,aa,kC,ku,LV,zA,aC,bne];by_cases c:a.kind=3
 case neg=>
  have h:(a.kind==3)=false:=by simpa using c
  rw[h]
  exact tJ (by omega) (by omega)
 obtain⟨j,k,l,m⟩:=lH b c;rw[c];simp only[beq_self_eq_true,aL,aa];refine jS (fun (s:Int) (i:Nat)=>((0:Int),(0:Int),(0:Int),([]:Str),([]:List af),([]:List Str),([]:List aB),s,a.list,(a.list.length:Int),(i:Int)))
  (fun (s:Int) (i:Nat)=>((3:Int),a.n,a.step,a.text,a.list,a.columns,a.rows,(0:Int),(0:Int),(0:Int),([]:Str),([]:List af),([]:List Str),([]:List aB),(1:Int),s,(0:Int),([]:Str),([]:List af),([]:List Str),([]:List aB),(i:Int)))
  a.list (fun i s=>nB s=true) _ (fun i x s d f=>?_) (fun s f=>?_) 0 rfl
 ·simp only[dA d,ab,aQ,d,zA,IE,Uj,dW d (by omega)];cases hk:(x.kind==1)with
  | false=>exact .inr ⟨_,rfl,rfl,bH (by omega) (by omega)⟩
  | true=>
   simp only[aL,aa];unfold Ei;cases o:nB (w64 (s+x.n))with
   | false=>exact .inr ⟨_,rfl,rfl,bH (by omega) (by omega)⟩
   | true=>exact .inl ⟨w64 (s+x.n),rfl,rfl,o⟩
 ·simp only[bM,aa,Om];exact⟨_,rfl,rfl,ji f⟩
theorem afq{P:List aj}(a:af)(c:VOk P a):Al P (sO a) (rX a):=by
 unfold sO rX;rw[aC];refine qO [5] (akj c.fit) rfl (fun e=>dZ e) (fun e=>dZ e) fun d hk=>?_
 have f:a.kind=5:=hk 0 a 5 rfl rfl;obtain⟨g,b⟩:=uj (d a (List.mem_singleton.2 rfl)) f;unfold tbB at b;simp only[zI,decide_eq_true_eq]at b;exact⟨_,rfl,rfl,ji (LG _ (by omega))⟩
theorem ale{ρ:Type}{A B:Option ρ}(h:∃r,A=some r/\B=some r/\True):∃r,A=some r/\B=some r:=h.imp fun r h=>⟨h.1,h.2.1⟩
theorem VO:∀(n:Nat) (a b:af) (c:Bool),siz a<n->Fit B20 (.base .val) a->∃r,BJ n a b c=some r/\pK n a b c=some r
 | 0,a,b,c,h,_=>absurd h (Nat.not_lt_zero _)
 | n+1,a,b,c,t,l=>by
  have ih:=VO n;rw[dP]at l;obtain⟨_,_,_,_,c4,m,o⟩:=l;have e:=kz (bU c4);have f:=kz (bU o);show ∃r,U8 (BJ n) a b c=some r/\zn (pK n) a b c=some r
  unfold U8 zn;rw[Oh _ _ (kz (bU m)),Je _ _ (kz (bU m)),zA,zA];simp only[Gx,qW,jI];cases eqd a.kind b.kind with
  | false=>exact⟨_,rfl,rfl⟩
  | true=>
  cases eqd a.n b.n with
  | false=>exact⟨_,rfl,rfl⟩
  | true=>
  cases eqd a.step b.step with
  | false=>exact⟨_,rfl,rfl⟩
  | true=>
  cases eqd a.text b.text with
  | false=>exact⟨_,rfl,rfl⟩
  | true=>
  simp only[ab];by_cases u:a.list.length=b.list.length
  case neg=>
   rw[iE (show ¬((a.list.length:Int)=(b.list.length:Int)) by omega)]
   cases eqd a.columns b.columns<;>exact⟨_,rfl,rfl⟩
  rw[gW (show (a.list.length:Int)=(b.list.length:Int) by omega)];cases eqd a.columns b.columns with
  | false=>exact⟨_,rfl,rfl⟩
  | true=>
  simp only[ab];by_cases w:a.rows.length=b.rows.length
  case neg=>
   rw[iE (show ¬((a.rows.length:Int)=(b.rows.length:Int)) by omega)]
   exact⟨_,rfl,rfl⟩
  rw[gW (show (a.rows.length:Int)=(b.rows.length:Int) by omega)];simp only[ab];refine ale (jS (fun (_:Unit) (i:Nat)=>(c,a.kind,a.n,a.step,a.text,a.list,a.columns,a.rows,b.kind,b.n,b.step,b.text,b.list,b.columns,b.rows,(a.list.length:Int),(i:Int)))
   (fun (_:Unit) (i:Nat)=>(c,a.kind,a.n,a.step,a.text,a.list,a.columns,a.rows,b.kind,b.n,b.step,b.text,b.list,b.columns,b.rows,(i:Int))) a.list (fun _ _=>True) (fun _:Bool=>True) (fun i x s d g=>?_) (fun s g=>?_) () trivial)
  ·have j:=(zC.1 d).1;obtain⟨y,k⟩:∃y,b.list[i]?=some y:=⟨_,zF (by omega)⟩;obtain⟨r,p,q⟩:=ih x y c (by have:=qJ (zG d);have:=lI (v:=a);omega) (c4.bY x (zG d));simp only[dA d,ab,aQ,d,k,zA,aC,p,q,jk j e,jI];cases r with
   | false=>exact .inr ⟨_,rfl,rfl,trivial⟩
   | true=>exact .inl ⟨(),rfl,rfl,trivial⟩
  ·simp only[dF,aa];refine aaZ (jS (fun (_:Unit) (i:Nat)=>(c,a.kind,a.n,a.step,a.text,a.list,a.columns,a.rows,b.kind,b.n,b.step,b.text,b.list,b.columns,b.rows,(a.rows.length:Int),(i:Int)))
    (fun (_:Unit) (i:Nat)=>(c,a.kind,a.n,a.step,a.text,a.list,a.columns,a.rows,b.kind,b.n,b.step,b.text,b.list,b.columns,b.rows,(i:Int))) a.rows (fun _ _=>True) (fun _:Bool=>True) (fun i x s d g=>?_) (fun s g=>?_) () trivial)
   ·have j:=(zC.1 d).1;obtain⟨y,k⟩:∃y,b.rows[i]?=some y:=⟨_,zF (by omega)⟩;have hf:=o.bY x (zG d);rw[iy]at hf;simp only[dA d,ab,aQ,d,k,zA,Xr _ _ (kz (bU hf.1)),Md _ _ (kz (bU hf.1)),Oi _ _ (kz (bU hf.2)),CS _ _ (kz (bU hf.2)),jk j f,jI];cases eqd x.cells y.cells with
    | false=>exact .inr ⟨_,rfl,rfl,trivial⟩
    | true=>
     cases c with
     | false=>exact .inl ⟨(),rfl,rfl,trivial⟩
     | true=>
      cases eqd x.orig y.orig with
      | false=>exact .inr ⟨_,rfl,rfl,trivial⟩
      | true=>exact .inl ⟨(),rfl,rfl,trivial⟩
   ·simp only[dF,aa];exact⟨_,rfl,rfl,trivial⟩
theorem ZR(a b:af)(c:Fit B20 (.base .val) a):∃r,uN a b=some r/\pU a b=some r:=by
 obtain⟨r,d,e⟩:=VO (siz a+siz b+1) a b false (by omega) c;refine⟨r,?_,?_⟩
 ·show (ZH (ah a) (ah b) false).bind _=_
  rw[aC,aC];show (BJ (siz a+siz b+1) a b false).bind _=_
  rw[d];rfl
 ·show (EM (ah a) (ah b) false).bind _=_
  rw[aC,aC];show (pK (siz a+siz b+1) a b false).bind _=_
  rw[e];rfl
theorem ag7{X ρ:Type}(x:X)(F:X->Option ρ):lQ (some (.inl x)) F=F x:=rfl
theorem akx{P:List aj}(n:Int):Al P ((gq n).bind fun r=>some (ah r)) ((eG n).bind fun r=>some (ah r)):=
 ⟨Ei n,by rw[aaO,zA,aC],by rw[Uj,zA,aC],aaU n⟩
theorem afJ{P:List aj}(b:Bool):Al P ((kL b).bind fun r=>some (ah r)) ((iW b).bind fun r=>some (ah r)):=
 ⟨adg b,by rw[ahb,zA,aC],by rw[agh,zA,aC],afV b⟩
theorem Vz{P:List aj}{A B:Option af}(h:Al P A B):Al P A (B.bind fun r=>some (ah r)):=by
 obtain⟨r,a,b,h⟩:=h;exact⟨r,a,by rw[b,zA,aC],h⟩
theorem GK{P:List aj}{A B:Option af}(h:Al P A B):Al P (A.bind fun r=>some (ah r)) (B.bind fun r=>some (ah r)):=by
 obtain⟨r,a,b,h⟩:=h;exact⟨r,by rw[a,zA,aC],by rw[b,zA,aC],h⟩
theorem afK{P:List aj}(b c:af)(a:VOk P b):Al P ((uN b c).bind fun r=>(kL r).bind fun q=>some (ah q)) ((pU b c).bind fun r=>(iW r).bind fun q=>some (ah q)):=by
 obtain⟨r,d,e⟩:=ZR b c a.fit;rw[d,e,zA,zA];exact afJ r
theorem ahH{P:List aj}(s t:Str)(a:txB s=true)(b:txB t=true) :
  Al P (bif decide (w64 ((s.length:Int)+(t.length:Int))>20)then (aJ 6).bind fun r=>some (ah r)else (gd (s.length+t.length)).bind fun _=>(sJ (s++t)).bind fun r=>some (ah r))
   (bif decide (w64 ((s.length:Int)+(t.length:Int))>20)then (aG 6).bind fun r=>some (ah r)else (gd (s.length+t.length)).bind fun _=>(iH (s++t)).bind fun r=>some (ah r)):=by
 unfold txB at a b;simp only[zI,decide_eq_true_eq]at a b;rw[bT (by omega) (by omega)];by_cases h:(s.length:Int)+(t.length:Int)>20
 ·rw[ae h];exact⟨dI 6,rfl,rfl,bH (by omega) (by omega)⟩
 ·rw[ac h];simp only[aa,bP (show s.length+t.length<=34359738368 by omega),zA];refine⟨Di (s++t),rfl,rfl,aaj ?_⟩;unfold txB;rw[List.all_append,a.1,b.1,ae (by rw[a6];omega)];rfl
theorem afL{P:List aj}(b c:af)(f:VOk P b)(hc:VOk P c)(vb:vld b=true)(vc:vld c=true)(kb:b.kind=3)(kc:c.kind=3) :
  Al P (bif decide (w64 ((b.list.length:Int)+(c.list.length:Int))>8)then (aJ 6).bind fun r=>some (ah r)else (kQ b.list).bind fun g=>(kQ c.list).bind fun i=>(gd (g.length+i.length)).bind fun _=>some (af.mk 3 0 0 [] (g++i) [] []))
   (bif decide (w64 ((b.list.length:Int)+(c.list.length:Int))>8)then (aG 6).bind fun r=>some (ah r)else (gd (0+b.list.length)).bind fun _=>(gd (([]++b.list).length+c.list.length)).bind fun _=>(jd (([]++b.list)++c.list)).bind fun r=>some (ah r)):=by
 obtain⟨d,_,k,_⟩:=lH vb kb;obtain⟨e,_,l,_⟩:=lH vc kc;have lb:vld (nV b.list)=true:=by rw[<- d];exact vb
 have lc:vld (nV c.list)=true:=by rw[<- e];exact vc
 have fb:=(dP.1 f.fit).2.2.2.2.1;have fc:=(dP.1 hc.fit).2.2.2.2.1;rw[bT (by omega) (by omega)];by_cases h:(b.list.length:Int)+(c.list.length:Int)>8
 ·rw[ae h];exact⟨dI 6,rfl,rfl,bH (by omega) (by omega)⟩
 ·rw[ac h];have j:∀x,x∈b.list++c.list->VOk P x:=fun x a=>(List.mem_append.1 a).elim (fun h=>f.mem h) fun h=>hc.mem h
  have m:((b.list++c.list).length:Int)<=8:=by rw[a6];omega
  simp only[aa,List.nil_append,OG _ fb,OG _ fc,bP (show b.list.length+c.list.length<=34359738368 by omega),bP (show 0+b.list.length<=34359738368 by omega),zA,TN _ (cO (show ((b.list++c.list).length:Int)<=1048576 by omega) fun x a=>(j x a).fit),aC];refine⟨nV (b.list++c.list),rfl,rfl,Iy (by omega) j,(uG _).2 ⟨fun x a=>?_,m⟩⟩;rcases List.mem_append.1 a with h | h
  ·exact ((uG _).1 lb).1 x h
  ·exact ((uG _).1 lc).1 x h
theorem kcls(k:Int):(k=1/\(k==1)=true/\(k==2)=false/\(k==3)=false)\/(k=2/\(k==1)=false/\(k==2)=true/\(k==3)=false)\/(k=3/\(k==1)=false/\(k==2)=false/\(k==3)=true)\/((k≠1/\k≠2/\k≠3)/\(k==1)=false/\(k==2)=false/\(k==3)=false):=by
 by_cases a:k=1
 ·subst a;exact .inl ⟨rfl,rfl,rfl,rfl⟩
 by_cases b:k=2
 ·subst b;exact .inr (.inl ⟨rfl,rfl,rfl,rfl⟩)
 by_cases c:k=3
 ·subst c;exact .inr (.inr (.inl ⟨rfl,rfl,rfl,rfl⟩))
 exact .inr (.inr (.inr ⟨⟨a,b,c⟩,by simpa using a,by simpa using b,by simpa using c⟩))
theorem akR(k:Int):((k==1)=true/\(k==2)=false/\(k==3)=false/\(k==4)=false/\(k==5)=false)\/((k==1)=false/\(k==2)=true/\(k==3)=false/\(k==4)=false/\(k==5)=false)\/((k==1)=false/\(k==2)=false/\(k==3)=true/\(k==4)=false/\(k==5)=false) \/
  ((k==1)=false/\(k==2)=false/\(k==3)=false/\(k==4)=true/\(k==5)=false)\/((k==1)=false/\(k==2)=false/\(k==3)=false/\(k==4)=false/\(k==5)=true)\/((k==1)=false/\(k==2)=false/\(k==3)=false/\(k==4)=false/\(k==5)=false):=by
 by_cases a:k=1
 ·subst a;exact .inl ⟨rfl,rfl,rfl,rfl,rfl⟩
 by_cases b:k=2
 ·subst b;exact .inr (.inl ⟨rfl,rfl,rfl,rfl,rfl⟩)
 by_cases c:k=3
 ·subst c;exact .inr (.inr (.inl ⟨rfl,rfl,rfl,rfl,rfl⟩))
 by_cases d:k=4
 ·subst d;exact .inr (.inr (.inr (.inl ⟨rfl,rfl,rfl,rfl,rfl⟩)))
 by_cases e:k=5
 ·subst e;exact .inr (.inr (.inr (.inr (.inl ⟨rfl,rfl,rfl,rfl,rfl⟩))))
 exact .inr (.inr (.inr (.inr (.inr ⟨by simpa using a,by simpa using b,by simpa using c,by simpa using d,by simpa using e⟩))))
set_option maxHeartbeats 2000000 in
theorem akS{P:List aj}(o:Int)(b c:af)(t:VOk P b)(hc:VOk P c):Al P (jo o b c) (iK o b c):=by
 unfold jo iK;rw[aC,aC];refine UA (Vm t.fit hc.fit) (fun e=>dZ e) (fun e=>dZ e) fun u=>?_
 have vb:=(u b afa).1;have vc:=(u c abt).1;have tl:=fun kb kc=>Vz (afL b c t hc vb vc kb kc)
 have ts:=afK b c t;have tt:b.kind=2->c.kind=2->_:=fun h v=>Vz (ahH (P:=P) b.text c.text (uh vb h).2 (uh vc v).2)
 have ea:Al P ((aJ 4).bind fun r=>some (ah r)) ((aG 4).bind fun r=>some (ah r)):=⟨dI 4,rfl,rfl,bH (by omega) (by omega)⟩;have i:=fun n=>akx (P:=P) n
 have j:=fun n=>afJ (P:=P) n
 obtain⟨kb,w,x,y,z,c1,A⟩:=b;obtain⟨kc,B,s2,C,D,c2,E⟩:=c;simp only[aC,Option.bind_fun_some]at tl ts tt i j ea;simp only[aa,aC];rcases kcls kb with ⟨eb,k,l,m⟩ | ⟨eb,k,l,m⟩ | ⟨eb,k,l,m⟩ | ⟨eb,k,l,m⟩<;>rcases kcls kc with ⟨ec,p,q,s⟩ | ⟨ec,p,q,s⟩ | ⟨ec,p,q,s⟩ | ⟨ec,p,q,s⟩<;>rcases akR o with ⟨a,o2,d,f,g⟩ | ⟨a,o2,d,f,g⟩ | ⟨a,o2,d,f,g⟩ | ⟨a,o2,d,f,g⟩ | ⟨a,o2,d,f,g⟩ | ⟨a,o2,d,f,g⟩<;>
  simp only[ag7,ab,aa,TS,Kq,k,l,m,p,q,s,a,o2,d,f,g,aC,Option.bind_fun_some]<;>
  first
  | with_reducible exact i _
  | with_reducible exact j _
  | with_reducible exact ea
  | with_reducible exact tt eb ec
  | with_reducible exact tl eb ec
  | with_reducible exact ts
  | skip
