import Derived.Test.YtjbajpfonnnfoaaGreatDoorPlain1
set_option linter.unusedSimpArgs false
set_option linter.unusedVariables false
/- Plain laws: IsValidValue, alike on both sides. -/
namespace Go.Proofs.YtjbajpfonnnfoaaGreatDoor
open Go.Abs Go.Proofs
def elB(v:af):Bool:=(v.kind==1)||((v.kind==2)||(v.kind==3))
mutual
noncomputable def vld:af->Bool
 | ⟨k,n,st,t,l,c,r⟩=>
  bif k==1 then l.isEmpty&&(c.isEmpty&&(r.isEmpty&&((st==0)&&((t==[])&&nB n))))
  else bif k==2 then l.isEmpty&&(c.isEmpty&&(r.isEmpty&&((n==0)&&((st==0)&&txB t))))
  else bif k==4 then l.isEmpty&&(c.isEmpty&&(r.isEmpty&&((t==[])&&(nB n&&nB st))))
  else bif k==6 then l.isEmpty&&(c.isEmpty&&(r.isEmpty&&((st==0)&&((t==[])&&(decide (1<=n)&&decide (n<=8))))))
  else bif k==5 then (n==0)&&((st==0)&&((t==[])&&(l.isEmpty&&tbB c r)))
  else bif k==3 then JM l&&((n==0)&&((st==0)&&((t==[])&&(c.isEmpty&&(r.isEmpty&&(decide ((l.length:Int)<=8)&&decide (w64 (oL l 0+1)<=3)))))))
  else false
noncomputable def JM:List af->Bool
 | []=>true
 | x::r=>(elB x&&vld x)&&JM r
end
theorem EH:∀l:List af,JM l=l.all λx=>elB x&&vld x
 | []=>by simp[JM]
 | x::r=>by simp only[JM,List.all_cons,EH r]
theorem len0{α:Type}(l:List α):((l.length:Int)==0)=l.isEmpty:=by
 cases l with
 | nil=>rfl
 | cons x r=>simp only[amr,List.isEmpty_cons,beq_eq_false_iff_ne];omega
theorem akS{α:Type}(l:List α):decide ((l.length:Int)>0) = !l.isEmpty:=by
 cases l with
 | nil=>rfl
 | cons x r=>simp only[amr,List.isEmpty_cons,Bool.not_false,decide_eq_true_eq];omega
theorem XF:∀(n:Nat) (v:af),siz v<n->Fit B20 (.base .val) v->kL n v=some (vld v)
 | 0,v,h,_=>absurd h (aml _)
 | n+1,v,E,h=>by
  have ih:=XF n;have f:=ak1 v h;have hdep:=abm v h;have g:=lG (v:=v);obtain⟨k,m,st,t,l,c,r⟩:=v;obtain⟨_,_,_,c3,c4,G,H⟩:=dQ.1 h;have p:=bW c4;simp only at g c3 c4 p;show sH (kL n) _=_
  unfold sH;simp only[len0];have B:∀(F:Int×Int×Int×Str×(List af)×(List Str)×(List aB)×Bool->Option Bool),
   jL (X:=Int×Int×Int×Str×(List af)×(List Str)×(List aB)×Bool) (bif l.isEmpty then bif c.isEmpty then some (.inl (k,m,st,t,l,c,r,r.isEmpty))else some (.inl (k,m,st,t,l,c,r,false))else some (.inl (k,m,st,t,l,c,r,false))) F=F (k,m,st,t,l,c,r,l.isEmpty&&(c.isEmpty&&r.isEmpty)):=by
   intro F
   cases l.isEmpty<;>cases c.isEmpty<;>rfl
  rw[B];simp only[IX,XG t (aaP c3),oG,zA,PG];by_cases q:k=1
  ·subst q;simp only[vld,beq_self_eq_true,ac];cases l.isEmpty<;>cases c.isEmpty<;>cases r.isEmpty<;>cases (st==0)<;>cases (t==[])<;>rfl
  have a:(k==1)=false:=by simpa using q
  by_cases s:k=2
  ·subst s;simp only[vld,beq_self_eq_true,ac,a,aa];cases l.isEmpty<;>cases c.isEmpty<;>cases r.isEmpty<;>cases (m==0)<;>cases (st==0)<;>rfl
  have b:(k==2)=false:=by simpa using s
  by_cases u:k=4
  ·subst u;simp only[vld,beq_self_eq_true,ac,a,b,aa];cases l.isEmpty<;>cases c.isEmpty<;>cases r.isEmpty<;>cases (t==[])<;>cases nB m<;>rfl
  have e:(k==4)=false:=by simpa using u
  by_cases w:k=6
  ·subst w;simp only[vld,beq_self_eq_true,ac,a,b,e,aa];cases l.isEmpty<;>cases c.isEmpty<;>cases r.isEmpty<;>cases (st==0)<;>cases (t==[])<;>rfl
  have j:(k==6)=false:=by simpa using w
  by_cases y:k=5
  ·subst y;simp only[vld,beq_self_eq_true,ac,a,b,e,j,aa];rw[f];cases (m==0)<;>cases (st==0)<;>cases (t==[])<;>cases l.isEmpty<;>rfl
  have z:(k==5)=false:=by simpa using y
  by_cases A:k=3
  ·subst A;simp only[vld,beq_self_eq_true,ac,a,b,e,z,j,aa];refine (congrArg (λo=>jL o _) (nU (λi=>((3,m,st,t,l,c,r,l,(l.length:Int),(i:Int)):Int×Int×Int×Str×(List af)×(List Str)×(List aB)×(List af)×Int×Int)) l (λ_ x=>elB x&&vld x) (Sum.inr false) (Sum.inl (3,m,st,t,l,c,r)) (λi x d=>?_) ?_)).trans ?_
   ·have ihx:=ih x (by have:=qE (zG d);omega) (c4.dG x (zG d));simp only[dD d,ac,aP,d,aC,zA,ihx,dY d p,bne];unfold elB;cases (x.kind==1)<;>cases (x.kind==2)<;>cases (x.kind==3)<;>cases vld x<;>rfl
   ·simp only[bM,aa]
   ·rw[jq,EH];cases l.all λx=>elB x&&vld x with
    | false=>rfl
    | true=>
     show (bif (m==0)then _ else _)=_
     rw[hdep];have C:dep ⟨3,m,st,t,l,c,r⟩=w64 (oL l 0+1):=Bh _;rw[C];cases (m==0)<;>cases (st==0)<;>cases (t==[])<;>cases c.isEmpty<;>cases r.isEmpty<;>cases decide ((l.length:Int)<=8)<;>rfl
  have D:(k==3)=false:=by simpa using A
  simp only[vld,a,b,D,e,z,j,aa]
theorem ahP(v:af)(h:Fit B20 (.base .val) v):vH v=some (vld v):=XF _ v (Nat.lt_succ_self _) h
noncomputable def lsB(v:af):Bool:=JM v.list&&(decide ((v.list.length:Int)<=8)&&decide (dep v<=3))
theorem aer(v:af):ru v=some (elB v):=by
 unfold ru elB;cases (v.kind==1)<;>cases (v.kind==2)<;>rfl
theorem ako{α β:Type}(c:List α)(r:List β)(hc:(c.length:Int)<=1048576)(a:(r.length:Int)<=1048576):decide (w64 ((c.length:Int)+(r.length:Int))>0) = !(c.isEmpty&&r.isEmpty):=by
 rw[bQ (by omega) (by omega)];cases c with
 | cons x c=>simp only[amr,List.isEmpty_cons,Bool.false_and,Bool.not_false,decide_eq_true_eq];omega
 | nil=>
  cases r with
  | nil=>rfl
  | cons y r=>simp only[amr,List.length_nil,List.isEmpty_cons,Bool.and_false,Bool.not_false,decide_eq_true_eq];omega
theorem ad8:∀n:Nat,(∀v:af,Fit B20 (.base .val) v->siz v<n->(dA n).1 v=some (vld v))/\(∀v:af,Fit B20 (.base .val) v->siz v<n+1->(dA n).2 v=some (lsB v)):=by
 intro n;induction n with
 | zero=>exact⟨λv _ h=>absurd h (aml _),λv _ h=>by have:=lG (v:=v);omega⟩
 | succ n ih=>
  refine⟨λv h y=>?_,λv h y=>?_⟩
  ·have b:=ih.2 v h y;have j:=akB v h;obtain⟨k,m,st,t,l,c,r⟩:=v;obtain⟨_,_,_,c3,c4,z,A⟩:=dQ.1 h;have p:=bW c4;simp only at c3 c4 p z A;show rM (dA n).1 (dA n).2 _=_
   unfold rM;simp only[akS,ako c r (bW z) (bW A),Dz,EP t (aaP c3),vV,zA,bne];have s:∀(F:Int×Int×Int×Str×(List af)×(List Str)×(List aB)->Option Bool),
    jL (X:=Int×Int×Int×Str×(List af)×(List Str)×(List aB)) (
     bif (!(k==3))then
      bif (!l.isEmpty)then some (.inr false)
      else bif (!(k==5))then bif (!(c.isEmpty&&r.isEmpty))then some (.inr false)else some (.inl (k,m,st,t,l,c,r))else some (.inl (k,m,st,t,l,c,r))
     else bif (!(k==5))then bif (!(c.isEmpty&&r.isEmpty))then some (.inr false)else some (.inl (k,m,st,t,l,c,r))else some (.inl (k,m,st,t,l,c,r))) F
    = bif (!(k==3)&&!l.isEmpty)||(!(k==5)&&!(c.isEmpty&&r.isEmpty))then some false else F (k,m,st,t,l,c,r):=by
    intro F
    cases (k==3)<;>cases (k==5)<;>cases l.isEmpty<;>cases (c.isEmpty&&r.isEmpty)<;>rfl
   have u:∀(F:Int×Int×Int×Str×(List af)×(List Str)×(List aB)->Option Bool),
    jL (X:=Int×Int×Int×Str×(List af)×(List Str)×(List aB)) (
     bif (!(k==2))then
      bif (!(t==[]))then some (.inr false)
      else bif (!(k==4))then bif (!(st==0))then some (.inr false)else some (.inl (k,m,st,t,l,c,r))else some (.inl (k,m,st,t,l,c,r))
     else bif (!(k==4))then bif (!(st==0))then some (.inr false)else some (.inl (k,m,st,t,l,c,r))else some (.inl (k,m,st,t,l,c,r))) F
    = bif (!(k==2)&&!(t==[]))||(!(k==4)&&!(st==0))then some false else F (k,m,st,t,l,c,r):=by
    intro F
    cases (k==2)<;>cases (k==4)<;>cases (t==[])<;>cases (st==0)<;>rfl
   refine (s _).trans ?_;refine (congrArg (λo=>bif (!(k==3)&&!l.isEmpty)||(!(k==5)&&!(c.isEmpty&&r.isEmpty))then some false else o) (u _)).trans ?_;simp only[Dz,EP t (aaP c3),vV,zA];by_cases B:k=1
   ·subst B;simp only[vld,beq_self_eq_true,ac];cases l.isEmpty<;>cases c.isEmpty<;>cases r.isEmpty<;>cases (st==0)<;>cases (t==[])<;>rfl
   have a:(k==1)=false:=by simpa using B
   by_cases C:k=2
   ·subst C;simp only[vld,beq_self_eq_true,ac,a,aa];cases l.isEmpty<;>cases c.isEmpty<;>cases r.isEmpty<;>cases (m==0)<;>cases (st==0)<;>rfl
   have d:(k==2)=false:=by simpa using C
   by_cases D:k=4
   ·subst D;simp only[vld,beq_self_eq_true,ac,a,d,aa];cases l.isEmpty<;>cases c.isEmpty<;>cases r.isEmpty<;>cases (t==[])<;>cases nB m<;>rfl
   have g:(k==4)=false:=by simpa using D
   by_cases E:k=6
   ·subst E;simp only[vld,beq_self_eq_true,ac,a,d,g,aa];cases l.isEmpty<;>cases c.isEmpty<;>cases r.isEmpty<;>cases (st==0)<;>cases (t==[])<;>rfl
   have w:(k==6)=false:=by simpa using E
   by_cases G:k=5
   ·subst G;simp only[vld,beq_self_eq_true,ac,a,d,g,w,aa];have e:((zN ⟨5,m,st,t,l,c,r⟩).bind λr=>some r)=some (tbB c r):=by rw[j];rfl
    cases (m==0)<;>cases (st==0)<;>cases (t==[])<;>cases l.isEmpty<;>first | rfl | exact e
   have H:(k==5)=false:=by simpa using G
   by_cases I:k=3
   ·subst I;have J:dep ⟨3,m,st,t,l,c,r⟩=w64 (oL l 0+1):=Bh _;have hv:lsB ⟨3,m,st,t,l,c,r⟩=(JM l&&(decide ((l.length:Int)<=8)&&decide (w64 (oL l 0+1)<=3))):=by unfold lsB;rw[J]
    rw[hv]at b;simp only[vld,beq_self_eq_true,ac,a,d,g,H,w,aa];have e:((dA n).2 ⟨3,m,st,t,l,c,r⟩).bind (λr=>some r)=some (JM l&&(decide ((l.length:Int)<=8)&&decide (w64 (oL l 0+1)<=3))):=by rw[b];rfl
    generalize (decide ((l.length:Int)<=8)&&decide (w64 (oL l 0+1)<=3))=q at e ⊢;generalize K:JM l=vl at e ⊢;cases (m==0)<;>cases (st==0)<;>cases (t==[])<;>cases c.isEmpty<;>cases r.isEmpty<;>cases vl<;>first | rfl | exact e
   have L:(k==3)=false:=by simpa using I
   simp only[vld,a,d,L,g,H,w,aa];cases l.isEmpty<;>cases c.isEmpty<;>cases r.isEmpty<;>cases (st==0)<;>cases (t==[])<;>rfl
  ·obtain⟨_,_,_,_,c4,_,_⟩:=dQ.1 h;have p:=bW c4;have M:=lG (v:=v);have hdep:=aaV v h;show MI (dA n).1 (dA n).2 v=_
   unfold MI;refine (nU (λi=>((v.kind,v.n,v.step,v.text,v.list,v.columns,v.rows,(i:Int)):Int×Int×Int×Str×(List af)×(List Str)×(List aB)×Int)) v.list (λ_ x=>elB x&&vld x) false (decide ((v.list.length:Int)<=8)&&decide (dep v<=3)) (λi x f=>?_) ?_).trans ?_
   ·have ihx:=ih.1 x (c4.dG x (zG f)) (by have:=qE (zG f);omega);simp only[dD f,ac,aP,f,aC,aer,zA,ihx,dY f p];cases elB x<;>cases vld x<;>rfl
   ·simp only[bM,aa];rw[show (af.mk v.kind v.n v.step v.text v.list v.columns v.rows)=v from by cases v;rfl,hdep];cases decide ((v.list.length:Int)<=8)<;>rfl
   ·rw[jq,PG];unfold lsB;rw[EH]
theorem aaU(v:af)(h:Fit B20 (.base .val) v):oQ v=some (vld v):=(ad8 _).1 v h (Nat.lt_succ_self _)
inductive zl(P:List aj):af->Prop
 | mk {v:af} (hr:∀r,r∈v.rows->∀o,o∈r.orig->o∈P) (hl:∀x,x∈v.list->zl P x):zl P v
structure VOk(P:List aj)(v:af):Prop where
 fit:Fit B20 (.base .val) v
 org:zl P v
def dM(n:Int):af:=⟨6,n,0,[],[],[],[]⟩
def mr(n:Int):af:=⟨1,n,0,[],[],[],[]⟩
def Dw(s:Str):af:=⟨2,0,0,s,[],[],[]⟩
theorem kz(n:Int):aI n=some (dM n):=rfl
theorem jZ(n:Int):aF n=some (dM n):=rfl
theorem OH(n:Int):dX n=some (mr n):=rfl
theorem MB(n:Int):bg n=some (mr n):=rfl
theorem al3(s:Str):sF s=some (Dw s):=rfl
theorem alC(s:Str):iF s=some (Dw s):=rfl
theorem pU{t:Ty}:cu B20 (.list t []):=dB (by simp) (λx a=>by cases a)
theorem BL{P:List aj}{k n st:Int}{t:Str}{c:List Str}:zl P ⟨k,n,st,t,[],c,[]⟩:=.mk (λr h=>by cases h) (λx h=>by cases h)
theorem bG{P:List aj}{n:Int}(a:1<=n)(b:n<=8):VOk P (dM n)/\vld (dM n)=true:=by
 refine⟨⟨dQ.2 ⟨og (dN (by simp[dM]) (by simp[dM])),og (dN (by show -1000000000<=n;omega) (by show n<=1000000000;omega)),og (dN (by simp[dM]) (by simp[dM])),qh,pU,pU,pU⟩,BL⟩,?_⟩;simp only[dM,vld,show ((6:Int)==1)=false from rfl,show ((6:Int)==2)=false from rfl,show ((6:Int)==4)=false from rfl,beq_self_eq_true,ac,aa,List.isEmpty_nil,amy,aq a,aq b]
theorem iW{P:List aj}{n:Int}(h:nB n=true):VOk P (mr n)/\vld (mr n)=true:=by
 have a:=h;unfold nB at a;simp only[zI,decide_eq_true_eq]at a;refine⟨⟨dQ.2 ⟨og (dN (by simp[mr]) (by simp[mr])),og (dN a.1 a.2),og (dN (by simp[mr]) (by simp[mr])),qh,pU,pU,pU⟩,BL⟩,?_⟩;simp only[mr,vld,beq_self_eq_true,ac,List.isEmpty_nil,amy,h]
theorem aaK{P:List aj}{s:Str}(h:txB s=true):VOk P (Dw s)/\vld (Dw s)=true:=by
 have a:=h;unfold txB at a;simp only[zI,decide_eq_true_eq]at a;refine⟨⟨dQ.2 ⟨og (dN (by simp[Dw]) (by simp[Dw])),og (dN (by simp[Dw]) (by simp[Dw])),og (dN (by simp[Dw]) (by simp[Dw])),FZ (by have:=a.2;show (s.length:Int)<=1048576;omega),pU,pU,pU⟩,BL⟩,?_⟩;simp only[Dw,vld,show ((2:Int)==1)=false from rfl,beq_self_eq_true,ac,aa,List.isEmpty_nil,amy,h]
def gq{α ρ:Type}(q:Nat->α->Option ρ):Nat->List α->Option ρ
 | _,[]=>none
 | i,x::r=>match q i x with
  | some v=>some v
  | none=>gq q (i+1) r
theorem qM{α X ρ:Type}{g:X->Option (X⊕ρ)}(pk:Nat->X)(xs:List α)(q:Nat->α->Option ρ)(yes:ρ)
  (d:∀i x,xs[i]?=some x->g (pk i)=match q i x with | some r=>some (.inr r) | none=>some (.inl (pk (i+1))))
  (hf:g (pk xs.length)=some (.inr yes)):aN g (pk 0)=some ((gq q 0 xs).getD yes):=by
 have key:∀(ys:List α) (i:Nat),xs.drop i=ys->i<=xs.length->aN g (pk i)=some ((gq q i ys).getD yes):=by
  intro ys;induction ys with
  | nil=>
   intro i a hi;have e:xs.length<=i:=List.drop_eq_nil_iff.1 a;have:i=xs.length:=by omega
   subst this;rw[aX,hf];rfl
  | cons y r ih=>
   intro i a hi;have c:xs[i]?=some y:=by
    have:=congrArg (·[0]?) a;simpa using this
   have b:=(zC.1 c).1;rw[aX,d i y c];unfold gq;cases f:q i y with
   | some v=>rfl
   | none=>
    simp only;refine ih (i+1) ?_ b;have:=congrArg List.tail a;simpa using this
 exact key xs 0 rfl (Nat.zero_le _)
noncomputable def opQ(v:af):Option af:=bif !vld v then some (dM 4)else bif v.kind==6 then some v else none
noncomputable def opE(xs:List af):Option (af):=gq (λ_ v=>opQ v) 0 xs
theorem aaI{v:af}(h:vld v=true)(hk:v.kind=6):v=dM v.n/\1<=v.n/\v.n<=8:=by
 obtain⟨k,n,st,t,l,c,r⟩:=v;simp only at hk;subst hk;simp only[vld,show ((6:Int)==1)=false from rfl,show ((6:Int)==2)=false from rfl,show ((6:Int)==4)=false from rfl,beq_self_eq_true,ac,aa,zI,List.isEmpty_iff,beq_iff_eq,decide_eq_true_eq]at h;obtain⟨rfl,rfl,rfl,rfl,rfl,a,b⟩:=h;exact⟨rfl,a,b⟩
theorem ahw{P:List aj}{v e:af}(h:opQ v=some e):VOk P e/\vld e=true/\e.kind=6:=by
 unfold opQ at h;cases hv:vld v with
 | false=>rw[hv]at h;cases h;exact⟨(bG (by omega) (by omega)).1,(bG (P:=P) (by omega) (by omega)).2,rfl⟩
 | true=>
  rw[hv]at h;cases hk:v.kind==6 with
  | false=>rw[hk]at h;cases h
  | true=>
   rw[hk]at h;have h:some v=some e:=h;cases h
   have hk:v.kind=6:=by simpa using hk
   obtain⟨a,b,c⟩:=aaI hv hk;refine⟨?_,hv,hk⟩;rw[a];exact (bG b c).1
theorem FH{P:List aj}:∀(xs:List af) (i:Nat) {e:af},gq (λ_ v=>opQ v) i xs=some e->VOk P e/\vld e=true/\e.kind=6
 | [],_,_,h=>by cases h
 | x::r,i,e,h=>by
  unfold gq at h;cases a:opQ x with
  | some v=>rw[a]at h;cases h;exact ahw a
  | none=>rw[a]at h;exact FH r (i+1) h
theorem Aq:∀(xs:List af) (i:Nat),gq (λ_ v=>opQ v) i xs=none->∀x,x∈xs->vld x=true/\x.kind≠6
 | [],_,_,x,b=>by cases b
 | y::r,i,h,x,b=>by
  unfold gq at h;cases a:opQ y with
  | some v=>rw[a]at h;cases h
  | none=>
   rw[a]at h;rcases bh.1 b with rfl | b
   ·unfold opQ at a;cases hv:vld x with
    | false=>rw[hv]at a;cases a
    | true=>
     rw[hv]at a;refine⟨rfl,λhk=>?_⟩;rw[hk]at a;cases a
   ·exact Aq r (i+1) h x b
def zV:af:=⟨0,0,0,[],[],[],[]⟩
def opR:Option af->af×Bool
 | some e=>(e,true)
 | none=>(zV,false)
theorem jF{α ρ σ:Type}(q:Nat->α->Option ρ)(f:ρ->σ):∀(xs:List α) (i:Nat),gq (λi x=>(q i x).map f) i xs=(gq q i xs).map f
 | [],_=>rfl
 | x::r,i=>by
  unfold gq;cases q i x with
  | some v=>rfl
  | none=>exact jF q f r (i+1)
theorem BM(o:Option af):(o.map λe=>(e,true)).getD (zV,false)=opR o:=by cases o<;>rfl
theorem Gi(xs:List af)(h:cu B20 (.list (.base .val) xs)):fV xs=some (opR (opE xs)):=by
 have b:=bW h;unfold fV opE;rw[<- BM,<- jF];refine qM (λi=>((0,0,0,[],[],[],[],xs,(xs.length:Int),(i:Int)):Int×Int×Int×Str×(List af)×(List Str)×(List aB)×(List af)×Int×Int)) xs _ _ (λi x a=>?_) ?_
 ·simp only[dD a,ac,aP,a,zA,aC,ahP x (h.dG x (zG a)),kz,dY a b];unfold opQ;cases vld x<;>cases (x.kind==6)<;>rfl
 ·simp only[bM,aa];rfl
theorem ES(xs:List af)(h:cu B20 (.list (.base .val) xs)):lH xs=some (opR (opE xs)):=by
 have b:=bW h;unfold lH opE;rw[<- BM,<- jF];refine qM (λi=>((xs,0,0,0,[],[],[],[],(i:Int)):(List af)×Int×Int×Int×Str×(List af)×(List Str)×(List aB)×Int)) xs _ _ (λi x a=>?_) ?_
 ·simp only[dD a,ac,aP,a,zA,aC,aaU x (h.dG x (zG a)),jZ,dY a b];unfold opQ;cases hv:vld x with
  | false=>rfl
  | true=>
   cases hk:(x.kind==6)with
   | false=>rfl
   | true=>
    simp only[aR,aa,ac];rw[<- (aaI hv (by simpa using hk)).1];rfl
 ·simp only[bM,aa];rfl
def Al(P:List aj)(a b:Option af):Prop:=∃r,a=some r/\b=some r/\VOk P r/\vld r=true
theorem tq{P:List aj}{n:Int}(a:1<=n)(b:n<=8):Al P (some (dM n)) (some (dM n)):=⟨_,rfl,rfl,bG a b⟩
theorem ak6{a:af}(b:Fit B20 (.base .val) a):cu B20 (.list (.base .val) [a]):=dB (by simp) (by simpa using b)
theorem VH{a b:af}(c:Fit B20 (.base .val) a)(d:Fit B20 (.base .val) b):cu B20 (.list (.base .val) [a,b]):=dB (by simp) (by simp only[bh,List.not_mem_nil,or_false];rintro x (rfl | rfl)<;>assumption)
theorem ak5{a b c:af}(d:Fit B20 (.base .val) a)(e:Fit B20 (.base .val) b)(hc:Fit B20 (.base .val) c):cu B20 (.list (.base .val) [a,b,c]):=dB (by simp) (by simp only[bh,List.not_mem_nil,or_false];rintro x (rfl | rfl | rfl)<;>assumption)
theorem fit4{a b c d:af}(e:Fit B20 (.base .val) a)(f:Fit B20 (.base .val) b)(hc:Fit B20 (.base .val) c)(g:Fit B20 (.base .val) d):cu B20 (.list (.base .val) [a,b,c,d]):=dB (by simp) (by simp only[bh,List.not_mem_nil,or_false];rintro x (rfl | rfl | rfl | rfl)<;>assumption)
theorem UW{P:List aj}{xs:List af}{F G:af×Bool->Option af}(h:cu B20 (.list (.base .val) xs))
  (f:∀e,F (e,true)=some e) (g:∀e,G (e,true)=some e) (i:(∀x,x∈xs->vld x=true/\x.kind≠6)->Al P (F (zV,false)) (G (zV,false))) :
  Al P ((fV xs).bind F) ((lH xs).bind G):=by
 rw[Gi xs h,ES xs h,zA,zA];cases d:opE xs with
 | some e=>
  obtain⟨a,b,c⟩:=FH (P:=P) xs 0 d;exact⟨e,f e,g e,a,b⟩
 | none=>exact i (Aq xs 0 d)
def kdQ(ks:List Int)(i:Nat)(x:af):Option af:=bif x.kind != ks.getD i 0 then some (dM 4)else none
noncomputable def kdE(ks:List Int)(xs:List af):Option af:=match opE xs with
 | some e=>some e
 | none=>gq (kdQ ks) 0 xs
theorem akf{ks:List Int}{xs:List af}(hlen:ks.length=xs.length){i:Nat}{x:af}(a:xs[i]?=some x):∃k,ks[i]?=some k:=⟨_,zF (by rw[hlen];exact (zC.1 a).1)⟩
theorem ahT(ks:List Int)(xs:List af)(h:cu B20 (.list (.base .val) xs))(hlen:ks.length=xs.length):fC ks xs=some (opR (kdE ks xs)):=by
 have b:=bW h;unfold fC kdE;rw[Gi xs h,zA];cases opE xs with
 | some e=>simp only[opR,ac,aC]
 | none=>
  show aN _ _=some (opR (gq (kdQ ks) 0 xs))
  rw[<- BM,<- jF];refine qM (λi=>((ks,0,0,0,[],[],[],[],xs,(xs.length:Int),(i:Int)):(List Int)×Int×Int×Int×Str×(List af)×(List Str)×(List aB)×(List af)×Int×Int)) xs _ _ (λi x a=>?_) ?_
  ·obtain⟨k,hk⟩:=akf hlen a;unfold kdQ;simp only[dD a,ac,aP,a,hk,zA,kz,dY a b,zE,Option.getD_some];cases (x.kind != k)<;>rfl
  ·simp only[bM,aa];rfl
theorem ag8(ks:List Int)(xs:List af)(h:cu B20 (.list (.base .val) xs))(hlen:ks.length=xs.length):ji xs ks=some (opR (kdE ks xs)):=by
 have b:=bW h;unfold ji kdE;rw[ES xs h,zA];cases opE xs with
 | some e=>simp only[opR,ac,aC]
 | none=>
  show aN _ _=some (opR (gq (kdQ ks) 0 xs))
  rw[<- BM,<- jF];refine qM (λi=>((xs,ks,0,0,0,[],[],[],[],(i:Int)):(List af)×(List Int)×Int×Int×Int×Str×(List af)×(List Str)×(List aB)×Int)) xs _ _ (λi x a=>?_) ?_
  ·obtain⟨k,hk⟩:=akf hlen a;unfold kdQ;simp only[dD a,ac,aP,a,hk,zA,jZ,dY a b,zE,Option.getD_some];cases (x.kind != k)<;>rfl
  ·simp only[bM,aa];rfl
theorem Om(ks:List Int):∀(ys:List af) (j:Nat),gq (kdQ ks) j ys=some (dM 4)\/(gq (kdQ ks) j ys=none/\∀(i:Nat) (x:af),ys[i]?=some x->x.kind=ks.getD (j+i) 0)
 | [],j=>.inr ⟨rfl,λi x b=>by simp at b⟩
 | y::ys,j=>by
  unfold gq;cases a:kdQ ks j y with
  | some v=>
   unfold kdQ at a;cases hk:y.kind != ks.getD j 0 with
   | true=>rw[hk]at a;cases a;exact .inl rfl
   | false=>rw[hk]at a;cases a
  | none=>
   simp only;have hk:y.kind=ks.getD j 0:=by
    unfold kdQ at a;cases hk:y.kind != ks.getD j 0 with
    | true=>rw[hk]at a;cases a
    | false=>simpa using hk
   rcases Om ks ys (j+1)with c | ⟨c,d⟩
   ·exact .inl c
   ·refine .inr ⟨c,λi x b=>?_⟩;cases i with
    | zero=>
     simp at b;subst b;exact hk
    | succ i=>rw[show j+(i+1)=j+1+i by omega];exact d i x (by simpa using b)
theorem ahL{P:List aj}{ks:List Int}{xs:List af}{e:af}(h:kdE ks xs=some e):VOk P e/\vld e=true:=by
 unfold kdE at h;cases d:opE xs with
 | some e'=>
  rw[d]at h;cases h
  obtain⟨a,b,c⟩:=FH (P:=P) xs 0 d;exact⟨a,b⟩
 | none=>
  rw[d]at h;rcases Om ks xs 0 with f | ⟨f,_⟩
  ·have h:gq (kdQ ks) 0 xs=some e:=h;rw[f]at h;cases h
   exact bG (by omega) (by omega)
  ·have h:gq (kdQ ks) 0 xs=some e:=h;rw[f]at h;cases h
theorem XB{ks:List Int}{xs:List af}(hlen:ks.length=xs.length)(h:kdE ks xs=none):(∀x,x∈xs->vld x=true)/\∀(i:Nat) (x:af) (k:Int),xs[i]?=some x->ks[i]?=some k->x.kind=k:=by
 unfold kdE at h;cases a:opE xs with
 | some e'=>rw[a]at h;cases h
 | none=>
  rw[a]at h;have h:gq (kdQ ks) 0 xs=none:=h;refine⟨λx b=>(Aq xs 0 a x b).1,λi x k b hk=>?_⟩;rcases Om ks xs 0 with c | ⟨c,d⟩
  ·rw[c]at h;cases h
  ·have:=d i x b;rw[this,zE,amw,hk];rfl
theorem qJ{P:List aj}(ks:List Int){xs:List af}{F G:af×Bool->Option af}(h:cu B20 (.list (.base .val) xs))(hlen:ks.length=xs.length)
  (b:∀e,F (e,true)=some e) (c:∀e,G (e,true)=some e) (d:(∀x,x∈xs->vld x=true)->(∀(i:Nat) (x:af) (k:Int),xs[i]?=some x->ks[i]?=some k->x.kind=k)->Al P (F (zV,false)) (G (zV,false))) :
  Al P ((fC ks xs).bind F) ((ji xs ks).bind G):=by
 rw[ahT ks xs h hlen,ag8 ks xs h hlen,zA,zA];cases a:kdE ks xs with
 | some e=>exact⟨e,b e,c e,ahL a⟩
 | none=>exact d (XB hlen a).1 (XB hlen a).2
theorem Gz:∀(l:List af) (s B:Int),oL l s<=B↔s<=B/\∀x,x∈l->dep x<=B
 | [],s,B=>by simp[oL]
 | x::r,s,B=>by
  simp only[oL,Gz r,bh,forall_eq_or_imp];by_cases h:dep x>s
  ·rw[if_pos h];exact⟨λ⟨a,b⟩=>⟨by omega,a,b⟩,λ⟨a,b,c⟩=>⟨b,c⟩⟩
  ·rw[if_neg h];exact⟨λ⟨a,b⟩=>⟨a,by omega,b⟩,λ⟨a,b,c⟩=>⟨a,c⟩⟩
theorem VN:∀(l:List af) (s:Int),s<=oL l s
 | [],s=>by simp[oL]
 | x::r,s=>by
  simp only[oL];have:=VN r (if dep x>s then dep x else s);split at this<;>(have a:=this;rename_i h;first | omega | (simp only[h,if_true,if_false]at this ⊢;omega))
theorem vN(l:List af):JM l=true↔∀x,x∈l->elB x=true/\vld x=true:=by
 rw[EH,amf];exact forall_congr' λx=>by rw[zI]
theorem k12:((2:Int)==1)=false:=rfl
theorem k31:((3:Int)==1)=false:=rfl
theorem k32:((3:Int)==2)=false:=rfl
theorem k34:((3:Int)==4)=false:=rfl
theorem k36:((3:Int)==6)=false:=rfl
theorem k35:((3:Int)==5)=false:=rfl
theorem k41:((4:Int)==1)=false:=rfl
theorem k42:((4:Int)==2)=false:=rfl
theorem k51:((5:Int)==1)=false:=rfl
theorem k52:((5:Int)==2)=false:=rfl
theorem k54:((5:Int)==4)=false:=rfl
theorem k56:((5:Int)==6)=false:=rfl
theorem TD{v:af}(h:vld v=true)(hk:v.kind=1):v=mr v.n/\nB v.n=true:=by
 obtain⟨k,n,st,t,l,c,r⟩:=v;simp only at hk;subst hk;simp only[vld,beq_self_eq_true,ac,zI,List.isEmpty_iff,beq_iff_eq]at h;obtain⟨rfl,rfl,rfl,rfl,rfl,h⟩:=h;exact⟨rfl,h⟩
theorem tX{v:af}(h:vld v=true)(hk:v.kind=2):v=Dw v.text/\txB v.text=true:=by
 obtain⟨k,n,st,t,l,c,r⟩:=v;simp only at hk;subst hk;simp only[vld,k12,beq_self_eq_true,ac,aa,zI,List.isEmpty_iff,beq_iff_eq]at h;obtain⟨rfl,rfl,rfl,rfl,rfl,h⟩:=h;exact⟨rfl,h⟩
def JO(n st:Int):af:=⟨4,n,st,[],[],[],[]⟩
theorem aaH{v:af}(h:vld v=true)(hk:v.kind=4):v=JO v.n v.step/\nB v.n=true/\nB v.step=true:=by
 obtain⟨k,n,st,t,l,c,r⟩:=v;simp only at hk;subst hk;simp only[vld,k41,k42,beq_self_eq_true,ac,aa,zI,List.isEmpty_iff,beq_iff_eq]at h;obtain⟨rfl,rfl,rfl,rfl,h⟩:=h;exact⟨rfl,h⟩
def tK(c:List Str)(r:List aB):af:=⟨5,0,0,[],[],c,r⟩
theorem tY{v:af}(h:vld v=true)(hk:v.kind=5):v=tK v.columns v.rows/\tbB v.columns v.rows=true:=by
 obtain⟨k,n,st,t,l,c,r⟩:=v;simp only at hk;subst hk;simp only[vld,k51,k52,k54,k56,beq_self_eq_true,ac,aa,zI,List.isEmpty_iff,beq_iff_eq]at h;obtain⟨rfl,rfl,rfl,rfl,h⟩:=h;exact⟨rfl,h⟩
theorem BA(c:List Str)(r:List aB):vld (tK c r)=tbB c r:=by
 simp only[tK,vld,k51,k52,k54,k56,beq_self_eq_true,ac,aa,List.isEmpty_nil,amy]
theorem agO(n st:Int):vld (JO n st)=(nB n&&nB st):=by
 simp only[JO,vld,k41,k42,beq_self_eq_true,ac,aa,List.isEmpty_nil,amy]
def nZ(l:List af):af:=⟨3,0,0,[],l,[],[]⟩
theorem lF{v:af}(h:vld v=true)(hk:v.kind=3):v=nZ v.list/\JM v.list=true/\(v.list.length:Int)<=8/\w64 (oL v.list 0+1)<=3:=by
 obtain⟨k,n,st,t,l,c,r⟩:=v;simp only at hk;subst hk;simp only[vld,k31,k32,k34,k35,k36,beq_self_eq_true,ac,aa,zI,List.isEmpty_iff,beq_iff_eq,decide_eq_true_eq]at h;obtain⟨a,rfl,rfl,rfl,rfl,rfl,b,d⟩:=h;exact⟨rfl,a,b,d⟩
theorem abg(l:List af):vld (nZ l)=(JM l&&(decide ((l.length:Int)<=8)&&decide (w64 (oL l 0+1)<=3))):=by
 simp only[nZ,vld,k31,k32,k34,k35,k36,beq_self_eq_true,ac,aa,List.isEmpty_nil,amy]
theorem YJ{v:af}(h:vld v=true)(hk:v.kind≠3):v.list=[]:=by
 obtain⟨k,n,st,t,l,c,r⟩:=v;have a:(k==3)=false:=by simpa using hk
 simp only[vld,a,aa]at h;show l=[]
 cases l with
 | nil=>rfl
 | cons x l=>
  simp only[List.isEmpty_cons,Bool.false_and,Bool.and_false]at h;revert h;cases (k==1)<;>cases (k==2)<;>cases (k==4)<;>cases (k==6)<;>cases (k==5)<;>simp
theorem aaJ:∀(n:Nat) (v:af),siz v<n->vld v=true->1<=dep v/\dep v<=3
 | 0,v,a,_=>absurd a (aml _)
 | n+1,v,a,h=>by
  rw[Bh];by_cases hk:v.kind=3
  ·obtain⟨_,c,_,d⟩:=lF h hk;have e:oL v.list 0<=3:=(Gz _ _ _).2 ⟨by omega,λx b=>(aaJ n x (by have:=qE b;have:=lG (v:=v);omega) ((vN _).1 c x b).2).2⟩;have f:=VN v.list 0;rw[bQ (by omega) (by omega)]at d ⊢;omega
  ·rw[YJ h hk];simp only[oL];decide
theorem uz(l:List af):vld (nZ l)=true↔(∀x,x∈l->elB x=true/\vld x=true/\dep x<=2)/\(l.length:Int)<=8:=by
 rw[abg,zI,zI,decide_eq_true_eq,decide_eq_true_eq,vN];have f:=VN l 0;constructor
 ·rintro⟨b,c,d⟩;have e:oL l 0<=3:=(Gz _ _ _).2 ⟨by omega,λx a=>(aaJ _ x (Nat.lt_succ_self _) (b x a).2).2⟩;rw[bQ (by omega) (by omega)]at d;have:=(Gz l 0 2).1 (by omega);exact⟨λx a=>⟨(b x a).1,(b x a).2,this.2 x a⟩,c⟩
 ·rintro⟨b,c⟩;have e:oL l 0<=2:=(Gz _ _ _).2 ⟨by omega,λx a=>(b x a).2.2⟩;refine⟨λx a=>⟨(b x a).1,(b x a).2.1⟩,c,?_⟩;rw[bQ (by omega) (by omega)];omega
theorem IK{P:List aj}{l:List af}(b:(l.length:Int)<=1048576)(h:∀x,x∈l->VOk P x):VOk P (nZ l):=
 ⟨dQ.2 ⟨og (dN (by simp[nZ]) (by simp[nZ])),og (dN (by simp[nZ]) (by simp[nZ])),og (dN (by simp[nZ]) (by simp[nZ])),qh,dB b λx a=>(h x a).fit,pU,pU⟩,.mk (λr c=>by cases c) λx a=>(h x a).org⟩
theorem VOk.mem{P:List aj}{v:af}(h:VOk P v){x:af}(a:x∈v.list):VOk P x:=by
 obtain⟨f,o⟩:=h;obtain⟨_,_,_,_,c4,_,_⟩:=dQ.1 f;cases o with
 | mk _ b=>exact⟨c4.dG x a,b x a⟩
theorem aaO{P:List aj}{n st:Int}(c:nB n=true)(d:nB st=true):VOk P (JO n st)/\vld (JO n st)=true:=by
 have a:=c;have b:=d;unfold nB at a b;simp only[zI,decide_eq_true_eq]at a b;refine⟨⟨dQ.2 ⟨og (dN (by simp[JO]) (by simp[JO])),og (dN a.1 a.2),og (dN b.1 b.2),qh,pU,pU,pU⟩,BL⟩,?_⟩;rw[agO,c,d];rfl
def Ez(n:Int):af:=bif nB n then mr n else dM 5
theorem abu{P:List aj}(n:Int):VOk P (Ez n)/\vld (Ez n)=true:=by
 unfold Ez;cases h:nB n with
 | true=>exact iW h
 | false=>exact bG (by omega) (by omega)
theorem abn(n:Int):gm n=some (Ez n):=by
 unfold gm Ez;simp only[IX,zA,kz,OH,aC];cases nB n<;>rfl
theorem UE(n:Int):eU n=some (Ez n):=by
 unfold eU Ez;simp only[Dz,zA,jZ,MB,aC];cases nB n<;>rfl
def adO(b:Bool):af:=bif b then mr 1 else mr 0
theorem agI{P:List aj}(b:Bool):VOk P (adO b)/\vld (adO b)=true:=by
 cases b<;>exact iW rfl
theorem ahQ(b:Bool):kK b=some (adO b):=by cases b<;>rfl
theorem agZ(b:Bool):iR b=some (adO b):=by cases b<;>rfl
theorem LZ{α:Type}(l:List α)(h:(l.length:Int)<=20):nB (l.length:Int)=true:=by
 unfold nB;rw[aq (by omega),aq (by omega)];rfl
theorem eF(v:af):(some (ah v))=some v:=by rw[aC]
theorem acT{P:List aj}(a:af)(f:VOk P a):Al P (wR a) (vU a):=by
 unfold wR vU;rw[aC];refine UW (ak6 f.fit) (λe=>eF e) (λe=>eF e) λhv=>?_
 obtain⟨hv,_⟩:=hv a (List.mem_singleton.2 rfl);simp only[zV,aa,kz,jZ,OH,MB,zA,aC];by_cases b:a.kind=3
 ·obtain⟨_,_,c,_⟩:=lF hv b;rw[b];exact⟨_,rfl,rfl,iW (LZ _ (by omega))⟩
 have g:(a.kind==3)=false:=by simpa using b
 by_cases d:a.kind=2
 ·obtain⟨_,c⟩:=tX hv d;unfold txB at c;rw[zI,decide_eq_true_eq]at c;rw[d];exact⟨_,rfl,rfl,iW (LZ _ (by omega))⟩
 have h:(a.kind==2)=false:=by simpa using d
 rw[g,h];exact tq (by omega) (by omega)
theorem afV{a b:af}:a∈[a,b]:=by simp
theorem ab4{a b:af}:b∈[a,b]:=by simp
theorem OY(xs:List af)(h:cu B20 (.list (.base .val) xs)):kP xs=some xs:=(sN (siz xs+1)).2 xs (Nat.lt_succ_self _) h
theorem Vs(xs:List af)(h:cu B20 (.list (.base .val) xs)):oH xs=some (nZ xs):=by
 unfold oH;rw[OY xs h];rfl
theorem Ui(xs:List af)(h:cu B20 (.list (.base .val) xs)):jb xs=some (nZ xs):=by
 have l:=bW h;unfold jb;refine yP (λ(s:List af) (i:Nat)=>((xs,0,0,0,[],[],[],[],3,0,0,[],s,[],[],(i:Int)):(List af)×Int×Int×Int×Str×(List af)×(List Str)×(List aB)×Int×Int×Int×Str×(List af)×(List Str)×(List aB)×Int)) xs (some (nZ xs)) (λi y a b=>?_) ?_
 ·have hi:=(zC.1 a).1;simp only[dD a,ac,aP,a,aC,zA,iG y (h.dG y (zG a)),gd1 b hi l,dY a l]
 ·simp only[bM,aa];rfl
theorem RP:∀(xs:List af) (i:Nat),(∀x,x∈xs->vld x=true/\x.kind≠6)->gq (λ_ v=>opQ v) i xs=none
 | [],_,_=>rfl
 | x::r,i,h=>by
  unfold gq;obtain⟨a,b⟩:=h x (aw ..);have e:(x.kind==6)=false:=by simpa using b
  have:opQ x=none:=by unfold opQ;rw[a,e];rfl
  rw[this];exact RP r (i+1) λy c=>h y (ar _ c)
def CX(n:Int)(v:af):af:=bif decide (n<0)then dM 5 else bif v.kind==3 then (match v.list[n.toNat]? with | some x=>x | none=>dM 5)else Ez (w64 (v.n+(w64 (n*v.step))))
theorem abe{P:List aj}(n:Int)(v:af)(hv:VOk P v)(h:vld v=true):VOk P (CX n v)/\vld (CX n v)=true:=by
 unfold CX;cases decide (n<0)with
 | true=>exact bG (by omega) (by omega)
 | false=>
  by_cases a:v.kind=3
  ·have b:(v.kind==3)=true:=by simpa using a
   rw[b];simp only[aa,ac];cases d:v.list[n.toNat]? with
   | none=>exact bG (by omega) (by omega)
   | some x=>
    have c:=zG d;obtain⟨_,e,_,_⟩:=lF h a;exact⟨hv.mem c,((vN _).1 e x c).2⟩
  ·have b:(v.kind==3)=false:=by simpa using a
   rw[b];exact abu _
theorem KT{P:List aj}(a b:af)(d:VOk P a)(e:VOk P b)(F:af×Bool->Option af)
  (va:vld a=true) (vb:vld b=true) (f:a.kind=1) (c:b.kind=3\/b.kind=4):(gQ a b).bind F=F (dM 4,false)/\(ug a b).bind F=F (zV,false):=by
 have g:opE [a,b]=none:=RP _ 0 (by
  simp only[bh,List.not_mem_nil,or_false];rintro x (rfl | rfl)
  ·exact⟨va,by omega⟩
  ·exact⟨vb,by omega⟩)
 unfold gQ ug;rw[aC,aC,Gi _ (VH d.fit e.fit),ES _ (VH d.fit e.fit),zA,zA,g];simp only[opR,aa,kz,jZ,zA,aC,bne];have h:(a.kind==1)=true:=by simpa using f
 rw[h];rcases c with c | c
 ·rw[c];exact⟨rfl,rfl⟩
 ·rw[c];exact⟨rfl,rfl⟩
theorem toNat_eq{n:Int}(h:¬n<0):((n.toNat:Nat):Int)=n:=Int.toNat_of_nonneg (by omega)
theorem OI{P:List aj}(a b:af)(g:VOk P a)(e:VOk P b)(va:vld a=true)(vb:vld b=true)(h:a.kind=1)(i:b.kind=3\/b.kind=4):yG a b=some (CX a.n b):=by
 unfold yG CX;rw[aC,aC,(KT a b g e _ va vb h i).1];simp only[aa,kz,zA,aC,abn];by_cases c:a.n<0
 ·rw[aq c];rfl
 ·rw[ae c];simp only[aa];cases (b.kind==3)with
  | false=>rfl
  | true=>
   simp only[ac];by_cases f:a.n>=(b.list.length:Int)
   ·rw[aq f,zJ (by omega)];rfl
   ·rw[ae f];have d:b.list[a.n.toNat]?=some b.list[a.n.toNat]:=zF (by omega);have hi:idx b.list a.n=some b.list[a.n.toNat]:=by
     have:=aP b.list a.n.toNat;rw[toNat_eq c]at this;rw[this,d]
    simp only[aa,hi,d,zA,fG _ (e.mem (zG d)).fit]
theorem ET{P:List aj}(a b:af)(g:VOk P a)(e:VOk P b)(va:vld a=true)(vb:vld b=true)(h:a.kind=1)(i:b.kind=3\/b.kind=4):uV a b=some (CX a.n b):=by
 unfold uV CX;rw[aC,aC,(KT a b g e _ va vb h i).2];simp only[aa,jZ,zA,aC,UE];by_cases c:a.n<0
 ·rw[aq c];rfl
 ·rw[ae c];simp only[aa];cases (b.kind==3)with
  | false=>rfl
  | true=>
   simp only[ac];by_cases f:a.n>=(b.list.length:Int)
   ·rw[aq f,zJ (by omega)];rfl
   ·rw[ae f];have d:b.list[a.n.toNat]?=some b.list[a.n.toNat]:=zF (by omega);have hi:idx b.list a.n=some b.list[a.n.toNat]:=by
     have:=aP b.list a.n.toNat;rw[toNat_eq c]at this;rw[this,d]
    simp only[aa,hi,d,zA,iG _ (e.mem (zG d)).fit]
theorem NG{P:List aj}(a b:af)(d:VOk P a)(f:VOk P b){F G:af×Bool->Option af}
  (g:∀e,F (e,true)=some e) (i:∀e,G (e,true)=some e)
  (o:vld a=true->vld b=true->a.kind=1->(b.kind=3\/b.kind=4)->Al P (F (dM 4,false)) (G (zV,false))) :
  Al P ((gQ a b).bind F) ((ug a b).bind G):=by
 by_cases hk:vld a=true/\vld b=true/\a.kind=1/\(b.kind=3\/b.kind=4)
 ·obtain⟨c,j,k,l⟩:=hk;rw[(KT a b d f F c j k l).1,(KT a b d f G c j k l).2];exact o c j k l
 ·unfold gQ ug;rw[aC,aC,Gi _ (VH d.fit f.fit),ES _ (VH d.fit f.fit),zA,zA];cases n:opE [a,b]with
  | some e=>
   obtain⟨x,y,z⟩:=FH (P:=P) _ 0 n;refine⟨e,?_,?_,x,y⟩
   ·simp only[opR,ac,aC,zA,g]
   ·simp only[opR,ac,aC,zA,i]
  | none=>
   have hv:=Aq _ 0 n;have va:=(hv a afV).1;have vb:=(hv b ab4).1;simp only[opR,aa,kz,jZ,zA,aC,bne];by_cases c:a.kind=1
   ·have m:(a.kind==1)=true:=by simpa using c
    have p:(b.kind==3)=false:=by simpa using λh=>hk ⟨va,vb,c,.inl h⟩
    have q:(b.kind==4)=false:=by simpa using λh=>hk ⟨va,vb,c,.inr h⟩
    rw[m,p,q];simp only[aR,Bool.not_false,ac,aa,zA,g,i];exact tq (by omega) (by omega)
   ·have m:(a.kind==1)=false:=by simpa using c
    rw[m];simp only[Bool.not_false,ac,zA,g,i];exact tq (by omega) (by omega)
theorem akL{P:List aj}(a b:af)(i:VOk P a)(d:VOk P b):Al P (yG a b) (uV a b):=by
 by_cases hk:vld a=true/\vld b=true/\a.kind=1/\(b.kind=3\/b.kind=4)
 ·obtain⟨f,c,g,h⟩:=hk;exact⟨_,OI a b i d f c g h,ET a b i d f c g h,abe _ _ d c⟩
 ·unfold yG uV;rw[aC,aC];exact NG a b i d (λe=>eF e) (λe=>eF e) λf c g h=>absurd ⟨f,c,g,h⟩ hk
theorem nthL{v:af}(a:v.kind=3){i:Nat}{x:af}(b:v.list[i]?=some x):CX (i:Int) v=x:=by
 unfold CX;rw[ae (by omega),a];simp only[aa,beq_self_eq_true,ac,aE,b]
theorem aaN{l l':List af}(h:vld (nZ l)=true)(a:∀x,x∈l'->x∈l)(d:l'.length<=l.length):vld (nZ l')=true:=by
 obtain⟨b,e⟩:=(uz l).1 h;exact (uz l').2 ⟨λx c=>b x (a x c),by omega⟩
theorem Si(n:Int):((mr n).kind==6)=false:=rfl
theorem aic{X ρ:Type}{g:X->Option (X⊕ρ)}(pk:Nat->X)(n:Nat)(res:ρ)(I:Nat->Prop)(c:I 0)
  (d:∀i,i<n->I i->(g (pk i)=some (.inl (pk (i+1)))/\I (i+1))\/g (pk i)=some (.inr res)) (e:I n->g (pk n)=some (.inr res)):aN g (pk 0)=some res:=by
 have key:∀(k i:Nat),n=i+k->I i->aN g (pk i)=some res:=by
  intro k;induction k with
  | zero=>
   intro i hi a;have:n=i:=by omega
   subst this;rw[aX,e a]
  | succ k ih=>
   intro i hi a;rw[aX];rcases d i (by omega) a with ⟨h,b⟩ | h
   ·rw[h];exact ih (i+1) (by omega) b
   ·rw[h]
 exact key n 0 (by omega) c
theorem agM{P:List aj}(a b:af)(F:VOk P a)(g:VOk P b):Al P (Gf a b) (EQ a b):=by
 unfold Gf EQ;rw[aC,aC];refine NG a b F g (λe=>eF e) (λe=>eF e) λva vb L d=>?_
 simp only[aa,oG,vV,zA,kz,jZ,OH,MB,aC,eF];by_cases r:0<=a.n/\a.n<=8
 case neg=>
  have:(decide (0<=a.n)&&decide (a.n<=8))=false:=by
   rw[Bool.and_eq_false_iff,decide_eq_false_iff_not,decide_eq_false_iff_not];omega
  rw[this]
  exact tq (by omega) (by omega)
 obtain⟨n,E⟩:∃n:Nat,a.n=(n:Int):=⟨a.n.toNat,(toNat_eq (by omega)).symm⟩;rw[aq r.1,aq r.2,E];simp only[Bool.and_self,aR,aa];rw[E]at r;rcases d with d | d
 ·obtain⟨l,t,u,G⟩:=lF vb d;have o:vld (nZ b.list)=true:=by rw[<- l];exact vb
  rw[d];simp only[beq_self_eq_true,ac];have hi:eff.cutL b.list none (some (if (b.list.length:Int)<(n:Int)then (b.list.length:Int)else (n:Int)))=some (b.list.take n):=by
   by_cases hc:(b.list.length:Int)<(n:Int)
   ·rw[if_pos hc,Ym _ _ (aD _),List.take_length,List.take_of_length_le (by omega)]
   ·rw[if_neg hc,Ym _ _ (by omega)]
  have hmem:∀x,x∈b.list.take n->x∈b.list:=λx c=>List.mem_of_mem_take c
  have hlen:(b.list.take n).length<=b.list.length:=by rw[bc];omega
  rw[hi,zA,Vs _ (dB (by omega) λx c=>(g.mem (hmem x c)).fit),zA];refine⟨nZ (b.list.take n),rfl,?_,IK (by omega) λx c=>g.mem (hmem x c),aaN o hmem hlen⟩;refine aic (λi=>(a.kind,(n:Int),a.step,a.text,a.list,a.columns,a.rows,(3:Int),b.n,b.step,b.text,b.list,b.columns,b.rows,(0:Int),(0:Int),(0:Int),([]:Str),([]:List af),([]:List Str),([]:List aB),(3:Int),(0:Int),(0:Int),([]:Str),b.list.take i,([]:List Str),([]:List aB),(i:Int))) n (nZ (b.list.take n)) (λi=>i<=b.list.length) (Nat.zero_le _) (λi hi v=>?_) (λv=>?_)
  ·have w:decide ((i:Int)<(n:Int))=true:=by simp;omega
   simp only[w,ac];by_cases hc:i=b.list.length
   ·subst hc;simp only[beq_self_eq_true,ac,List.take_length];rw[List.take_of_length_le (show b.list.length<=n by omega)];exact .inr rfl
   ·have H:((i:Int)==(b.list.length:Int))=false:=by simp;omega
    have c:b.list[i]?=some b.list[i]:=zF (by omega);have h:(af.mk 3 b.n b.step b.text b.list b.columns b.rows)=b:=by cases b;simp only at d;rw[d]
    have f:=iW (P:=P) (n:=(i:Int)) (by unfold nB;rw[aq (by omega),aq (by omega)];rfl);have p:=ET (mr (i:Int)) b f.1 g f.2 vb rfl (.inl d);have z:=((uz _).1 o).1 _ (zG c);have I:((b.list[i]).kind==6)=false:=by
     have:=z.1;unfold elB at this;simp only[Bool.or_eq_true,beq_iff_eq]at this;simp only[beq_eq_false_iff_ne];omega
    rw[show (mr (i:Int)).n=(i:Int)from rfl,nthL d c]at p;have q:w64 ((i:Int)+1)=((i+1:Nat):Int):=by rw[bQ (by omega) (by omega)];rfl
    simp only[H,aa,h,p,zA,I,q];rw[bI (by rw[bc];simp;omega),zA,<- take_snoc c];exact .inl ⟨rfl,by omega⟩
  ·simp only[Int.lt_irrefl,decide_false,aa];rfl
 ·obtain⟨l,t,u⟩:=aaH vb d;rw[d];simp only[show ((4:Int)==3)=false from rfl,aa];have h:(af.mk 4 b.n b.step b.text b.list b.columns b.rows)=b:=by cases b;simp only at d;rw[d]
  refine jS (λ(s:List af) (i:Nat)=>(a.kind,(n:Int),a.step,a.text,a.list,a.columns,a.rows,(4:Int),b.n,b.step,b.text,b.list,b.columns,b.rows,(0:Int),(0:Int),(0:Int),([]:Str),([]:List af),([]:List Str),([]:List aB),(3:Int),(0:Int),(0:Int),([]:Str),s,([]:List Str),([]:List aB),(i:Int)))
   (λ(s:List af) (i:Nat)=>(a.kind,(n:Int),a.step,a.text,a.list,a.columns,a.rows,(4:Int),b.n,b.step,b.text,b.list,b.columns,b.rows,(0:Int),(0:Int),(0:Int),([]:Str),([]:List af),([]:List Str),([]:List aB),(3:Int),(0:Int),(0:Int),([]:Str),s,([]:List Str),([]:List aB),(i:Int)))
   (List.replicate n ()) (λi s=>s.length=i/\∀x,x∈s->∃m,x=mr m/\nB m=true) _ (λi x s c j=>?_) (λs j=>?_) [] ⟨rfl,λx c=>by cases c⟩
  ·have hi:=(zC.1 c).1;rw[List.length_replicate]at hi;have w:decide ((i:Int)<(n:Int))=true:=by simp;omega
   have f:=iW (P:=P) (n:=(i:Int)) (by unfold nB;rw[aq (by omega),aq (by omega)];rfl);have A:=OI (mr (i:Int)) b f.1 g f.2 vb rfl (.inr d);have B:=ET (mr (i:Int)) b f.1 g f.2 vb rfl (.inr d);have J:=abe (P:=P) (i:Int) b g vb;have C:gd (s.length+[CX (i:Int) b].length)=some ():=bI (by rw[j.1];simp;omega);simp only[w,ac,h,A,B,show (mr (i:Int)).n=(i:Int)from rfl,zA];have q:w64 ((i:Int)+1)=((i+1:Nat):Int):=by rw[bQ (by omega) (by omega)];rfl
   have hv:CX (i:Int) b=Ez (w64 (b.n+w64 ((i:Int)*b.step))):=by
    unfold CX;rw[ae (by omega),d];rfl
   cases hk:nB (w64 (b.n+w64 ((i:Int)*b.step)))with
   | false=>
    have:CX (i:Int) b=dM 5:=by rw[hv];unfold Ez;rw[hk];rfl
    rw[this];exact .inr ⟨_,rfl,rfl,bG (by omega) (by omega)⟩
   | true=>
    have K:CX (i:Int) b=mr (w64 (b.n+w64 ((i:Int)*b.step))):=by rw[hv];unfold Ez;rw[hk];rfl
    rw[K]at C ⊢;refine .inl ⟨s++[mr (w64 (b.n+w64 ((i:Int)*b.step)))],?_,?_,by simp[j.1],λy k=>?_⟩
    ·simp only[Si,aa,C,zA,q]
    ·simp only[Si,aa,C,zA,q];rfl
    ·rcases List.mem_append.1 k with k | k
     ·exact j.2 y k
     ·rw[amd]at k;exact⟨_,k,hk⟩
  ·rw[List.length_replicate]at j ⊢;refine⟨nZ s,by simp only[Int.lt_irrefl,decide_false,aa];rfl,by simp only[Int.lt_irrefl,decide_false,aa];rfl,IK (by omega) λx c=>?_,(uz s).2 ⟨λx c=>?_,by omega⟩⟩
   ·obtain⟨m,rfl,D⟩:=j.2 x c;exact (iW D).1
   ·obtain⟨m,rfl,D⟩:=j.2 x c;exact⟨rfl,(iW (P:=P) D).2,by rw[Bh];simp only[mr,oL];decide⟩
theorem al4(a b:Int):nN a b=some (JO a b):=rfl
theorem alD(a b:Int):kS a b=some (JO a b):=rfl
theorem agS{P:List aj}(a b:af)(k:VOk P a)(d:VOk P b):Al P (Gg a b) (ER a b):=by
 unfold Gg ER;rw[aC,aC];refine NG a b k d (λe=>eF e) (λe=>eF e) λva vb p c=>?_
 simp only[aa,zA,kz,jZ,aC];by_cases q:a.n<0
 ·rw[aq q];exact tq (by omega) (by omega)
 obtain⟨n,t⟩:∃n:Nat,a.n=(n:Int):=⟨a.n.toNat,(toNat_eq q).symm⟩;have r:decide ((n:Int)<0)=false:=by simp
 have f:=OI a b k d va vb p c;have g:=ET a b k d va vb p c;rw[t]at f g ⊢;rw[r];simp only[aa];rcases c with c | c
 ·obtain⟨h,l,i,u⟩:=lF vb c;have o:vld (nZ b.list)=true:=by rw[<- h];exact vb
  rw[c];simp only[beq_self_eq_true,ac];obtain⟨m,v,hmin,hmin2⟩:∃m:Nat,m<=b.list.length/\(if (b.list.length:Int)<(n:Int)then (b.list.length:Int)else (n:Int))=(m:Int)/\Ux (n:Int) (b.list.length:Int)=some (m:Int):=by
   unfold Ux;by_cases hc:(b.list.length:Int)<(n:Int)
   ·exact⟨b.list.length,aD _,by rw[if_pos hc],by rw[ae (by omega)];rfl⟩
   ·refine⟨n,by omega,by rw[if_neg hc],?_⟩;by_cases s:(n:Int)<(b.list.length:Int)
    ·rw[aq s];rfl
    ·rw[ae s];show some _=some _
     congr 1;omega
  have hmem:∀x,x∈b.list.drop m->x∈b.list:=λx j=>List.mem_of_mem_drop j
  have hlen:(b.list.drop m).length<=b.list.length:=by rw[amx];omega
  have hf:cu B20 (.list (.base .val) (b.list.drop m)):=dB (by omega) λx j=>(d.mem (hmem x j)).fit
  rw[hmin,hmin2,zA,adk _ m v,zA,zA,Vs _ hf,Ui _ hf];exact⟨_,rfl,rfl,IK (by omega) λx j=>d.mem (hmem x j),aaN o hmem hlen⟩
 ·obtain⟨h,l,i⟩:=aaH vb c;rw[c];simp only[show ((4:Int)==3)=false from rfl,aa,f,g,zA,al4,alD];have hv:CX (n:Int) b=Ez (w64 (b.n+w64 ((n:Int)*b.step))):=by
   unfold CX;rw[r,c];rfl
  rw[hv];unfold Ez;cases hk:nB (w64 (b.n+w64 ((n:Int)*b.step)))with
  | false=>exact⟨_,rfl,rfl,bG (by omega) (by omega)⟩
  | true=>exact⟨_,rfl,rfl,aaO hk i⟩
theorem akn{P:List aj}(a:af)(f:VOk P a):Al P (Oy a) (L9 a):=by
 unfold Oy L9;rw[aC];refine UW (ak6 f.fit) (λe=>eF e) (λe=>eF e) λhv=>?_
 obtain⟨hv,_⟩:=hv a (List.mem_singleton.2 rfl);simp only[zV,aa,kz,jZ,MB,zA,aC,bne];by_cases b:a.kind=3
 case neg=>
  have g:(a.kind==3)=false:=by simpa using b
  rw[g]
  exact tq (by omega) (by omega)
 obtain⟨h,j,k,l⟩:=lF hv b;rw[b];simp only[beq_self_eq_true,aR,aa];refine jS (λ(s:Int) (i:Nat)=>((0:Int),(0:Int),(0:Int),([]:Str),([]:List af),([]:List Str),([]:List aB),s,a.list,(a.list.length:Int),(i:Int)))
  (λ(s:Int) (i:Nat)=>((3:Int),a.n,a.step,a.text,a.list,a.columns,a.rows,(0:Int),(0:Int),(0:Int),([]:Str),([]:List af),([]:List Str),([]:List aB),(1:Int),s,(0:Int),([]:Str),([]:List af),([]:List Str),([]:List aB),(i:Int)))
  a.list (λi s=>nB s=true) _ (λi x s c d=>?_) (λs d=>?_) 0 rfl
 ·simp only[dD c,ac,aP,c,zA,IX,UE,dY c (by omega)];cases hk:(x.kind==1)with
  | false=>exact .inr ⟨_,rfl,rfl,bG (by omega) (by omega)⟩
  | true=>
   simp only[aR,aa];unfold Ez;cases m:nB (w64 (s+x.n))with
   | false=>exact .inr ⟨_,rfl,rfl,bG (by omega) (by omega)⟩
   | true=>exact .inl ⟨w64 (s+x.n),rfl,rfl,m⟩
 ·simp only[bM,aa,OH];exact⟨_,rfl,rfl,iW d⟩
theorem agb{P:List aj}(a:af)(c:VOk P a):Al P (sJ a) (rP a):=by
 unfold sJ rP;rw[aC];refine qJ [5] (ak6 c.fit) rfl (λe=>eF e) (λe=>eF e) λhv hk=>?_
 have d:a.kind=5:=hk 0 a 5 rfl rfl;obtain⟨f,b⟩:=tY (hv a (List.mem_singleton.2 rfl)) d;unfold tbB at b;simp only[zI,decide_eq_true_eq]at b;exact⟨_,rfl,rfl,iW (LZ _ (by omega))⟩
theorem al7{ρ:Type}{A B:Option ρ}(h:∃r,A=some r/\B=some r/\True):∃r,A=some r/\B=some r:=h.imp λr h=>⟨h.1,h.2.1⟩
theorem Wl:∀(n:Nat) (a b:af) (c:Bool),siz a<n->Fit B20 (.base .val) a->∃r,Cb n a b c=some r/\pF n a b c=some r
 | 0,a,b,c,h,_=>absurd h (aml _)
 | n+1,a,b,c,q,k=>by
  have ih:=Wl n;rw[dQ]at k;obtain⟨_,_,_,_,c4,l,m⟩:=k;have e:=lN (bW c4);have f:=lN (bW m);show ∃r,Vx (Cb n) a b c=some r/\zQ (pF n) a b c=some r
  unfold Vx zQ;rw[OA _ _ (lN (bW l)),Jp _ _ (lN (bW l)),zA,zA];simp only[GR,uO,jH];cases eqd a.kind b.kind with
  | false=>exact⟨_,rfl,rfl⟩
  | true=>
  cases eqd a.n b.n with
  | false=>exact⟨_,rfl,rfl⟩
  | true=>
  cases eqd a.step b.step with
  | false=>exact⟨_,rfl,rfl⟩
  | true=>
  cases eqd a.text b.text with
  | false=>exact⟨_,rfl,rfl⟩
  | true=>
  simp only[ac];by_cases t:a.list.length=b.list.length
  case neg=>
   rw[iC (show ¬((a.list.length:Int)=(b.list.length:Int)) by omega)]
   cases eqd a.columns b.columns<;>exact⟨_,rfl,rfl⟩
  rw[gU (show (a.list.length:Int)=(b.list.length:Int) by omega)];cases eqd a.columns b.columns with
  | false=>exact⟨_,rfl,rfl⟩
  | true=>
  simp only[ac];by_cases u:a.rows.length=b.rows.length
  case neg=>
   rw[iC (show ¬((a.rows.length:Int)=(b.rows.length:Int)) by omega)]
   exact⟨_,rfl,rfl⟩
  rw[gU (show (a.rows.length:Int)=(b.rows.length:Int) by omega)];simp only[ac];refine al7 (jS (λ(_:Unit) (i:Nat)=>(c,a.kind,a.n,a.step,a.text,a.list,a.columns,a.rows,b.kind,b.n,b.step,b.text,b.list,b.columns,b.rows,(a.list.length:Int),(i:Int)))
   (λ(_:Unit) (i:Nat)=>(c,a.kind,a.n,a.step,a.text,a.list,a.columns,a.rows,b.kind,b.n,b.step,b.text,b.list,b.columns,b.rows,(i:Int))) a.list (λ_ _=>True) (λ_:Bool=>True) (λi x s d g=>?_) (λs g=>?_) () trivial)
  ·have hi:=(zC.1 d).1;obtain⟨y,j⟩:∃y,b.list[i]?=some y:=⟨_,zF (by omega)⟩;obtain⟨r,o,p⟩:=ih x y c (by have:=qE (zG d);have:=lG (v:=a);omega) (c4.dG x (zG d));simp only[dD d,ac,aP,d,j,zA,aC,o,p,jg hi e,jH];cases r with
   | false=>exact .inr ⟨_,rfl,rfl,trivial⟩
   | true=>exact .inl ⟨(),rfl,rfl,trivial⟩
  ·simp only[dS,aa];refine abz (jS (λ(_:Unit) (i:Nat)=>(c,a.kind,a.n,a.step,a.text,a.list,a.columns,a.rows,b.kind,b.n,b.step,b.text,b.list,b.columns,b.rows,(a.rows.length:Int),(i:Int)))
    (λ(_:Unit) (i:Nat)=>(c,a.kind,a.n,a.step,a.text,a.list,a.columns,a.rows,b.kind,b.n,b.step,b.text,b.list,b.columns,b.rows,(i:Int))) a.rows (λ_ _=>True) (λ_:Bool=>True) (λi x s d g=>?_) (λs g=>?_) () trivial)
   ·have hi:=(zC.1 d).1;obtain⟨y,j⟩:∃y,b.rows[i]?=some y:=⟨_,zF (by omega)⟩;have hf:=m.dG x (zG d);rw[iq]at hf;simp only[dD d,ac,aP,d,j,zA,XI _ _ (lN (bW hf.1)),MN _ _ (lN (bW hf.1)),OB _ _ (lN (bW hf.2)),Dk _ _ (lN (bW hf.2)),jg hi f,jH];cases eqd x.cells y.cells with
    | false=>exact .inr ⟨_,rfl,rfl,trivial⟩
    | true=>
     cases c with
     | false=>exact .inl ⟨(),rfl,rfl,trivial⟩
     | true=>
      cases eqd x.orig y.orig with
      | false=>exact .inr ⟨_,rfl,rfl,trivial⟩
      | true=>exact .inl ⟨(),rfl,rfl,trivial⟩
   ·simp only[dS,aa];exact⟨_,rfl,rfl,trivial⟩
theorem aao(a b:af)(c:Fit B20 (.base .val) a):∃r,uJ a b=some r/\pJ a b=some r:=by
 obtain⟨r,d,e⟩:=Wl (siz a+siz b+1) a b false (by omega) c;refine⟨r,?_,?_⟩
 ·show (aaf (ah a) (ah b) false).bind _=_
  rw[aC,aC];show (Cb (siz a+siz b+1) a b false).bind _=_
  rw[d];rfl
 ·show (EU (ah a) (ah b) false).bind _=_
  rw[aC,aC];show (pF (siz a+siz b+1) a b false).bind _=_
  rw[e];rfl
theorem Vk{X ρ:Type}(x:X)(F:X->Option ρ):jL (some (.inl x)) F=F x:=rfl
theorem alm{P:List aj}(n:Int):Al P ((gm n).bind λr=>some (ah r)) ((eU n).bind λr=>some (ah r)):=
 ⟨Ez n,by rw[abn,zA,aC],by rw[UE,zA,aC],abu n⟩
theorem agx{P:List aj}(b:Bool):Al P ((kK b).bind λr=>some (ah r)) ((iR b).bind λr=>some (ah r)):=
 ⟨adO b,by rw[ahQ,zA,aC],by rw[agZ,zA,aC],agI b⟩
theorem VU{P:List aj}{A B:Option af}(h:Al P A B):Al P A (B.bind λr=>some (ah r)):=by
 obtain⟨r,a,b,h⟩:=h;exact⟨r,a,by rw[b,zA,aC],h⟩
theorem GZ{P:List aj}{A B:Option af}(h:Al P A B):Al P (A.bind λr=>some (ah r)) (B.bind λr=>some (ah r)):=by
 obtain⟨r,a,b,h⟩:=h;exact⟨r,by rw[a,zA,aC],by rw[b,zA,aC],h⟩
theorem agy{P:List aj}(b c:af)(a:VOk P b):Al P ((uJ b c).bind λr=>(kK r).bind λq=>some (ah q)) ((pJ b c).bind λr=>(iR r).bind λq=>some (ah q)):=by
 obtain⟨r,d,e⟩:=aao b c a.fit;rw[d,e,zA,zA];exact agx r
theorem aiq{P:List aj}(s t:Str)(a:txB s=true)(b:txB t=true) :
  Al P (bif decide (w64 ((s.length:Int)+(t.length:Int))>20)then (aI 6).bind λr=>some (ah r)else (gd (s.length+t.length)).bind λ_=>(sF (s++t)).bind λr=>some (ah r))
   (bif decide (w64 ((s.length:Int)+(t.length:Int))>20)then (aF 6).bind λr=>some (ah r)else (gd (s.length+t.length)).bind λ_=>(iF (s++t)).bind λr=>some (ah r)):=by
 unfold txB at a b;simp only[zI,decide_eq_true_eq]at a b;rw[bQ (by omega) (by omega)];by_cases h:(s.length:Int)+(t.length:Int)>20
 ·rw[aq h];exact⟨dM 6,rfl,rfl,bG (by omega) (by omega)⟩
 ·rw[ae h];simp only[aa,bI (show s.length+t.length<=34359738368 by omega),zA];refine⟨Dw (s++t),rfl,rfl,aaK ?_⟩;unfold txB;rw[List.all_append,a.1,b.1,aq (by rw[a8];omega)];rfl
theorem agz{P:List aj}(b c:af)(f:VOk P b)(hc:VOk P c)(vb:vld b=true)(vc:vld c=true)(kb:b.kind=3)(kc:c.kind=3) :
  Al P (bif decide (w64 ((b.list.length:Int)+(c.list.length:Int))>8)then (aI 6).bind λr=>some (ah r)else (kP b.list).bind λg=>(kP c.list).bind λi=>(gd (g.length+i.length)).bind λ_=>some (af.mk 3 0 0 [] (g++i) [] []))
   (bif decide (w64 ((b.list.length:Int)+(c.list.length:Int))>8)then (aF 6).bind λr=>some (ah r)else (gd (0+b.list.length)).bind λ_=>(gd (([]++b.list).length+c.list.length)).bind λ_=>(jb (([]++b.list)++c.list)).bind λr=>some (ah r)):=by
 obtain⟨d,_,k,_⟩:=lF vb kb;obtain⟨e,_,l,_⟩:=lF vc kc;have lb:vld (nZ b.list)=true:=by rw[<- d];exact vb
 have lc:vld (nZ c.list)=true:=by rw[<- e];exact vc
 have fb:=(dQ.1 f.fit).2.2.2.2.1;have fc:=(dQ.1 hc.fit).2.2.2.2.1;rw[bQ (by omega) (by omega)];by_cases h:(b.list.length:Int)+(c.list.length:Int)>8
 ·rw[aq h];exact⟨dM 6,rfl,rfl,bG (by omega) (by omega)⟩
 ·rw[ae h];have j:∀x,x∈b.list++c.list->VOk P x:=λx a=>(List.mem_append.1 a).elim (λh=>f.mem h) λh=>hc.mem h
  have m:((b.list++c.list).length:Int)<=8:=by rw[a8];omega
  simp only[aa,List.nil_append,OY _ fb,OY _ fc,bI (show b.list.length+c.list.length<=34359738368 by omega),bI (show 0+b.list.length<=34359738368 by omega),zA,Ui _ (dB (show ((b.list++c.list).length:Int)<=1048576 by omega) λx a=>(j x a).fit),aC];refine⟨nZ (b.list++c.list),rfl,rfl,IK (by omega) j,(uz _).2 ⟨λx a=>?_,m⟩⟩;rcases List.mem_append.1 a with h | h
  ·exact ((uz _).1 lb).1 x h
  ·exact ((uz _).1 lc).1 x h
theorem kcls(k:Int):(k=1/\(k==1)=true/\(k==2)=false/\(k==3)=false)\/(k=2/\(k==1)=false/\(k==2)=true/\(k==3)=false)\/(k=3/\(k==1)=false/\(k==2)=false/\(k==3)=true)\/((k≠1/\k≠2/\k≠3)/\(k==1)=false/\(k==2)=false/\(k==3)=false):=by
 by_cases a:k=1
 ·subst a;exact .inl ⟨rfl,rfl,rfl,rfl⟩
 by_cases b:k=2
 ·subst b;exact .inr (.inl ⟨rfl,rfl,rfl,rfl⟩)
 by_cases c:k=3
 ·subst c;exact .inr (.inr (.inl ⟨rfl,rfl,rfl,rfl⟩))
 exact .inr (.inr (.inr ⟨⟨a,b,c⟩,by simpa using a,by simpa using b,by simpa using c⟩))
theorem alJ(k:Int):((k==1)=true/\(k==2)=false/\(k==3)=false/\(k==4)=false/\(k==5)=false)\/((k==1)=false/\(k==2)=true/\(k==3)=false/\(k==4)=false/\(k==5)=false)\/((k==1)=false/\(k==2)=false/\(k==3)=true/\(k==4)=false/\(k==5)=false) \/
  ((k==1)=false/\(k==2)=false/\(k==3)=false/\(k==4)=true/\(k==5)=false)\/((k==1)=false/\(k==2)=false/\(k==3)=false/\(k==4)=false/\(k==5)=true)\/((k==1)=false/\(k==2)=false/\(k==3)=false/\(k==4)=false/\(k==5)=false):=by
 by_cases a:k=1
 ·subst a;exact .inl ⟨rfl,rfl,rfl,rfl,rfl⟩
 by_cases b:k=2
 ·subst b;exact .inr (.inl ⟨rfl,rfl,rfl,rfl,rfl⟩)
 by_cases c:k=3
 ·subst c;exact .inr (.inr (.inl ⟨rfl,rfl,rfl,rfl,rfl⟩))
 by_cases d:k=4
 ·subst d;exact .inr (.inr (.inr (.inl ⟨rfl,rfl,rfl,rfl,rfl⟩)))
 by_cases e:k=5
 ·subst e;exact .inr (.inr (.inr (.inr (.inl ⟨rfl,rfl,rfl,rfl,rfl⟩))))
 exact .inr (.inr (.inr (.inr (.inr ⟨by simpa using a,by simpa using b,by simpa using c,by simpa using d,by simpa using e⟩))))
set_option maxHeartbeats 2000000 in
theorem alK{P:List aj}(o:Int)(b c:af)(t:VOk P b)(hc:VOk P c):Al P (jm o b c) (iI o b c):=by
 unfold jm iI;rw[aC,aC];refine UW (VH t.fit hc.fit) (λe=>eF e) (λe=>eF e) λhv=>?_
 have vb:=(hv b afV).1;have vc:=(hv c ab4).1;have tl:=λkb kc=>VU (agz b c t hc vb vc kb kc)
 have ts:=agy b c t;have tt:b.kind=2->c.kind=2->_:=λh u=>VU (aiq (P:=P) b.text c.text (tX vb h).2 (tX vc u).2)
 have ea:Al P ((aI 4).bind λr=>some (ah r)) ((aF 4).bind λr=>some (ah r)):=⟨dM 4,rfl,rfl,bG (by omega) (by omega)⟩;have i:=λn=>alm (P:=P) n
 have j:=λn=>agx (P:=P) n
 obtain⟨kb,v,w,x,y,c1,z⟩:=b;obtain⟨kc,A,s2,B,C,c2,D⟩:=c;simp only[aC,Option.bind_fun_some]at tl ts tt i j ea;simp only[aa,aC];rcases kcls kb with ⟨eb,k,l,m⟩ | ⟨eb,k,l,m⟩ | ⟨eb,k,l,m⟩ | ⟨eb,k,l,m⟩<;>rcases kcls kc with ⟨ec,p,q,s⟩ | ⟨ec,p,q,s⟩ | ⟨ec,p,q,s⟩ | ⟨ec,p,q,s⟩<;>rcases alJ o with ⟨a,o2,d,f,g⟩ | ⟨a,o2,d,f,g⟩ | ⟨a,o2,d,f,g⟩ | ⟨a,o2,d,f,g⟩ | ⟨a,o2,d,f,g⟩ | ⟨a,o2,d,f,g⟩<;>
  simp only[Vk,ac,aa,Um,KE,k,l,m,p,q,s,a,o2,d,f,g,aC,Option.bind_fun_some]<;>
  first
  | with_reducible exact i _
  | with_reducible exact j _
  | with_reducible exact ea
  | with_reducible exact tt eb ec
  | with_reducible exact tl eb ec
  | with_reducible exact ts
  | skip
