import Derived.Test.YtngjomkjlonfpaaGreatDoorRenV2
set_option linter.unusedSimpArgs false
set_option linter.unusedVariables false
/- Plain laws: HasSeen, valid logs and replicas, equality of documents. -/
namespace Go.Proofs.YtngjomkjlonfpaaGreatDoor
open Go.Abs Go.Proofs
theorem RX{α:Type}{xs:List α}{n:Int}(b:0<=n)(h1:n<xs.length):∃x,idx xs n=some x/\xs[n.toNat]?=some x:=by
 have a:n.toNat<xs.length:=by omega
 exact⟨xs[n.toNat],by unfold idx;rw[if_pos b];simp[a],by simp[a]⟩
theorem aj1{α:Type}{xs:List α}{n:Int}(a:0<=n)(h1:n<=xs.length):eff.cutL xs none (some n)=some (xs.take n.toNat):=by
 unfold eff.cutL;simp[a,h1]
theorem aeU{n:Nat}(h:n<lim):w64 ((n:Int)-1)=(n:Int)-1:=by
 have a:(n:Int)<4611686018427387904:=Int.ofNat_lt.2 h;exact bK (by omega) (by omega)
theorem aez(a:GOp)(b:List GOp)(c:Int)(g:a.seen.length<lim)(h:b.length<lim):∃v,vw a b c=some v/\yU a b c=some v:=by
 unfold vw yU;rw[fO,aeU h];by_cases d:c<0
 ·refine⟨false,?_,?_⟩
  ·rw[ae (show ¬0<=c by omega)];rfl
  ·rw[aq d];rfl
 rw[aq (show 0<=c by omega),ae d];by_cases h1:c>=b.length
 ·refine⟨false,?_,?_⟩
  ·rw[ae (show ¬c<=(b.length:Int)-1 by omega)];rfl
  ·rw[aq h1];rfl
 rw[aq (show c<=(b.length:Int)-1 by omega),ae h1];obtain⟨e,i,_⟩:=RX (xs:=b) (n:=c) (by omega) (by omega);simp only[Bool.and_self,zA,aM,aa,i,fO,aeU g];by_cases h2:e.by_<0
 ·refine⟨false,?_,?_⟩
  ·rw[ae (show ¬0<=e.by_ by omega)];rfl
  ·rw[aq h2];rfl
 rw[aq (show 0<=e.by_ by omega),ae h2];by_cases f:e.by_>=a.seen.length
 ·refine⟨false,?_,?_⟩
  ·rw[ae (show ¬e.by_<=(a.seen.length:Int)-1 by omega)];rfl
  ·rw[aq f];rfl
 rw[aq (show e.by_<=(a.seen.length:Int)-1 by omega),ae f];obtain⟨s,j,_⟩:=RX (xs:=a.seen) (n:=e.by_) (by omega) (by omega);obtain⟨v,k,l⟩:=aeG (b.take c.toNat) e.by_ (by rw[ba];omega);simp only[Bool.and_self,aM,aa,aj1 (show 0<=c by omega) (show c<=(b.length:Int) by omega),zA,k,l,j];exact⟨_,rfl,rfl⟩
theorem YT(a b:GOp):Lu a b=qm a b:=rfl
theorem zy(a b:GOp):qm a b=some (decide (a.time<b.time)||((a.time==b.time)&&decide (a.by_<b.by_))):=by
 unfold qm;cases decide (a.time<b.time)<;>cases (a.time==b.time)<;>rfl
noncomputable def opB(a:GOp):Bool:=(oG a).getD false
theorem UE(a:GOp)(h:Fit B20 (.base .op) a):oG a=some (opB a):=by
 obtain⟨v,b,_⟩:=Pe a h;rw[b];unfold opB;rw[b];rfl
theorem Vh(a:GOp)(h:Fit B20 (.base .op) a):vO a=some (opB a):=by
 obtain⟨v,b,c⟩:=Pe a h;rw[c];unfold opB;rw[b];rfl
noncomputable def ny(a:List GOp)(x:GOp)(i:Nat):Bool:=
 opB x&&(!decide ((i:Int)>0)||(match a[i-1]? with
  | some y=>decide (y.time<x.time)||((y.time==x.time)&&decide (y.by_<x.by_))
  | none=>false))
theorem VN{i n:Nat}(h:i<n)(a:n<lim)(c:(i:Int)>0):w64 ((i:Int)-1)=((i-1:Nat):Int):=by
 have d:(i:Int)<(n:Int):=Int.ofNat_lt.2 h;have b:(n:Int)<4611686018427387904:=Int.ofNat_lt.2 a;rw[bK (by omega) (by omega)];omega
theorem Hl(a:List GOp)(h:aW B20 (.list (.base .op) a)):wQ a=some (iw (ny a) a 0&&decide ((a.length:Int)<=60))/\DC a=some (iw (ny a) a 0&&decide ((a.length:Int)<=60)):=by
 have e:=dX (dh h);refine⟨?_,?_⟩
 ·refine nM (fun i=>((a,(i:Int)):List GOp×Int)) a _ _ (fun i x d=>?_) ?_
  ·obtain⟨b,rfl⟩:=zC.1 d;have f:=h.bQ a[i] (List.getElem_mem b);simp only[cZ b,ac,au,d,zA,dF b e,UE _ f,ny];cases opB a[i]with
   | false=>rfl
   | true=>
    by_cases c:(i:Int)>0
    ·have g:a[i-1]?=some (a[i-1]'(by omega)):=zF (by omega);rw[VN b e c];simp only[aq c,ac,au,g,zA,zy,aM,aa,Bool.true_and,Bool.false_or];cases (decide ((a[i-1]'(by omega)).time<a[i].time)||(((a[i-1]'(by omega)).time==a[i].time)&&decide ((a[i-1]'(by omega)).by_<a[i].by_)))<;>rfl
    ·simp only[ae c];rfl
  ·simp only[aT,aa]
 ·refine nM (fun i=>((a,a,(a.length:Int),(i:Int)):List GOp×List GOp×Int×Int)) a _ _ (fun i x d=>?_) ?_
  ·obtain⟨b,rfl⟩:=zC.1 d;have f:=h.bQ a[i] (List.getElem_mem b);simp only[cZ b,ac,au,d,zA,dF b e,Vh _ f,ny,YT];cases opB a[i]with
   | false=>rfl
   | true=>
    by_cases c:(i:Int)>0
    ·have g:a[i-1]?=some (a[i-1]'(by omega)):=zF (by omega);rw[VN b e c];simp only[aq c,ac,au,g,zA,zy,aM,aa,Bool.true_and,Bool.false_or];cases (decide ((a[i-1]'(by omega)).time<a[i].time)||(((a[i-1]'(by omega)).time==a[i].time)&&decide ((a[i-1]'(by omega)).by_<a[i].by_)))<;>rfl
    ·simp only[ae c];rfl
  ·simp only[aT,aa]
theorem YG(a b:List ah)(h:a.length<lim):Lj a b=some (eqd a b):=by
 rw[<- jT];refine ou fun d=>kC (fun i=>((a,b,(a.length:Int),(i:Int)):List ah×List ah×Int×Int)) _ rfl a b d _ _ (fun i x y e f c=>?_) ?_
 ·simp only[cZ c,ac,au,e,f,zA,dF c h,TK,iV]
 ·simp only[aT,aa];rfl
theorem Jc(a b:ak):eqd a b=eqd a.cells b.cells:=by
 rw[Bool.eq_iff_iff];simp only[kW];cases a;cases b
 simp only[ak.mk.injEq]
theorem IE(a b:ak)(h:a.cells.length<lim):vF a b=some (eqd a b):=by
 rw[Jc,<- jT];refine ou fun d=>kC (fun i=>((a.cells,b.cells,(i:Int)):List ah×List ah×Int)) _ rfl a.cells b.cells d _ _ (fun i x y e f c=>?_) ?_
 ·simp only[cZ c,ac,au,e,f,zA,dF c h,TK,iV]
 ·simp only[aT,aa];rfl
theorem Jv(a b:ak)(h:a.cells.length<lim):pO a b=some (eqd a b):=by
 unfold pO;rw[YG _ _ h,Jc];rfl
theorem Zz(x y:aK):eqd x y=(eqd x.cell y.cell&&(eqd x.version y.version&&eqd x.reads y.reads)):=by
 rw[Bool.eq_iff_iff];simp only[kW,zI];cases x;cases y
 simp only[aK.mk.injEq]
theorem XJ(a b:List aK)(d:aW B20 (.list (.base .tape) a)):Ku a b=some (eqd a b):=by
 have h:=dX (dh d);rw[<- jT];refine ou fun g=>kC (fun i=>((a,b,(i:Int)):List aK×List aK×Int)) _ rfl a b g _ _ (fun i x y e j c=>?_) ?_
 ·have f:=d.bQ x (zG e);rw[DT]at f;simp only[cZ c,ac,au,e,j,zA,dF c h,MP _ _ f.2.2,iV,Zz,AQ];cases eqd x.cell y.cell<;>cases eqd x.version y.version<;>cases eqd x.reads y.reads<;>rfl
 ·simp only[aT,aa];rfl
theorem S9(a b:List aK)(d:aW B20 (.list (.base .tape) a)):DJ a b=some (eqd a b):=by
 have h:=dX (dh d);rw[<- jT];refine ou fun g=>kC (fun i=>((a,b,(a.length:Int),(i:Int)):List aK×List aK×Int×Int)) _ rfl a b g _ _ (fun i x y e j c=>?_) ?_
 ·have f:=d.bQ x (zG e);rw[DT]at f;simp only[cZ c,ac,au,e,j,zA,dF c h,Tc _ _ f.2.2,iV,Zz,AQ];cases eqd x.cell y.cell<;>cases eqd x.version y.version<;>cases eqd x.reads y.reads<;>rfl
 ·simp only[aT,aa];rfl
theorem IG(a b:aB)(h:Fit B20 (.base .document) a):lW a b=some (eqd a.notebook b.notebook&&eqd a.tapes b.tapes):=by
 rw[tZ,fH]at h;unfold lW;rw[IE _ _ (dX (dh h.1)),XJ _ _ h.2.1];cases eqd a.notebook b.notebook<;>rfl
theorem Jy(a b:aB)(h:Fit B20 (.base .document) a):pR a b=some (eqd a.notebook b.notebook&&eqd a.tapes b.tapes):=by
 rw[tZ,fH]at h;unfold pR;rw[Jv _ _ (dX (dh h.1)),S9 _ _ h.2.1];cases eqd a.notebook b.notebook<;>rfl
end Go.Proofs.YtngjomkjlonfpaaGreatDoor
/- Plain laws with marks: ChangedVersions, NewHistory, PathTo. Plain laws: one edit; both sides alike. Plain laws: batches of edits; ApplyBatch, IsNoChange. Plain laws with marks: PathTo, NewReplica. Plain laws with marks: SeenBy. Plain laws: inverse edits and batches, copies and steps of histories; both sides alike. Plain laws: UndoEdits, RedoEdits, DoEdits. Plain laws: GoTo. -/
namespace Go.Proofs.YtngjomkjlonfpaaGreatDoor
open Go.Abs Go.Proofs
theorem Rk{α σ ρ X:Type}{g:X->Option (X⊕ρ)}(pk:σ->Nat->X)(xs:List α)(f:σ->α->σ)(fin:σ->ρ)(I:Nat->σ->Prop)
  (d:∀i x s,xs[i]?=some x->I i s->I (i+1) (f s x))
  (h1:∀i x s,xs[i]?=some x->I i s->g (pk s i)=some (.inl (pk (f s x) (i+1))))
  (h2:∀s,I xs.length s->g (pk s xs.length)=some (.inr (fin s))) (s:σ) (e:I 0 s):aA g (pk s 0)=some (fin (xs.foldl f s))/\I xs.length (xs.foldl f s):=by
 have key:∀(n i:Nat) (s:σ),xs.length=i+n->I i s->aA g (pk s i)=some (fin ((xs.drop i).foldl f s))/\I xs.length ((xs.drop i).foldl f s):=by
  intro n;induction n with
  | zero=>
   intro i s hi a;rw[List.drop_eq_nil_of_le (by omega),aH];have:i=xs.length:=by omega
   subst this;rw[h2 s a];exact⟨rfl,a⟩
  | succ n ih=>
   intro i s hi a;have b:i<xs.length:=by omega
   have c:=zF b;rw[List.drop_eq_getElem_cons b,aH,h1 i xs[i] s c a];exact ih (i+1) (f s xs[i]) (by omega) (d i xs[i] s c a)
 simpa using key xs.length 0 s (by omega) e
theorem bZ{n:Nat}(h:n<=34359738368):gd n=some ():=by unfold gd;rw[if_pos h]
theorem mM{α:Type}(p:α->Bool):∀(xs:List α) (i:Nat),dB p xs i = -1\/∃(n:Nat) (x:α),dB p xs i=((i+n:Nat):Int)/\xs[n]?=some x
 | [],i=>.inl rfl
 | y::ys,i=>by
  unfold dB;cases b:p y with
  | true=>exact .inr ⟨0,y,by simp,rfl⟩
  | false=>
   rcases mM p ys (i+1)with h | ⟨n,x,h,a⟩
   ·exact .inl (by simpa using h)
   ·refine .inr ⟨n+1,x,?_,by simpa using a⟩;have:i+1+n=i+(n+1):=by omega
    rw[<- this];simpa using h
theorem WU(a:ak)(h:(a.cells.length:Int)<=16777216):bY a=some a:=by
 unfold bY;rw[bZ (by omega)];rfl
theorem copyS(a:ak)(h:(a.cells.length:Int)<=16777216):jo a=some a:=by
 unfold jo;rw[bZ (by omega)];rfl
theorem rf{α:Type}(xs:List α)(n:Nat)(h:n<=xs.length):eff.cutL xs none (some (n:Int))=some (xs.take n):=by
 unfold eff.cutL;simp only[Option.getD_none,Option.getD_some];rw[if_pos ⟨by omega,by omega,by omega⟩];simp
theorem uJ{α:Type}(xs:List α)(n:Nat)(h:n<=xs.length):eff.cutL xs (some (n:Int)) none=some (xs.drop n):=by
 unfold eff.cutL;simp only[Option.getD_none,Option.getD_some];rw[if_pos ⟨by omega,by omega,by omega⟩];simp
theorem put_eq(a:List ah)(b:Int)(c:ah)(h:(a.length:Int)<=1048576):∃n:Nat,n<=a.length/\zM a b c=some (a.take n++[c]++a.drop n)/\yT a b c=some (a.take n++[c]++a.drop n):=by
 obtain⟨n,d,e⟩:∃n:Nat,n<=a.length/\(if (if (a.length:Int)<b then (a.length:Int)else b)>0 then (if (a.length:Int)<b then (a.length:Int)else b)else 0)=(n:Int):=by
  refine⟨(if (if (a.length:Int)<b then (a.length:Int)else b)>0 then (if (a.length:Int)<b then (a.length:Int)else b)else 0).toNat,?_,?_⟩
  ·split<;>split<;>omega
  ·split<;>split<;>omega
 have k:Ky b (a.length:Int)=some (if (a.length:Int)<b then (a.length:Int)else b):=by
  unfold Ky;by_cases q:(a.length:Int)<b
  ·rw[if_pos q,ae (by omega),aa]
  ·rw[if_neg q];by_cases f:b<(a.length:Int)
   ·rw[aq f,ac]
   ·rw[ae f,aa];congr 1;omega
 have l:∀m:Int,pF 0 m=some (if m>0 then m else 0):=by
  intro m;unfold pF;by_cases q:m>0
  ·rw[if_pos q,ae (by omega),aa]
  ·rw[if_neg q];by_cases f:(0:Int)>m
   ·rw[aq f,ac]
   ·rw[ae f,aa];congr 1;omega
 have g:gd (0+(a.take n).length)=some ():=bZ (by simp;omega);have i:gd (([]++a.take n).length+[c].length)=some ():=bZ (by simp;omega);have j:gd ((([]++a.take n)++[c]).length+(a.drop n).length)=some ():=bZ (by simp;omega);refine⟨n,d,?_,?_⟩
 ·unfold zM;simp only[k,l,e,zA,rf a n d,uJ a n d,g,i,j];rfl
 ·unfold yT;simp only[e,zA,rf a n d,uJ a n d,g,i,j];rfl
theorem drop_eq(a:List ah)(n:Nat)(e:n<a.length)(h:(a.length:Int)<=1048576):xY a (n:Int)=some (a.take n++a.drop (n+1))/\Dn a (n:Int)=some (a.take n++a.drop (n+1)):=by
 have b:w64 ((n:Int)+1)=((n+1:Nat):Int):=by rw[bK (by omega) (by omega)];omega
 have c:gd (0+(a.take n).length)=some ():=bZ (by simp;omega);have d:gd (([]++a.take n).length+(a.drop (n+1)).length)=some ():=bZ (by simp;omega);constructor
 ·unfold xY;simp only[rf a n (by omega),b,uJ a (n+1) (by omega),zA,c,d];rfl
 ·unfold Dn;simp only[rf a n (by omega),b,uJ a (n+1) (by omega),zA,c,d];rfl
theorem uN{α:Type}{p:α->Nat->Bool}:∀ {xs:List α} {i:Nat},iw p xs i=true->∀(k:Nat) (x:α),xs[k]?=some x->p x (i+k)=true
 | [],i,_,k,x,h=>by simp at h
 | y::ys,i,h,k,x,a=>by
  unfold iw at h;rw[zI]at h;cases k with
  | zero=>simp at a;subst a;exact h.1
  | succ k=>
   have:=uN h.2 k x (by simpa using a);rw[show i+(k+1)=i+1+k by omega];exact this
theorem JM{c:ah}(h:iC c=true):1<=c.version/\c.version<=999:=by
 unfold iC dm at h;rw[fO,fO]at h;simp only[zA]at h;by_cases a:(decide (1<=c.id)&&decide (c.id<=999))=true
 ·rw[a]at h;simp only[aM,aa]at h;by_cases b:(decide (1<=c.version)&&decide (c.version<=999))=true
  ·simpa using b
  ·have q2':(decide (1<=c.version)&&decide (c.version<=999))=false:=by simpa using b
   rw[q2']at h;simp at h
 ·have q1':(decide (1<=c.id)&&decide (c.id<=999))=false:=by simpa using a
  rw[q1']at h;simp at h
theorem ML{n:ak}(g:Fit B20 (.base .notebook) n)(hv:dH n=some true):(n.cells.length:Int)<=8/\∀(k:Nat) (x:ah),n.cells[k]?=some x->1<=x.version/\x.version<=999:=by
 rw[fH]at g;have h:n.cells.length<lim/\∀x∈n.cells,Fit B20 (.base .cell) x:=⟨dX (dh g),g.bQ⟩;have e:dH n=some (iw (fun c i=>iC c&&!(dB (fun d=>d.id==c.id) n.cells 0 != (i:Int))) n.cells 0&&decide ((n.cells.length:Int)<=8)):=by
  refine nM (fun i=>((n.cells,(i:Int)):List ah×Int)) n.cells _ _ (fun i x f=>?_) ?_
  ·obtain⟨a,rfl⟩:=zC.1 f;obtain⟨b,h1,h2⟩:=jc _ (h.2 _ (List.getElem_mem a));have j:iC n.cells[i]=b:=by unfold iC;rw[h2];rfl
   simp only[cZ a,ac,au,f,zA,dF a h.1,h2,j,jk ⟨n.cells⟩ _ h.1];cases b<;>cases (dB (fun d=>d.id==n.cells[i].id) n.cells 0 != (i:Int))<;>rfl
  ·simp only[aT,aa]
 rw[e]at hv;simp only[zD,zI,decide_eq_true_eq]at hv;refine⟨hv.2,fun k x f=>?_⟩;have:=uN hv.1 k x f;simp only[zI]at this;exact JM this.1
theorem adX{cs:List ah}(a:(cs.length:Int)<=1048576)(h:∀x,x∈cs->Fit B20 (.base .cell) x):Fit B20 (.base .notebook) (ak.mk cs):=by
 rw[fH];exact gu a h
theorem JU(a:ak)(b:dR)(d:Fit B20 (.base .notebook) a)(O:Fit B20 (.base .edit) b) :
  ∃w n,jq a b=some (w,n)/\vU a b=some (w,n)/\Fit B20 (.base .notebook) w:=by
 obtain⟨v,B,i⟩:=kD a d;have fa:=d;rw[fH]at fa;have C:=dh fa;have j:a.cells.length<lim:=dX C;have e:=fa.bQ;have fb:=O;rw[vW]at fb;have hcell:=fb.2.2;have fc:=hcell;rw[fK]at fc;have cI:=WU a (by omega);have cS:=copyS a (by omega);unfold jq vU;rw[B,i,cI,cS];simp only[zA];cases v with
 | false=>exact⟨a,1,rfl,rfl,d⟩
 | true=>
 obtain⟨I,hver⟩:=ML d i;simp only[aM,aa,fO,Aj,zA];cases P:(decide (1<=b.kind)&&decide (b.kind<=6))with
 | false=>exact⟨a,1,rfl,rfl,d⟩
 | true=>
 simp only[aM,aa];unfold Za;simp only[jk a _ j,xK a _ j,zA];simp only[zI,decide_eq_true_eq]at P;obtain⟨vc,k,l⟩:=jc b.cell hcell;have insFit:∀(xs:List ah) (n:Nat) (c:ah),n<=xs.length->(xs.length:Int)<=8->(∀x,x∈xs->Fit B20 (.base .cell) x)->Fit B20 (.base .cell) c->Fit B20 (.base .notebook) (ak.mk (xs.take n++[c]++xs.drop n)):=by
  intro xs n c u I g D;refine adX (by simp;omega) fun x h=>?_
  simp only[List.mem_append,List.mem_singleton]at h;rcases h with (h | h) | h
  ·exact g x (List.mem_of_mem_take h)
  ·subst h;exact D
  ·exact g x (List.mem_of_mem_drop h)
 by_cases J:b.kind=1
 ·simp only[J,beq_self_eq_true,ac,k,l,zA];cases vc with
  | false=>exact⟨a,1,rfl,by simp only[Bool.not_false,ac,zA,cI],d⟩
  | true=>
   simp only[aM,aa];cases z:decide (dB (fun c=>c.id==b.cell.id) a.cells 0>=0)with
   | true=>exact⟨a,3,rfl,by simp only[ac,zA,cI],d⟩
   | false=>
    simp only[aa];by_cases o:(a.cells.length:Int)=8
    ·simp only[o,beq_self_eq_true,ac,show decide ((8:Int)>=8)=true from rfl,zA,cI];exact⟨a,4,rfl,rfl,d⟩
    ·have Q:((a.cells.length:Int)==8)=false:=by simpa using o
     have R:decide ((a.cells.length:Int)>=8)=false:=ae (by omega);obtain⟨n,u,E,F⟩:=put_eq a.cells b.pos b.cell C;simp only[Q,R,aa,E,F,zA];have A:=insFit a.cells n b.cell u I e hcell;have cI2:=WU (ak.mk (a.cells.take n++[b.cell]++a.cells.drop n)) (by simp;omega);rw[cI2];exact⟨_,0,rfl,rfl,A⟩
 ·have k1':(b.kind==1)=false:=by simpa using J
  simp only[k1',aa];rcases mM (fun c:ah=>c.id==b.cell.id) a.cells 0 with z | ⟨n,x,z,g⟩
  ·rw[z];exact⟨a,2,rfl,by simp only[show decide ((-1:Int)<0)=true from rfl,ac,zA,cI],d⟩
  ·rw[z,Nat.zero_add];have u:n<a.cells.length:=(zC.1 g).1;have p:=e x (zG g);have fx:=p;rw[fK]at fx;have hv:=hver n x g;simp only[ae (show ¬((n:Nat):Int)<0 by omega),aa,au,g,zA,aD];obtain⟨K,L⟩:=drop_eq a.cells n u C;have dropm:∀y,y∈a.cells.take n++a.cells.drop (n+1)->Fit B20 (.base .cell) y:=fun y f=>by
    rcases List.mem_append.1 f with f | f
    ·exact e y (List.mem_of_mem_take f)
    ·exact e y (List.mem_of_mem_drop f)
   have dropl:((a.cells.take n++a.cells.drop (n+1)).length:Int)<=8:=by simp;omega
   by_cases M:b.kind=2
   ·have G:=WU (ak.mk (a.cells.take n++a.cells.drop (n+1))) (by show ((a.cells.take n++a.cells.drop (n+1)).length:Int)<=_;omega);simp only[M,beq_self_eq_true,ac,K,L,zA,G];exact⟨_,0,rfl,rfl,adX (by omega) dropm⟩
   have k2':(b.kind==2)=false:=by simpa using M
   by_cases N:b.kind=3
   ·obtain⟨m,h,E,F⟩:=put_eq (a.cells.take n++a.cells.drop (n+1)) b.pos x (by omega);have A:=insFit _ m x h dropl dropm p;have fl:((ak.mk ((a.cells.take n++a.cells.drop (n+1)).take m++[x]++(a.cells.take n++a.cells.drop (n+1)).drop m)).cells.length:Int)<=1048576:=by
     have:=A;rw[fH]at this;exact dh this
    have G:=WU _ (show _<=(16777216:Int)from Int.le_trans fl (by omega));simp only[N,k2',beq_self_eq_true,ac,aa,show ((3:Int)==2)=false from rfl,K,L,E,F,zA,G];exact⟨_,0,rfl,rfl,A⟩
   have k3':(b.kind==3)=false:=by simpa using N
   have setFit:∀c:ah,Fit B20 (.base .cell) c->Fit B20 (.base .notebook) (ak.mk (a.cells.set n c)):=fun c D=>adX (by simp;omega) fun y f=>by
    rcases List.mem_or_eq_of_mem_set f with f | f
    ·exact e y f
    ·subst f;exact D
   have setCopy:∀c:ah,bY (ak.mk (a.cells.set n c))=some (ak.mk (a.cells.set n c)):=fun c=>WU _ (by simp;omega)
   have wfv:(Lit.int .i64 (w64 (x.version+1))).wf=true:=by
    rw[bK (by omega) (by omega)];unfold Lit.wf;simp[IntKind.wrap,IntKind.bits,IntKind.signed,IntKind.min,IntKind.max];omega
   simp only[k2',k3',aa];have h999:(x.version==999)=decide (x.version>=999):=by
    by_cases q:x.version=999
    ·rw[q];rfl
    ·rw[ae (by omega)];simpa using q
   unfold ve;by_cases H:b.kind=5
   ·have fcell:Fit B20 (.base .cell) (ah.mk x.id x.version x.kind x.name x.code b.cell.n):=by
     rw[fK];exact⟨fx.1,fx.2.1,fx.2.2.1,fx.2.2.2.1,fx.2.2.2.2.1,fc.2.2.2.2.2⟩
    obtain⟨q,r,s⟩:=jc _ fcell;simp only[H,beq_self_eq_true,TS,show ((5:Int)==4)=false from rfl,ac,aa,r,s,zA];cases t:(x.kind != 3)with
    | true=>exact⟨a,5,rfl,by simp only[ac,zA,cI],d⟩
    | false=>
     simp only[aa];cases q with
     | false=>exact⟨a,1,rfl,by simp only[Bool.not_false,ac,zA,cI],d⟩
     | true=>exact⟨_,0,rfl,by simp only[aM,aa,zA,cI,au,g,aD,setCopy],setFit _ fcell⟩
   have k5':(b.kind==5)=false:=by simpa using H
   have k5n:(b.kind != 5)=true:=by simpa using H
   by_cases k4:b.kind=4
   ·have fcell:Fit B20 (.base .cell) (ah.mk x.id (w64 (x.version+1)) x.kind b.cell.name b.cell.code x.n):=by
     rw[fK];exact⟨fx.1,.int .i64 _ wfv,fx.2.2.1,fc.2.2.2.1,fc.2.2.2.2.1,fx.2.2.2.2.2⟩
    obtain⟨q,r,s⟩:=jc _ fcell;simp only[k4,k5',beq_self_eq_true,show ((4:Int)==5)=false from rfl,show ((4:Int)==6)=false from rfl,show ((4:Int) != 5)=true from rfl,ac,aa,r,s,zA,h999];cases t:(x.kind==3)with
    | true=>exact⟨a,5,rfl,by simp only[ac,zA,cI],d⟩
    | false=>
     simp only[aa];cases S:decide (x.version>=999)with
     | true=>exact⟨a,6,rfl,by simp only[ac,zA,cI],d⟩
     | false=>
      simp only[aa];cases q with
      | false=>exact⟨a,1,rfl,by simp only[Bool.not_false,ac,zA,cI],d⟩
      | true=>exact⟨_,0,rfl,by simp only[aM,aa,zA,cI,au,g,aD,setCopy],setFit _ fcell⟩
   have k4':(b.kind==4)=false:=by simpa using k4
   have T:b.kind=6:=by omega
   have fcell:Fit B20 (.base .cell) (ah.mk x.id (w64 (x.version+1)) x.kind x.name x.code x.n):=by
    rw[fK];exact⟨fx.1,.int .i64 _ wfv,fx.2.2.1,fx.2.2.2.1,fx.2.2.2.2.1,fx.2.2.2.2.2⟩
   obtain⟨q,r,s⟩:=jc _ fcell;simp only[T,k5',k4',beq_self_eq_true,show ((6:Int)==4)=false from rfl,show ((6:Int)==5)=false from rfl,show ((6:Int) != 5)=true from rfl,ac,aa,r,s,zA,h999];cases t:(x.kind != 2)with
   | true=>exact⟨a,5,rfl,by simp only[ac,zA,cI],d⟩
   | false=>
    simp only[aa];cases S:decide (x.version>=999)with
    | true=>exact⟨a,6,rfl,by simp only[ac,zA,cI],d⟩
    | false=>
     simp only[aa];cases q with
     | false=>exact⟨a,1,rfl,by simp only[Bool.not_false,ac,zA,cI],d⟩
     | true=>exact⟨_,0,rfl,by simp only[aM,aa,zA,cI,au,g,aD,setCopy],setFit _ fcell⟩
theorem Yv{a:ak}(h:Fit B20 (.base .notebook) a):(a.cells.length:Int)<=1048576:=by
 rw[fH]at h;exact dh h
def ahZ(c:ah):ah:=ah.mk c.id 0 c.kind c.name c.code c.n
theorem Ua{a:ak}{b:dR}{w:ak}(j:Fit B20 (.base .notebook) a)(h:jq a b=some (w,0)) :
  (1<=b.kind/\b.kind<=6)/\(b.kind≠1->∃(m:Nat) (x:ah),dB (fun c=>c.id==b.cell.id) a.cells 0=(m:Int)/\a.cells[m]?=some x):=by
 obtain⟨v,k,e⟩:=kD a j;have l:=Yv j;have f:a.cells.length<lim:=dX l;unfold jq at h;rw[e,copyS a (by omega)]at h;simp only[zA,fO,jk a _ f]at h;cases v with
 | false=>simp at h
 | true=>
  simp only[aM,aa]at h;cases d:(decide (1<=b.kind)&&decide (b.kind<=6))with
  | false=>rw[d]at h;simp at h
  | true=>
   rw[d]at h;simp only[zI,decide_eq_true_eq]at d;refine⟨d,fun g=>?_⟩;have k1':(b.kind==1)=false:=by simpa using g
   simp only[aM,aa,k1']at h;rcases mM (fun c:ah=>c.id==b.cell.id) a.cells 0 with i | ⟨n,x,i,o⟩
   ·rw[i]at h;simp at h
   ·exact⟨n,x,by rw[i,Nat.zero_add],o⟩
theorem int0{n:Int}(h:(Lit.int .i64 n).wf=true):aW B20 (.int .i64 n):=.int .i64 _ h
theorem ahT{n:Int}(a:-1000000000<=n)(h1:n<=1000000000):(Lit.int .i64 n).wf=true:=by
 unfold Lit.wf;simp[IntKind.bits,IntKind.signed,IntKind.min,IntKind.max];omega
theorem adV:aW B20 (.str []):=Ad (by simp)
end Go.Proofs.YtngjomkjlonfpaaGreatDoor
/- Plain laws: copies of values, reads, operations and replicas are the same. Plain laws: MissingOps, AddOp. -/
namespace Go.Proofs.YtngjomkjlonfpaaGreatDoor
open Go.Abs Go.Proofs
theorem take_snoc{α:Type}{xs:List α}{i:Nat}{x:α}(h:xs[i]?=some x):xs.take (i+1)=xs.take i++[x]:=by
 obtain⟨hi,rfl⟩:=zC.1 h;exact List.take_succ_eq_append_getElem hi
theorem rq{α X ρ:Type}{g:X->Option (X⊕ρ)}(pk:List α->Nat->X)(xs:List α)(fin:Option ρ)
  (h1:∀i x,xs[i]?=some x->(xs.take i).length=i->g (pk (xs.take i) i)=some (.inl (pk (xs.take i++[x]) (i+1))))
  (h2:g (pk xs xs.length)=fin.bind fun r=>some (.inr r)):aA g (pk [] 0)=fin:=by
 have key:∀(n i:Nat),xs.length=i+n->aA g (pk (xs.take i) i)=fin:=by
  intro n;induction n with
  | zero=>
   intro i hi;have:i=xs.length:=by omega
   subst this;rw[aH,List.take_length,h2];cases fin<;>rfl
  | succ n ih=>
   intro i hi;have a:i<xs.length:=by omega
   have b:=zF a;rw[aH,h1 i _ b (by simp;omega)];simp only;rw[<- take_snoc b];exact ih (i+1) (by omega)
 exact key xs.length 0 (by omega)
theorem gd1{α:Type}{s:List α}{i n:Nat}{x:α}(h:s.length=i)(hi:i<n)(a:(n:Int)<=1048576):gd (s.length+[x].length)=some ():=bZ (by simp;omega)
theorem abx(x:cO)(h:Fit B20 (.base .row) x):yX x=some x:=by
 rw[O1]at h;have:=dh h.1;have:=dh h.2;unfold yX;rw[bZ (by omega),zA,bZ (by omega)];rfl
theorem ags(x:cO)(h:Fit B20 (.base .row) x):Kv x=some x:=by
 rw[O1]at h;have:=dh h.1;have:=dh h.2;unfold Kv;rw[bZ (by omega),zA,bZ (by omega)];rfl
theorem DN:∀n,(∀v:aQ,siz v<n->Fit B20 (.base .val) v->(dQ n).1 v=some v)/\(∀xs:List aQ,siz xs<n->aW B20 (.list (.base .val) xs)->(dQ n).2 xs=some xs)
 | 0=>⟨fun v h=>absurd h (Nat.not_lt_zero _),fun v h=>absurd h (Nat.not_lt_zero _)⟩
 | n+1=>by
  have ih:=DN n;refine⟨fun x e h=>?_,fun xs e h=>?_⟩
  ·rw[JG]at h;obtain⟨j,k,m,o,f,g,c⟩:=h;have p:=dh g;have d:=dh c;show rZ (dQ n).1 (dQ n).2 x=some x
   unfold rZ;rw[ih.2 x.list (by have:=H9 (v:=x);omega) f,zA,bZ (by omega),zA];refine rq (fun (s:List cO) (i:Nat)=>((0,0,0,[],[],[],[],x.kind,x.n,x.step,x.text,x.list,[]++x.columns,s,x.rows,(x.rows.length:Int),(i:Int)):Int×Int×Int×Str×(List aQ)×(List Str)×(List cO)×Int×Int×Int×Str×(List aQ)×(List Str)×(List cO)×(List cO)×Int×Int))
    x.rows (some x) (fun i y a b=>?_) ?_
   ·have hi:=(zC.1 a).1;simp only[dec_lt a,ac,au,a,zA,abx y (c.bQ y (zG a)),gd1 b hi d,gG a (dX d)]
   ·simp only[Int.lt_irrefl,decide_false,aa];cases x;rfl
  ·have l:=dh h;show pU (dQ n).1 (dQ n).2 xs=some xs
   unfold pU;refine rq (fun (s:List aQ) (i:Nat)=>((s,xs,(xs.length:Int),(i:Int)):(List aQ)×(List aQ)×Int×Int)) xs (some xs) (fun i y a b=>?_) ?_
   ·have hi:=(zC.1 a).1;simp only[dec_lt a,ac,au,a,jr,zA,ih.1 y (by have:=OV (zG a);omega) (h.bQ y (zG a)),gd1 b hi l,gG a (dX l)]
   ·simp only[Int.lt_irrefl,decide_false,aa];rfl
theorem FO(x:aQ)(h:Fit B20 (.base .val) x):oN x=some x:=(DN (siz x+1)).1 x (Nat.lt_succ_self _) h
theorem MR:∀n,∀v:aQ,siz v<n->Fit B20 (.base .val) v->xX n v=some v
 | 0=>fun v h=>absurd h (Nat.not_lt_zero _)
 | n+1=>by
  have ih:=MR n;intro x j h;rw[JG]at h;obtain⟨k,l,m,p,c,g,d⟩:=h;have e:=dh c;have q:=dh g;have f:=dh d;show Cc (xX n) x=some x
  unfold Cc;rw[bZ (by omega),zA];refine rq (fun (s:List aQ) (i:Nat)=>((x.kind,x.n,x.step,x.text,x.list,x.columns,x.rows,0,0,0,[],[],[],[],x.kind,x.n,x.step,x.text,s,[]++x.columns,[],(i:Int)):Int×Int×Int×Str×(List aQ)×(List Str)×(List cO)×Int×Int×Int×Str×(List aQ)×(List Str)×(List cO)×Int×Int×Int×Str×(List aQ)×(List Str)×(List cO)×Int))
   x.list (some x) (fun i y a b=>?_) ?_
  ·have hi:=(zC.1 a).1;simp only[dec_lt a,ac,au,a,jr,zA,ih y (by have:=OV (zG a);have:=H9 (v:=x);omega) (c.bQ y (zG a)),gd1 b hi e,gG a (dX e)]
  ·simp only[Int.lt_irrefl,decide_false,aa];refine congrArg (fun o=>Option.bind o _) (rq (fun (s:List cO) (i:Nat)=>((x.kind,x.n,x.step,x.text,x.list,x.columns,x.rows,0,0,0,[],[],[],[],x.kind,x.n,x.step,x.text,x.list,[]++x.columns,s,(i:Int)):Int×Int×Int×Str×(List aQ)×(List Str)×(List cO)×Int×Int×Int×Str×(List aQ)×(List Str)×(List cO)×Int×Int×Int×Str×(List aQ)×(List Str)×(List cO)×Int))
    x.rows (some x) (fun i y a b=>?_) ?_)
   ·have hi:=(zC.1 a).1;simp only[dec_lt a,ac,au,a,zA,ags y (d.bQ y (zG a)),gd1 b hi f,gG a (dX f)]
   ·simp only[Int.lt_irrefl,decide_false,aa];cases x;rfl
theorem P5(x:aQ)(h:Fit B20 (.base .val) x):Em x=some x:=MR (siz x+1) x (Nat.lt_succ_self _) h
theorem qX(xs:List aN)(h:aW B20 (.list (.base .read) xs)):oO xs=some xs:=by
 have l:=dh h;unfold oO;refine rq (fun (s:List aN) (i:Nat)=>((s,xs,(xs.length:Int),(i:Int)):(List aN)×(List aN)×Int×Int)) xs (some xs) (fun i y a b=>?_) ?_
 ·have hi:=(zC.1 a).1;have f:=h.bQ y (zG a);rw[vV]at f;simp only[dec_lt a,ac,au,a,jr,zA,FO y.result f.2.2.2.2,gd1 b hi l,gG a (dX l)]
 ·simp only[Int.lt_irrefl,decide_false,aa];rfl
theorem MW(x:aN)(h:Fit B20 (.base .read) x):Cm x=some x:=by
 rw[vV]at h;unfold Cm;rw[jr,P5 _ h.2.2.2.2,zA,jr]
theorem zN(xs:List aN)(h:aW B20 (.list (.base .read) xs)):uq xs=some xs:=by
 have l:=dh h;unfold uq;refine rq (fun (s:List aN) (i:Nat)=>((xs,s,(i:Int)):(List aN)×(List aN)×Int)) xs (some xs) (fun i y a b=>?_) ?_
 ·have hi:=(zC.1 a).1;simp only[dec_lt a,ac,au,a,qH,zA,MW y (h.bQ y (zG a)),gd1 b hi l,gG a (dX l)]
 ·simp only[Int.lt_irrefl,decide_false,aa];rfl
theorem Ti(x:GOp)(h:Fit B20 (.base .op) x):EO x=some x:=by
 rw[AB]at h;obtain⟨c,d,e,a,f,g,i,j,k,b⟩:=h;have:=dh a;unfold EO;rw[bZ (by omega),zA,qX _ b];rfl
theorem BV(x:GOp)(h:Fit B20 (.base .op) x):nO x=some x:=by
 rw[AB]at h;obtain⟨c,d,e,a,f,g,i,j,k,b⟩:=h;have:=dh a;unfold nO;rw[bZ (by omega),zA,zN _ b];rfl
theorem aby(xs:List GOp)(h:aW B20 (.list (.base .op) xs)):JC xs=some xs:=by
 have l:=dh h;unfold JC;refine rq (fun (s:List GOp) (i:Nat)=>((s,xs,(xs.length:Int),(i:Int)):(List GOp)×(List GOp)×Int×Int)) xs (some xs) (fun i y a b=>?_) ?_
 ·have hi:=(zC.1 a).1;simp only[dec_lt a,ac,au,a,zA,Ti y (h.bQ y (zG a)),gd1 b hi l,gG a (dX l)]
 ·simp only[Int.lt_irrefl,decide_false,aa];rfl
theorem acU(xs:List GOp)(h:aW B20 (.list (.base .op) xs)):OW xs=some xs:=by
 have l:=dh h;unfold OW;refine rq (fun (s:List GOp) (i:Nat)=>((xs,s,(i:Int)):(List GOp)×(List GOp)×Int)) xs (some xs) (fun i y a b=>?_) ?_
 ·have hi:=(zC.1 a).1;simp only[dec_lt a,ac,au,a,zA,BV y (h.bQ y (zG a)),gd1 b hi l,gG a (dX l)]
 ·simp only[Int.lt_irrefl,decide_false,aa];rfl
theorem akK{α:Type}(f:α->Nat){xs ys:List α}(h:xs.Sublist ys):(xs.map f).sum<=(ys.map f).sum:=by
 induction h with
 | slnil=>exact az _
 | cons x _ ih=>simp only[List.map_cons,List.sum_cons];omega
 | cons_cons x _ ih=>simp only[List.map_cons,List.sum_cons];omega
theorem aoT(n:Int):(Lit.int .i64 (w64 n)).wf=true:=by
 unfold Lit.wf w64;simp[IntKind.wrap,IntKind.bits,IntKind.signed,IntKind.min,IntKind.max];omega
end Go.Proofs.YtngjomkjlonfpaaGreatDoor
/- Plain laws of merged reads and of tapes, with no program in sight. Plain laws: the functions on reads and tapes, both sides, are the plain ones. Plain laws: putting and copying of tapes, both sides. -/
namespace Go.Proofs.YtngjomkjlonfpaaGreatDoor
noncomputable section
open Go.Abs Go.Proofs
def PN(x y:aN):Bool:=eqd x.kind y.kind&&(eqd x.n y.n&&(eqd x.text y.text&&eqd x.time y.time))
def Ze(l:List aN)(r:aN):Bool:=l.any fun x=>PN x r
def NS(l:List aN)(r:aN):Option aN:=l.find? fun x=>PN x r
def OJ(l:List aN)(r:aN):List aN:=bif Ze l r then l else l++[r]
def fA(a b:List aN):List aN:=b.foldl OJ a
theorem ahw(l:List aN)(r:aN):(NS l r).isSome=Ze l r:=by
 unfold NS Ze;induction l with
 | nil=>rfl
 | cons x l ih=>
  rw[List.find?_cons,List.any_cons];cases PN x r with
  | true=>rfl
  | false=>simpa using ih
theorem tq:∀(b a:List aN),∃t,fA a b=a++t/\t.Sublist b
 | [],a=>⟨[],by simp[fA],List.Sublist.refl _⟩
 | r::b,a=>by
  obtain⟨t,e,s⟩:=tq b (OJ a r);have e':fA a (r::b)=fA (OJ a r) b:=rfl;rw[e',e];unfold OJ;cases Ze a r with
  | true=>exact⟨t,rfl,s.cons _⟩
  | false=>exact⟨r::t,by simp,s.cons_cons _⟩
theorem KW(a b:List aN):a.length<=(fA a b).length/\(fA a b).length<=a.length+b.length:=by
 obtain⟨t,e,s⟩:=tq b a;rw[e,a7];have:=s.length_le;omega
theorem ag4{a b:List aN}{x:aN}(h:x∈fA a b):x∈a\/x∈b:=by
 obtain⟨t,e,s⟩:=tq b a;rw[e,List.mem_append]at h;rcases h with h | h
 ·exact .inl h
 ·exact .inr (s.subset h)
def qL(c v:Int)(t:aK):Bool:=eqd t.cell c&&eqd t.version v
def TU(x y:aK):Bool:=decide (x.cell<y.cell)||(eqd x.cell y.cell&&decide (x.version<y.version))
def readsOf(l:List aK)(c v:Int):List aN:=match l.find? (qL c v)with
 | some t=>t.reads
 | none=>[]
def y5(c v:Int)(rs:List aN):List aK->List aK
 | []=>[]
 | t::r=>bif qL c v t then aK.mk t.cell t.version (fA t.reads rs)::r else t::y5 c v rs r
def Jk(x:aK):List aK->List aK
 | []=>[x]
 | t::r=>bif TU x t then x::t::r else t::Jk x r
def wE(l:List aK)(c v:Int)(rs:List aN):List aK:=
 bif l.any (qL c v)then y5 c v rs l else match rs with
  | []=>l
  | _::_=>Jk (aK.mk c v (fA [] rs)) l
theorem WA(c v:Int)(rs:List aN):∀l,(y5 c v rs l).length=l.length
 | []=>rfl
 | t::r=>by
  unfold y5;cases qL c v t with
  | true=>rfl
  | false=>simp[WA c v rs r]
theorem aa7(x:aK):∀l,(Jk x l).length=l.length+1
 | []=>rfl
 | t::r=>by
  unfold Jk;cases TU x t with
  | true=>rfl
  | false=>simp[aa7 x r]
theorem aiI(l:List aK)(c v:Int)(rs:List aN):l.length<=(wE l c v rs).length/\(wE l c v rs).length<=l.length+1:=by
 unfold wE;cases l.any (qL c v)with
 | true=>rw[ac,WA];omega
 | false=>
  rw[aa];cases rs with
  | nil=>simp
  | cons r rs=>simp only;rw[aa7];omega
theorem Wy{c v:Int}{rs:List aN}:∀ {l:List aK} {t:aK},t∈y5 c v rs l->t∈l\/∃u,u∈l/\t=aK.mk u.cell u.version (fA u.reads rs)
 | u::r,t,h=>by
  unfold y5 at h;cases a:qL c v u with
  | true=>
   rw[a,ac]at h;rcases bc.1 h with rfl | h
   ·exact .inr ⟨u,aw,rfl⟩
   ·exact .inl (ar _ h)
  | false=>
   rw[a,aa]at h;rcases bc.1 h with rfl | h
   ·exact .inl aw
   ·rcases Wy h with h | ⟨w,b,e⟩
    ·exact .inl (ar _ h)
    ·exact .inr ⟨w,ar _ b,e⟩
theorem aa6{x:aK}:∀ {l:List aK} {t:aK},t∈Jk x l->t=x\/t∈l
 | [],t,h=>by
  unfold Jk at h;exact .inl (List.mem_singleton.1 h)
 | u::r,t,h=>by
  unfold Jk at h;cases a:TU x u with
  | true=>
   rw[a,ac]at h;exact bc.1 h
  | false=>
   rw[a,aa]at h;rcases bc.1 h with rfl | h
   ·exact .inr aw
   ·rcases aa6 h with h | h
    ·exact .inl h
    ·exact .inr (ar _ h)
theorem aiH{l:List aK}{c v:Int}{rs:List aN}{t:aK}(h:t∈wE l c v rs) :
  t∈l\/(∃u,u∈l/\t=aK.mk u.cell u.version (fA u.reads rs))\/t=aK.mk c v (fA [] rs):=by
 unfold wE at h;cases a:l.any (qL c v)with
 | true=>
  rw[a,ac]at h;rcases Wy h with h | h
  ·exact .inl h
  ·exact .inr (.inl h)
 | false=>
  rw[a,aa]at h;cases rs with
  | nil=>exact .inl h
  | cons r rs=>
   rcases aa6 h with h | h
   ·exact .inr (.inr h)
   ·exact .inl h
theorem zV(t:aK)(r:List aK)(c v:Int):readsOf (t::r) c v=bif qL c v t then t.reads else readsOf r c v:=by
 unfold readsOf;rw[List.find?_cons];cases qL c v t<;>rfl
theorem Yc{l:List aK}{c v:Int}(h:l.any (qL c v)=false):readsOf l c v=[]:=by
 unfold readsOf;have:l.find? (qL c v)=none:=by
  rw[List.find?_eq_none];intro x a b;rw[List.any_eq_false]at h;exact h x a b
 rw[this]
theorem DR(c v:Int)(rs:List aN):∀(l:List aK),fA (readsOf l c v) rs=readsOf l c v->y5 c v rs l=l
 | [],_=>rfl
 | t::r,h=>by
  rw[zV]at h;unfold y5;cases a:qL c v t with
  | true=>rw[a,ac]at h;rw[ac,h]
  | false=>rw[a,aa]at h;rw[aa,DR c v rs r h]
theorem adI{l:List aK}{c v:Int}{rs:List aN}(h:fA (readsOf l c v) rs=readsOf l c v)(a:l.any (qL c v)=true\/rs=[]):wE l c v rs=l:=by
 unfold wE;rcases a with a | rfl
 ·rw[a,ac];exact DR c v rs l h
 ·cases l.any (qL c v)with
  | true=>rw[ac];exact DR c v [] l h
  | false=>rfl
theorem VY{α X ρ:Type}{g:X->Option (X⊕ρ)}(pk:Nat->X)(xs:List α)(p:α->Bool)(f:α->ρ)(no:ρ)
  (h1:∀i x,xs[i]?=some x->g (pk i)=bif p x then some (.inr (f x))else some (.inl (pk (i+1))))
  (h2:g (pk xs.length)=some (.inr no)):aA g (pk 0)=some ((xs.find? p).elim no f):=by
 have key:∀(n i:Nat),xs.length=i+n->aA g (pk i)=some (((xs.drop i).find? p).elim no f):=by
  intro n;induction n with
  | zero=>
   intro i hi;rw[List.drop_eq_nil_of_le (by omega),aH];have:i=xs.length:=by omega
   subst this;rw[h2];rfl
  | succ n ih=>
   intro i hi;have a:i<xs.length:=by omega
   rw[List.drop_eq_getElem_cons a,aH,h1 i xs[i] (zF a),List.find?_cons];cases p xs[i]with
   | false=>simpa using ih (i+1) (by omega)
   | true=>rfl
 simpa using key xs.length 0 (by omega)
theorem akP(x y:aN):xZ x y=some (PN x y):=Ib x y
theorem akQ(x y:aN):uF x y=some (PN x y):=FD x y
theorem aaB(x:aN):aN.mk x.kind x.n x.time x.text (aQ.mk x.result.kind x.result.n x.result.step x.result.text x.result.list x.result.columns x.result.rows)=x:=by
 cases x with
 | mk a b c d r=>cases r;rfl
theorem Y1(a:List aN)(b:aN)(h:aW B20 (.list (.base .read) a)):EN a b=some ((NS a b).elim (aQ.mk 0 0 0 [] [] [] [],false) fun x=>(x.result,true)):=by
 have d:=dX (dh h);unfold EN NS;refine VY (fun i:Nat=>(b.kind,b.n,b.time,b.text,b.result.kind,b.result.n,b.result.step,b.result.text,b.result.list,b.result.columns,b.result.rows,(0:Int),(0:Int),(0:Int),([]:Str),([]:List aQ),([]:List Str),([]:List cO),a,(a.length:Int),(i:Int))) a (fun x=>PN x b) (fun x=>(x.result,true)) _ (fun i x c=>?_) ?_
 ·have f:=h.bQ x (zG c);rw[vV]at f;simp only[dec_lt c,ac,au,c,zA,qH,jr,aaB,akQ,FO _ f.2.2.2.2,gG c d]
 ·simp only[aT,aa]
theorem X3(a:List aN)(b:aN)(h:aW B20 (.list (.base .read) a)):Ew a b=some ((NS a b).elim (aQ.mk 0 0 0 [] [] [] [],false) fun x=>(x.result,true)):=by
 have d:=dX (dh h);unfold Ew NS;refine VY (fun i:Nat=>(a,b.kind,b.n,b.time,b.text,b.result.kind,b.result.n,b.result.step,b.result.text,b.result.list,b.result.columns,b.result.rows,(0:Int),(0:Int),(0:Int),([]:Str),([]:List aQ),([]:List Str),([]:List cO),(i:Int))) a (fun x=>PN x b) (fun x=>(x.result,true)) _ (fun i x c=>?_) ?_
 ·have f:=h.bQ x (zG c);rw[vV]at f;simp only[dec_lt c,ac,au,c,zA,qH,jr,aaB,akP,P5 _ f.2.2.2.2,gG c d]
 ·simp only[aT,aa]
theorem abI(a:List aN)(b:aN){y:aQ×Bool}(c:y=(NS a b).elim (aQ.mk 0 0 0 [] [] [] [],false) fun x=>(x.result,true)):y.2=Ze a b:=by
 subst c;rw[<- ahw];cases NS a b<;>rfl
theorem acs{l:List aN}{r:aN}(h:aW B20 (.list (.base .read) l))(b:Fit B20 (.base .read) r)(c:(l.length:Int)+1<=1048576):aW B20 (.list (.base .read) (OJ l r)):=by
 unfold OJ;cases Ze l r with
 | true=>exact h
 | false=>
  refine gu (by simp;omega) fun x a=>?_
  rcases List.mem_append.1 a with a | a
  ·exact h.bQ x a
  ·rw[List.mem_singleton.1 a];exact b
theorem acr(l:List aN)(r:aN):(OJ l r).length<=l.length+1:=by
 unfold OJ;cases Ze l r<;>simp
theorem Rh{a b:List aN}(c:aW B20 (.list (.base .read) a))(d:aW B20 (.list (.base .read) b))(f:(a.length:Int)+b.length<=1048576):aW B20 (.list (.base .read) (fA a b)):=by
 have:=(KW a b).2;refine gu (by omega) fun x e=>?_
 rcases ag4 e with h | h
 ·exact c.bQ x h
 ·exact d.bQ x h
theorem Dz(a b:List aN)(g:aW B20 (.list (.base .read) a))(e:aW B20 (.list (.base .read) b))(k:(a.length:Int)+b.length<=1048576):rX a b=some (fA a b):=by
 have f:=dX (dh e);unfold rX;rw[qX a g,zA];refine (Rk (fun (s:List aN) (i:Nat)=>(s,b,(b.length:Int),(i:Int))) b OJ id (fun i s=>aW B20 (.list (.base .read) s)/\s.length<=a.length+i) (fun i x s c d=>?_) (fun i x s c d=>?_) (fun s d=>?_) a ⟨g,by omega⟩).1
 ·have hi:=(zC.1 c).1;refine⟨acs d.1 (e.bQ x (zG c)) (by omega),?_⟩;have:=acr s x;omega
 ·have hi:=(zC.1 c).1;have h:aW B20 (.list (.base .read) [x]):=gu (by simp) fun y j=>by rw[List.mem_singleton.1 j];exact e.bQ x (zG c)
  simp only[dec_lt c,ac,au,c,zA,qH,Y1 s x d.1,abI s x rfl,qX _ h,bZ (show s.length+[x].length<=34359738368 by simp;omega),gG c f];unfold OJ;cases Ze s x<;>rfl
 ·simp only[aT,aa,id]
theorem BU(a b:List aN)(g:aW B20 (.list (.base .read) a))(e:aW B20 (.list (.base .read) b))(h:(a.length:Int)+b.length<=1048576):rG a b=some (fA a b):=by
 have f:=dX (dh e);unfold rG;rw[zN a g,zA];refine (Rk (fun (s:List aN) (i:Nat)=>(b,s,(i:Int))) b OJ id (fun i s=>aW B20 (.list (.base .read) s)/\s.length<=a.length+i) (fun i x s c d=>?_) (fun i x s c d=>?_) (fun s d=>?_) a ⟨g,by omega⟩).1
 ·have hi:=(zC.1 c).1;refine⟨acs d.1 (e.bQ x (zG c)) (by omega),?_⟩;have:=acr s x;omega
 ·have hi:=(zC.1 c).1;simp only[dec_lt c,ac,au,c,zA,qH,X3 s x d.1,abI s x rfl,MW _ (e.bQ x (zG c)),bZ (show s.length+[x].length<=34359738368 by simp;omega),gG c f];unfold OJ;cases Ze s x<;>rfl
 ·simp only[aT,aa,id]
theorem agu(a:List aK)(b c:Int)(h:a.length<lim):ac4 a b c=some (dB (qL b c) a 0):=by
 refine uS (fun i=>((a,b,c,(i:Int)):List aK×Int×Int×Int)) a (qL b c) (fun i x d=>?_) ?_
 ·simp only[dec_lt d,ac,au,d,zA,gG d h,qL,lI];cases eqd x.cell b<;>cases eqd x.version c<;>rfl
 ·simp only[aT,aa]
theorem U2(a:List aK)(b c:Int)(h:a.length<lim):GK a b c=some (dB (qL b c) a 0):=by
 refine uS (fun i=>((b,c,a,(a.length:Int),(i:Int)):Int×Int×List aK×Int×Int)) a (qL b c) (fun i x d=>?_) ?_
 ·simp only[dec_lt d,ac,au,d,zA,gG d h,qL,lI];cases eqd x.cell b<;>cases eqd x.version c<;>rfl
 ·simp only[aT,aa]
theorem YB(c v:Int)(rs:List aN):∀(xs:List aK) (i:Nat),(dB (qL c v) xs i = -1/\xs.any (qL c v)=false) \/
  ∃(n:Nat) (x:aK),dB (qL c v) xs i=((i+n:Nat):Int)/\xs[n]?=some x/\xs.any (qL c v)=true/\readsOf xs c v=x.reads/\y5 c v rs xs=xs.set n (aK.mk x.cell x.version (fA x.reads rs))
 | [],i=>.inl ⟨rfl,rfl⟩
 | t::r,i=>by
  cases a:qL c v t with
  | true=>
   refine .inr ⟨0,t,?_,rfl,?_,?_,?_⟩
   ·unfold dB;rw[a];simp
   ·rw[List.any_cons,a];rfl
   ·rw[zV,a];rfl
   ·unfold y5;rw[a];rfl
  | false=>
   rcases YB c v rs r (i+1)with ⟨h1,h2⟩ | ⟨n,x,h1,h2,b,d,e⟩
   ·refine .inl ⟨?_,?_⟩
    ·unfold dB;rw[a,aa,h1]
    ·rw[List.any_cons,a,h2];rfl
   ·refine .inr ⟨n+1,x,?_,by simpa using h2,?_,?_,?_⟩
    ·unfold dB;rw[a,aa,h1];have:i+1+n=i+(n+1):=by omega
     rw[this]
    ·rw[List.any_cons,a,b];rfl
    ·rw[zV,a,aa,d]
    ·unfold y5;rw[a,aa,e];rfl
theorem Ht{l:List aK}(h:aW B20 (.list (.base .tape) l)){t:aK}(a:t∈l):aW B20 (.int .i64 t.cell)/\aW B20 (.int .i64 t.version)/\aW B20 (.list (.base .read) t.reads):=by
 have:=h.bQ t a;rw[DT]at this;exact this
theorem FQ(a:List aK)(h:aW B20 (.list (.base .tape) a)):Aw a=some a:=by
 have l:=dh h;refine rq (fun (s:List aK) (i:Nat)=>((s,a,(a.length:Int),(i:Int)):(List aK)×(List aK)×Int×Int)) a (some a) (fun i y b c=>?_) ?_
 ·have hi:=(zC.1 b).1;simp only[dec_lt b,ac,au,b,zA,qX _ (Ht h (zG b)).2.2,bZ (show (a.take i).length+[y].length<=34359738368 by simp only[c,List.length_singleton];omega),gG b (dX l)]
 ·simp only[aT,aa];rfl
theorem MV(a:List aK)(h:aW B20 (.list (.base .tape) a)):Ik a=some a:=by
 have l:=dh h;refine rq (fun (s:List aK) (i:Nat)=>((a,s,(i:Int)):(List aK)×(List aK)×Int)) a (some a) (fun i y b c=>?_) ?_
 ·have hi:=(zC.1 b).1;simp only[dec_lt b,ac,au,b,zA,zN _ (Ht h (zG b)).2.2,bZ (show (a.take i).length+[y].length<=34359738368 by simp only[c,List.length_singleton];omega),gG b (dX l)]
 ·simp only[aT,aa];rfl
theorem aaA(a:List aK)(b c:Int):readsOf a b c=[]\/∃t,t∈a/\readsOf a b c=t.reads:=by
 rcases YB b c [] a 0 with ⟨h1,h2⟩ | ⟨n,x,h1,h2,e,d,f⟩
 ·exact .inl (Yc h2)
 ·exact .inr ⟨x,zG h2,d⟩
theorem aoP(x y:aK):zL x y=some (TU x y):=by
 unfold zL TU;simp only[lI];cases decide (x.cell<y.cell)<;>cases eqd x.cell y.cell<;>rfl
theorem aqi(x y:aK):Di x y=some (TU x y):=aoP x y
theorem EW{α:Type}(xs:List α)(i:Nat)(h:i<=xs.length):cutAt xs (i:Int)=some i:=by
 unfold cutAt;rw[if_pos ⟨by omega,by omega⟩];rfl
theorem afF{X:Type}{g:X->Option (X⊕List aK)}(pk:Nat->X)(l:List aK)(x:aK)
  (h1:∀i t,l[i]?=some t->g (pk i)=bif TU x t then some (.inr (l.take i++[x]++l.drop i))else some (.inl (pk (i+1))))
  (h2:g (pk l.length)=some (.inr (l++[x]))):aA g (pk 0)=some (Jk x l):=by
 have key:∀(n i:Nat),l.length=i+n->aA g (pk i)=some (l.take i++Jk x (l.drop i)):=by
  intro n;induction n with
  | zero=>
   intro i hi;have:i=l.length:=by omega
   subst this;rw[aH,h2,List.drop_length,List.take_length];rfl
  | succ n ih=>
   intro i hi;have a:i<l.length:=by omega
   have b:=zF a;rw[aH,h1 i _ b,List.drop_eq_getElem_cons a];unfold Jk;cases TU x l[i]with
   | true=>simp only[ac,a8,List.singleton_append]
   | false=>
    simp only[aa];rw[ih (i+1) (by omega),take_snoc b,a8];rfl
 simpa using key l.length 0 (by omega)
def Tps(N M:Nat)(l:List aK):Prop:=aW B20 (.list (.base .tape) l)/\l.length<=N/\∀t∈l,t.reads.length<=M
theorem aiG{N M K:Nat}{l:List aK}{c v:Int}{rs:List aN}(h:Tps N M l)(b:aW B20 (.list (.base .read) rs))(k:rs.length<=K)(m:N+1<=1048576)(n:M+K<=1048576)
  (i:aW B20 (.int .i64 c)) (hv:aW B20 (.int .i64 v)):Tps (N+1) (M+K) (wE l c v rs):=by
 obtain⟨h1,h2,d⟩:=h;have o:=aiI l c v rs;have key:∀t∈wE l c v rs,Fit B20 (.base .tape) t/\t.reads.length<=M+K:=by
  intro t a;rcases aiH a with a | ⟨u,e,rfl⟩ | rfl
  ·exact⟨h1.bQ t a,by have:=d t a;omega⟩
  ·have f:=Ht h1 e;have:=d u e;have g:=(KW u.reads rs).2;exact⟨DT.2 ⟨f.1,f.2.1,Rh f.2.2 b (by omega)⟩,by show (fA u.reads rs).length<=_;omega⟩
  ·have g:=(KW [] rs).2;exact⟨DT.2 ⟨i,hv,Rh (gu (by simp) fun x j=>by cases j) b (by simp;omega)⟩,by show (fA [] rs).length<=_;simp at g;omega⟩
 exact⟨gu (by omega) fun t a=>(key t a).1,by omega,fun t a=>(key t a).2⟩
theorem XE(a:List aK)(b c:Int)(d:List aN)(h1:aW B20 (.list (.base .tape) a))(k:aW B20 (.list (.base .read) d))(m:(readsOf a b c).length+d.length<=1048576):BQ a b c d=some (wE a b c d):=by
 have l:=dh h1;unfold BQ;rw[MV a h1,zA,agu a b c (dX l),zA];rcases YB b c d a 0 with ⟨h,f⟩ | ⟨n,x,h,f,o,k4,p⟩
 ·rw[h];simp only[show decide ((-1:Int)>=0)=false from rfl,aa];unfold wE;rw[f,aa];cases d with
  | nil=>rfl
  | cons r rs=>
   have e:((((r::rs).length:Nat):Int)==0)=false:=by simp;omega
   rw[e,aa,BU [] (r::rs) (gu (by simp) fun x j=>by cases j) k (by simp only[List.length_nil];omega),zA];refine afF (fun (i:Nat)=>((a,b,c,fA [] (r::rs),(i:Int)):(List aK)×Int×Int×(List aN)×Int)) a (aK.mk b c (fA [] (r::rs))) (fun i t g=>?_) ?_
   ·have hi:=(zC.1 g).1;simp only[dec_lt g,ac,au,g,zA,aD,aoP,gG g (dX l),EW a i (by omega),eq_self_iff_true,if_true];rw[bZ (show 0+(a.take i).length<=34359738368 by simp;omega),zA,bZ (show (([]:List aK)++a.take i).length+[aK.mk b c (fA [] (r::rs))].length<=34359738368 by simp;omega),zA,
     bZ (show (([]:List aK)++a.take i++[aK.mk b c (fA [] (r::rs))]).length+(a.drop i).length<=34359738368 by simp;omega),zA,zA,List.nil_append]
    cases TU (aK.mk b c (fA [] (r::rs))) t<;>rfl
   ·simp only[aT,aa,EW a a.length (az _),eq_self_iff_true,if_true,zA,List.take_length,List.drop_length];rw[bZ (show 0+a.length<=34359738368 by omega),zA,bZ (show (([]:List aK)++a).length+[aK.mk b c (fA [] (r::rs))].length<=34359738368 by simp;omega),zA,
     bZ (show (([]:List aK)++a++[aK.mk b c (fA [] (r::rs))]).length+([]:List aK).length<=34359738368 by simp;omega),zA,zA,List.append_nil,List.nil_append]
 ·rw[h,Nat.zero_add];have j:=zG f;rw[k4]at m;simp only[show decide (((n:Nat):Int)>=0)=true by simp,ac,au,f,zA,aD,BU x.reads d (Ht h1 j).2.2 k (by omega)];unfold wE;rw[o,ac,p]
theorem YN(a:List aK)(b c:Int)(d:List aN)(h1:aW B20 (.list (.base .tape) a))(k:aW B20 (.list (.base .read) d))(m:(readsOf a b c).length+d.length<=1048576):yP a b c d=some (wE a b c d):=by
 have l:=dh h1;unfold yP;rw[FQ a h1,zA,U2 a b c (dX l),zA];rcases YB b c d a 0 with ⟨h,f⟩ | ⟨n,x,h,f,o,k4,p⟩
 ·rw[h];simp only[show decide ((-1:Int)>=0)=false from rfl,aa];unfold wE;rw[f,aa];cases d with
  | nil=>rfl
  | cons r rs=>
   have e:((((r::rs).length:Nat):Int)==0)=false:=by simp;omega
   rw[e,aa,Dz [] (r::rs) (gu (by simp) fun x j=>by cases j) k (by simp only[List.length_nil];omega),zA];refine afF (fun (i:Nat)=>((a,(i:Int),b,c,fA [] (r::rs)):(List aK)×Int×Int×Int×(List aN))) a (aK.mk b c (fA [] (r::rs))) (fun i t g=>?_) ?_
   ·have hi:=(zC.1 g).1;simp only[dec_lt g,ac,au,g,zA,aD,aqi,gG g (dX l),EW a i (by omega),eq_self_iff_true,if_true];rw[bZ (show 0+(a.take i).length<=34359738368 by simp;omega),zA,bZ (show (([]:List aK)++a.take i).length+[aK.mk b c (fA [] (r::rs))].length<=34359738368 by simp;omega),zA,
     bZ (show (([]:List aK)++a.take i++[aK.mk b c (fA [] (r::rs))]).length+(a.drop i).length<=34359738368 by simp;omega),zA,zA,List.nil_append]
    cases TU (aK.mk b c (fA [] (r::rs))) t<;>rfl
   ·simp only[aT,aa,EW a a.length (az _),eq_self_iff_true,if_true,zA,List.take_length,List.drop_length];rw[bZ (show 0+a.length<=34359738368 by omega),zA,bZ (show (([]:List aK)++a).length+[aK.mk b c (fA [] (r::rs))].length<=34359738368 by simp;omega),zA,
     bZ (show (([]:List aK)++a++[aK.mk b c (fA [] (r::rs))]).length+([]:List aK).length<=34359738368 by simp;omega),zA,zA,List.append_nil,List.nil_append]
 ·rw[h,Nat.zero_add];have j:=zG f;rw[k4]at m;simp only[show decide (((n:Nat):Int)>=0)=true by simp,ac,au,f,zA,aD,Dz x.reads d (Ht h1 j).2.2 k (by omega)];unfold wE;rw[o,ac,p]
theorem Nw{N M:Nat}{a:List aK}(h:Tps N M a)(b c:Int):(readsOf a b c).length<=M:=by
 rcases aaA a b c with h1 | ⟨t,d,h1⟩
 ·rw[h1];simp
 ·rw[h1];exact h.2.2 t d
theorem ZL{N M:Nat}(a:List aK)(b c:Int)(d:List aN)(h:Tps N M a)(e:aW B20 (.list (.base .read) d))(f:M+d.length<=1048576):BQ a b c d=some (wE a b c d):=
 XE a b c d h.1 e (by have:=Nw h b c;omega)
theorem abj{N M:Nat}(a:List aK)(b c:Int)(d:List aN)(h:Tps N M a)(e:aW B20 (.list (.base .read) d))(f:M+d.length<=1048576):yP a b c d=some (wE a b c d):=
 YN a b c d h.1 e (by have:=Nw h b c;omega)
theorem ajc{t:Ty}:aW B20 (.list t []):=gu (by simp) fun x a=>(by cases a)
end
end Go.Proofs.YtngjomkjlonfpaaGreatDoor
