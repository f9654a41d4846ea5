import Derived.Test.YtbbmkcioplbhbaaGreatDoorMarks
import Derived.Test.YtbbmkcioplbhbaaGreatDoorBasic
set_option linter.unusedSimpArgs false
set_option linter.unusedVariables false
/- Plain laws with marks: ChangedVersions, NewHistory, PathTo. Plain laws: one edit; both sides alike. Plain laws: batches of edits; ApplyBatch, IsNoChange. Plain laws with marks: PathTo, NewReplica. Plain laws with marks: SeenBy. Plain laws: inverse edits and batches, copies and steps of histories; both sides alike. Plain laws: UndoEdits, RedoEdits, DoEdits. Plain laws: GoTo. -/
namespace Go.Proofs.YtbbmkcioplbhbaaGreatDoor
open Go.Abs Go.Proofs
theorem QW{α σ ρ X:Type}{g:X->Option (X⊕ρ)}(pk:σ->Nat->X)(xs:List α)(f:σ->α->σ)(fin:σ->ρ)(I:Nat->σ->Prop)
  (d:∀i x s,xs[i]?=some x->I i s->I (i+1) (f s x))
  (h1:∀i x s,xs[i]?=some x->I i s->g (pk s i)=some (.inl (pk (f s x) (i+1))))
  (h2:∀s,I xs.length s->g (pk s xs.length)=some (.inr (fin s))) (s:σ) (e:I 0 s):au g (pk s 0)=some (fin (xs.foldl f s))/\I xs.length (xs.foldl f s):=by
 have key:∀(n i:Nat) (s:σ),xs.length=i+n->I i s->au g (pk s i)=some (fin ((xs.drop i).foldl f s))/\I xs.length ((xs.drop i).foldl f s):=by
  intro n;induction n with
  | zero=>
   intro i s hi a;rw[List.drop_eq_nil_of_le (by omega),aC];have:i=xs.length:=by omega
   subst this;rw[h2 s a];exact⟨rfl,a⟩
  | succ n ih=>
   intro i s hi a;have b:i<xs.length:=by omega
   have c:=zF b;rw[List.drop_eq_getElem_cons b,aC,h1 i xs[i] s c a];exact ih (i+1) (f s xs[i]) (by omega) (d i xs[i] s c a)
 simpa using key xs.length 0 s (by omega) e
theorem iT{n:Nat}(h:n<=34359738368):gd n=some ():=by unfold gd;rw[if_pos h]
theorem oH{α:Type}(p:α->Bool):∀(xs:List α) (i:Nat),dM p xs i = -1\/∃(n:Nat) (x:α),dM p xs i=((i+n:Nat):Int)/\xs[n]?=some x
 | [],i=>.inl rfl
 | y::ys,i=>by
  unfold dM;cases b:p y with
  | true=>exact .inr ⟨0,y,by simp,rfl⟩
  | false=>
   rcases oH p ys (i+1)with h | ⟨n,x,h,a⟩
   ·exact .inl (by simpa using h)
   ·refine .inr ⟨n+1,x,?_,by simpa using a⟩;have:i+1+n=i+(n+1):=by omega
    rw[<- this];simpa using h
theorem Wy(a:ak)(h:(a.cells.length:Int)<=16777216):bT a=some a:=by
 unfold bT;rw[iT (by omega)];rfl
theorem copyS(a:ak)(h:(a.cells.length:Int)<=16777216):iY a=some a:=by
 unfold iY;rw[iT (by omega)];rfl
theorem Oz{α:Type}(xs:List α)(n:Nat)(h:n<=xs.length):eff.cutL xs none (some (n:Int))=some (xs.take n):=by
 unfold eff.cutL;simp only[Option.getD_none,Option.getD_some];rw[if_pos ⟨by omega,by omega,by omega⟩];simp
theorem EQ{α:Type}(xs:List α)(n:Nat)(h:n<=xs.length):eff.cutL xs (some (n:Int)) none=some (xs.drop n):=by
 unfold eff.cutL;simp only[Option.getD_none,Option.getD_some];rw[if_pos ⟨by omega,by omega,by omega⟩];simp
theorem put_eq(a:List ah)(b:Int)(c:ah)(h:(a.length:Int)<=1048576):∃n:Nat,n<=a.length/\Ij a b c=some (a.take n++[c]++a.drop n)/\yw a b c=some (a.take n++[c]++a.drop n):=by
 obtain⟨n,d,e⟩:∃n:Nat,n<=a.length/\(if (if (a.length:Int)<b then (a.length:Int)else b)>0 then (if (a.length:Int)<b then (a.length:Int)else b)else 0)=(n:Int):=by
  refine⟨(if (if (a.length:Int)<b then (a.length:Int)else b)>0 then (if (a.length:Int)<b then (a.length:Int)else b)else 0).toNat,?_,?_⟩
  ·split<;>split<;>omega
  ·split<;>split<;>omega
 have k:XJ b (a.length:Int)=some (if (a.length:Int)<b then (a.length:Int)else b):=by
  unfold XJ;by_cases q:(a.length:Int)<b
  ·rw[if_pos q,ae (by omega),aa]
  ·rw[if_neg q];by_cases f:b<(a.length:Int)
   ·rw[aq f,ac]
   ·rw[ae f,aa];congr 1;omega
 have l:∀m:Int,F7 0 m=some (if m>0 then m else 0):=by
  intro m;unfold F7;by_cases q:m>0
  ·rw[if_pos q,ae (by omega),aa]
  ·rw[if_neg q];by_cases f:(0:Int)>m
   ·rw[aq f,ac]
   ·rw[ae f,aa];congr 1;omega
 have g:gd (0+(a.take n).length)=some ():=iT (by simp;omega);have i:gd (([]++a.take n).length+[c].length)=some ():=iT (by simp;omega);have j:gd ((([]++a.take n)++[c]).length+(a.drop n).length)=some ():=iT (by simp;omega);refine⟨n,d,?_,?_⟩
 ·unfold Ij;simp only[k,l,e,zA,Oz a n d,EQ a n d,g,i,j];rfl
 ·unfold yw;simp only[e,zA,Oz a n d,EQ a n d,g,i,j];rfl
theorem drop_eq(a:List ah)(n:Nat)(e:n<a.length)(h:(a.length:Int)<=1048576):BK a (n:Int)=some (a.take n++a.drop (n+1))/\CS a (n:Int)=some (a.take n++a.drop (n+1)):=by
 have b:w64 ((n:Int)+1)=((n+1:Nat):Int):=by rw[aT (by omega) (by omega)];omega
 have c:gd (0+(a.take n).length)=some ():=iT (by simp;omega);have d:gd (([]++a.take n).length+(a.drop (n+1)).length)=some ():=iT (by simp;omega);constructor
 ·unfold BK;simp only[Oz a n (by omega),b,EQ a (n+1) (by omega),zA,c,d];rfl
 ·unfold CS;simp only[Oz a n (by omega),b,EQ a (n+1) (by omega),zA,c,d];rfl
theorem Lu{α:Type}{p:α->Nat->Bool}:∀ {xs:List α} {i:Nat},kT p xs i=true->∀(k:Nat) (x:α),xs[k]?=some x->p x (i+k)=true
 | [],i,_,k,x,h=>by simp at h
 | y::ys,i,h,k,x,a=>by
  unfold kT at h;rw[zI]at h;cases k with
  | zero=>simp at a;subst a;exact h.1
  | succ k=>
   have:=Lu h.2 k x (by simpa using a);rw[show i+(k+1)=i+1+k by omega];exact this
theorem Zq{c:ah}(h:FQ c=true):1<=c.version/\c.version<=999:=by
 unfold FQ dm at h;rw[mP,mP]at h;simp only[zA]at h;by_cases a:(decide (1<=c.id)&&decide (c.id<=999))=true
 ·rw[a]at h;simp only[aM,aa]at h;by_cases b:(decide (1<=c.version)&&decide (c.version<=999))=true
  ·simpa using b
  ·have q2':(decide (1<=c.version)&&decide (c.version<=999))=false:=by simpa using b
   rw[q2']at h;simp at h
 ·have q1':(decide (1<=c.id)&&decide (c.id<=999))=false:=by simpa using a
  rw[q1']at h;simp at h
theorem ZH{n:ak}(g:Fit B20 (.base .notebook) n)(hv:eU n=some true):(n.cells.length:Int)<=8/\∀(k:Nat) (x:ah),n.cells[k]?=some x->1<=x.version/\x.version<=999:=by
 rw[gq]at g;have h:n.cells.length<lim/\∀x∈n.cells,Fit B20 (.base .cell) x:=⟨jb (dY g),g.bW⟩;have e:eU n=some (kT (fun c i=>FQ c&&!(dM (fun d=>d.id==c.id) n.cells 0 != (i:Int))) n.cells 0&&decide ((n.cells.length:Int)<=8)):=by
  refine mM (fun i=>((n.cells,(i:Int)):List ah×Int)) n.cells _ _ (fun i x f=>?_) ?_
  ·obtain⟨a,rfl⟩:=zC.1 f;obtain⟨b,h1,h2⟩:=jq _ (h.2 _ (List.getElem_mem a));have j:FQ n.cells[i]=b:=by unfold FQ;rw[h2];rfl
   simp only[gJ a,ac,aA,f,zA,iV a h.1,h2,j,kU ⟨n.cells⟩ _ h.1];cases b<;>cases (dM (fun d=>d.id==n.cells[i].id) n.cells 0 != (i:Int))<;>rfl
  ·simp only[dR,aa]
 rw[e]at hv;simp only[zD,zI,decide_eq_true_eq]at hv;refine⟨hv.2,fun k x f=>?_⟩;have:=Lu hv.1 k x f;simp only[zI]at this;exact Zq this.1
theorem adV{cs:List ah}(a:(cs.length:Int)<=1048576)(h:∀x,x∈cs->Fit B20 (.base .cell) x):Fit B20 (.base .notebook) (ak.mk cs):=by
 rw[gq];exact jv a h
theorem Zw(a:ak)(b:dP)(d:Fit B20 (.base .notebook) a)(P:Fit B20 (.base .edit) b) :
  ∃w n,kM a b=some (w,n)/\uP a b=some (w,n)/\Fit B20 (.base .notebook) w:=by
 obtain⟨v,B,i⟩:=o5 a d;have fa:=d;rw[gq]at fa;have C:=dY fa;have j:a.cells.length<lim:=jb C;have e:=fa.bW;have fb:=P;rw[uS]at fb;have hcell:=fb.2.2;have fc:=hcell;rw[je]at fc;have cI:=Wy a (by omega);have cS:=copyS a (by omega);unfold kM uP;rw[B,i,cI,cS];simp only[zA];cases v with
 | false=>exact⟨a,1,rfl,rfl,d⟩
 | true=>
 obtain⟨I,hver⟩:=ZH d i;simp only[aM,aa,mP,zQ,zA];cases Q:(decide (1<=b.kind)&&decide (b.kind<=6))with
 | false=>exact⟨a,1,rfl,rfl,d⟩
 | true=>
 simp only[aM,aa];unfold Y4;simp only[kU a _ j,wO a _ j,zA];simp only[zI,decide_eq_true_eq]at Q;obtain⟨vc,k,l⟩:=jq b.cell hcell;have insFit:∀(xs:List ah) (n:Nat) (c:ah),n<=xs.length->(xs.length:Int)<=8->(∀x,x∈xs->Fit B20 (.base .cell) x)->Fit B20 (.base .cell) c->Fit B20 (.base .notebook) (ak.mk (xs.take n++[c]++xs.drop n)):=by
  intro xs n c u I g D;refine adV (by simp;omega) fun x h=>?_
  simp only[List.mem_append,List.mem_singleton]at h;rcases h with (h | h) | h
  ·exact g x (List.mem_of_mem_take h)
  ·subst h;exact D
  ·exact g x (List.mem_of_mem_drop h)
 by_cases J:b.kind=1
 ·simp only[J,beq_self_eq_true,ac,k,l,zA];cases vc with
  | false=>exact⟨a,1,rfl,by simp only[Bool.not_false,ac,zA,cI],d⟩
  | true=>
   simp only[aM,aa];cases z:decide (dM (fun c=>c.id==b.cell.id) a.cells 0>=0)with
   | true=>exact⟨a,3,rfl,by simp only[ac,zA,cI],d⟩
   | false=>
    simp only[aa];by_cases o:(a.cells.length:Int)=8
    ·simp only[o,beq_self_eq_true,ac,show decide ((8:Int)>=8)=true from rfl,zA,cI];exact⟨a,4,rfl,rfl,d⟩
    ·have R:((a.cells.length:Int)==8)=false:=by simpa using o
     have S:decide ((a.cells.length:Int)>=8)=false:=ae (by omega);obtain⟨n,u,E,F⟩:=put_eq a.cells b.pos b.cell C;simp only[R,S,aa,E,F,zA];have A:=insFit a.cells n b.cell u I e hcell;have cI2:=Wy (ak.mk (a.cells.take n++[b.cell]++a.cells.drop n)) (by simp;omega);rw[cI2];exact⟨_,0,rfl,rfl,A⟩
 ·have k1':(b.kind==1)=false:=by simpa using J
  simp only[k1',aa];rcases oH (fun c:ah=>c.id==b.cell.id) a.cells 0 with z | ⟨n,x,z,g⟩
  ·rw[z];exact⟨a,2,rfl,by simp only[show decide ((-1:Int)<0)=true from rfl,ac,zA,cI],d⟩
  ·rw[z,Nat.zero_add];have u:n<a.cells.length:=(zC.1 g).1;have p:=e x (zG g);have fx:=p;rw[je]at fx;have hv:=hver n x g;simp only[ae (show ¬((n:Nat):Int)<0 by omega),aa,aA,g,zA,aD];obtain⟨K,L⟩:=drop_eq a.cells n u C;have dropm:∀y,y∈a.cells.take n++a.cells.drop (n+1)->Fit B20 (.base .cell) y:=fun y f=>by
    rcases List.mem_append.1 f with f | f
    ·exact e y (List.mem_of_mem_take f)
    ·exact e y (List.mem_of_mem_drop f)
   have dropl:((a.cells.take n++a.cells.drop (n+1)).length:Int)<=8:=by simp;omega
   by_cases M:b.kind=2
   ·have G:=Wy (ak.mk (a.cells.take n++a.cells.drop (n+1))) (by show ((a.cells.take n++a.cells.drop (n+1)).length:Int)<=_;omega);simp only[M,beq_self_eq_true,ac,K,L,zA,G];exact⟨_,0,rfl,rfl,adV (by omega) dropm⟩
   have k2':(b.kind==2)=false:=by simpa using M
   by_cases N:b.kind=3
   ·obtain⟨m,h,E,F⟩:=put_eq (a.cells.take n++a.cells.drop (n+1)) b.pos x (by omega);have A:=insFit _ m x h dropl dropm p;have fl:((ak.mk ((a.cells.take n++a.cells.drop (n+1)).take m++[x]++(a.cells.take n++a.cells.drop (n+1)).drop m)).cells.length:Int)<=1048576:=by
     have:=A;rw[gq]at this;exact dY this
    have G:=Wy _ (show _<=(16777216:Int)from Int.le_trans fl (by omega));simp only[N,k2',beq_self_eq_true,ac,aa,show ((3:Int)==2)=false from rfl,K,L,E,F,zA,G];exact⟨_,0,rfl,rfl,A⟩
   have k3':(b.kind==3)=false:=by simpa using N
   have setFit:∀c:ah,Fit B20 (.base .cell) c->Fit B20 (.base .notebook) (ak.mk (a.cells.set n c)):=fun c D=>adV (by simp;omega) fun y f=>by
    rcases List.mem_or_eq_of_mem_set f with f | f
    ·exact e y f
    ·subst f;exact D
   have setCopy:∀c:ah,bT (ak.mk (a.cells.set n c))=some (ak.mk (a.cells.set n c)):=fun c=>Wy _ (by simp;omega)
   have wfv:(Lit.int .i64 (w64 (x.version+1))).wf=true:=by
    rw[aT (by omega) (by omega)];unfold Lit.wf;simp[IntKind.wrap,IntKind.bits,IntKind.signed,IntKind.min,IntKind.max];omega
   simp only[k2',k3',aa];have h999:(x.version==999)=decide (x.version>=999):=by
    by_cases q:x.version=999
    ·rw[q];rfl
    ·rw[ae (by omega)];simpa using q
   unfold BL;by_cases H:b.kind=5
   ·have fcell:Fit B20 (.base .cell) (ah.mk x.id x.version x.kind x.name x.code b.cell.n):=by
     rw[je];exact⟨fx.1,fx.2.1,fx.2.2.1,fx.2.2.2.1,fx.2.2.2.2.1,fc.2.2.2.2.2⟩
    obtain⟨q,r,s⟩:=jq _ fcell;simp only[H,beq_self_eq_true,jf,show ((5:Int)==4)=false from rfl,ac,aa,r,s,zA];cases t:(x.kind != 3)with
    | true=>exact⟨a,5,rfl,by simp only[ac,zA,cI],d⟩
    | false=>
     simp only[aa];cases q with
     | false=>exact⟨a,1,rfl,by simp only[Bool.not_false,ac,zA,cI],d⟩
     | true=>exact⟨_,0,rfl,by simp only[aM,aa,zA,cI,aA,g,aD,setCopy],setFit _ fcell⟩
   have k5':(b.kind==5)=false:=by simpa using H
   have k5n:(b.kind != 5)=true:=by simpa using H
   by_cases O:b.kind=4
   ·have fcell:Fit B20 (.base .cell) (ah.mk x.id (w64 (x.version+1)) x.kind b.cell.name b.cell.code x.n):=by
     rw[je];exact⟨fx.1,.int .i64 _ wfv,fx.2.2.1,fc.2.2.2.1,fc.2.2.2.2.1,fx.2.2.2.2.2⟩
    obtain⟨q,r,s⟩:=jq _ fcell;simp only[O,k5',beq_self_eq_true,show ((4:Int)==5)=false from rfl,show ((4:Int)==6)=false from rfl,show ((4:Int) != 5)=true from rfl,ac,aa,r,s,zA,h999];cases t:(x.kind==3)with
    | true=>exact⟨a,5,rfl,by simp only[ac,zA,cI],d⟩
    | false=>
     simp only[aa];cases T:decide (x.version>=999)with
     | true=>exact⟨a,6,rfl,by simp only[ac,zA,cI],d⟩
     | false=>
      simp only[aa];cases q with
      | false=>exact⟨a,1,rfl,by simp only[Bool.not_false,ac,zA,cI],d⟩
      | true=>exact⟨_,0,rfl,by simp only[aM,aa,zA,cI,aA,g,aD,setCopy],setFit _ fcell⟩
   have k4':(b.kind==4)=false:=by simpa using O
   have U:b.kind=6:=by omega
   have fcell:Fit B20 (.base .cell) (ah.mk x.id (w64 (x.version+1)) x.kind x.name x.code x.n):=by
    rw[je];exact⟨fx.1,.int .i64 _ wfv,fx.2.2.1,fx.2.2.2.1,fx.2.2.2.2.1,fx.2.2.2.2.2⟩
   obtain⟨q,r,s⟩:=jq _ fcell;simp only[U,k5',k4',beq_self_eq_true,show ((6:Int)==4)=false from rfl,show ((6:Int)==5)=false from rfl,show ((6:Int) != 5)=true from rfl,ac,aa,r,s,zA,h999];cases t:(x.kind != 2)with
   | true=>exact⟨a,5,rfl,by simp only[ac,zA,cI],d⟩
   | false=>
    simp only[aa];cases T:decide (x.version>=999)with
    | true=>exact⟨a,6,rfl,by simp only[ac,zA,cI],d⟩
    | false=>
     simp only[aa];cases q with
     | false=>exact⟨a,1,rfl,by simp only[Bool.not_false,ac,zA,cI],d⟩
     | true=>exact⟨_,0,rfl,by simp only[aM,aa,zA,cI,aA,g,aD,setCopy],setFit _ fcell⟩
theorem Yo{a:ak}(h:Fit B20 (.base .notebook) a):(a.cells.length:Int)<=1048576:=by
 rw[gq]at h;exact dY h
theorem TA{a:ak}{b:dP}{w:ak}(j:Fit B20 (.base .notebook) a)(h:kM a b=some (w,0)) :
  (1<=b.kind/\b.kind<=6)/\(b.kind≠1->∃(m:Nat) (x:ah),dM (fun c=>c.id==b.cell.id) a.cells 0=(m:Int)/\a.cells[m]?=some x):=by
 obtain⟨v,k,e⟩:=o5 a j;have l:=Yo j;have f:a.cells.length<lim:=jb l;unfold kM at h;rw[e,copyS a (by omega)]at h;simp only[zA,mP,kU a _ f]at h;cases v with
 | false=>simp at h
 | true=>
  simp only[aM,aa]at h;cases d:(decide (1<=b.kind)&&decide (b.kind<=6))with
  | false=>rw[d]at h;simp at h
  | true=>
   rw[d]at h;simp only[zI,decide_eq_true_eq]at d;refine⟨d,fun g=>?_⟩;have k1':(b.kind==1)=false:=by simpa using g
   simp only[aM,aa,k1']at h;rcases oH (fun c:ah=>c.id==b.cell.id) a.cells 0 with i | ⟨n,x,i,o⟩
   ·rw[i]at h;simp at h
   ·exact⟨n,x,by rw[i,Nat.zero_add],o⟩
end Go.Proofs.YtbbmkcioplbhbaaGreatDoor
/- Plain laws: copies of values, reads, operations and replicas are the same. Plain laws: MissingOps, AddOp. -/
namespace Go.Proofs.YtbbmkcioplbhbaaGreatDoor
open Go.Abs Go.Proofs
theorem take_snoc{α:Type}{xs:List α}{i:Nat}{x:α}(h:xs[i]?=some x):xs.take (i+1)=xs.take i++[x]:=by
 obtain⟨hi,rfl⟩:=zC.1 h;exact List.take_succ_eq_append_getElem hi
theorem qy{α X ρ:Type}{g:X->Option (X⊕ρ)}(pk:List α->Nat->X)(xs:List α)(fin:Option ρ)
  (h1:∀i x,xs[i]?=some x->(xs.take i).length=i->g (pk (xs.take i) i)=some (.inl (pk (xs.take i++[x]) (i+1))))
  (h2:g (pk xs xs.length)=fin.bind fun r=>some (.inr r)):au g (pk [] 0)=fin:=by
 have key:∀(n i:Nat),xs.length=i+n->au g (pk (xs.take i) i)=fin:=by
  intro n;induction n with
  | zero=>
   intro i hi;have:i=xs.length:=by omega
   subst this;rw[aC,List.take_length,h2];cases fin<;>rfl
  | succ n ih=>
   intro i hi;have a:i<xs.length:=by omega
   have b:=zF a;rw[aC,h1 i _ b (by simp;omega)];simp only;rw[<- take_snoc b];exact ih (i+1) (by omega)
 exact key xs.length 0 (by omega)
theorem gd1{α:Type}{s:List α}{i n:Nat}{x:α}(h:s.length=i)(hi:i<n)(a:(n:Int)<=1048576):gd (s.length+[x].length)=some ():=iT (by simp;omega)
theorem abC(x:bD)(h:Fit B20 (.base .row) x):yA x=some x:=by
 rw[EL]at h;have:=dY h.1;have:=dY h.2;unfold yA;rw[iT (by omega),zA,iT (by omega)];rfl
theorem agI(x:bD)(h:Fit B20 (.base .row) x):JS x=some x:=by
 rw[EL]at h;have:=dY h.1;have:=dY h.2;unfold JS;rw[iT (by omega),zA,iT (by omega)];rfl
theorem Dp:∀n,(∀v:aF,siz v<n->Fit B20 (.base .val) v->(dG n).1 v=some v)/\(∀xs:List aF,siz xs<n->aW B20 (.list (.base .val) xs)->(dG n).2 xs=some xs)
 | 0=>⟨fun v h=>absurd h (Nat.not_lt_zero _),fun v h=>absurd h (Nat.not_lt_zero _)⟩
 | n+1=>by
  have ih:=Dp n;refine⟨fun x e h=>?_,fun xs e h=>?_⟩
  ·rw[Ag]at h;obtain⟨j,k,m,o,f,g,c⟩:=h;have p:=dY g;have d:=dY c;show qX (dG n).1 (dG n).2 x=some x
   unfold qX;rw[ih.2 x.list (by have:=wS (v:=x);omega) f,zA,iT (by omega),zA];refine qy (fun (s:List bD) (i:Nat)=>((0,0,0,[],[],[],[],x.kind,x.n,x.step,x.text,x.list,[]++x.columns,s,x.rows,(x.rows.length:Int),(i:Int)):Int×Int×Int×Str×(List aF)×(List Str)×(List bD)×Int×Int×Int×Str×(List aF)×(List Str)×(List bD)×(List bD)×Int×Int))
    x.rows (some x) (fun i y a b=>?_) ?_
   ·have hi:=(zC.1 a).1;simp only[dec_lt a,ac,aA,a,zA,abC y (c.bW y (zG a)),gd1 b hi d,eF a (jb d)]
   ·simp only[Int.lt_irrefl,decide_false,aa];cases x;rfl
  ·have l:=dY h;show oU (dG n).1 (dG n).2 xs=some xs
   unfold oU;refine qy (fun (s:List aF) (i:Nat)=>((s,xs,(xs.length:Int),(i:Int)):(List aF)×(List aF)×Int×Int)) xs (some xs) (fun i y a b=>?_) ?_
   ·have hi:=(zC.1 a).1;simp only[dec_lt a,ac,aA,a,dn,zA,ih.1 y (by have:=D6 (zG a);omega) (h.bW y (zG a)),gd1 b hi l,eF a (jb l)]
   ·simp only[Int.lt_irrefl,decide_false,aa];rfl
theorem FI(x:aF)(h:Fit B20 (.base .val) x):nS x=some x:=(Dp (siz x+1)).1 x (Nat.lt_succ_self _) h
theorem LY:∀n,∀v:aF,siz v<n->Fit B20 (.base .val) v->xk n v=some v
 | 0=>fun v h=>absurd h (Nat.not_lt_zero _)
 | n+1=>by
  have ih:=LY n;intro x j h;rw[Ag]at h;obtain⟨k,l,m,p,c,g,d⟩:=h;have e:=dY c;have q:=dY g;have f:=dY d;show BI (xk n) x=some x
  unfold BI;rw[iT (by omega),zA];refine qy (fun (s:List aF) (i:Nat)=>((x.kind,x.n,x.step,x.text,x.list,x.columns,x.rows,0,0,0,[],[],[],[],x.kind,x.n,x.step,x.text,s,[]++x.columns,[],(i:Int)):Int×Int×Int×Str×(List aF)×(List Str)×(List bD)×Int×Int×Int×Str×(List aF)×(List Str)×(List bD)×Int×Int×Int×Str×(List aF)×(List Str)×(List bD)×Int))
   x.list (some x) (fun i y a b=>?_) ?_
  ·have hi:=(zC.1 a).1;simp only[dec_lt a,ac,aA,a,dn,zA,ih y (by have:=D6 (zG a);have:=wS (v:=x);omega) (c.bW y (zG a)),gd1 b hi e,eF a (jb e)]
  ·simp only[Int.lt_irrefl,decide_false,aa];refine congrArg (fun o=>Option.bind o _) (qy (fun (s:List bD) (i:Nat)=>((x.kind,x.n,x.step,x.text,x.list,x.columns,x.rows,0,0,0,[],[],[],[],x.kind,x.n,x.step,x.text,x.list,[]++x.columns,s,(i:Int)):Int×Int×Int×Str×(List aF)×(List Str)×(List bD)×Int×Int×Int×Str×(List aF)×(List Str)×(List bD)×Int×Int×Int×Str×(List aF)×(List Str)×(List bD)×Int))
    x.rows (some x) (fun i y a b=>?_) ?_)
   ·have hi:=(zC.1 a).1;simp only[dec_lt a,ac,aA,a,zA,agI y (d.bW y (zG a)),gd1 b hi f,eF a (jb f)]
   ·simp only[Int.lt_irrefl,decide_false,aa];cases x;rfl
theorem PI(x:aF)(h:Fit B20 (.base .val) x):D9 x=some x:=LY (siz x+1) x (Nat.lt_succ_self _) h
theorem qw(xs:List aO)(h:aW B20 (.list (.base .read) xs)):nT xs=some xs:=by
 have l:=dY h;unfold nT;refine qy (fun (s:List aO) (i:Nat)=>((s,xs,(xs.length:Int),(i:Int)):(List aO)×(List aO)×Int×Int)) xs (some xs) (fun i y a b=>?_) ?_
 ·have hi:=(zC.1 a).1;have f:=h.bW y (zG a);rw[qZ]at f;simp only[dec_lt a,ac,aA,a,dn,zA,FI y.result f.2.2.2.2,gd1 b hi l,eF a (jb l)]
 ·simp only[Int.lt_irrefl,decide_false,aa];rfl
theorem L6(x:aO)(h:Fit B20 (.base .read) x):BN x=some x:=by
 rw[qZ]at h;unfold BN;rw[dn,PI _ h.2.2.2.2,zA,dn]
theorem y7(xs:List aO)(h:aW B20 (.list (.base .read) xs)):sU xs=some xs:=by
 have l:=dY h;unfold sU;refine qy (fun (s:List aO) (i:Nat)=>((xs,s,(i:Int)):(List aO)×(List aO)×Int)) xs (some xs) (fun i y a b=>?_) ?_
 ·have hi:=(zC.1 a).1;simp only[dec_lt a,ac,aA,a,eH,zA,L6 y (h.bW y (zG a)),gd1 b hi l,eF a (jb l)]
 ·simp only[Int.lt_irrefl,decide_false,aa];rfl
theorem Si(x:GOp)(h:Fit B20 (.base .op) x):EG x=some x:=by
 rw[uQ]at h;obtain⟨c,d,e,a,f,g,i,j,k,b⟩:=h;have:=dY a;unfold EG;rw[iT (by omega),zA,qw _ b];rfl
theorem LX(x:GOp)(h:Fit B20 (.base .op) x):BG x=some x:=by
 rw[uQ]at h;obtain⟨c,d,e,a,f,g,i,j,k,b⟩:=h;have:=dY a;unfold BG;rw[iT (by omega),zA,y7 _ b];rfl
theorem abD(xs:List GOp)(h:aW B20 (.list (.base .op) xs)):Je xs=some xs:=by
 have l:=dY h;unfold Je;refine qy (fun (s:List GOp) (i:Nat)=>((s,xs,(xs.length:Int),(i:Int)):(List GOp)×(List GOp)×Int×Int)) xs (some xs) (fun i y a b=>?_) ?_
 ·have hi:=(zC.1 a).1;simp only[dec_lt a,ac,aA,a,zA,Si y (h.bW y (zG a)),gd1 b hi l,eF a (jb l)]
 ·simp only[Int.lt_irrefl,decide_false,aa];rfl
theorem adf(xs:List GOp)(h:aW B20 (.list (.base .op) xs)):Om xs=some xs:=by
 have l:=dY h;unfold Om;refine qy (fun (s:List GOp) (i:Nat)=>((xs,s,(i:Int)):(List GOp)×(List GOp)×Int)) xs (some xs) (fun i y a b=>?_) ?_
 ·have hi:=(zC.1 a).1;simp only[dec_lt a,ac,aA,a,zA,LX y (h.bW y (zG a)),gd1 b hi l,eF a (jb l)]
 ·simp only[Int.lt_irrefl,decide_false,aa];rfl
theorem apF(n:Int):(Lit.int .i64 (w64 n)).wf=true:=by
 unfold Lit.wf w64;simp[IntKind.wrap,IntKind.bits,IntKind.signed,IntKind.min,IntKind.max];omega
end Go.Proofs.YtbbmkcioplbhbaaGreatDoor
/- Plain laws of merged reads and of tapes, with no program in sight. Plain laws: the functions on reads and tapes, both sides, are the plain ones. Plain laws: putting and copying of tapes, both sides. -/
namespace Go.Proofs.YtbbmkcioplbhbaaGreatDoor
noncomputable section
open Go.Abs Go.Proofs
def Py(x y:aO):Bool:=eqd x.kind y.kind&&(eqd x.n y.n&&(eqd x.text y.text&&eqd x.time y.time))
def Y9(l:List aO)(r:aO):Bool:=l.any fun x=>Py x r
def Np(l:List aO)(r:aO):Option aO:=l.find? fun x=>Py x r
def Oc(l:List aO)(r:aO):List aO:=bif Y9 l r then l else l++[r]
def eG(a b:List aO):List aO:=b.foldl Oc a
theorem ahF(l:List aO)(r:aO):(Np l r).isSome=Y9 l r:=by
 unfold Np Y9;induction l with
 | nil=>rfl
 | cons x l ih=>
  rw[List.find?_cons,List.any_cons];cases Py x r with
  | true=>rfl
  | false=>simpa using ih
theorem rW:∀(b a:List aO),∃t,eG a b=a++t/\t.Sublist b
 | [],a=>⟨[],by simp[eG],List.Sublist.refl _⟩
 | r::b,a=>by
  obtain⟨t,e,s⟩:=rW b (Oc a r);have e':eG a (r::b)=eG (Oc a r) b:=rfl;rw[e',e];unfold Oc;cases Y9 a r with
  | true=>exact⟨t,rfl,s.cons _⟩
  | false=>exact⟨r::t,by simp,s.cons_cons _⟩
theorem Kr(a b:List aO):a.length<=(eG a b).length/\(eG a b).length<=a.length+b.length:=by
 obtain⟨t,e,s⟩:=rW b a;rw[e,a7];have:=s.length_le;omega
theorem aha{a b:List aO}{x:aO}(h:x∈eG a b):x∈a\/x∈b:=by
 obtain⟨t,e,s⟩:=rW b a;rw[e,List.mem_append]at h;rcases h with h | h
 ·exact .inl h
 ·exact .inr (s.subset h)
def pX(c v:Int)(t:aJ):Bool:=eqd t.cell c&&eqd t.version v
def Tq(x y:aJ):Bool:=decide (x.cell<y.cell)||(eqd x.cell y.cell&&decide (x.version<y.version))
def readsOf(l:List aJ)(c v:Int):List aO:=match l.find? (pX c v)with
 | some t=>t.reads
 | none=>[]
def yF(c v:Int)(rs:List aO):List aJ->List aJ
 | []=>[]
 | t::r=>bif pX c v t then aJ.mk t.cell t.version (eG t.reads rs)::r else t::yF c v rs r
def IY(x:aJ):List aJ->List aJ
 | []=>[x]
 | t::r=>bif Tq x t then x::t::r else t::IY x r
def vz(l:List aJ)(c v:Int)(rs:List aO):List aJ:=
 bif l.any (pX c v)then yF c v rs l else match rs with
  | []=>l
  | _::_=>IY (aJ.mk c v (eG [] rs)) l
theorem VZ(c v:Int)(rs:List aO):∀l,(yF c v rs l).length=l.length
 | []=>rfl
 | t::r=>by
  unfold yF;cases pX c v t with
  | true=>rfl
  | false=>simp[VZ c v rs r]
theorem abf(x:aJ):∀l,(IY x l).length=l.length+1
 | []=>rfl
 | t::r=>by
  unfold IY;cases Tq x t with
  | true=>rfl
  | false=>simp[abf x r]
theorem ajc(l:List aJ)(c v:Int)(rs:List aO):l.length<=(vz l c v rs).length/\(vz l c v rs).length<=l.length+1:=by
 unfold vz;cases l.any (pX c v)with
 | true=>rw[ac,VZ];omega
 | false=>
  rw[aa];cases rs with
  | nil=>simp
  | cons r rs=>simp only;rw[abf];omega
theorem VY{c v:Int}{rs:List aO}:∀ {l:List aJ} {t:aJ},t∈yF c v rs l->t∈l\/∃u,u∈l/\t=aJ.mk u.cell u.version (eG u.reads rs)
 | u::r,t,h=>by
  unfold yF at h;cases a:pX c v u with
  | true=>
   rw[a,ac]at h;rcases bc.1 h with rfl | h
   ·exact .inr ⟨u,aw,rfl⟩
   ·exact .inl (ar _ h)
  | false=>
   rw[a,aa]at h;rcases bc.1 h with rfl | h
   ·exact .inl aw
   ·rcases VY h with h | ⟨w,b,e⟩
    ·exact .inl (ar _ h)
    ·exact .inr ⟨w,ar _ b,e⟩
theorem abe{x:aJ}:∀ {l:List aJ} {t:aJ},t∈IY x l->t=x\/t∈l
 | [],t,h=>by
  unfold IY at h;exact .inl (List.mem_singleton.1 h)
 | u::r,t,h=>by
  unfold IY at h;cases a:Tq x u with
  | true=>
   rw[a,ac]at h;exact bc.1 h
  | false=>
   rw[a,aa]at h;rcases bc.1 h with rfl | h
   ·exact .inr aw
   ·rcases abe h with h | h
    ·exact .inl h
    ·exact .inr (ar _ h)
theorem ajb{l:List aJ}{c v:Int}{rs:List aO}{t:aJ}(h:t∈vz l c v rs) :
  t∈l\/(∃u,u∈l/\t=aJ.mk u.cell u.version (eG u.reads rs))\/t=aJ.mk c v (eG [] rs):=by
 unfold vz at h;cases a:l.any (pX c v)with
 | true=>
  rw[a,ac]at h;rcases VY h with h | h
  ·exact .inl h
  ·exact .inr (.inl h)
 | false=>
  rw[a,aa]at h;cases rs with
  | nil=>exact .inl h
  | cons r rs=>
   rcases abe h with h | h
   ·exact .inr (.inr h)
   ·exact .inl h
theorem zn(t:aJ)(r:List aJ)(c v:Int):readsOf (t::r) c v=bif pX c v t then t.reads else readsOf r c v:=by
 unfold readsOf;rw[List.find?_cons];cases pX c v t<;>rfl
theorem X6{l:List aJ}{c v:Int}(h:l.any (pX c v)=false):readsOf l c v=[]:=by
 unfold readsOf;have:l.find? (pX c v)=none:=by
  rw[List.find?_eq_none];intro x a b;rw[List.any_eq_false]at h;exact h x a b
 rw[this]
theorem Du(c v:Int)(rs:List aO):∀(l:List aJ),eG (readsOf l c v) rs=readsOf l c v->yF c v rs l=l
 | [],_=>rfl
 | t::r,h=>by
  rw[zn]at h;unfold yF;cases a:pX c v t with
  | true=>rw[a,ac]at h;rw[ac,h]
  | false=>rw[a,aa]at h;rw[aa,Du c v rs r h]
theorem adJ{l:List aJ}{c v:Int}{rs:List aO}(h:eG (readsOf l c v) rs=readsOf l c v)(a:l.any (pX c v)=true\/rs=[]):vz l c v rs=l:=by
 unfold vz;rcases a with a | rfl
 ·rw[a,ac];exact Du c v rs l h
 ·cases l.any (pX c v)with
  | true=>rw[ac];exact Du c v [] l h
  | false=>rfl
theorem VF{α X ρ:Type}{g:X->Option (X⊕ρ)}(pk:Nat->X)(xs:List α)(p:α->Bool)(f:α->ρ)(no:ρ)
  (h1:∀i x,xs[i]?=some x->g (pk i)=bif p x then some (.inr (f x))else some (.inl (pk (i+1))))
  (h2:g (pk xs.length)=some (.inr no)):au g (pk 0)=some ((xs.find? p).elim no f):=by
 have key:∀(n i:Nat),xs.length=i+n->au g (pk i)=some (((xs.drop i).find? p).elim no f):=by
  intro n;induction n with
  | zero=>
   intro i hi;rw[List.drop_eq_nil_of_le (by omega),aC];have:i=xs.length:=by omega
   subst this;rw[h2];rfl
  | succ n ih=>
   intro i hi;have a:i<xs.length:=by omega
   rw[List.drop_eq_getElem_cons a,aC,h1 i xs[i] (zF a),List.find?_cons];cases p xs[i]with
   | false=>simpa using ih (i+1) (by omega)
   | true=>rfl
 simpa using key xs.length 0 (by omega)
theorem alq(x y:aO):BM x y=some (Py x y):=Xx x y
theorem alr(x y:aO):yc x y=some (Py x y):=UH x y
theorem aaF(x:aO):aO.mk x.kind x.n x.time x.text (aF.mk x.result.kind x.result.n x.result.step x.result.text x.result.list x.result.columns x.result.rows)=x:=by
 cases x with
 | mk a b c d r=>cases r;rfl
theorem YW(a:List aO)(b:aO)(h:aW B20 (.list (.base .read) a)):EF a b=some ((Np a b).elim (aF.mk 0 0 0 [] [] [] [],false) fun x=>(x.result,true)):=by
 have d:=jb (dY h);unfold EF Np;refine VF (fun i:Nat=>(b.kind,b.n,b.time,b.text,b.result.kind,b.result.n,b.result.step,b.result.text,b.result.list,b.result.columns,b.result.rows,(0:Int),(0:Int),(0:Int),([]:Str),([]:List aF),([]:List Str),([]:List bD),a,(a.length:Int),(i:Int))) a (fun x=>Py x b) (fun x=>(x.result,true)) _ (fun i x c=>?_) ?_
 ·have f:=h.bW x (zG c);rw[qZ]at f;simp only[dec_lt c,ac,aA,c,zA,eH,dn,aaF,alr,FI _ f.2.2.2.2,eF c d]
 ·simp only[dR,aa]
theorem XV(a:List aO)(b:aO)(h:aW B20 (.list (.base .read) a)):Ef a b=some ((Np a b).elim (aF.mk 0 0 0 [] [] [] [],false) fun x=>(x.result,true)):=by
 have d:=jb (dY h);unfold Ef Np;refine VF (fun i:Nat=>(a,b.kind,b.n,b.time,b.text,b.result.kind,b.result.n,b.result.step,b.result.text,b.result.list,b.result.columns,b.result.rows,(0:Int),(0:Int),(0:Int),([]:Str),([]:List aF),([]:List Str),([]:List bD),(i:Int))) a (fun x=>Py x b) (fun x=>(x.result,true)) _ (fun i x c=>?_) ?_
 ·have f:=h.bW x (zG c);rw[qZ]at f;simp only[dec_lt c,ac,aA,c,zA,eH,dn,aaF,alq,PI _ f.2.2.2.2,eF c d]
 ·simp only[dR,aa]
theorem abQ(a:List aO)(b:aO){y:aF×Bool}(c:y=(Np a b).elim (aF.mk 0 0 0 [] [] [] [],false) fun x=>(x.result,true)):y.2=Y9 a b:=by
 subst c;rw[<- ahF];cases Np a b<;>rfl
theorem acG{l:List aO}{r:aO}(h:aW B20 (.list (.base .read) l))(b:Fit B20 (.base .read) r)(c:(l.length:Int)+1<=1048576):aW B20 (.list (.base .read) (Oc l r)):=by
 unfold Oc;cases Y9 l r with
 | true=>exact h
 | false=>
  refine jv (by simp;omega) fun x a=>?_
  rcases List.mem_append.1 a with a | a
  ·exact h.bW x a
  ·rw[List.mem_singleton.1 a];exact b
theorem acF(l:List aO)(r:aO):(Oc l r).length<=l.length+1:=by
 unfold Oc;cases Y9 l r<;>simp
theorem QL{a b:List aO}(c:aW B20 (.list (.base .read) a))(d:aW B20 (.list (.base .read) b))(f:(a.length:Int)+b.length<=1048576):aW B20 (.list (.base .read) (eG a b)):=by
 have:=(Kr a b).2;refine jv (by omega) fun x e=>?_
 rcases aha e with h | h
 ·exact c.bW x h
 ·exact d.bW x h
theorem Dh(a b:List aO)(g:aW B20 (.list (.base .read) a))(e:aW B20 (.list (.base .read) b))(k:(a.length:Int)+b.length<=1048576):qV a b=some (eG a b):=by
 have f:=jb (dY e);unfold qV;rw[qw a g,zA];refine (QW (fun (s:List aO) (i:Nat)=>(s,b,(b.length:Int),(i:Int))) b Oc id (fun i s=>aW B20 (.list (.base .read) s)/\s.length<=a.length+i) (fun i x s c d=>?_) (fun i x s c d=>?_) (fun s d=>?_) a ⟨g,by omega⟩).1
 ·have hi:=(zC.1 c).1;refine⟨acG d.1 (e.bW x (zG c)) (by omega),?_⟩;have:=acF s x;omega
 ·have hi:=(zC.1 c).1;have h:aW B20 (.list (.base .read) [x]):=jv (by simp) fun y j=>by rw[List.mem_singleton.1 j];exact e.bW x (zG c)
  simp only[dec_lt c,ac,aA,c,zA,eH,YW s x d.1,abQ s x rfl,qw _ h,iT (show s.length+[x].length<=34359738368 by simp;omega),eF c f];unfold Oc;cases Y9 s x<;>rfl
 ·simp only[dR,aa,id]
theorem BF(a b:List aO)(g:aW B20 (.list (.base .read) a))(e:aW B20 (.list (.base .read) b))(h:(a.length:Int)+b.length<=1048576):qK a b=some (eG a b):=by
 have f:=jb (dY e);unfold qK;rw[y7 a g,zA];refine (QW (fun (s:List aO) (i:Nat)=>(b,s,(i:Int))) b Oc id (fun i s=>aW B20 (.list (.base .read) s)/\s.length<=a.length+i) (fun i x s c d=>?_) (fun i x s c d=>?_) (fun s d=>?_) a ⟨g,by omega⟩).1
 ·have hi:=(zC.1 c).1;refine⟨acG d.1 (e.bW x (zG c)) (by omega),?_⟩;have:=acF s x;omega
 ·have hi:=(zC.1 c).1;simp only[dec_lt c,ac,aA,c,zA,eH,XV s x d.1,abQ s x rfl,L6 _ (e.bW x (zG c)),iT (show s.length+[x].length<=34359738368 by simp;omega),eF c f];unfold Oc;cases Y9 s x<;>rfl
 ·simp only[dR,aa,id]
theorem agK(a:List aJ)(b c:Int)(h:a.length<lim):adl a b c=some (dM (pX b c) a 0):=by
 refine uf (fun i=>((a,b,c,(i:Int)):List aJ×Int×Int×Int)) a (pX b c) (fun i x d=>?_) ?_
 ·simp only[dec_lt d,ac,aA,d,zA,eF d h,pX,Js];cases eqd x.cell b<;>cases eqd x.version c<;>rfl
 ·simp only[dR,aa]
theorem UD(a:List aJ)(b c:Int)(h:a.length<lim):GK a b c=some (dM (pX b c) a 0):=by
 refine uf (fun i=>((b,c,a,(a.length:Int),(i:Int)):Int×Int×List aJ×Int×Int)) a (pX b c) (fun i x d=>?_) ?_
 ·simp only[dec_lt d,ac,aA,d,zA,eF d h,pX,Js];cases eqd x.cell b<;>cases eqd x.version c<;>rfl
 ·simp only[dR,aa]
theorem Yy(c v:Int)(rs:List aO):∀(xs:List aJ) (i:Nat),(dM (pX c v) xs i = -1/\xs.any (pX c v)=false) \/
  ∃(n:Nat) (x:aJ),dM (pX c v) xs i=((i+n:Nat):Int)/\xs[n]?=some x/\xs.any (pX c v)=true/\readsOf xs c v=x.reads/\yF c v rs xs=xs.set n (aJ.mk x.cell x.version (eG x.reads rs))
 | [],i=>.inl ⟨rfl,rfl⟩
 | t::r,i=>by
  cases a:pX c v t with
  | true=>
   refine .inr ⟨0,t,?_,rfl,?_,?_,?_⟩
   ·unfold dM;rw[a];simp
   ·rw[List.any_cons,a];rfl
   ·rw[zn,a];rfl
   ·unfold yF;rw[a];rfl
  | false=>
   rcases Yy c v rs r (i+1)with ⟨h1,h2⟩ | ⟨n,x,h1,h2,b,d,e⟩
   ·refine .inl ⟨?_,?_⟩
    ·unfold dM;rw[a,aa,h1]
    ·rw[List.any_cons,a,h2];rfl
   ·refine .inr ⟨n+1,x,?_,by simpa using h2,?_,?_,?_⟩
    ·unfold dM;rw[a,aa,h1];have:i+1+n=i+(n+1):=by omega
     rw[this]
    ·rw[List.any_cons,a,b];rfl
    ·rw[zn,a,aa,d]
    ·unfold yF;rw[a,aa,e];rfl
theorem Hu{l:List aJ}(h:aW B20 (.list (.base .tape) l)){t:aJ}(a:t∈l):aW B20 (.int .i64 t.cell)/\aW B20 (.int .i64 t.version)/\aW B20 (.list (.base .read) t.reads):=by
 have:=h.bW t a;rw[Dv]at this;exact this
theorem FM(a:List aJ)(h:aW B20 (.list (.base .tape) a)):zY a=some a:=by
 have l:=dY h;refine qy (fun (s:List aJ) (i:Nat)=>((s,a,(a.length:Int),(i:Int)):(List aJ)×(List aJ)×Int×Int)) a (some a) (fun i y b c=>?_) ?_
 ·have hi:=(zC.1 b).1;simp only[dec_lt b,ac,aA,b,zA,qw _ (Hu h (zG b)).2.2,iT (show (a.take i).length+[y].length<=34359738368 by simp only[c,List.length_singleton];omega),eF b (jb l)]
 ·simp only[dR,aa];rfl
theorem LZ(a:List aJ)(h:aW B20 (.list (.base .tape) a)):Ii a=some a:=by
 have l:=dY h;refine qy (fun (s:List aJ) (i:Nat)=>((a,s,(i:Int)):(List aJ)×(List aJ)×Int)) a (some a) (fun i y b c=>?_) ?_
 ·have hi:=(zC.1 b).1;simp only[dec_lt b,ac,aA,b,zA,y7 _ (Hu h (zG b)).2.2,iT (show (a.take i).length+[y].length<=34359738368 by simp only[c,List.length_singleton];omega),eF b (jb l)]
 ·simp only[dR,aa];rfl
theorem aaE(a:List aJ)(b c:Int):readsOf a b c=[]\/∃t,t∈a/\readsOf a b c=t.reads:=by
 rcases Yy b c [] a 0 with ⟨h1,h2⟩ | ⟨n,x,h1,h2,e,d,f⟩
 ·exact .inl (X6 h2)
 ·exact .inr ⟨x,zG h2,d⟩
theorem apB(x y:aJ):yZ x y=some (Tq x y):=by
 unfold yZ Tq;simp only[Js];cases decide (x.cell<y.cell)<;>cases eqd x.cell y.cell<;>rfl
theorem aq0(x y:aJ):CP x y=some (Tq x y):=apB x y
theorem ER{α:Type}(xs:List α)(i:Nat)(h:i<=xs.length):cutAt xs (i:Int)=some i:=by
 unfold cutAt;rw[if_pos ⟨by omega,by omega⟩];rfl
theorem afO{X:Type}{g:X->Option (X⊕List aJ)}(pk:Nat->X)(l:List aJ)(x:aJ)
  (h1:∀i t,l[i]?=some t->g (pk i)=bif Tq x t then some (.inr (l.take i++[x]++l.drop i))else some (.inl (pk (i+1))))
  (h2:g (pk l.length)=some (.inr (l++[x]))):au g (pk 0)=some (IY x l):=by
 have key:∀(n i:Nat),l.length=i+n->au g (pk i)=some (l.take i++IY x (l.drop i)):=by
  intro n;induction n with
  | zero=>
   intro i hi;have:i=l.length:=by omega
   subst this;rw[aC,h2,List.drop_length,List.take_length];rfl
  | succ n ih=>
   intro i hi;have a:i<l.length:=by omega
   have b:=zF a;rw[aC,h1 i _ b,List.drop_eq_getElem_cons a];unfold IY;cases Tq x l[i]with
   | true=>simp only[ac,a8,List.singleton_append]
   | false=>
    simp only[aa];rw[ih (i+1) (by omega),take_snoc b,a8];rfl
 simpa using key l.length 0 (by omega)
def Tps(N M:Nat)(l:List aJ):Prop:=aW B20 (.list (.base .tape) l)/\l.length<=N/\∀t∈l,t.reads.length<=M
theorem aja{N M K:Nat}{l:List aJ}{c v:Int}{rs:List aO}(h:Tps N M l)(b:aW B20 (.list (.base .read) rs))(k:rs.length<=K)(m:N+1<=1048576)(n:M+K<=1048576)
  (i:aW B20 (.int .i64 c)) (hv:aW B20 (.int .i64 v)):Tps (N+1) (M+K) (vz l c v rs):=by
 obtain⟨h1,h2,d⟩:=h;have o:=ajc l c v rs;have key:∀t∈vz l c v rs,Fit B20 (.base .tape) t/\t.reads.length<=M+K:=by
  intro t a;rcases ajb a with a | ⟨u,e,rfl⟩ | rfl
  ·exact⟨h1.bW t a,by have:=d t a;omega⟩
  ·have f:=Hu h1 e;have:=d u e;have g:=(Kr u.reads rs).2;exact⟨Dv.2 ⟨f.1,f.2.1,QL f.2.2 b (by omega)⟩,by show (eG u.reads rs).length<=_;omega⟩
  ·have g:=(Kr [] rs).2;exact⟨Dv.2 ⟨i,hv,QL (jv (by simp) fun x j=>by cases j) b (by simp;omega)⟩,by show (eG [] rs).length<=_;simp at g;omega⟩
 exact⟨jv (by omega) fun t a=>(key t a).1,by omega,fun t a=>(key t a).2⟩
theorem XC(a:List aJ)(b c:Int)(d:List aO)(h1:aW B20 (.list (.base .tape) a))(hd:aW B20 (.list (.base .read) d))(l:(readsOf a b c).length+d.length<=1048576):BD a b c d=some (vz a b c d):=by
 have k:=dY h1;unfold BD;rw[LZ a h1,zA,agK a b c (jb k),zA];rcases Yy b c d a 0 with ⟨h,f⟩ | ⟨n,x,h,f,m,o,p⟩
 ·rw[h];simp only[show decide ((-1:Int)>=0)=false from rfl,aa];unfold vz;rw[f,aa];cases d with
  | nil=>rfl
  | cons r rs=>
   have e:((((r::rs).length:Nat):Int)==0)=false:=by simp;omega
   rw[e,aa,BF [] (r::rs) (jv (by simp) fun x j=>by cases j) hd (by simp only[List.length_nil];omega),zA];refine afO (fun (i:Nat)=>((a,b,c,eG [] (r::rs),(i:Int)):(List aJ)×Int×Int×(List aO)×Int)) a (aJ.mk b c (eG [] (r::rs))) (fun i t g=>?_) ?_
   ·have hi:=(zC.1 g).1;simp only[dec_lt g,ac,aA,g,zA,aD,apB,eF g (jb k),ER a i (by omega),eq_self_iff_true,if_true];rw[iT (show 0+(a.take i).length<=34359738368 by simp;omega),zA,iT (show (([]:List aJ)++a.take i).length+[aJ.mk b c (eG [] (r::rs))].length<=34359738368 by simp;omega),zA,
     iT (show (([]:List aJ)++a.take i++[aJ.mk b c (eG [] (r::rs))]).length+(a.drop i).length<=34359738368 by simp;omega),zA,zA,List.nil_append]
    cases Tq (aJ.mk b c (eG [] (r::rs))) t<;>rfl
   ·simp only[dR,aa,ER a a.length (az _),eq_self_iff_true,if_true,zA,List.take_length,List.drop_length];rw[iT (show 0+a.length<=34359738368 by omega),zA,iT (show (([]:List aJ)++a).length+[aJ.mk b c (eG [] (r::rs))].length<=34359738368 by simp;omega),zA,
     iT (show (([]:List aJ)++a++[aJ.mk b c (eG [] (r::rs))]).length+([]:List aJ).length<=34359738368 by simp;omega),zA,zA,List.append_nil,List.nil_append]
 ·rw[h,Nat.zero_add];have j:=zG f;rw[o]at l;simp only[show decide (((n:Nat):Int)>=0)=true by simp,ac,aA,f,zA,aD,BF x.reads d (Hu h1 j).2.2 hd (by omega)];unfold vz;rw[m,ac,p]
theorem YJ(a:List aJ)(b c:Int)(d:List aO)(h1:aW B20 (.list (.base .tape) a))(hd:aW B20 (.list (.base .read) d))(l:(readsOf a b c).length+d.length<=1048576):yh a b c d=some (vz a b c d):=by
 have k:=dY h1;unfold yh;rw[FM a h1,zA,UD a b c (jb k),zA];rcases Yy b c d a 0 with ⟨h,f⟩ | ⟨n,x,h,f,m,o,p⟩
 ·rw[h];simp only[show decide ((-1:Int)>=0)=false from rfl,aa];unfold vz;rw[f,aa];cases d with
  | nil=>rfl
  | cons r rs=>
   have e:((((r::rs).length:Nat):Int)==0)=false:=by simp;omega
   rw[e,aa,Dh [] (r::rs) (jv (by simp) fun x j=>by cases j) hd (by simp only[List.length_nil];omega),zA];refine afO (fun (i:Nat)=>((a,(i:Int),b,c,eG [] (r::rs)):(List aJ)×Int×Int×Int×(List aO))) a (aJ.mk b c (eG [] (r::rs))) (fun i t g=>?_) ?_
   ·have hi:=(zC.1 g).1;simp only[dec_lt g,ac,aA,g,zA,aD,aq0,eF g (jb k),ER a i (by omega),eq_self_iff_true,if_true];rw[iT (show 0+(a.take i).length<=34359738368 by simp;omega),zA,iT (show (([]:List aJ)++a.take i).length+[aJ.mk b c (eG [] (r::rs))].length<=34359738368 by simp;omega),zA,
     iT (show (([]:List aJ)++a.take i++[aJ.mk b c (eG [] (r::rs))]).length+(a.drop i).length<=34359738368 by simp;omega),zA,zA,List.nil_append]
    cases Tq (aJ.mk b c (eG [] (r::rs))) t<;>rfl
   ·simp only[dR,aa,ER a a.length (az _),eq_self_iff_true,if_true,zA,List.take_length,List.drop_length];rw[iT (show 0+a.length<=34359738368 by omega),zA,iT (show (([]:List aJ)++a).length+[aJ.mk b c (eG [] (r::rs))].length<=34359738368 by simp;omega),zA,
     iT (show (([]:List aJ)++a++[aJ.mk b c (eG [] (r::rs))]).length+([]:List aJ).length<=34359738368 by simp;omega),zA,zA,List.append_nil,List.nil_append]
 ·rw[h,Nat.zero_add];have j:=zG f;rw[o]at l;simp only[show decide (((n:Nat):Int)>=0)=true by simp,ac,aA,f,zA,aD,Dh x.reads d (Hu h1 j).2.2 hd (by omega)];unfold vz;rw[m,ac,p]
theorem ML{N M:Nat}{a:List aJ}(h:Tps N M a)(b c:Int):(readsOf a b c).length<=M:=by
 rcases aaE a b c with h1 | ⟨t,d,h1⟩
 ·rw[h1];simp
 ·rw[h1];exact h.2.2 t d
theorem Z7{N M:Nat}(a:List aJ)(b c:Int)(d:List aO)(h:Tps N M a)(hd:aW B20 (.list (.base .read) d))(e:M+d.length<=1048576):BD a b c d=some (vz a b c d):=
 XC a b c d h.1 hd (by have:=ML h b c;omega)
theorem abo{N M:Nat}(a:List aJ)(b c:Int)(d:List aO)(h:Tps N M a)(hd:aW B20 (.list (.base .read) d))(e:M+d.length<=1048576):yh a b c d=some (vz a b c d):=
 YJ a b c d h.1 hd (by have:=ML h b c;omega)
theorem aqv{t:Ty}:aW B20 (.list t []):=jv (by simp) fun x a=>(by cases a)
end
end Go.Proofs.YtbbmkcioplbhbaaGreatDoor
/- Plain laws: ReplayOp is alike on both sides. -/
namespace Go.Proofs.YtbbmkcioplbhbaaGreatDoor
open Go.Abs Go.Proofs
def PtS{X:Type}(o p:Option (X⊕(ak×Int))):Prop:=o=p\/(o=none/\∃n c,p=some (.inr (n,c))/\c≠0)
def Pt(o p:Option (ak×Int)):Prop:=o=p\/(o=none/\∃n c,p=some (n,c)/\c≠0)
theorem alG(o:Option (ak×Int)):Pt o o:=.inl rfl
theorem alH(n:ak)(c:Int)(h:c≠0):Pt none (some (n,c)):=.inr ⟨rfl,n,c,rfl,h⟩
theorem apS{q:Bool}{o p o' p':Option (ak×Int)}(h:Pt o p)(a:Pt o' p'):Pt (bif q then o else o') (bif q then p else p'):=by cases q<;>assumption
theorem alJ{α:Type}(x:Option α){f g:α->Option (ak×Int)}(h:∀a,Pt (f a) (g a)):Pt (x.bind f) (x.bind g):=by
 cases x with
 | none=>exact .inl rfl
 | some a=>exact h a
theorem aje{X:Type}(o:Option (X⊕(ak×Int))):PtS o o:=.inl rfl
theorem ajf{X:Type}(n:ak)(c:Int)(h:c≠0):PtS (X:=X) none (some (.inr (n,c))):=.inr ⟨rfl,n,c,rfl,h⟩
theorem alF{X:Type}{q:Bool}{o p o' p':Option (X⊕(ak×Int))}(h:PtS o p)(a:PtS o' p'):PtS (bif q then o else o') (bif q then p else p'):=by cases q<;>assumption
theorem ajg{α X:Type}(x:Option α){f g:α->Option (X⊕(ak×Int))}(h:∀a,PtS (f a) (g a)):PtS (x.bind f) (x.bind g):=by
 cases x with
 | none=>exact .inl rfl
 | some a=>exact h a
theorem apR{X:Type}{o p:Option (ak×Int)}(h:Pt o p):PtS (X:=X) (o.bind fun r=>some (.inr r)) (p.bind fun r=>some (.inr r)):=by
 rcases h with rfl | ⟨rfl,n,c,rfl,a⟩
 ·exact .inl rfl
 ·exact .inr ⟨rfl,n,c,rfl,a⟩
theorem alI{X:Type}{f g:X->Option (X⊕(ak×Int))}(h:∀x,PtS (f x) (g x))(x:X):Pt (au f x) (au g x):=by
 cases d:au g x with
 | none=>
  left;cases i:au f x with
  | none=>rfl
  | some r=>
   obtain⟨n,a⟩:=nN i;have key:∀(n:Nat) (x:X) (r:ak×Int),iter f n x=some r->au g x=some r:=by
    intro n;induction n with
    | zero=>intro x r h;cases h
    | succ n ih=>
     intro x r a;unfold iter at a;rcases h x with e | ⟨e,_⟩
     ·rw[aC,<- e];cases b:f x with
      | none=>rw[b]at a;cases a
      | some y=>
       rw[b]at a;cases y with
       | inl y=>exact ih y r a
       | inr y=>exact a
     ·rw[e]at a;cases a
   rw[key n x r a]at d;cases d
 | some r=>
  obtain⟨n,a⟩:=nN d;have key:∀(n:Nat) (x:X) (r:ak×Int),iter g n x=some r->Pt (au f x) (some r):=by
   intro n;induction n with
   | zero=>intro x r h;cases h
   | succ n ih=>
    intro x r a;unfold iter at a;rcases h x with e | ⟨e,m,c,j,k⟩
    ·rw[aC,e];cases b:g x with
     | none=>rw[b]at a;cases a
     | some y=>
      rw[b]at a;cases y with
      | inl y=>exact ih y r a
      | inr y=>exact .inl a
    ·rw[j]at a;cases a
     rw[aC,e];exact .inr ⟨rfl,m,c,rfl,k⟩
  exact key n x r a
theorem adH(a:ak)(b c:Str)(d:Bool):Pt (nO a b c d) (qc a b c d):=by
 unfold nO qc;repeat' first
  | with_reducible exact alG _
  | with_reducible exact aje _
  | exact alH _ _ (by decide)
  | exact ajf _ _ (by decide)
  | refine apS ?_ ?_
  | refine alF ?_ ?_
  | refine alJ _ fun _=>?_
  | refine apR ?_
  | refine ajg _ fun _=>?_
  | refine alI (fun _=>?_) _
theorem adI{cs:List ah}{b c:Str}{d:Bool}{r:ak×Int}(h:qc ⟨cs⟩ b c d=some r):(r.2=0->nO ⟨cs⟩ b c d=some r)/\(r.2≠0->nO ⟨cs⟩ b c d=none\/nO ⟨cs⟩ b c d=some r):=by
 rcases adH ⟨cs⟩ b c d with e | ⟨e,n,k,a,f⟩
 ·rw[e,h];exact⟨fun _=>rfl,fun _=>.inr rfl⟩
 ·rw[h]at a;cases a
  exact⟨fun g=>absurd g f,fun _=>.inl e⟩
theorem tZ{X ρ:Type}{g:X->Option (X⊕ρ)}(pk:List ah->Nat->X)(cs:List ah)(F:Nat->ah->ah)(R:ρ->Prop)
  (j:∀i c s,cs[i]?=some c->s[i]?=some c->s.length=cs.length->g (pk s i)=some (.inl (pk (s.set i (F i c)) (i+1))))
  (l:∀s,s.length=cs.length->(∀k,s[k]?=(cs[k]?).map (F k))->∃r,g (pk s cs.length)=some (.inr r)/\R r):∃r,au g (pk cs 0)=some r/\R r:=by
 refine dw pk cs (fun i s=>s.length=cs.length/\(∀k,k<i->s[k]?=(cs[k]?).map (F k))/\∀k,i<=k->s[k]?=cs[k]?) R (fun i c s a d=>.inl ?_) (fun s d=>?_) cs ⟨rfl,fun k b=>by omega,fun k _=>rfl⟩
 ·obtain⟨h1,h2,f⟩:=d;have hi:=(zC.1 a).1;have h:s[i]?=some c:=by rw[f i (az _),a]
  refine⟨_,j i c s a h h1,by simp[h1],fun k b=>?_,fun k b=>?_⟩
  ·by_cases e:k=i
   ·subst e;rw[List.getElem?_set_self (by omega),a];rfl
   ·rw[List.getElem?_set_ne (by omega)];exact h2 k (by omega)
  ·rw[List.getElem?_set_ne (by omega)];exact f k (by omega)
 ·obtain⟨h1,h2,f⟩:=d;refine l s h1 fun k=>?_
  by_cases b:k<cs.length
  ·exact h2 k b
  ·rw[zJ (by omega),zJ (by omega)];rfl
theorem ZY{X ρ:Type}{g:X->Option (X⊕ρ)}(pk:List ah->Nat->X)(cs:List ah)(F:Nat->ah->ah)
  (f:∀i c s,cs[i]?=some c->s[i]?=some c->s.length=cs.length->g (pk s i)=some (.inl (pk (s.set i (F i c)) (i+1))))
  (h:∀s,s.length=cs.length->(∀k,s[k]?=(cs[k]?).map (F k))->g (pk s cs.length)=none):au g (pk cs 0)=none:=by
 have key:∀(m i:Nat) (s:List ah),cs.length=i+m->s.length=cs.length->(∀k,k<i->s[k]?=(cs[k]?).map (F k))->(∀k,i<=k->s[k]?=cs[k]?)->au g (pk s i)=none:=by
  intro m;induction m with
  | zero=>
   intro i s hi h1 h2 b;have:i=cs.length:=by omega
   subst this;rw[aC,h s h1 fun k=>?_];by_cases a:k<cs.length
   ·exact h2 k a
   ·rw[zJ (by omega),zJ (by omega)];rfl
  | succ m ih=>
   intro i s hi h1 h2 b;obtain⟨c,d⟩:∃c,cs[i]?=some c:=⟨_,zF (by omega)⟩;rw[aC,f i c s d (by rw[b i (az _),d]) h1];refine ih (i+1) _ (by omega) (by simp[h1]) (fun k a=>?_) (fun k a=>?_)
   ·by_cases e:k=i
    ·subst e;rw[List.getElem?_set_self (by omega),d];rfl
    ·rw[List.getElem?_set_ne (by omega)];exact h2 k (by omega)
   ·rw[List.getElem?_set_ne (by omega)];exact b k (by omega)
 exact key cs.length 0 cs (by omega) rfl (fun k a=>by omega) fun k _=>rfl
def ig(x:ah):ah:=⟨x.id,1,x.kind,x.name,x.code,x.n⟩
def FX(y x:ah):ah:=⟨x.id,y.version,x.kind,x.name,x.code,x.n⟩
def rJ(cs o:List ah):List ah:=List.zipWith FX cs o
theorem aeU{cs o o':List ah}(h:o.map bare=o'.map bare):rJ cs o=rJ cs o':=by
 have e:∀o:List ah,rJ cs o=List.zipWith FX cs (o.map bare):=fun o=>by
  unfold rJ;rw[List.zipWith_map_right];rfl
 rw[e o,e o',h]
theorem WH{cs o:List ah}(b:o.length<=cs.length)(k:Nat):(rJ cs o)[k]?=(o[k]?).map fun x=>FX ((cs[k]?).getD x) x:=by
 unfold rJ;rw[List.getElem?_zipWith];cases a:o[k]? with
 | none=>cases cs[k]?<;>rfl
 | some x=>
  have c:=(zC.1 a).1;rw[zF (show k<cs.length by omega)];rfl
noncomputable def kept(cs:List ah)(b c:Str):List ah:=rJ cs (vw (cs.map ig) b c false).1.cells
theorem VP{cs:List ah}(h:∀x,x∈cs->wC x):∀x,x∈cs.map ig->wC x:=by
 intro x b;obtain⟨y,a,rfl⟩:=List.mem_map.1 b;exact⟨(h y a).1,(h y a).2⟩
theorem alV{cs:List ah}:∀x,x∈cs.map ig->x.version=1:=by
 intro x a;obtain⟨y,b,rfl⟩:=List.mem_map.1 a;rfl
theorem al3(cs:List ah)(b c:Str)(u:cs.length<=1048576)(h:∀x,x∈cs->wC x)(H:b.length<=34359738368)(I:c.length<=34359738368) :
  ((vw (cs.map ig) b c false).2=0->kN ⟨cs⟩ b c=some (⟨kept cs b c⟩,true)/\pG ⟨cs⟩ b c=some (⟨kept cs b c⟩,true)) /\
  ((vw (cs.map ig) b c false).2≠0->kN ⟨cs⟩ b c=none/\oP ⟨cs⟩ b c=some (⟨cs⟩,false)/\∃z,pG ⟨cs⟩ b c=some (z,false)):=by
 have v:(cs.map ig).length<=1048576:=by simpa using u
 have J:=YH (cs.map ig) b c false v (VP h) H I;have M:=ac3 (cs.map ig) b c v (VP h) H I;obtain⟨K,N⟩:=ai4 (cs.map ig) b c alV;have hlen1:=Qp (cs.map ig) b c false;have hlen2:=Qp (cs.map ig) b c true;rw[List.length_map]at hlen1 hlen2;have L:=adI J;have B:kept cs b c=rJ cs (vw (cs.map ig) b c true).1.cells:=(aeU N).symm;have C:kept cs b c=rJ cs (vw (cs.map ig) b c false).1.cells:=rfl;generalize vw (cs.map ig) b c false=P at *;generalize vw (cs.map ig) b c true=Q at *;have one:∀s:List ah,(∀k,s[k]?=(cs[k]?).map ig)->s=cs.map ig:=fun s m=>List.ext_getElem? fun k=>by rw[m k,List.getElem?_map]
 have bk:∀(o s:List ah),o.length<=cs.length->(∀k,s[k]?=(o[k]?).map fun x=>FX ((cs[k]?).getD x) x)->s=rJ cs o:=fun o s O m=>List.ext_getElem? fun k=>by rw[m k,WH O]
 have A:∃r,pG ⟨cs⟩ b c=some r/\r=(⟨rJ cs Q.1.cells⟩,Q.2==0):=by
  unfold pG;rw[aiY cs u,zA];refine tZ (fun (s:List ah) (i:Nat)=>((b,c,cs,[],s,(i:Int)):Str×Str×(List ah)×(List ah)×(List ah)×Int)) cs (fun _ x=>ig x) _ (fun i x s g d f=>?_) (fun s f m=>?_)
  ·simp only[bZ d,ac,aA,d,aD,zA,bY d (by omega)];rfl
  ·have j:=one s m;subst j;simp only[<- f,bG,aa,M,zA];suffices hh:∃r,au (fun (a:(List ah)×(List ah)×(List ah)×Int×Int)=>
     bif (decide (a.2.2.2.2<(a.2.2.1.length:Int)))then
      (idx a.1 a.2.2.2.2).bind fun D=>
      (idx a.2.2.1 a.2.2.2.2).bind fun _=>
      (a.2.2.1[a.2.2.2.2.toNat]?).bind fun p=>
      some (.inl (a.1,a.2.1,a.2.2.1.set a.2.2.2.2.toNat (ah.mk p.id D.version p.kind p.name p.code p.n),a.2.2.2.1,w64 (a.2.2.2.2+1)))
     else
      some (.inr (ak.mk a.2.2.1,(a.2.2.2.1==0)))) (cs,[],Q.1.cells,Q.2,0)=some r/\r=(⟨rJ cs Q.1.cells⟩,Q.2==0) by
    obtain⟨r,e,E⟩:=hh;exact⟨r,by rw[e];rfl,E⟩
   refine tZ (fun (s:List ah) (i:Nat)=>((cs,[],s,Q.2,(i:Int)):(List ah)×(List ah)×(List ah)×Int×Int)) Q.1.cells (fun k x=>FX ((cs[k]?).getD x) x) _ (fun i x s g d l=>?_) (fun s l t=>?_)
   ·have hi:=(zC.1 g).1;obtain⟨y,F⟩:∃y,cs[i]?=some y:=⟨_,zF (by omega)⟩;simp only[bZ d,ac,aA,d,F,aD,zA,bY d (by omega)];rfl
   ·have:=bk _ s hlen2 t;subst this;simp only[<- l,bG,aa];exact⟨_,rfl,rfl⟩
 obtain⟨rs,A,rfl⟩:=A;have R:P.2=0->∃r,kN ⟨cs⟩ b c=some r/\r=(⟨rJ cs P.1.cells⟩,true):=fun q=>by
  have G:=L.1 q;unfold kN;rw[Y2 cs u,zA];refine tZ (fun (s:List ah) (i:Nat)=>((b,c,cs,[],s,(cs.length:Int),(i:Int)):Str×Str×(List ah)×(List ah)×(List ah)×Int×Int)) cs (fun _ x=>ig x) _ (fun i x s g d f=>?_) (fun s f m=>?_)
  ·simp only[bZ g,ac,aA,d,aD,zA,bY g (by omega)];rfl
  ·have j:=one s m;subst j;simp only[bG,aa,G,zA,q,bne_self_eq_false];suffices hh:∃r,au (fun (a:(List ah)×(List ah)×(List ah)×Int×Int)=>
     bif (decide (a.2.2.2.2<a.2.2.2.1))then
      (idx a.1 a.2.2.2.2).bind fun D=>
      (idx a.2.2.1 a.2.2.2.2).bind fun _=>
      (a.2.2.1[a.2.2.2.2.toNat]?).bind fun p=>
      some (.inl (a.1,a.2.1,a.2.2.1.set a.2.2.2.2.toNat (ah.mk p.id D.version p.kind p.name p.code p.n),a.2.2.2.1,w64 (a.2.2.2.2+1)))
     else
      some (.inr (ak.mk a.2.2.1,true))) (cs,[],P.1.cells,(P.1.cells.length:Int),0)=some r/\r=(⟨rJ cs P.1.cells⟩,true) by
    obtain⟨r,e,E⟩:=hh;exact⟨r,by rw[e];rfl,E⟩
   refine tZ (fun (s:List ah) (i:Nat)=>((cs,[],s,(P.1.cells.length:Int),(i:Int)):(List ah)×(List ah)×(List ah)×Int×Int)) P.1.cells (fun k x=>FX ((cs[k]?).getD x) x) _ (fun i x s g d l=>?_) (fun s l t=>?_)
   ·have hi:=(zC.1 g).1;obtain⟨y,F⟩:∃y,cs[i]?=some y:=⟨_,zF (by omega)⟩;simp only[bZ g,ac,aA,d,F,aD,zA,bY g (by omega)];rfl
   ·have:=bk _ s hlen1 t;subst this;simp only[bG,aa];exact⟨_,rfl,rfl⟩
 refine⟨fun q=>?_,fun q=>?_⟩
 ·obtain⟨r,e,rfl⟩:=R q;refine⟨by rw[e,C],?_⟩;rw[A,B,K,q];rfl
 ·have w:(P.2 != 0)=true:=by simpa using q
  refine⟨?_,?_,⟨rJ cs Q.1.cells⟩,?_⟩
  ·unfold kN;rw[Y2 cs u,zA];refine ZY (fun (s:List ah) (i:Nat)=>((b,c,cs,[],s,(cs.length:Int),(i:Int)):Str×Str×(List ah)×(List ah)×(List ah)×Int×Int)) cs (fun _ x=>ig x) (fun i x s g d f=>?_) (fun s f m=>?_)
   ·simp only[bZ g,ac,aA,d,aD,zA,bY g (by omega)];rfl
   ·have j:=one s m;subst j;rcases L.2 q with e | e
    ·simp only[bG,aa,e,Option.bind_none]
    ·simp only[bG,aa,e,zA,w,ac,Option.bind_none]
  ·suffices hh:∃r,oP ⟨cs⟩ b c=some r/\r=(⟨cs⟩,false) by
    obtain⟨r,e,rfl⟩:=hh;exact e
   unfold oP;rw[Y2 cs u,zA];refine tZ (fun (s:List ah) (i:Nat)=>((b,c,cs,[],s,(cs.length:Int),(i:Int)):Str×Str×(List ah)×(List ah)×(List ah)×Int×Int)) cs (fun _ x=>ig x) _ (fun i x s g d f=>?_) (fun s f m=>?_)
   ·simp only[bZ g,ac,aA,d,aD,zA,bY g (by omega)];rfl
   ·have j:=one s m;subst j;simp only[bG,aa,J,zA,w,ac];exact⟨_,rfl,rfl⟩
  ·rw[A,K];have:(P.2==0)=false:=by simpa using q
   rw[this]
end Go.Proofs.YtbbmkcioplbhbaaGreatDoor
