import Derived.Test.YtbbmkcioplbhbaaGreatDoorMarks
import Derived.Test.YtbbmkcioplbhbaaGreatDoorBasic
set_option linter.unusedSimpArgs false
set_option linter.unusedVariables false
/- Plain laws with marks: ChangedVersions, NewHistory, PathTo. Plain laws: one edit; both sides alike. Plain laws: batches of edits; ApplyBatch, IsNoChange. Plain laws with marks: PathTo, NewReplica. Plain laws with marks: SeenBy. Plain laws: inverse edits and batches, copies and steps of histories; both sides alike. Plain laws: UndoEdits, RedoEdits, DoEdits. Plain laws: GoTo. -/
namespace Go.Proofs.YtbbmkcioplbhbaaGreatDoor
open Go.Abs Go.Proofs
theorem QN{α σ ρ X:Type}{g:X->Option (X⊕ρ)}(pk:σ->Nat->X)(xs:List α)(f:σ->α->σ)(fin:σ->ρ)(I:Nat->σ->Prop)
  (d:∀i x s,xs[i]?=some x->I i s->I (i+1) (f s x))
  (h1:∀i x s,xs[i]?=some x->I i s->g (pk s i)=some (.inl (pk (f s x) (i+1))))
  (h2:∀s,I xs.length s->g (pk s xs.length)=some (.inr (fin s))) (s:σ) (e:I 0 s):au g (pk s 0)=some (fin (xs.foldl f s))/\I xs.length (xs.foldl f s):=by
 have key:∀(n i:Nat) (s:σ),xs.length=i+n->I i s->au g (pk s i)=some (fin ((xs.drop i).foldl f s))/\I xs.length ((xs.drop i).foldl f s):=by
  intro n;induction n with
  | zero=>
   intro i s hi a;rw[List.drop_eq_nil_of_le (by omega),aH];have:i=xs.length:=by omega
   subst this;rw[h2 s a];exact⟨rfl,a⟩
  | succ n ih=>
   intro i s hi a;have b:i<xs.length:=by omega
   have c:=zF b;rw[List.drop_eq_getElem_cons b,aH,h1 i xs[i] s c a];exact ih (i+1) (f s xs[i]) (by omega) (d i xs[i] s c a)
 simpa using key xs.length 0 s (by omega) e
theorem iR{n:Nat}(h:n<=34359738368):gd n=some ():=by unfold gd;rw[if_pos h]
theorem qZ{α:Type}(p:α->Bool):∀(xs:List α) (i:Nat),dU p xs i = -1\/∃(n:Nat) (x:α),dU p xs i=((i+n:Nat):Int)/\xs[n]?=some x
 | [],i=>.inl rfl
 | y::ys,i=>by
  unfold dU;cases b:p y with
  | true=>exact .inr ⟨0,y,by simp,rfl⟩
  | false=>
   rcases qZ p ys (i+1)with h | ⟨n,x,h,a⟩
   ·exact .inl (by simpa using h)
   ·refine .inr ⟨n+1,x,?_,by simpa using a⟩;have:i+1+n=i+(n+1):=by omega
    rw[<- this];simpa using h
theorem Wn(a:ak)(h:(a.cells.length:Int)<=16777216):bT a=some a:=by
 unfold bT;rw[iR (by omega)];rfl
theorem copyS(a:ak)(h:(a.cells.length:Int)<=16777216):iV a=some a:=by
 unfold iV;rw[iR (by omega)];rfl
theorem Ox{α:Type}(xs:List α)(n:Nat)(h:n<=xs.length):eff.cutL xs none (some (n:Int))=some (xs.take n):=by
 unfold eff.cutL;simp only[Option.getD_none,Option.getD_some];rw[if_pos ⟨by omega,by omega,by omega⟩];simp
theorem EL{α:Type}(xs:List α)(n:Nat)(h:n<=xs.length):eff.cutL xs (some (n:Int)) none=some (xs.drop n):=by
 unfold eff.cutL;simp only[Option.getD_none,Option.getD_some];rw[if_pos ⟨by omega,by omega,by omega⟩];simp
theorem put_eq(a:List ah)(b:Int)(c:ah)(h:(a.length:Int)<=1048576):∃n:Nat,n<=a.length/\Ie a b c=some (a.take n++[c]++a.drop n)/\yt a b c=some (a.take n++[c]++a.drop n):=by
 obtain⟨n,d,e⟩:∃n:Nat,n<=a.length/\(if (if (a.length:Int)<b then (a.length:Int)else b)>0 then (if (a.length:Int)<b then (a.length:Int)else b)else 0)=(n:Int):=by
  refine⟨(if (if (a.length:Int)<b then (a.length:Int)else b)>0 then (if (a.length:Int)<b then (a.length:Int)else b)else 0).toNat,?_,?_⟩
  ·split<;>split<;>omega
  ·split<;>split<;>omega
 have k:XA b (a.length:Int)=some (if (a.length:Int)<b then (a.length:Int)else b):=by
  unfold XA;by_cases q:(a.length:Int)<b
  ·rw[if_pos q,ae (by omega),aa]
  ·rw[if_neg q];by_cases f:b<(a.length:Int)
   ·rw[al f,ac]
   ·rw[ae f,aa];congr 1;omega
 have l:∀m:Int,FY 0 m=some (if m>0 then m else 0):=by
  intro m;unfold FY;by_cases q:m>0
  ·rw[if_pos q,ae (by omega),aa]
  ·rw[if_neg q];by_cases f:(0:Int)>m
   ·rw[al f,ac]
   ·rw[ae f,aa];congr 1;omega
 have g:gd (0+(a.take n).length)=some ():=iR (by simp;omega);have i:gd (([]++a.take n).length+[c].length)=some ():=iR (by simp;omega);have j:gd ((([]++a.take n)++[c]).length+(a.drop n).length)=some ():=iR (by simp;omega);refine⟨n,d,?_,?_⟩
 ·unfold Ie;simp only[k,l,e,zA,Ox a n d,EL a n d,g,i,j];rfl
 ·unfold yt;simp only[e,zA,Ox a n d,EL a n d,g,i,j];rfl
theorem drop_eq(a:List ah)(n:Nat)(e:n<a.length)(h:(a.length:Int)<=1048576):BH a (n:Int)=some (a.take n++a.drop (n+1))/\CJ a (n:Int)=some (a.take n++a.drop (n+1)):=by
 have b:w64 ((n:Int)+1)=((n+1:Nat):Int):=by rw[aT (by omega) (by omega)];omega
 have c:gd (0+(a.take n).length)=some ():=iR (by simp;omega);have d:gd (([]++a.take n).length+(a.drop (n+1)).length)=some ():=iR (by simp;omega);constructor
 ·unfold BH;simp only[Ox a n (by omega),b,EL a (n+1) (by omega),zA,c,d];rfl
 ·unfold CJ;simp only[Ox a n (by omega),b,EL a (n+1) (by omega),zA,c,d];rfl
theorem WA{α:Type}{p:α->Nat->Bool}:∀ {xs:List α} {i:Nat},uX p xs i=true->∀(k:Nat) (x:α),xs[k]?=some x->p x (i+k)=true
 | [],i,_,k,x,h=>by simp at h
 | y::ys,i,h,k,x,a=>by
  unfold uX at h;rw[zI]at h;cases k with
  | zero=>simp at a;subst a;exact h.1
  | succ k=>
   have:=WA h.2 k x (by simpa using a);rw[show i+(k+1)=i+1+k by omega];exact this
theorem Ze{c:ah}(h:FM c=true):1<=c.version/\c.version<=999:=by
 unfold FM dm at h;rw[xg,xg]at h;simp only[zA]at h;by_cases a:(decide (1<=c.id)&&decide (c.id<=999))=true
 ·rw[a]at h;simp only[aL,aa]at h;by_cases b:(decide (1<=c.version)&&decide (c.version<=999))=true
  ·simpa using b
  ·have q2':(decide (1<=c.version)&&decide (c.version<=999))=false:=by simpa using b
   rw[q2']at h;simp at h
 ·have q1':(decide (1<=c.id)&&decide (c.id<=999))=false:=by simpa using a
  rw[q1']at h;simp at h
theorem Zt{n:ak}(g:Fit B20 (.base .notebook) n)(hv:eP n=some true):(n.cells.length:Int)<=8/\∀(k:Nat) (x:ah),n.cells[k]?=some x->1<=x.version/\x.version<=999:=by
 rw[eY]at g;have h:n.cells.length<lim/\∀x∈n.cells,Fit B20 (.base .cell) x:=⟨jQ (eU g),g.cu⟩;have e:eP n=some (uX (fun c i=>FM c&&!(dU (fun d=>d.id==c.id) n.cells 0 != (i:Int))) n.cells 0&&decide ((n.cells.length:Int)<=8)):=by
  refine uf (fun i=>((n.cells,(i:Int)):List ah×Int)) n.cells _ _ (fun i x f=>?_) ?_
  ·obtain⟨a,rfl⟩:=zC.1 f;obtain⟨b,h1,h2⟩:=jl _ (h.2 _ (List.getElem_mem a));have j:FM n.cells[i]=b:=by unfold FM;rw[h2];rfl
   simp only[lW a,ac,aA,f,zA,oI a h.1,h2,j,kQ ⟨n.cells⟩ _ h.1];cases b<;>cases (dU (fun d=>d.id==n.cells[i].id) n.cells 0 != (i:Int))<;>rfl
  ·simp only[gm,aa]
 rw[e]at hv;simp only[zD,zI,decide_eq_true_eq]at hv;refine⟨hv.2,fun k x f=>?_⟩;have:=WA hv.1 k x f;simp only[zI]at this;exact Ze this.1
theorem adz{cs:List ah}(a:(cs.length:Int)<=1048576)(h:∀x,x∈cs->Fit B20 (.base .cell) x):Fit B20 (.base .notebook) (ak.mk cs):=by
 rw[eY];exact lu a h
theorem Zj(a:ak)(b:dZ)(d:Fit B20 (.base .notebook) a)(P:Fit B20 (.base .edit) b) :
  ∃w n,kJ a b=some (w,n)/\uM a b=some (w,n)/\Fit B20 (.base .notebook) w:=by
 obtain⟨v,B,i⟩:=o5 a d;have fa:=d;rw[eY]at fa;have C:=eU fa;have j:a.cells.length<lim:=jQ C;have e:=fa.cu;have fb:=P;rw[uN]at fb;have hcell:=fb.2.2;have fc:=hcell;rw[jb]at fc;have cI:=Wn a (by omega);have cS:=copyS a (by omega);unfold kJ uM;rw[B,i,cI,cS];simp only[zA];cases v with
 | false=>exact⟨a,1,rfl,rfl,d⟩
 | true=>
 obtain⟨I,hver⟩:=Zt d i;simp only[aL,aa,xg,Gy,zA];cases Q:(decide (1<=b.kind)&&decide (b.kind<=6))with
 | false=>exact⟨a,1,rfl,rfl,d⟩
 | true=>
 simp only[aL,aa];unfold YR;simp only[kQ a _ j,wL a _ j,zA];simp only[zI,decide_eq_true_eq]at Q;obtain⟨vc,k,l⟩:=jl b.cell hcell;have insFit:∀(xs:List ah) (n:Nat) (c:ah),n<=xs.length->(xs.length:Int)<=8->(∀x,x∈xs->Fit B20 (.base .cell) x)->Fit B20 (.base .cell) c->Fit B20 (.base .notebook) (ak.mk (xs.take n++[c]++xs.drop n)):=by
  intro xs n c u I g D;refine adz (by simp;omega) fun x h=>?_
  simp only[List.mem_append,List.mem_singleton]at h;rcases h with (h | h) | h
  ·exact g x (List.mem_of_mem_take h)
  ·subst h;exact D
  ·exact g x (List.mem_of_mem_drop h)
 by_cases J:b.kind=1
 ·simp only[J,beq_self_eq_true,ac,k,l,zA];cases vc with
  | false=>exact⟨a,1,rfl,by simp only[Bool.not_false,ac,zA,cI],d⟩
  | true=>
   simp only[aL,aa];cases z:decide (dU (fun c=>c.id==b.cell.id) a.cells 0>=0)with
   | true=>exact⟨a,3,rfl,by simp only[ac,zA,cI],d⟩
   | false=>
    simp only[aa];by_cases o:(a.cells.length:Int)=8
    ·simp only[o,beq_self_eq_true,ac,show decide ((8:Int)>=8)=true from rfl,zA,cI];exact⟨a,4,rfl,rfl,d⟩
    ·have R:((a.cells.length:Int)==8)=false:=by simpa using o
     have S:decide ((a.cells.length:Int)>=8)=false:=ae (by omega);obtain⟨n,u,E,F⟩:=put_eq a.cells b.pos b.cell C;simp only[R,S,aa,E,F,zA];have A:=insFit a.cells n b.cell u I e hcell;have cI2:=Wn (ak.mk (a.cells.take n++[b.cell]++a.cells.drop n)) (by simp;omega);rw[cI2];exact⟨_,0,rfl,rfl,A⟩
 ·have k1':(b.kind==1)=false:=by simpa using J
  simp only[k1',aa];rcases qZ (fun c:ah=>c.id==b.cell.id) a.cells 0 with z | ⟨n,x,z,g⟩
  ·rw[z];exact⟨a,2,rfl,by simp only[show decide ((-1:Int)<0)=true from rfl,ac,zA,cI],d⟩
  ·rw[z,Nat.zero_add];have u:n<a.cells.length:=(zC.1 g).1;have p:=e x (zG g);have fx:=p;rw[jb]at fx;have hv:=hver n x g;simp only[ae (show ¬((n:Nat):Int)<0 by omega),aa,aA,g,zA,az];obtain⟨K,L⟩:=drop_eq a.cells n u C;have dropm:∀y,y∈a.cells.take n++a.cells.drop (n+1)->Fit B20 (.base .cell) y:=fun y f=>by
    rcases List.mem_append.1 f with f | f
    ·exact e y (List.mem_of_mem_take f)
    ·exact e y (List.mem_of_mem_drop f)
   have dropl:((a.cells.take n++a.cells.drop (n+1)).length:Int)<=8:=by simp;omega
   by_cases M:b.kind=2
   ·have G:=Wn (ak.mk (a.cells.take n++a.cells.drop (n+1))) (by show ((a.cells.take n++a.cells.drop (n+1)).length:Int)<=_;omega);simp only[M,beq_self_eq_true,ac,K,L,zA,G];exact⟨_,0,rfl,rfl,adz (by omega) dropm⟩
   have k2':(b.kind==2)=false:=by simpa using M
   by_cases N:b.kind=3
   ·obtain⟨m,h,E,F⟩:=put_eq (a.cells.take n++a.cells.drop (n+1)) b.pos x (by omega);have A:=insFit _ m x h dropl dropm p;have fl:((ak.mk ((a.cells.take n++a.cells.drop (n+1)).take m++[x]++(a.cells.take n++a.cells.drop (n+1)).drop m)).cells.length:Int)<=1048576:=by
     have:=A;rw[eY]at this;exact eU this
    have G:=Wn _ (show _<=(16777216:Int)from Int.le_trans fl (by omega));simp only[N,k2',beq_self_eq_true,ac,aa,show ((3:Int)==2)=false from rfl,K,L,E,F,zA,G];exact⟨_,0,rfl,rfl,A⟩
   have k3':(b.kind==3)=false:=by simpa using N
   have setFit:∀c:ah,Fit B20 (.base .cell) c->Fit B20 (.base .notebook) (ak.mk (a.cells.set n c)):=fun c D=>adz (by simp;omega) fun y f=>by
    rcases List.mem_or_eq_of_mem_set f with f | f
    ·exact e y f
    ·subst f;exact D
   have setCopy:∀c:ah,bT (ak.mk (a.cells.set n c))=some (ak.mk (a.cells.set n c)):=fun c=>Wn _ (by simp;omega)
   have wfv:(Lit.int .i64 (w64 (x.version+1))).wf=true:=by
    rw[aT (by omega) (by omega)];unfold Lit.wf;simp[IntKind.wrap,IntKind.bits,IntKind.signed,IntKind.min,IntKind.max];omega
   simp only[k2',k3',aa];have h999:(x.version==999)=decide (x.version>=999):=by
    by_cases q:x.version=999
    ·rw[q];rfl
    ·rw[ae (by omega)];simpa using q
   unfold BI;by_cases H:b.kind=5
   ·have fcell:Fit B20 (.base .cell) (ah.mk x.id x.version x.kind x.name x.code b.cell.n):=by
     rw[jb];exact⟨fx.1,fx.2.1,fx.2.2.1,fx.2.2.2.1,fx.2.2.2.2.1,fc.2.2.2.2.2⟩
    obtain⟨q,r,s⟩:=jl _ fcell;simp only[H,beq_self_eq_true,jc,show ((5:Int)==4)=false from rfl,ac,aa,r,s,zA];cases t:(x.kind != 3)with
    | true=>exact⟨a,5,rfl,by simp only[ac,zA,cI],d⟩
    | false=>
     simp only[aa];cases q with
     | false=>exact⟨a,1,rfl,by simp only[Bool.not_false,ac,zA,cI],d⟩
     | true=>exact⟨_,0,rfl,by simp only[aL,aa,zA,cI,aA,g,az,setCopy],setFit _ fcell⟩
   have k5':(b.kind==5)=false:=by simpa using H
   have k5n:(b.kind != 5)=true:=by simpa using H
   by_cases O:b.kind=4
   ·have fcell:Fit B20 (.base .cell) (ah.mk x.id (w64 (x.version+1)) x.kind b.cell.name b.cell.code x.n):=by
     rw[jb];exact⟨fx.1,.int .i64 _ wfv,fx.2.2.1,fc.2.2.2.1,fc.2.2.2.2.1,fx.2.2.2.2.2⟩
    obtain⟨q,r,s⟩:=jl _ fcell;simp only[O,k5',beq_self_eq_true,show ((4:Int)==5)=false from rfl,show ((4:Int)==6)=false from rfl,show ((4:Int) != 5)=true from rfl,ac,aa,r,s,zA,h999];cases t:(x.kind==3)with
    | true=>exact⟨a,5,rfl,by simp only[ac,zA,cI],d⟩
    | false=>
     simp only[aa];cases T:decide (x.version>=999)with
     | true=>exact⟨a,6,rfl,by simp only[ac,zA,cI],d⟩
     | false=>
      simp only[aa];cases q with
      | false=>exact⟨a,1,rfl,by simp only[Bool.not_false,ac,zA,cI],d⟩
      | true=>exact⟨_,0,rfl,by simp only[aL,aa,zA,cI,aA,g,az,setCopy],setFit _ fcell⟩
   have k4':(b.kind==4)=false:=by simpa using O
   have U:b.kind=6:=by omega
   have fcell:Fit B20 (.base .cell) (ah.mk x.id (w64 (x.version+1)) x.kind x.name x.code x.n):=by
    rw[jb];exact⟨fx.1,.int .i64 _ wfv,fx.2.2.1,fx.2.2.2.1,fx.2.2.2.2.1,fx.2.2.2.2.2⟩
   obtain⟨q,r,s⟩:=jl _ fcell;simp only[U,k5',k4',beq_self_eq_true,show ((6:Int)==4)=false from rfl,show ((6:Int)==5)=false from rfl,show ((6:Int) != 5)=true from rfl,ac,aa,r,s,zA,h999];cases t:(x.kind != 2)with
   | true=>exact⟨a,5,rfl,by simp only[ac,zA,cI],d⟩
   | false=>
    simp only[aa];cases T:decide (x.version>=999)with
    | true=>exact⟨a,6,rfl,by simp only[ac,zA,cI],d⟩
    | false=>
     simp only[aa];cases q with
     | false=>exact⟨a,1,rfl,by simp only[Bool.not_false,ac,zA,cI],d⟩
     | true=>exact⟨_,0,rfl,by simp only[aL,aa,zA,cI,aA,g,az,setCopy],setFit _ fcell⟩
theorem Yd{a:ak}(h:Fit B20 (.base .notebook) a):(a.cells.length:Int)<=1048576:=by
 rw[eY]at h;exact eU h
theorem Tj{a:ak}{b:dZ}{w:ak}(j:Fit B20 (.base .notebook) a)(h:kJ a b=some (w,0)) :
  (1<=b.kind/\b.kind<=6)/\(b.kind≠1->∃(m:Nat) (x:ah),dU (fun c=>c.id==b.cell.id) a.cells 0=(m:Int)/\a.cells[m]?=some x):=by
 obtain⟨v,k,e⟩:=o5 a j;have l:=Yd j;have f:a.cells.length<lim:=jQ l;unfold kJ at h;rw[e,copyS a (by omega)]at h;simp only[zA,xg,kQ a _ f]at h;cases v with
 | false=>simp at h
 | true=>
  simp only[aL,aa]at h;cases d:(decide (1<=b.kind)&&decide (b.kind<=6))with
  | false=>rw[d]at h;simp at h
  | true=>
   rw[d]at h;simp only[zI,decide_eq_true_eq]at d;refine⟨d,fun g=>?_⟩;have k1':(b.kind==1)=false:=by simpa using g
   simp only[aL,aa,k1']at h;rcases qZ (fun c:ah=>c.id==b.cell.id) a.cells 0 with i | ⟨n,x,i,o⟩
   ·rw[i]at h;simp at h
   ·exact⟨n,x,by rw[i,Nat.zero_add],o⟩
end Go.Proofs.YtbbmkcioplbhbaaGreatDoor
/- Plain laws: copies of values, reads, operations and replicas are the same. Plain laws: MissingOps, AddOp. -/
namespace Go.Proofs.YtbbmkcioplbhbaaGreatDoor
open Go.Abs Go.Proofs
theorem take_snoc{α:Type}{xs:List α}{i:Nat}{x:α}(h:xs[i]?=some x):xs.take (i+1)=xs.take i++[x]:=by
 obtain⟨hi,rfl⟩:=zC.1 h;exact List.take_succ_eq_append_getElem hi
theorem qx{α X ρ:Type}{g:X->Option (X⊕ρ)}(pk:List α->Nat->X)(xs:List α)(fin:Option ρ)
  (h1:∀i x,xs[i]?=some x->(xs.take i).length=i->g (pk (xs.take i) i)=some (.inl (pk (xs.take i++[x]) (i+1))))
  (h2:g (pk xs xs.length)=fin.bind fun r=>some (.inr r)):au g (pk [] 0)=fin:=by
 have key:∀(n i:Nat),xs.length=i+n->au g (pk (xs.take i) i)=fin:=by
  intro n;induction n with
  | zero=>
   intro i hi;have:i=xs.length:=by omega
   subst this;rw[aH,List.take_length,h2];cases fin<;>rfl
  | succ n ih=>
   intro i hi;have a:i<xs.length:=by omega
   have b:=zF a;rw[aH,h1 i _ b (by simp;omega)];simp only;rw[<- take_snoc b];exact ih (i+1) (by omega)
 exact key xs.length 0 (by omega)
theorem gd1{α:Type}{s:List α}{i n:Nat}{x:α}(h:s.length=i)(hi:i<n)(a:(n:Int)<=1048576):gd (s.length+[x].length)=some ():=iR (by simp;omega)
theorem abk(x:bD)(h:Fit B20 (.base .row) x):yw x=some x:=by
 rw[EF]at h;have:=eU h.1;have:=eU h.2;unfold yw;rw[iR (by omega),zA,iR (by omega)];rfl
theorem aga(x:bD)(h:Fit B20 (.base .row) x):JQ x=some x:=by
 rw[EF]at h;have:=eU h.1;have:=eU h.2;unfold JQ;rw[iR (by omega),zA,iR (by omega)];rfl
theorem Dh:∀n,(∀v:aC,siz v<n->Fit B20 (.base .val) v->(dF n).1 v=some v)/\(∀xs:List aC,siz xs<n->aV B20 (.list (.base .val) xs)->(dF n).2 xs=some xs)
 | 0=>⟨fun v h=>absurd h (Nat.not_lt_zero _),fun v h=>absurd h (Nat.not_lt_zero _)⟩
 | n+1=>by
  have ih:=Dh n;refine⟨fun x e h=>?_,fun xs e h=>?_⟩
  ·rw[zZ]at h;obtain⟨j,k,m,o,f,g,c⟩:=h;have p:=eU g;have d:=eU c;show qV (dF n).1 (dF n).2 x=some x
   unfold qV;rw[ih.2 x.list (by have:=wR (v:=x);omega) f,zA,iR (by omega),zA];refine qx (fun (s:List bD) (i:Nat)=>((0,0,0,[],[],[],[],x.kind,x.n,x.step,x.text,x.list,[]++x.columns,s,x.rows,(x.rows.length:Int),(i:Int)):Int×Int×Int×Str×(List aC)×(List Str)×(List bD)×Int×Int×Int×Str×(List aC)×(List Str)×(List bD)×(List bD)×Int×Int))
    x.rows (some x) (fun i y a b=>?_) ?_
   ·have hi:=(zC.1 a).1;simp only[dec_lt a,ac,aA,a,zA,abk y (c.cu y (zG a)),gd1 b hi d,eu a (jQ d)]
   ·simp only[Int.lt_irrefl,decide_false,aa];cases x;rfl
  ·have l:=eU h;show oU (dF n).1 (dF n).2 xs=some xs
   unfold oU;refine qx (fun (s:List aC) (i:Nat)=>((s,xs,(xs.length:Int),(i:Int)):(List aC)×(List aC)×Int×Int)) xs (some xs) (fun i y a b=>?_) ?_
   ·have hi:=(zC.1 a).1;simp only[dec_lt a,ac,aA,a,dn,zA,ih.1 y (by have:=DW (zG a);omega) (h.cu y (zG a)),gd1 b hi l,eu a (jQ l)]
   ·simp only[Int.lt_irrefl,decide_false,aa];rfl
theorem Fz(x:aC)(h:Fit B20 (.base .val) x):nS x=some x:=(Dh (siz x+1)).1 x (Nat.lt_succ_self _) h
theorem LW:∀n,∀v:aC,siz v<n->Fit B20 (.base .val) v->wZ n v=some v
 | 0=>fun v h=>absurd h (Nat.not_lt_zero _)
 | n+1=>by
  have ih:=LW n;intro x j h;rw[zZ]at h;obtain⟨k,l,m,p,c,g,d⟩:=h;have e:=eU c;have q:=eU g;have f:=eU d;show BF (wZ n) x=some x
  unfold BF;rw[iR (by omega),zA];refine qx (fun (s:List aC) (i:Nat)=>((x.kind,x.n,x.step,x.text,x.list,x.columns,x.rows,0,0,0,[],[],[],[],x.kind,x.n,x.step,x.text,s,[]++x.columns,[],(i:Int)):Int×Int×Int×Str×(List aC)×(List Str)×(List bD)×Int×Int×Int×Str×(List aC)×(List Str)×(List bD)×Int×Int×Int×Str×(List aC)×(List Str)×(List bD)×Int))
   x.list (some x) (fun i y a b=>?_) ?_
  ·have hi:=(zC.1 a).1;simp only[dec_lt a,ac,aA,a,dn,zA,ih y (by have:=DW (zG a);have:=wR (v:=x);omega) (c.cu y (zG a)),gd1 b hi e,eu a (jQ e)]
  ·simp only[Int.lt_irrefl,decide_false,aa];refine congrArg (fun o=>Option.bind o _) (qx (fun (s:List bD) (i:Nat)=>((x.kind,x.n,x.step,x.text,x.list,x.columns,x.rows,0,0,0,[],[],[],[],x.kind,x.n,x.step,x.text,x.list,[]++x.columns,s,(i:Int)):Int×Int×Int×Str×(List aC)×(List Str)×(List bD)×Int×Int×Int×Str×(List aC)×(List Str)×(List bD)×Int×Int×Int×Str×(List aC)×(List Str)×(List bD)×Int))
    x.rows (some x) (fun i y a b=>?_) ?_)
   ·have hi:=(zC.1 a).1;simp only[dec_lt a,ac,aA,a,zA,aga y (d.cu y (zG a)),gd1 b hi f,eu a (jQ f)]
   ·simp only[Int.lt_irrefl,decide_false,aa];cases x;rfl
theorem Pq(x:aC)(h:Fit B20 (.base .val) x):DZ x=some x:=LW (siz x+1) x (Nat.lt_succ_self _) h
theorem qp(xs:List aN)(h:aV B20 (.list (.base .read) xs)):nT xs=some xs:=by
 have l:=eU h;unfold nT;refine qx (fun (s:List aN) (i:Nat)=>((s,xs,(xs.length:Int),(i:Int)):(List aN)×(List aN)×Int×Int)) xs (some xs) (fun i y a b=>?_) ?_
 ·have hi:=(zC.1 a).1;have f:=h.cu y (zG a);rw[qY]at f;simp only[dec_lt a,ac,aA,a,dn,zA,Fz y.result f.2.2.2.2,gd1 b hi l,eu a (jQ l)]
 ·simp only[Int.lt_irrefl,decide_false,aa];rfl
theorem LY(x:aN)(h:Fit B20 (.base .read) x):BK x=some x:=by
 rw[qY]at h;unfold BK;rw[dn,Pq _ h.2.2.2.2,zA,dn]
theorem yX(xs:List aN)(h:aV B20 (.list (.base .read) xs)):sV xs=some xs:=by
 have l:=eU h;unfold sV;refine qx (fun (s:List aN) (i:Nat)=>((xs,s,(i:Int)):(List aN)×(List aN)×Int)) xs (some xs) (fun i y a b=>?_) ?_
 ·have hi:=(zC.1 a).1;simp only[dec_lt a,ac,aA,a,eG,zA,LY y (h.cu y (zG a)),gd1 b hi l,eu a (jQ l)]
 ·simp only[Int.lt_irrefl,decide_false,aa];rfl
theorem RP(x:GOp)(h:Fit B20 (.base .op) x):Ew x=some x:=by
 rw[wM]at h;obtain⟨c,d,e,a,f,g,i,j,k,b⟩:=h;have:=eU a;unfold Ew;rw[iR (by omega),zA,qp _ b];rfl
theorem LV(x:GOp)(h:Fit B20 (.base .op) x):BB x=some x:=by
 rw[wM]at h;obtain⟨c,d,e,a,f,g,i,j,k,b⟩:=h;have:=eU a;unfold BB;rw[iR (by omega),zA,yX _ b];rfl
theorem abl(xs:List GOp)(h:aV B20 (.list (.base .op) xs)):I9 xs=some xs:=by
 have l:=eU h;unfold I9;refine qx (fun (s:List GOp) (i:Nat)=>((s,xs,(xs.length:Int),(i:Int)):(List GOp)×(List GOp)×Int×Int)) xs (some xs) (fun i y a b=>?_) ?_
 ·have hi:=(zC.1 a).1;simp only[dec_lt a,ac,aA,a,zA,RP y (h.cu y (zG a)),gd1 b hi l,eu a (jQ l)]
 ·simp only[Int.lt_irrefl,decide_false,aa];rfl
theorem acT(xs:List GOp)(h:aV B20 (.list (.base .op) xs)):Oj xs=some xs:=by
 have l:=eU h;unfold Oj;refine qx (fun (s:List GOp) (i:Nat)=>((xs,s,(i:Int)):(List GOp)×(List GOp)×Int)) xs (some xs) (fun i y a b=>?_) ?_
 ·have hi:=(zC.1 a).1;simp only[dec_lt a,ac,aA,a,zA,LV y (h.cu y (zG a)),gd1 b hi l,eu a (jQ l)]
 ·simp only[Int.lt_irrefl,decide_false,aa];rfl
theorem aoE(n:Int):(Lit.int .i64 (w64 n)).wf=true:=by
 unfold Lit.wf w64;simp[IntKind.wrap,IntKind.bits,IntKind.signed,IntKind.min,IntKind.max];omega
end Go.Proofs.YtbbmkcioplbhbaaGreatDoor
/- Plain laws of merged reads and of tapes, with no program in sight. Plain laws: the functions on reads and tapes, both sides, are the plain ones. Plain laws: putting and copying of tapes, both sides. -/
namespace Go.Proofs.YtbbmkcioplbhbaaGreatDoor
noncomputable section
open Go.Abs Go.Proofs
def Pj(x y:aN):Bool:=eqd x.kind y.kind&&(eqd x.n y.n&&(eqd x.text y.text&&eqd x.time y.time))
def YW(l:List aN)(r:aN):Bool:=l.any fun x=>Pj x r
def Nl(l:List aN)(r:aN):Option aN:=l.find? fun x=>Pj x r
def Oa(l:List aN)(r:aN):List aN:=bif YW l r then l else l++[r]
def eF(a b:List aN):List aN:=b.foldl Oa a
theorem ag9(l:List aN)(r:aN):(Nl l r).isSome=YW l r:=by
 unfold Nl YW;induction l with
 | nil=>rfl
 | cons x l ih=>
  rw[List.find?_cons,List.any_cons];cases Pj x r with
  | true=>rfl
  | false=>simpa using ih
theorem rW:∀(b a:List aN),∃t,eF a b=a++t/\t.Sublist b
 | [],a=>⟨[],by simp[eF],List.Sublist.refl _⟩
 | r::b,a=>by
  obtain⟨t,e,s⟩:=rW b (Oa a r);have e':eF a (r::b)=eF (Oa a r) b:=rfl;rw[e',e];unfold Oa;cases YW a r with
  | true=>exact⟨t,rfl,s.cons _⟩
  | false=>exact⟨r::t,by simp,s.cons_cons _⟩
theorem Ko(a b:List aN):a.length<=(eF a b).length/\(eF a b).length<=a.length+b.length:=by
 obtain⟨t,e,s⟩:=rW b a;rw[e,a6];have:=s.length_le;omega
theorem agF{a b:List aN}{x:aN}(h:x∈eF a b):x∈a\/x∈b:=by
 obtain⟨t,e,s⟩:=rW b a;rw[e,List.mem_append]at h;rcases h with h | h
 ·exact .inl h
 ·exact .inr (s.subset h)
def pV(c v:Int)(t:aK):Bool:=eqd t.cell c&&eqd t.version v
def Tc(x y:aK):Bool:=decide (x.cell<y.cell)||(eqd x.cell y.cell&&decide (x.version<y.version))
def readsOf(l:List aK)(c v:Int):List aN:=match l.find? (pV c v)with
 | some t=>t.reads
 | none=>[]
def yD(c v:Int)(rs:List aN):List aK->List aK
 | []=>[]
 | t::r=>bif pV c v t then aK.mk t.cell t.version (eF t.reads rs)::r else t::yD c v rs r
def IQ(x:aK):List aK->List aK
 | []=>[x]
 | t::r=>bif Tc x t then x::t::r else t::IQ x r
def vk(l:List aK)(c v:Int)(rs:List aN):List aK:=
 bif l.any (pV c v)then yD c v rs l else match rs with
  | []=>l
  | _::_=>IQ (aK.mk c v (eF [] rs)) l
theorem VS(c v:Int)(rs:List aN):∀l,(yD c v rs l).length=l.length
 | []=>rfl
 | t::r=>by
  unfold yD;cases pV c v t with
  | true=>rfl
  | false=>simp[VS c v rs r]
theorem aaX(x:aK):∀l,(IQ x l).length=l.length+1
 | []=>rfl
 | t::r=>by
  unfold IQ;cases Tc x t with
  | true=>rfl
  | false=>simp[aaX x r]
theorem aiC(l:List aK)(c v:Int)(rs:List aN):l.length<=(vk l c v rs).length/\(vk l c v rs).length<=l.length+1:=by
 unfold vk;cases l.any (pV c v)with
 | true=>rw[ac,VS];omega
 | false=>
  rw[aa];cases rs with
  | nil=>simp
  | cons r rs=>simp only;rw[aaX];omega
theorem VR{c v:Int}{rs:List aN}:∀ {l:List aK} {t:aK},t∈yD c v rs l->t∈l\/∃u,u∈l/\t=aK.mk u.cell u.version (eF u.reads rs)
 | u::r,t,h=>by
  unfold yD at h;cases a:pV c v u with
  | true=>
   rw[a,ac]at h;rcases ba.1 h with rfl | h
   ·exact .inr ⟨u,ar,rfl⟩
   ·exact .inl (aq _ h)
  | false=>
   rw[a,aa]at h;rcases ba.1 h with rfl | h
   ·exact .inl ar
   ·rcases VR h with h | ⟨w,b,e⟩
    ·exact .inl (aq _ h)
    ·exact .inr ⟨w,aq _ b,e⟩
theorem aaW{x:aK}:∀ {l:List aK} {t:aK},t∈IQ x l->t=x\/t∈l
 | [],t,h=>by
  unfold IQ at h;exact .inl (List.mem_singleton.1 h)
 | u::r,t,h=>by
  unfold IQ at h;cases a:Tc x u with
  | true=>
   rw[a,ac]at h;exact ba.1 h
  | false=>
   rw[a,aa]at h;rcases ba.1 h with rfl | h
   ·exact .inr ar
   ·rcases aaW h with h | h
    ·exact .inl h
    ·exact .inr (aq _ h)
theorem aiB{l:List aK}{c v:Int}{rs:List aN}{t:aK}(h:t∈vk l c v rs) :
  t∈l\/(∃u,u∈l/\t=aK.mk u.cell u.version (eF u.reads rs))\/t=aK.mk c v (eF [] rs):=by
 unfold vk at h;cases a:l.any (pV c v)with
 | true=>
  rw[a,ac]at h;rcases VR h with h | h
  ·exact .inl h
  ·exact .inr (.inl h)
 | false=>
  rw[a,aa]at h;cases rs with
  | nil=>exact .inl h
  | cons r rs=>
   rcases aaW h with h | h
   ·exact .inr (.inr h)
   ·exact .inl h
theorem zi(t:aK)(r:List aK)(c v:Int):readsOf (t::r) c v=bif pV c v t then t.reads else readsOf r c v:=by
 unfold readsOf;rw[List.find?_cons];cases pV c v t<;>rfl
theorem XT{l:List aK}{c v:Int}(h:l.any (pV c v)=false):readsOf l c v=[]:=by
 unfold readsOf;have:l.find? (pV c v)=none:=by
  rw[List.find?_eq_none];intro x a b;rw[List.any_eq_false]at h;exact h x a b
 rw[this]
theorem Dk(c v:Int)(rs:List aN):∀(l:List aK),eF (readsOf l c v) rs=readsOf l c v->yD c v rs l=l
 | [],_=>rfl
 | t::r,h=>by
  rw[zi]at h;unfold yD;cases a:pV c v t with
  | true=>rw[a,ac]at h;rw[ac,h]
  | false=>rw[a,aa]at h;rw[aa,Dk c v rs r h]
theorem adn{l:List aK}{c v:Int}{rs:List aN}(h:eF (readsOf l c v) rs=readsOf l c v)(a:l.any (pV c v)=true\/rs=[]):vk l c v rs=l:=by
 unfold vk;rcases a with a | rfl
 ·rw[a,ac];exact Dk c v rs l h
 ·cases l.any (pV c v)with
  | true=>rw[ac];exact Dk c v [] l h
  | false=>rfl
theorem Vz{α X ρ:Type}{g:X->Option (X⊕ρ)}(pk:Nat->X)(xs:List α)(p:α->Bool)(f:α->ρ)(no:ρ)
  (h1:∀i x,xs[i]?=some x->g (pk i)=bif p x then some (.inr (f x))else some (.inl (pk (i+1))))
  (h2:g (pk xs.length)=some (.inr no)):au g (pk 0)=some ((xs.find? p).elim no f):=by
 have key:∀(n i:Nat),xs.length=i+n->au g (pk i)=some (((xs.drop i).find? p).elim no f):=by
  intro n;induction n with
  | zero=>
   intro i hi;rw[List.drop_eq_nil_of_le (by omega),aH];have:i=xs.length:=by omega
   subst this;rw[h2];rfl
  | succ n ih=>
   intro i hi;have a:i<xs.length:=by omega
   rw[List.drop_eq_getElem_cons a,aH,h1 i xs[i] (zF a),List.find?_cons];cases p xs[i]with
   | false=>simpa using ih (i+1) (by omega)
   | true=>rfl
 simpa using key xs.length 0 (by omega)
theorem akG(x y:aN):BJ x y=some (Pj x y):=Xo x y
theorem akH(x y:aN):xY x y=some (Pj x y):=UD x y
theorem aar(x:aN):aN.mk x.kind x.n x.time x.text (aC.mk x.result.kind x.result.n x.result.step x.result.text x.result.list x.result.columns x.result.rows)=x:=by
 cases x with
 | mk a b c d r=>cases r;rfl
theorem YK(a:List aN)(b:aN)(h:aV B20 (.list (.base .read) a)):Eu a b=some ((Nl a b).elim (aC.mk 0 0 0 [] [] [] [],false) fun x=>(x.result,true)):=by
 have d:=jQ (eU h);unfold Eu Nl;refine Vz (fun i:Nat=>(b.kind,b.n,b.time,b.text,b.result.kind,b.result.n,b.result.step,b.result.text,b.result.list,b.result.columns,b.result.rows,(0:Int),(0:Int),(0:Int),([]:Str),([]:List aC),([]:List Str),([]:List bD),a,(a.length:Int),(i:Int))) a (fun x=>Pj x b) (fun x=>(x.result,true)) _ (fun i x c=>?_) ?_
 ·have f:=h.cu x (zG c);rw[qY]at f;simp only[dec_lt c,ac,aA,c,zA,eG,dn,aar,akH,Fz _ f.2.2.2.2,eu c d]
 ·simp only[gm,aa]
theorem XJ(a:List aN)(b:aN)(h:aV B20 (.list (.base .read) a)):D9 a b=some ((Nl a b).elim (aC.mk 0 0 0 [] [] [] [],false) fun x=>(x.result,true)):=by
 have d:=jQ (eU h);unfold D9 Nl;refine Vz (fun i:Nat=>(a,b.kind,b.n,b.time,b.text,b.result.kind,b.result.n,b.result.step,b.result.text,b.result.list,b.result.columns,b.result.rows,(0:Int),(0:Int),(0:Int),([]:Str),([]:List aC),([]:List Str),([]:List bD),(i:Int))) a (fun x=>Pj x b) (fun x=>(x.result,true)) _ (fun i x c=>?_) ?_
 ·have f:=h.cu x (zG c);rw[qY]at f;simp only[dec_lt c,ac,aA,c,zA,eG,dn,aar,akG,Pq _ f.2.2.2.2,eu c d]
 ·simp only[gm,aa]
theorem aby(a:List aN)(b:aN){y:aC×Bool}(c:y=(Nl a b).elim (aC.mk 0 0 0 [] [] [] [],false) fun x=>(x.result,true)):y.2=YW a b:=by
 subst c;rw[<- ag9];cases Nl a b<;>rfl
theorem acj{l:List aN}{r:aN}(h:aV B20 (.list (.base .read) l))(b:Fit B20 (.base .read) r)(c:(l.length:Int)+1<=1048576):aV B20 (.list (.base .read) (Oa l r)):=by
 unfold Oa;cases YW l r with
 | true=>exact h
 | false=>
  refine lu (by simp;omega) fun x a=>?_
  rcases List.mem_append.1 a with a | a
  ·exact h.cu x a
  ·rw[List.mem_singleton.1 a];exact b
theorem aci(l:List aN)(r:aN):(Oa l r).length<=l.length+1:=by
 unfold Oa;cases YW l r<;>simp
theorem QF{a b:List aN}(c:aV B20 (.list (.base .read) a))(d:aV B20 (.list (.base .read) b))(f:(a.length:Int)+b.length<=1048576):aV B20 (.list (.base .read) (eF a b)):=by
 have:=(Ko a b).2;refine lu (by omega) fun x e=>?_
 rcases agF e with h | h
 ·exact c.cu x h
 ·exact d.cu x h
theorem CZ(a b:List aN)(g:aV B20 (.list (.base .read) a))(e:aV B20 (.list (.base .read) b))(k:(a.length:Int)+b.length<=1048576):qR a b=some (eF a b):=by
 have f:=jQ (eU e);unfold qR;rw[qp a g,zA];refine (QN (fun (s:List aN) (i:Nat)=>(s,b,(b.length:Int),(i:Int))) b Oa id (fun i s=>aV B20 (.list (.base .read) s)/\s.length<=a.length+i) (fun i x s c d=>?_) (fun i x s c d=>?_) (fun s d=>?_) a ⟨g,by omega⟩).1
 ·have hi:=(zC.1 c).1;refine⟨acj d.1 (e.cu x (zG c)) (by omega),?_⟩;have:=aci s x;omega
 ·have hi:=(zC.1 c).1;have h:aV B20 (.list (.base .read) [x]):=lu (by simp) fun y j=>by rw[List.mem_singleton.1 j];exact e.cu x (zG c)
  simp only[dec_lt c,ac,aA,c,zA,eG,YK s x d.1,aby s x rfl,qp _ h,iR (show s.length+[x].length<=34359738368 by simp;omega),eu c f];unfold Oa;cases YW s x<;>rfl
 ·simp only[gm,aa,id]
theorem BA(a b:List aN)(g:aV B20 (.list (.base .read) a))(e:aV B20 (.list (.base .read) b))(h:(a.length:Int)+b.length<=1048576):qI a b=some (eF a b):=by
 have f:=jQ (eU e);unfold qI;rw[yX a g,zA];refine (QN (fun (s:List aN) (i:Nat)=>(b,s,(i:Int))) b Oa id (fun i s=>aV B20 (.list (.base .read) s)/\s.length<=a.length+i) (fun i x s c d=>?_) (fun i x s c d=>?_) (fun s d=>?_) a ⟨g,by omega⟩).1
 ·have hi:=(zC.1 c).1;refine⟨acj d.1 (e.cu x (zG c)) (by omega),?_⟩;have:=aci s x;omega
 ·have hi:=(zC.1 c).1;simp only[dec_lt c,ac,aA,c,zA,eG,XJ s x d.1,aby s x rfl,LY _ (e.cu x (zG c)),iR (show s.length+[x].length<=34359738368 by simp;omega),eu c f];unfold Oa;cases YW s x<;>rfl
 ·simp only[gm,aa,id]
theorem agc(a:List aK)(b c:Int)(h:a.length<lim):acY a b c=some (dU (pV b c) a 0):=by
 refine yT (fun i=>((a,b,c,(i:Int)):List aK×Int×Int×Int)) a (pV b c) (fun i x d=>?_) ?_
 ·simp only[dec_lt d,ac,aA,d,zA,eu d h,pV,Jo];cases eqd x.cell b<;>cases eqd x.version c<;>rfl
 ·simp only[gm,aa]
theorem Uz(a:List aK)(b c:Int)(h:a.length<lim):Gz a b c=some (dU (pV b c) a 0):=by
 refine yT (fun i=>((b,c,a,(a.length:Int),(i:Int)):Int×Int×List aK×Int×Int)) a (pV b c) (fun i x d=>?_) ?_
 ·simp only[dec_lt d,ac,aA,d,zA,eu d h,pV,Jo];cases eqd x.cell b<;>cases eqd x.version c<;>rfl
 ·simp only[gm,aa]
theorem Yo(c v:Int)(rs:List aN):∀(xs:List aK) (i:Nat),(dU (pV c v) xs i = -1/\xs.any (pV c v)=false) \/
  ∃(n:Nat) (x:aK),dU (pV c v) xs i=((i+n:Nat):Int)/\xs[n]?=some x/\xs.any (pV c v)=true/\readsOf xs c v=x.reads/\yD c v rs xs=xs.set n (aK.mk x.cell x.version (eF x.reads rs))
 | [],i=>.inl ⟨rfl,rfl⟩
 | t::r,i=>by
  cases a:pV c v t with
  | true=>
   refine .inr ⟨0,t,?_,rfl,?_,?_,?_⟩
   ·unfold dU;rw[a];simp
   ·rw[List.any_cons,a];rfl
   ·rw[zi,a];rfl
   ·unfold yD;rw[a];rfl
  | false=>
   rcases Yo c v rs r (i+1)with ⟨h1,h2⟩ | ⟨n,x,h1,h2,b,d,e⟩
   ·refine .inl ⟨?_,?_⟩
    ·unfold dU;rw[a,aa,h1]
    ·rw[List.any_cons,a,h2];rfl
   ·refine .inr ⟨n+1,x,?_,by simpa using h2,?_,?_,?_⟩
    ·unfold dU;rw[a,aa,h1];have:i+1+n=i+(n+1):=by omega
     rw[this]
    ·rw[List.any_cons,a,b];rfl
    ·rw[zi,a,aa,d]
    ·unfold yD;rw[a,aa,e];rfl
theorem Ho{l:List aK}(h:aV B20 (.list (.base .tape) l)){t:aK}(a:t∈l):aV B20 (.int .i64 t.cell)/\aV B20 (.int .i64 t.version)/\aV B20 (.list (.base .read) t.reads):=by
 have:=h.cu t a;rw[qX]at this;exact this
theorem FC(a:List aK)(h:aV B20 (.list (.base .tape) a)):zV a=some a:=by
 have l:=eU h;refine qx (fun (s:List aK) (i:Nat)=>((s,a,(a.length:Int),(i:Int)):(List aK)×(List aK)×Int×Int)) a (some a) (fun i y b c=>?_) ?_
 ·have hi:=(zC.1 b).1;simp only[dec_lt b,ac,aA,b,zA,qp _ (Ho h (zG b)).2.2,iR (show (a.take i).length+[y].length<=34359738368 by simp only[c,List.length_singleton];omega),eu b (jQ l)]
 ·simp only[gm,aa];rfl
theorem LX(a:List aK)(h:aV B20 (.list (.base .tape) a)):Ic a=some a:=by
 have l:=eU h;refine qx (fun (s:List aK) (i:Nat)=>((a,s,(i:Int)):(List aK)×(List aK)×Int)) a (some a) (fun i y b c=>?_) ?_
 ·have hi:=(zC.1 b).1;simp only[dec_lt b,ac,aA,b,zA,yX _ (Ho h (zG b)).2.2,iR (show (a.take i).length+[y].length<=34359738368 by simp only[c,List.length_singleton];omega),eu b (jQ l)]
 ·simp only[gm,aa];rfl
theorem aaq(a:List aK)(b c:Int):readsOf a b c=[]\/∃t,t∈a/\readsOf a b c=t.reads:=by
 rcases Yo b c [] a 0 with ⟨h1,h2⟩ | ⟨n,x,h1,h2,e,d,f⟩
 ·exact .inl (XT h2)
 ·exact .inr ⟨x,zG h2,d⟩
theorem aoA(x y:aK):yV x y=some (Tc x y):=by
 unfold yV Tc;simp only[Jo];cases decide (x.cell<y.cell)<;>cases eqd x.cell y.cell<;>rfl
theorem apY(x y:aK):CB x y=some (Tc x y):=aoA x y
theorem EM{α:Type}(xs:List α)(i:Nat)(h:i<=xs.length):cutAt xs (i:Int)=some i:=by
 unfold cutAt;rw[if_pos ⟨by omega,by omega⟩];rfl
theorem afj{X:Type}{g:X->Option (X⊕List aK)}(pk:Nat->X)(l:List aK)(x:aK)
  (h1:∀i t,l[i]?=some t->g (pk i)=bif Tc x t then some (.inr (l.take i++[x]++l.drop i))else some (.inl (pk (i+1))))
  (h2:g (pk l.length)=some (.inr (l++[x]))):au g (pk 0)=some (IQ x l):=by
 have key:∀(n i:Nat),l.length=i+n->au g (pk i)=some (l.take i++IQ x (l.drop i)):=by
  intro n;induction n with
  | zero=>
   intro i hi;have:i=l.length:=by omega
   subst this;rw[aH,h2,List.drop_length,List.take_length];rfl
  | succ n ih=>
   intro i hi;have a:i<l.length:=by omega
   have b:=zF a;rw[aH,h1 i _ b,List.drop_eq_getElem_cons a];unfold IQ;cases Tc x l[i]with
   | true=>simp only[ac,a7,List.singleton_append]
   | false=>
    simp only[aa];rw[ih (i+1) (by omega),take_snoc b,a7];rfl
 simpa using key l.length 0 (by omega)
def Tps(N M:Nat)(l:List aK):Prop:=aV B20 (.list (.base .tape) l)/\l.length<=N/\∀t∈l,t.reads.length<=M
theorem aiA{N M K:Nat}{l:List aK}{c v:Int}{rs:List aN}(h:Tps N M l)(b:aV B20 (.list (.base .read) rs))(k:rs.length<=K)(m:N+1<=1048576)(n:M+K<=1048576)
  (i:aV B20 (.int .i64 c)) (hv:aV B20 (.int .i64 v)):Tps (N+1) (M+K) (vk l c v rs):=by
 obtain⟨h1,h2,d⟩:=h;have o:=aiC l c v rs;have key:∀t∈vk l c v rs,Fit B20 (.base .tape) t/\t.reads.length<=M+K:=by
  intro t a;rcases aiB a with a | ⟨u,e,rfl⟩ | rfl
  ·exact⟨h1.cu t a,by have:=d t a;omega⟩
  ·have f:=Ho h1 e;have:=d u e;have g:=(Ko u.reads rs).2;exact⟨qX.2 ⟨f.1,f.2.1,QF f.2.2 b (by omega)⟩,by show (eF u.reads rs).length<=_;omega⟩
  ·have g:=(Ko [] rs).2;exact⟨qX.2 ⟨i,hv,QF (lu (by simp) fun x j=>by cases j) b (by simp;omega)⟩,by show (eF [] rs).length<=_;simp at g;omega⟩
 exact⟨lu (by omega) fun t a=>(key t a).1,by omega,fun t a=>(key t a).2⟩
theorem Xt(a:List aK)(b c:Int)(d:List aN)(h1:aV B20 (.list (.base .tape) a))(hd:aV B20 (.list (.base .read) d))(l:(readsOf a b c).length+d.length<=1048576):Bz a b c d=some (vk a b c d):=by
 have k:=eU h1;unfold Bz;rw[LX a h1,zA,agc a b c (jQ k),zA];rcases Yo b c d a 0 with ⟨h,f⟩ | ⟨n,x,h,f,m,o,p⟩
 ·rw[h];simp only[show decide ((-1:Int)>=0)=false from rfl,aa];unfold vk;rw[f,aa];cases d with
  | nil=>rfl
  | cons r rs=>
   have e:((((r::rs).length:Nat):Int)==0)=false:=by simp;omega
   rw[e,aa,BA [] (r::rs) (lu (by simp) fun x j=>by cases j) hd (by simp only[List.length_nil];omega),zA];refine afj (fun (i:Nat)=>((a,b,c,eF [] (r::rs),(i:Int)):(List aK)×Int×Int×(List aN)×Int)) a (aK.mk b c (eF [] (r::rs))) (fun i t g=>?_) ?_
   ·have hi:=(zC.1 g).1;simp only[dec_lt g,ac,aA,g,zA,az,aoA,eu g (jQ k),EM a i (by omega),eq_self_iff_true,if_true];rw[iR (show 0+(a.take i).length<=34359738368 by simp;omega),zA,iR (show (([]:List aK)++a.take i).length+[aK.mk b c (eF [] (r::rs))].length<=34359738368 by simp;omega),zA,
     iR (show (([]:List aK)++a.take i++[aK.mk b c (eF [] (r::rs))]).length+(a.drop i).length<=34359738368 by simp;omega),zA,zA,List.nil_append]
    cases Tc (aK.mk b c (eF [] (r::rs))) t<;>rfl
   ·simp only[gm,aa,EM a a.length (aw _),eq_self_iff_true,if_true,zA,List.take_length,List.drop_length];rw[iR (show 0+a.length<=34359738368 by omega),zA,iR (show (([]:List aK)++a).length+[aK.mk b c (eF [] (r::rs))].length<=34359738368 by simp;omega),zA,
     iR (show (([]:List aK)++a++[aK.mk b c (eF [] (r::rs))]).length+([]:List aK).length<=34359738368 by simp;omega),zA,zA,List.append_nil,List.nil_append]
 ·rw[h,Nat.zero_add];have j:=zG f;rw[o]at l;simp only[show decide (((n:Nat):Int)>=0)=true by simp,ac,aA,f,zA,az,BA x.reads d (Ho h1 j).2.2 hd (by omega)];unfold vk;rw[m,ac,p]
theorem Yz(a:List aK)(b c:Int)(d:List aN)(h1:aV B20 (.list (.base .tape) a))(hd:aV B20 (.list (.base .read) d))(l:(readsOf a b c).length+d.length<=1048576):yc a b c d=some (vk a b c d):=by
 have k:=eU h1;unfold yc;rw[FC a h1,zA,Uz a b c (jQ k),zA];rcases Yo b c d a 0 with ⟨h,f⟩ | ⟨n,x,h,f,m,o,p⟩
 ·rw[h];simp only[show decide ((-1:Int)>=0)=false from rfl,aa];unfold vk;rw[f,aa];cases d with
  | nil=>rfl
  | cons r rs=>
   have e:((((r::rs).length:Nat):Int)==0)=false:=by simp;omega
   rw[e,aa,CZ [] (r::rs) (lu (by simp) fun x j=>by cases j) hd (by simp only[List.length_nil];omega),zA];refine afj (fun (i:Nat)=>((a,(i:Int),b,c,eF [] (r::rs)):(List aK)×Int×Int×Int×(List aN))) a (aK.mk b c (eF [] (r::rs))) (fun i t g=>?_) ?_
   ·have hi:=(zC.1 g).1;simp only[dec_lt g,ac,aA,g,zA,az,apY,eu g (jQ k),EM a i (by omega),eq_self_iff_true,if_true];rw[iR (show 0+(a.take i).length<=34359738368 by simp;omega),zA,iR (show (([]:List aK)++a.take i).length+[aK.mk b c (eF [] (r::rs))].length<=34359738368 by simp;omega),zA,
     iR (show (([]:List aK)++a.take i++[aK.mk b c (eF [] (r::rs))]).length+(a.drop i).length<=34359738368 by simp;omega),zA,zA,List.nil_append]
    cases Tc (aK.mk b c (eF [] (r::rs))) t<;>rfl
   ·simp only[gm,aa,EM a a.length (aw _),eq_self_iff_true,if_true,zA,List.take_length,List.drop_length];rw[iR (show 0+a.length<=34359738368 by omega),zA,iR (show (([]:List aK)++a).length+[aK.mk b c (eF [] (r::rs))].length<=34359738368 by simp;omega),zA,
     iR (show (([]:List aK)++a++[aK.mk b c (eF [] (r::rs))]).length+([]:List aK).length<=34359738368 by simp;omega),zA,zA,List.append_nil,List.nil_append]
 ·rw[h,Nat.zero_add];have j:=zG f;rw[o]at l;simp only[show decide (((n:Nat):Int)>=0)=true by simp,ac,aA,f,zA,az,CZ x.reads d (Ho h1 j).2.2 hd (by omega)];unfold vk;rw[m,ac,p]
theorem MJ{N M:Nat}{a:List aK}(h:Tps N M a)(b c:Int):(readsOf a b c).length<=M:=by
 rcases aaq a b c with h1 | ⟨t,d,h1⟩
 ·rw[h1];simp
 ·rw[h1];exact h.2.2 t d
theorem ZP{N M:Nat}(a:List aK)(b c:Int)(d:List aN)(h:Tps N M a)(hd:aV B20 (.list (.base .read) d))(e:M+d.length<=1048576):Bz a b c d=some (vk a b c d):=
 Xt a b c d h.1 hd (by have:=MJ h b c;omega)
theorem aa5{N M:Nat}(a:List aK)(b c:Int)(d:List aN)(h:Tps N M a)(hd:aV B20 (.list (.base .read) d))(e:M+d.length<=1048576):yc a b c d=some (vk a b c d):=
 Yz a b c d h.1 hd (by have:=MJ h b c;omega)
end
end Go.Proofs.YtbbmkcioplbhbaaGreatDoor
/- Plain laws: ReplayOp is alike on both sides. -/
namespace Go.Proofs.YtbbmkcioplbhbaaGreatDoor
open Go.Abs Go.Proofs
def PtS{X:Type}(o p:Option (X⊕(ak×Int))):Prop:=o=p\/(o=none/\∃n c,p=some (.inr (n,c))/\c≠0)
def Pt(o p:Option (ak×Int)):Prop:=o=p\/(o=none/\∃n c,p=some (n,c)/\c≠0)
theorem akT(o:Option (ak×Int)):Pt o o:=.inl rfl
theorem akU(n:ak)(c:Int)(h:c≠0):Pt none (some (n,c)):=.inr ⟨rfl,n,c,rfl,h⟩
theorem aoR{q:Bool}{o p o' p':Option (ak×Int)}(h:Pt o p)(a:Pt o' p'):Pt (bif q then o else o') (bif q then p else p'):=by cases q<;>assumption
theorem akW{α:Type}(x:Option α){f g:α->Option (ak×Int)}(h:∀a,Pt (f a) (g a)):Pt (x.bind f) (x.bind g):=by
 cases x with
 | none=>exact .inl rfl
 | some a=>exact h a
theorem aiE{X:Type}(o:Option (X⊕(ak×Int))):PtS o o:=.inl rfl
theorem aiF{X:Type}(n:ak)(c:Int)(h:c≠0):PtS (X:=X) none (some (.inr (n,c))):=.inr ⟨rfl,n,c,rfl,h⟩
theorem akS{X:Type}{q:Bool}{o p o' p':Option (X⊕(ak×Int))}(h:PtS o p)(a:PtS o' p'):PtS (bif q then o else o') (bif q then p else p'):=by cases q<;>assumption
theorem aiG{α X:Type}(x:Option α){f g:α->Option (X⊕(ak×Int))}(h:∀a,PtS (f a) (g a)):PtS (x.bind f) (x.bind g):=by
 cases x with
 | none=>exact .inl rfl
 | some a=>exact h a
theorem aoQ{X:Type}{o p:Option (ak×Int)}(h:Pt o p):PtS (X:=X) (o.bind fun r=>some (.inr r)) (p.bind fun r=>some (.inr r)):=by
 rcases h with rfl | ⟨rfl,n,c,rfl,a⟩
 ·exact .inl rfl
 ·exact .inr ⟨rfl,n,c,rfl,a⟩
theorem akV{X:Type}{f g:X->Option (X⊕(ak×Int))}(h:∀x,PtS (f x) (g x))(x:X):Pt (au f x) (au g x):=by
 cases d:au g x with
 | none=>
  left;cases i:au f x with
  | none=>rfl
  | some r=>
   obtain⟨n,a⟩:=nN i;have key:∀(n:Nat) (x:X) (r:ak×Int),iter f n x=some r->au g x=some r:=by
    intro n;induction n with
    | zero=>intro x r h;cases h
    | succ n ih=>
     intro x r a;unfold iter at a;rcases h x with e | ⟨e,_⟩
     ·rw[aH,<- e];cases b:f x with
      | none=>rw[b]at a;cases a
      | some y=>
       rw[b]at a;cases y with
       | inl y=>exact ih y r a
       | inr y=>exact a
     ·rw[e]at a;cases a
   rw[key n x r a]at d;cases d
 | some r=>
  obtain⟨n,a⟩:=nN d;have key:∀(n:Nat) (x:X) (r:ak×Int),iter g n x=some r->Pt (au f x) (some r):=by
   intro n;induction n with
   | zero=>intro x r h;cases h
   | succ n ih=>
    intro x r a;unfold iter at a;rcases h x with e | ⟨e,m,c,j,k⟩
    ·rw[aH,e];cases b:g x with
     | none=>rw[b]at a;cases a
     | some y=>
      rw[b]at a;cases y with
      | inl y=>exact ih y r a
      | inr y=>exact .inl a
    ·rw[j]at a;cases a
     rw[aH,e];exact .inr ⟨rfl,m,c,rfl,k⟩
  exact key n x r a
theorem adl(a:ak)(b c:Str)(d:Bool):Pt (nO a b c d) (pY a b c d):=by
 unfold nO pY;repeat' first
  | with_reducible exact akT _
  | with_reducible exact aiE _
  | exact akU _ _ (by decide)
  | exact aiF _ _ (by decide)
  | refine aoR ?_ ?_
  | refine akS ?_ ?_
  | refine akW _ fun _=>?_
  | refine aoQ ?_
  | refine aiG _ fun _=>?_
  | refine akV (fun _=>?_) _
theorem adm{cs:List ah}{b c:Str}{d:Bool}{r:ak×Int}(h:pY ⟨cs⟩ b c d=some r):(r.2=0->nO ⟨cs⟩ b c d=some r)/\(r.2≠0->nO ⟨cs⟩ b c d=none\/nO ⟨cs⟩ b c d=some r):=by
 rcases adl ⟨cs⟩ b c d with e | ⟨e,n,k,a,f⟩
 ·rw[e,h];exact⟨fun _=>rfl,fun _=>.inr rfl⟩
 ·rw[h]at a;cases a
  exact⟨fun g=>absurd g f,fun _=>.inl e⟩
theorem tZ{X ρ:Type}{g:X->Option (X⊕ρ)}(pk:List ah->Nat->X)(cs:List ah)(F:Nat->ah->ah)(R:ρ->Prop)
  (j:∀i c s,cs[i]?=some c->s[i]?=some c->s.length=cs.length->g (pk s i)=some (.inl (pk (s.set i (F i c)) (i+1))))
  (l:∀s,s.length=cs.length->(∀k,s[k]?=(cs[k]?).map (F k))->∃r,g (pk s cs.length)=some (.inr r)/\R r):∃r,au g (pk cs 0)=some r/\R r:=by
 refine dH pk cs (fun i s=>s.length=cs.length/\(∀k,k<i->s[k]?=(cs[k]?).map (F k))/\∀k,i<=k->s[k]?=cs[k]?) R (fun i c s a d=>.inl ?_) (fun s d=>?_) cs ⟨rfl,fun k b=>by omega,fun k _=>rfl⟩
 ·obtain⟨h1,h2,f⟩:=d;have hi:=(zC.1 a).1;have h:s[i]?=some c:=by rw[f i (aw _),a]
  refine⟨_,j i c s a h h1,by simp[h1],fun k b=>?_,fun k b=>?_⟩
  ·by_cases e:k=i
   ·subst e;rw[List.getElem?_set_self (by omega),a];rfl
   ·rw[List.getElem?_set_ne (by omega)];exact h2 k (by omega)
  ·rw[List.getElem?_set_ne (by omega)];exact f k (by omega)
 ·obtain⟨h1,h2,f⟩:=d;refine l s h1 fun k=>?_
  by_cases b:k<cs.length
  ·exact h2 k b
  ·rw[zJ (by omega),zJ (by omega)];rfl
theorem ZM{X ρ:Type}{g:X->Option (X⊕ρ)}(pk:List ah->Nat->X)(cs:List ah)(F:Nat->ah->ah)
  (f:∀i c s,cs[i]?=some c->s[i]?=some c->s.length=cs.length->g (pk s i)=some (.inl (pk (s.set i (F i c)) (i+1))))
  (h:∀s,s.length=cs.length->(∀k,s[k]?=(cs[k]?).map (F k))->g (pk s cs.length)=none):au g (pk cs 0)=none:=by
 have key:∀(m i:Nat) (s:List ah),cs.length=i+m->s.length=cs.length->(∀k,k<i->s[k]?=(cs[k]?).map (F k))->(∀k,i<=k->s[k]?=cs[k]?)->au g (pk s i)=none:=by
  intro m;induction m with
  | zero=>
   intro i s hi h1 h2 b;have:i=cs.length:=by omega
   subst this;rw[aH,h s h1 fun k=>?_];by_cases a:k<cs.length
   ·exact h2 k a
   ·rw[zJ (by omega),zJ (by omega)];rfl
  | succ m ih=>
   intro i s hi h1 h2 b;obtain⟨c,d⟩:∃c,cs[i]?=some c:=⟨_,zF (by omega)⟩;rw[aH,f i c s d (by rw[b i (aw _),d]) h1];refine ih (i+1) _ (by omega) (by simp[h1]) (fun k a=>?_) (fun k a=>?_)
   ·by_cases e:k=i
    ·subst e;rw[List.getElem?_set_self (by omega),d];rfl
    ·rw[List.getElem?_set_ne (by omega)];exact h2 k (by omega)
   ·rw[List.getElem?_set_ne (by omega)];exact b k (by omega)
 exact key cs.length 0 cs (by omega) rfl (fun k a=>by omega) fun k _=>rfl
def ig(x:ah):ah:=⟨x.id,1,x.kind,x.name,x.code,x.n⟩
def FT(y x:ah):ah:=⟨x.id,y.version,x.kind,x.name,x.code,x.n⟩
def rJ(cs o:List ah):List ah:=List.zipWith FT cs o
theorem aeu{cs o o':List ah}(h:o.map bare=o'.map bare):rJ cs o=rJ cs o':=by
 have e:∀o:List ah,rJ cs o=List.zipWith FT cs (o.map bare):=fun o=>by
  unfold rJ;rw[List.zipWith_map_right];rfl
 rw[e o,e o',h]
theorem Wv{cs o:List ah}(b:o.length<=cs.length)(k:Nat):(rJ cs o)[k]?=(o[k]?).map fun x=>FT ((cs[k]?).getD x) x:=by
 unfold rJ;rw[List.getElem?_zipWith];cases a:o[k]? with
 | none=>cases cs[k]?<;>rfl
 | some x=>
  have c:=(zC.1 a).1;rw[zF (show k<cs.length by omega)];rfl
noncomputable def kept(cs:List ah)(b c:Str):List ah:=rJ cs (vg (cs.map ig) b c false).1.cells
theorem VJ{cs:List ah}(h:∀x,x∈cs->wz x):∀x,x∈cs.map ig->wz x:=by
 intro x b;obtain⟨y,a,rfl⟩:=List.mem_map.1 b;exact⟨(h y a).1,(h y a).2⟩
theorem ak8{cs:List ah}:∀x,x∈cs.map ig->x.version=1:=by
 intro x a;obtain⟨y,b,rfl⟩:=List.mem_map.1 a;rfl
theorem alg(cs:List ah)(b c:Str)(u:cs.length<=1048576)(h:∀x,x∈cs->wz x)(H:b.length<=34359738368)(I:c.length<=34359738368) :
  ((vg (cs.map ig) b c false).2=0->kK ⟨cs⟩ b c=some (⟨kept cs b c⟩,true)/\pF ⟨cs⟩ b c=some (⟨kept cs b c⟩,true)) /\
  ((vg (cs.map ig) b c false).2≠0->kK ⟨cs⟩ b c=none/\oP ⟨cs⟩ b c=some (⟨cs⟩,false)/\∃z,pF ⟨cs⟩ b c=some (z,false)):=by
 have v:(cs.map ig).length<=1048576:=by simpa using u
 have J:=Yx (cs.map ig) b c false v (VJ h) H I;have M:=acK (cs.map ig) b c v (VJ h) H I;obtain⟨K,N⟩:=aiu (cs.map ig) b c ak8;have hlen1:=Qh (cs.map ig) b c false;have hlen2:=Qh (cs.map ig) b c true;rw[List.length_map]at hlen1 hlen2;have L:=adm J;have B:kept cs b c=rJ cs (vg (cs.map ig) b c true).1.cells:=(aeu N).symm;have C:kept cs b c=rJ cs (vg (cs.map ig) b c false).1.cells:=rfl;generalize vg (cs.map ig) b c false=P at *;generalize vg (cs.map ig) b c true=Q at *;have one:∀s:List ah,(∀k,s[k]?=(cs[k]?).map ig)->s=cs.map ig:=fun s m=>List.ext_getElem? fun k=>by rw[m k,List.getElem?_map]
 have bk:∀(o s:List ah),o.length<=cs.length->(∀k,s[k]?=(o[k]?).map fun x=>FT ((cs[k]?).getD x) x)->s=rJ cs o:=fun o s O m=>List.ext_getElem? fun k=>by rw[m k,Wv O]
 have A:∃r,pF ⟨cs⟩ b c=some r/\r=(⟨rJ cs Q.1.cells⟩,Q.2==0):=by
  unfold pF;rw[aio cs u,zA];refine tZ (fun (s:List ah) (i:Nat)=>((b,c,cs,[],s,(i:Int)):Str×Str×(List ah)×(List ah)×(List ah)×Int)) cs (fun _ x=>ig x) _ (fun i x s g d f=>?_) (fun s f m=>?_)
  ·simp only[bY d,ac,aA,d,az,zA,cZ d (by omega)];rfl
  ·have j:=one s m;subst j;simp only[<- f,bJ,aa,M,zA];suffices hh:∃r,au (fun (a:(List ah)×(List ah)×(List ah)×Int×Int)=>
     bif (decide (a.2.2.2.2<(a.2.2.1.length:Int)))then
      (idx a.1 a.2.2.2.2).bind fun D=>
      (idx a.2.2.1 a.2.2.2.2).bind fun _=>
      (a.2.2.1[a.2.2.2.2.toNat]?).bind fun p=>
      some (.inl (a.1,a.2.1,a.2.2.1.set a.2.2.2.2.toNat (ah.mk p.id D.version p.kind p.name p.code p.n),a.2.2.2.1,w64 (a.2.2.2.2+1)))
     else
      some (.inr (ak.mk a.2.2.1,(a.2.2.2.1==0)))) (cs,[],Q.1.cells,Q.2,0)=some r/\r=(⟨rJ cs Q.1.cells⟩,Q.2==0) by
    obtain⟨r,e,E⟩:=hh;exact⟨r,by rw[e];rfl,E⟩
   refine tZ (fun (s:List ah) (i:Nat)=>((cs,[],s,Q.2,(i:Int)):(List ah)×(List ah)×(List ah)×Int×Int)) Q.1.cells (fun k x=>FT ((cs[k]?).getD x) x) _ (fun i x s g d l=>?_) (fun s l t=>?_)
   ·have hi:=(zC.1 g).1;obtain⟨y,F⟩:∃y,cs[i]?=some y:=⟨_,zF (by omega)⟩;simp only[bY d,ac,aA,d,F,az,zA,cZ d (by omega)];rfl
   ·have:=bk _ s hlen2 t;subst this;simp only[<- l,bJ,aa];exact⟨_,rfl,rfl⟩
 obtain⟨rs,A,rfl⟩:=A;have R:P.2=0->∃r,kK ⟨cs⟩ b c=some r/\r=(⟨rJ cs P.1.cells⟩,true):=fun q=>by
  have G:=L.1 q;unfold kK;rw[YP cs u,zA];refine tZ (fun (s:List ah) (i:Nat)=>((b,c,cs,[],s,(cs.length:Int),(i:Int)):Str×Str×(List ah)×(List ah)×(List ah)×Int×Int)) cs (fun _ x=>ig x) _ (fun i x s g d f=>?_) (fun s f m=>?_)
  ·simp only[bY g,ac,aA,d,az,zA,cZ g (by omega)];rfl
  ·have j:=one s m;subst j;simp only[bJ,aa,G,zA,q,bne_self_eq_false];suffices hh:∃r,au (fun (a:(List ah)×(List ah)×(List ah)×Int×Int)=>
     bif (decide (a.2.2.2.2<a.2.2.2.1))then
      (idx a.1 a.2.2.2.2).bind fun D=>
      (idx a.2.2.1 a.2.2.2.2).bind fun _=>
      (a.2.2.1[a.2.2.2.2.toNat]?).bind fun p=>
      some (.inl (a.1,a.2.1,a.2.2.1.set a.2.2.2.2.toNat (ah.mk p.id D.version p.kind p.name p.code p.n),a.2.2.2.1,w64 (a.2.2.2.2+1)))
     else
      some (.inr (ak.mk a.2.2.1,true))) (cs,[],P.1.cells,(P.1.cells.length:Int),0)=some r/\r=(⟨rJ cs P.1.cells⟩,true) by
    obtain⟨r,e,E⟩:=hh;exact⟨r,by rw[e];rfl,E⟩
   refine tZ (fun (s:List ah) (i:Nat)=>((cs,[],s,(P.1.cells.length:Int),(i:Int)):(List ah)×(List ah)×(List ah)×Int×Int)) P.1.cells (fun k x=>FT ((cs[k]?).getD x) x) _ (fun i x s g d l=>?_) (fun s l t=>?_)
   ·have hi:=(zC.1 g).1;obtain⟨y,F⟩:∃y,cs[i]?=some y:=⟨_,zF (by omega)⟩;simp only[bY g,ac,aA,d,F,az,zA,cZ g (by omega)];rfl
   ·have:=bk _ s hlen1 t;subst this;simp only[bJ,aa];exact⟨_,rfl,rfl⟩
 refine⟨fun q=>?_,fun q=>?_⟩
 ·obtain⟨r,e,rfl⟩:=R q;refine⟨by rw[e,C],?_⟩;rw[A,B,K,q];rfl
 ·have w:(P.2 != 0)=true:=by simpa using q
  refine⟨?_,?_,⟨rJ cs Q.1.cells⟩,?_⟩
  ·unfold kK;rw[YP cs u,zA];refine ZM (fun (s:List ah) (i:Nat)=>((b,c,cs,[],s,(cs.length:Int),(i:Int)):Str×Str×(List ah)×(List ah)×(List ah)×Int×Int)) cs (fun _ x=>ig x) (fun i x s g d f=>?_) (fun s f m=>?_)
   ·simp only[bY g,ac,aA,d,az,zA,cZ g (by omega)];rfl
   ·have j:=one s m;subst j;rcases L.2 q with e | e
    ·simp only[bJ,aa,e,Option.bind_none]
    ·simp only[bJ,aa,e,zA,w,ac,Option.bind_none]
  ·suffices hh:∃r,oP ⟨cs⟩ b c=some r/\r=(⟨cs⟩,false) by
    obtain⟨r,e,rfl⟩:=hh;exact e
   unfold oP;rw[YP cs u,zA];refine tZ (fun (s:List ah) (i:Nat)=>((b,c,cs,[],s,(cs.length:Int),(i:Int)):Str×Str×(List ah)×(List ah)×(List ah)×Int×Int)) cs (fun _ x=>ig x) _ (fun i x s g d f=>?_) (fun s f m=>?_)
   ·simp only[bY g,ac,aA,d,az,zA,cZ g (by omega)];rfl
   ·have j:=one s m;subst j;simp only[bJ,aa,J,zA,w,ac];exact⟨_,rfl,rfl⟩
  ·rw[A,K];have:(P.2==0)=false:=by simpa using q
   rw[this]
end Go.Proofs.YtbbmkcioplbhbaaGreatDoor
