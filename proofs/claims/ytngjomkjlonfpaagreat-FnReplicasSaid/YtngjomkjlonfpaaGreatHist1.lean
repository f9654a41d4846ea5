import Derived.Test.YtngjomkjlonfpaaGreatPlain1
set_option linter.unusedSimpArgs false
set_option linter.unusedVariables false
/- Plain laws with marks: ChangedVersions, NewHistory, PathTo. Plain laws: one edit; both sides alike. Plain laws: batches of edits; ApplyBatch, IsNoChange. Plain laws with marks: PathTo, NewReplica. Plain laws with marks: SeenBy. Plain laws: inverse edits and batches, copies and steps of histories; both sides alike. Plain laws: UndoEdits, RedoEdits, DoEdits. Plain laws: GoTo. -/
namespace Go.Proofs.YtngjomkjlonfpaaGreat
open Go.Abs Go.Proofs
theorem QB{α σ ρ X:Type}{g:X->Option (X⊕ρ)}(pk:σ->Nat->X)(xs:List α)(f:σ->α->σ)(fin:σ->ρ)(I:Nat->σ->Prop)
  (d:∀i x s,xs[i]?=some x->I i s->I (i+1) (f s x))
  (e:∀i x s,xs[i]?=some x->I i s->g (pk s i)=some (.inl (pk (f s x) (i+1))))
  (h:∀s,I xs.length s->g (pk s xs.length)=some (.inr (fin s))) (s:σ) (j:I 0 s):aA g (pk s 0)=some (fin (xs.foldl f s))/\I xs.length (xs.foldl f s):=by
 have key:∀(n i:Nat) (s:σ),xs.length=i+n->I i s->aA g (pk s i)=some (fin ((xs.drop i).foldl f s))/\I xs.length ((xs.drop i).foldl f s):=by
  intro n;induction n with
  | zero=>
   intro i s hi a;rw[List.drop_eq_nil_of_le (by omega),aF];have:i=xs.length:=by omega
   subst this;rw[h s a];exact⟨rfl,a⟩
  | succ n ih=>
   intro i s hi a;have b:i<xs.length:=by omega
   have c:=zF b;rw[List.drop_eq_getElem_cons b,aF,e i xs[i] s c a];exact ih (i+1) (f s xs[i]) (by omega) (d i xs[i] s c a)
 simpa using key xs.length 0 s (by omega) j
theorem bD{n:Nat}(h:n<=34359738368):gd n=some ():=by unfold gd;rw[if_pos h]
theorem mD{α:Type}(p:α->Bool):∀(xs:List α) (i:Nat),dG p xs i = -1\/∃(n:Nat) (x:α),dG p xs i=((i+n:Nat):Int)/\xs[n]?=some x
 | [],i=>.inl rfl
 | y::ys,i=>by
  unfold dG;cases b:p y with
  | true=>exact .inr ⟨0,y,by simp,rfl⟩
  | false=>
   rcases mD p ys (i+1)with h | ⟨n,x,h,a⟩
   ·exact .inl (by simpa using h)
   ·refine .inr ⟨n+1,x,?_,by simpa using a⟩;have:i+1+n=i+(n+1):=by omega
    rw[<- this];simpa using h
theorem Va(a:ak)(h:(a.cells.length:Int)<=16777216):cu a=some a:=by
 unfold cu;rw[bD (by omega)];rfl
theorem copyS(a:ak)(h:(a.cells.length:Int)<=16777216):ji a=some a:=by
 unfold ji;rw[bD (by omega)];rfl
theorem wZ{α:Type}(xs:List α)(n:Nat)(h:n<=xs.length):eff.cutL xs none (some (n:Int))=some (xs.take n):=by
 unfold eff.cutL;simp only[Option.getD_none,Option.getD_some];rw[if_pos ⟨by omega,by omega,by omega⟩];simp
theorem uD{α:Type}(xs:List α)(n:Nat)(h:n<=xs.length):eff.cutL xs (some (n:Int)) none=some (xs.drop n):=by
 unfold eff.cutL;simp only[Option.getD_none,Option.getD_some];rw[if_pos ⟨by omega,by omega,by omega⟩];simp
theorem put_eq(a:List ah)(b:Int)(c:ah)(h:(a.length:Int)<=1048576):∃n:Nat,n<=a.length/\zM a b c=some (a.take n++[c]++a.drop n)/\Ez a b c=some (a.take n++[c]++a.drop n):=by
 obtain⟨n,d,e⟩:∃n:Nat,n<=a.length/\(if (if (a.length:Int)<b then (a.length:Int)else b)>0 then (if (a.length:Int)<b then (a.length:Int)else b)else 0)=(n:Int):=by
  refine⟨(if (if (a.length:Int)<b then (a.length:Int)else b)>0 then (if (a.length:Int)<b then (a.length:Int)else b)else 0).toNat,?_,?_⟩
  ·split<;>split<;>omega
  ·split<;>split<;>omega
 have k:JX b (a.length:Int)=some (if (a.length:Int)<b then (a.length:Int)else b):=by
  unfold JX;by_cases q:(a.length:Int)<b
  ·rw[if_pos q,ac (by omega),aa]
  ·rw[if_neg q];by_cases f:b<(a.length:Int)
   ·rw[ae f,ab]
   ·rw[ac f,aa];congr 1;omega
 have l:∀m:Int,pz 0 m=some (if m>0 then m else 0):=by
  intro m;unfold pz;by_cases q:m>0
  ·rw[if_pos q,ac (by omega),aa]
  ·rw[if_neg q];by_cases f:(0:Int)>m
   ·rw[ae f,ab]
   ·rw[ac f,aa];congr 1;omega
 have g:gd (0+(a.take n).length)=some ():=bD (by simp;omega);have i:gd (([]++a.take n).length+[c].length)=some ():=bD (by simp;omega);have j:gd ((([]++a.take n)++[c]).length+(a.drop n).length)=some ():=bD (by simp;omega);refine⟨n,d,?_,?_⟩
 ·unfold zM;simp only[k,l,e,zA,wZ a n d,uD a n d,g,i,j];rfl
 ·unfold Ez;simp only[e,zA,wZ a n d,uD a n d,g,i,j];rfl
theorem drop_eq(a:List ah)(n:Nat)(e:n<a.length)(h:(a.length:Int)<=1048576):yt a (n:Int)=some (a.take n++a.drop (n+1))/\Jf a (n:Int)=some (a.take n++a.drop (n+1)):=by
 have b:w64 ((n:Int)+1)=((n+1:Nat):Int):=by rw[bM (by omega) (by omega)];omega
 have c:gd (0+(a.take n).length)=some ():=bD (by simp;omega);have d:gd (([]++a.take n).length+(a.drop (n+1)).length)=some ():=bD (by simp;omega);constructor
 ·unfold yt;simp only[wZ a n (by omega),b,uD a (n+1) (by omega),zA,c,d];rfl
 ·unfold Jf;simp only[wZ a n (by omega),b,uD a (n+1) (by omega),zA,c,d];rfl
theorem EM{α:Type}{p:α->Nat->Bool}:∀ {xs:List α} {i:Nat},iW p xs i=true->∀(k:Nat) (x:α),xs[k]?=some x->p x (i+k)=true
 | [],i,_,k,x,h=>by simp at h
 | y::ys,i,h,k,x,a=>by
  unfold iW at h;rw[zI]at h;cases k with
  | zero=>simp at a;subst a;exact h.1
  | succ k=>
   have:=EM h.2 k x (by simpa using a);rw[show i+(k+1)=i+1+k by omega];exact this
theorem Jw{c:ah}(h:iM c=true):1<=c.version/\c.version<=999:=by
 unfold iM cZ at h;rw[fG,fG]at h;simp only[zA]at h;by_cases a:(decide (1<=c.id)&&decide (c.id<=999))=true
 ·rw[a]at h;simp only[aE,aa]at h;by_cases b:(decide (1<=c.version)&&decide (c.version<=999))=true
  ·simpa using b
  ·have q2':(decide (1<=c.version)&&decide (c.version<=999))=false:=by simpa using b
   rw[q2']at h;simp at h
 ·have q1':(decide (1<=c.id)&&decide (c.id<=999))=false:=by simpa using a
  rw[q1']at h;simp at h
theorem LC{n:ak}(j:Fit B20 (.base .notebook) n)(f:eU n=some true):(n.cells.length:Int)<=8/\∀(k:Nat) (x:ah),n.cells[k]?=some x->1<=x.version/\x.version<=999:=by
 rw[gU]at j;have h:n.cells.length<lim/\∀x∈n.cells,Fit B20 (.base .cell) x:=⟨fD (dA j),j.aZ⟩;have e:eU n=some (iW (fun c i=>iM c&&!(dG (fun d=>d.id==c.id) n.cells 0 != (i:Int))) n.cells 0&&decide ((n.cells.length:Int)<=8)):=by
  refine o9 (fun i=>((n.cells,(i:Int)):List ah×Int)) n.cells _ _ (fun i x g=>?_) ?_
  ·obtain⟨a,rfl⟩:=zC.1 g;obtain⟨b,o,l⟩:=iY _ (h.2 _ (List.getElem_mem a));have m:iM n.cells[i]=b:=by unfold iM;rw[l];rfl
   simp only[dN a,ab,au,g,zA,eu a h.1,l,m,jP ⟨n.cells⟩ _ h.1];cases b<;>cases (dG (fun d=>d.id==n.cells[i].id) n.cells 0 != (i:Int))<;>rfl
  ·simp only[aV,aa]
 rw[e]at f;simp only[zD,zI,decide_eq_true_eq]at f;refine⟨f.2,fun k x g=>?_⟩;have:=EM f.1 k x g;simp only[zI]at this;exact Jw this.1
theorem ab1{cs:List ah}(a:(cs.length:Int)<=1048576)(h:∀x,x∈cs->Fit B20 (.base .cell) x):Fit B20 (.base .notebook) (ak.mk cs):=by
 rw[gU];exact dY a h
theorem JD(a:ak)(b:dM)(d:Fit B20 (.base .notebook) a)(O:Fit B20 (.base .edit) b) :
  ∃w n,jk a b=some (w,n)/\Az a b=some (w,n)/\Fit B20 (.base .notebook) w:=by
 obtain⟨v,B,i⟩:=mG a d;have fa:=d;rw[gU]at fa;have C:=dA fa;have j:a.cells.length<lim:=fD C;have e:=fa.aZ;have fb:=O;rw[vN]at fb;have hcell:=fb.2.2;have fc:=hcell;rw[fM]at fc;have cI:=Va a (by omega);have cS:=copyS a (by omega);unfold jk Az;rw[B,i,cI,cS];simp only[zA];cases v with
 | false=>exact⟨a,1,rfl,rfl,d⟩
 | true=>
 obtain⟨I,hver⟩:=LC d i;simp only[aE,aa,fG,vH,zA];cases P:(decide (1<=b.kind)&&decide (b.kind<=6))with
 | false=>exact⟨a,1,rfl,rfl,d⟩
 | true=>
 simp only[aE,aa];unfold adO;simp only[jP a _ j,xO a _ j,zA];simp only[zI,decide_eq_true_eq]at P;obtain⟨vc,k,l⟩:=iY b.cell hcell;have insFit:∀(xs:List ah) (n:Nat) (c:ah),n<=xs.length->(xs.length:Int)<=8->(∀x,x∈xs->Fit B20 (.base .cell) x)->Fit B20 (.base .cell) c->Fit B20 (.base .notebook) (ak.mk (xs.take n++[c]++xs.drop n)):=by
  intro xs n c u I g D;refine ab1 (by simp;omega) fun x h=>?_
  simp only[List.mem_append,List.mem_singleton]at h;rcases h with (h | h) | h
  ·exact g x (List.mem_of_mem_take h)
  ·subst h;exact D
  ·exact g x (List.mem_of_mem_drop h)
 by_cases J:b.kind=1
 ·simp only[J,beq_self_eq_true,ab,k,l,zA];cases vc with
  | false=>exact⟨a,1,rfl,by simp only[Bool.not_false,ab,zA,cI],d⟩
  | true=>
   simp only[aE,aa];cases z:decide (dG (fun c=>c.id==b.cell.id) a.cells 0>=0)with
   | true=>exact⟨a,3,rfl,by simp only[ab,zA,cI],d⟩
   | false=>
    simp only[aa];by_cases o:(a.cells.length:Int)=8
    ·simp only[o,beq_self_eq_true,ab,show decide ((8:Int)>=8)=true from rfl,zA,cI];exact⟨a,4,rfl,rfl,d⟩
    ·have Q:((a.cells.length:Int)==8)=false:=by simpa using o
     have R:decide ((a.cells.length:Int)>=8)=false:=ac (by omega);obtain⟨n,u,E,F⟩:=put_eq a.cells b.pos b.cell C;simp only[Q,R,aa,E,F,zA];have A:=insFit a.cells n b.cell u I e hcell;have cI2:=Va (ak.mk (a.cells.take n++[b.cell]++a.cells.drop n)) (by simp;omega);rw[cI2];exact⟨_,0,rfl,rfl,A⟩
 ·have k1':(b.kind==1)=false:=by simpa using J
  simp only[k1',aa];rcases mD (fun c:ah=>c.id==b.cell.id) a.cells 0 with z | ⟨n,x,z,g⟩
  ·rw[z];exact⟨a,2,rfl,by simp only[show decide ((-1:Int)<0)=true from rfl,ab,zA,cI],d⟩
  ·rw[z,Nat.zero_add];have u:n<a.cells.length:=(zC.1 g).1;have p:=e x (zG g);have fx:=p;rw[fM]at fx;have U:=hver n x g;simp only[ac (show ¬((n:Nat):Int)<0 by omega),aa,au,g,zA,aw];obtain⟨K,L⟩:=drop_eq a.cells n u C;have dropm:∀y,y∈a.cells.take n++a.cells.drop (n+1)->Fit B20 (.base .cell) y:=fun y f=>by
    rcases List.mem_append.1 f with f | f
    ·exact e y (List.mem_of_mem_take f)
    ·exact e y (List.mem_of_mem_drop f)
   have dropl:((a.cells.take n++a.cells.drop (n+1)).length:Int)<=8:=by simp;omega
   by_cases M:b.kind=2
   ·have G:=Va (ak.mk (a.cells.take n++a.cells.drop (n+1))) (by show ((a.cells.take n++a.cells.drop (n+1)).length:Int)<=_;omega);simp only[M,beq_self_eq_true,ab,K,L,zA,G];exact⟨_,0,rfl,rfl,ab1 (by omega) dropm⟩
   have k2':(b.kind==2)=false:=by simpa using M
   by_cases N:b.kind=3
   ·obtain⟨m,h,E,F⟩:=put_eq (a.cells.take n++a.cells.drop (n+1)) b.pos x (by omega);have A:=insFit _ m x h dropl dropm p;have fl:((ak.mk ((a.cells.take n++a.cells.drop (n+1)).take m++[x]++(a.cells.take n++a.cells.drop (n+1)).drop m)).cells.length:Int)<=1048576:=by
     have:=A;rw[gU]at this;exact dA this
    have G:=Va _ (show _<=(16777216:Int)from Int.le_trans fl (by omega));simp only[N,k2',beq_self_eq_true,ab,aa,show ((3:Int)==2)=false from rfl,K,L,E,F,zA,G];exact⟨_,0,rfl,rfl,A⟩
   have k3':(b.kind==3)=false:=by simpa using N
   have setFit:∀c:ah,Fit B20 (.base .cell) c->Fit B20 (.base .notebook) (ak.mk (a.cells.set n c)):=fun c D=>ab1 (by simp;omega) fun y f=>by
    rcases List.mem_or_eq_of_mem_set f with f | f
    ·exact e y f
    ·subst f;exact D
   have setCopy:∀c:ah,cu (ak.mk (a.cells.set n c))=some (ak.mk (a.cells.set n c)):=fun c=>Va _ (by simp;omega)
   have wfv:(Lit.int .i64 (w64 (x.version+1))).wf=true:=by
    rw[bM (by omega) (by omega)];unfold Lit.wf;simp[IntKind.wrap,IntKind.bits,IntKind.signed,IntKind.min,IntKind.max];omega
   simp only[k2',k3',aa];have h999:(x.version==999)=decide (x.version>=999):=by
    by_cases q:x.version=999
    ·rw[q];rfl
    ·rw[ac (by omega)];simpa using q
   unfold uS;by_cases H:b.kind=5
   ·have fcell:Fit B20 (.base .cell) (ah.mk x.id x.version x.kind x.name x.code b.cell.n):=by
     rw[fM];exact⟨fx.1,fx.2.1,fx.2.2.1,fx.2.2.2.1,fx.2.2.2.2.1,fc.2.2.2.2.2⟩
    obtain⟨q,r,s⟩:=iY _ fcell;simp only[H,beq_self_eq_true,Gw,show ((5:Int)==4)=false from rfl,ab,aa,r,s,zA];cases t:(x.kind != 3)with
    | true=>exact⟨a,5,rfl,by simp only[ab,zA,cI],d⟩
    | false=>
     simp only[aa];cases q with
     | false=>exact⟨a,1,rfl,by simp only[Bool.not_false,ab,zA,cI],d⟩
     | true=>exact⟨_,0,rfl,by simp only[aE,aa,zA,cI,au,g,aw,setCopy],setFit _ fcell⟩
   have k5':(b.kind==5)=false:=by simpa using H
   have k5n:(b.kind != 5)=true:=by simpa using H
   by_cases k4:b.kind=4
   ·have fcell:Fit B20 (.base .cell) (ah.mk x.id (w64 (x.version+1)) x.kind b.cell.name b.cell.code x.n):=by
     rw[fM];exact⟨fx.1,.int .i64 _ wfv,fx.2.2.1,fc.2.2.2.1,fc.2.2.2.2.1,fx.2.2.2.2.2⟩
    obtain⟨q,r,s⟩:=iY _ fcell;simp only[k4,k5',beq_self_eq_true,show ((4:Int)==5)=false from rfl,show ((4:Int)==6)=false from rfl,show ((4:Int) != 5)=true from rfl,ab,aa,r,s,zA,h999];cases t:(x.kind==3)with
    | true=>exact⟨a,5,rfl,by simp only[ab,zA,cI],d⟩
    | false=>
     simp only[aa];cases S:decide (x.version>=999)with
     | true=>exact⟨a,6,rfl,by simp only[ab,zA,cI],d⟩
     | false=>
      simp only[aa];cases q with
      | false=>exact⟨a,1,rfl,by simp only[Bool.not_false,ab,zA,cI],d⟩
      | true=>exact⟨_,0,rfl,by simp only[aE,aa,zA,cI,au,g,aw,setCopy],setFit _ fcell⟩
   have k4':(b.kind==4)=false:=by simpa using k4
   have T:b.kind=6:=by omega
   have fcell:Fit B20 (.base .cell) (ah.mk x.id (w64 (x.version+1)) x.kind x.name x.code x.n):=by
    rw[fM];exact⟨fx.1,.int .i64 _ wfv,fx.2.2.1,fx.2.2.2.1,fx.2.2.2.2.1,fx.2.2.2.2.2⟩
   obtain⟨q,r,s⟩:=iY _ fcell;simp only[T,k5',k4',beq_self_eq_true,show ((6:Int)==4)=false from rfl,show ((6:Int)==5)=false from rfl,show ((6:Int) != 5)=true from rfl,ab,aa,r,s,zA,h999];cases t:(x.kind != 2)with
   | true=>exact⟨a,5,rfl,by simp only[ab,zA,cI],d⟩
   | false=>
    simp only[aa];cases S:decide (x.version>=999)with
    | true=>exact⟨a,6,rfl,by simp only[ab,zA,cI],d⟩
    | false=>
     simp only[aa];cases q with
     | false=>exact⟨a,1,rfl,by simp only[Bool.not_false,ab,zA,cI],d⟩
     | true=>exact⟨_,0,rfl,by simp only[aE,aa,zA,cI,au,g,aw,setCopy],setFit _ fcell⟩
theorem Xe{a:ak}(h:Fit B20 (.base .notebook) a):(a.cells.length:Int)<=1048576:=by
 rw[gU]at h;exact dA h
def afT(c:ah):ah:=ah.mk c.id 0 c.kind c.name c.code c.n
theorem X6(a:aB)(h:a.ops.length<lim):∃w,N8 a=some w/\(w.length:Int)<=3/\∀x∈w,x=0\/∃n,x=w64 n:=by
 obtain⟨v0,e,f⟩:=sW a.ops 0 h;obtain⟨b,g,i⟩:=sW a.ops 1 h;obtain⟨c,j,k⟩:=sW a.ops 2 h;have l:gd (([]:List Int).length+[v0].length)=some ():=bD (by simp);have m:gd (([]++[v0]:List Int).length+[b].length)=some ():=bD (by simp);have o:gd (([]++[v0]++[b]:List Int).length+[c].length)=some ():=bD (by simp);have w1:w64 (0+1)=1:=by decide
 have p:w64 (1+1)=2:=by decide
 have q:w64 (2+1)=3:=by decide
 refine⟨[]++[v0]++[b]++[c],?_,by simp,fun x d=>by
  simp at d;rcases d with rfl | rfl | rfl
  ·exact f
  ·exact i
  ·exact k⟩
 ·unfold N8;rw[aF];simp only[show decide ((0:Int)<3)=true from rfl,ab,e,l,w1,zA];rw[aF];simp only[show decide ((1:Int)<3)=true from rfl,ab,g,m,p,zA];rw[aF];simp only[show decide ((2:Int)<3)=true from rfl,ab,j,o,q,zA];rw[aF];simp only[show decide ((3:Int)<3)=false from rfl,aa]
theorem RP{a:ak}{b:dM}{w:ak}(j:Fit B20 (.base .notebook) a)(h:jk a b=some (w,0)) :
  (1<=b.kind/\b.kind<=6)/\(b.kind≠1->∃(m:Nat) (x:ah),dG (fun c=>c.id==b.cell.id) a.cells 0=(m:Int)/\a.cells[m]?=some x):=by
 obtain⟨v,k,e⟩:=mG a j;have l:=Xe j;have f:a.cells.length<lim:=fD l;unfold jk at h;rw[e,copyS a (by omega)]at h;simp only[zA,fG,jP a _ f]at h;cases v with
 | false=>simp at h
 | true=>
  simp only[aE,aa]at h;cases d:(decide (1<=b.kind)&&decide (b.kind<=6))with
  | false=>rw[d]at h;simp at h
  | true=>
   rw[d]at h;simp only[zI,decide_eq_true_eq]at d;refine⟨d,fun g=>?_⟩;have k1':(b.kind==1)=false:=by simpa using g
   simp only[aE,aa,k1']at h;rcases mD (fun c:ah=>c.id==b.cell.id) a.cells 0 with i | ⟨n,x,i,o⟩
   ·rw[i]at h;simp at h
   ·exact⟨n,x,by rw[i,Nat.zero_add],o⟩
theorem ahx{n:Int}(h:(Lit.int .i64 n).wf=true):aX B20 (.int .i64 n):=.int .i64 _ h
theorem Ou{n:Int}(a:-1000000000<=n)(b:n<=1000000000):(Lit.int .i64 n).wf=true:=by
 unfold Lit.wf;simp[IntKind.bits,IntKind.signed,IntKind.min,IntKind.max];omega
theorem abZ:aX B20 (.str []):=Ad (by simp)
end Go.Proofs.YtngjomkjlonfpaaGreat
/- Plain laws: copies of values, reads, operations and replicas are the same. Plain laws: MissingOps, AddOp. -/
namespace Go.Proofs.YtngjomkjlonfpaaGreat
open Go.Abs Go.Proofs
theorem take_snoc{α:Type}{xs:List α}{i:Nat}{x:α}(h:xs[i]?=some x):xs.take (i+1)=xs.take i++[x]:=by
 obtain⟨hi,rfl⟩:=zC.1 h;exact List.take_succ_eq_append_getElem hi
theorem qX{α X ρ:Type}{g:X->Option (X⊕ρ)}(pk:List α->Nat->X)(xs:List α)(fin:Option ρ)
  (c:∀i x,xs[i]?=some x->(xs.take i).length=i->g (pk (xs.take i) i)=some (.inl (pk (xs.take i++[x]) (i+1))))
  (d:g (pk xs xs.length)=fin.bind fun r=>some (.inr r)):aA g (pk [] 0)=fin:=by
 have key:∀(n i:Nat),xs.length=i+n->aA g (pk (xs.take i) i)=fin:=by
  intro n;induction n with
  | zero=>
   intro i hi;have:i=xs.length:=by omega
   subst this;rw[aF,List.take_length,d];cases fin<;>rfl
  | succ n ih=>
   intro i hi;have a:i<xs.length:=by omega
   have b:=zF a;rw[aF,c i _ b (by simp;omega)];simp only;rw[<- take_snoc b];exact ih (i+1) (by omega)
 exact key xs.length 0 (by omega)
theorem gd1{α:Type}{s:List α}{i n:Nat}{x:α}(h:s.length=i)(hi:i<n)(a:(n:Int)<=1048576):gd (s.length+[x].length)=some ():=bD (by simp;omega)
theorem ZA(x:dh)(h:Fit B20 (.base .row) x):yU x=some x:=by
 rw[Xz]at h;have:=dA h.1;have:=dA h.2;unfold yU;rw[bD (by omega),zA,bD (by omega)];rfl
theorem aew(x:dh)(h:Fit B20 (.base .row) x):JW x=some x:=by
 rw[Xz]at h;have:=dA h.1;have:=dA h.2;unfold JW;rw[bD (by omega),zA,bD (by omega)];rfl
theorem Du:∀n,(∀v:aS,siz v<n->Fit B20 (.base .val) v->(dQ n).1 v=some v)/\(∀xs:List aS,siz xs<n->aX B20 (.list (.base .val) xs)->(dQ n).2 xs=some xs)
 | 0=>⟨fun v h=>absurd h (Nat.not_lt_zero _),fun v h=>absurd h (Nat.not_lt_zero _)⟩
 | n+1=>by
  have ih:=Du n;refine⟨fun x e h=>?_,fun xs e h=>?_⟩
  ·rw[Oj]at h;obtain⟨j,k,m,o,f,g,c⟩:=h;have p:=dA g;have d:=dA c;show rY (dQ n).1 (dQ n).2 x=some x
   unfold rY;rw[ih.2 x.list (by have:=OT (v:=x);omega) f,zA,bD (by omega),zA];refine qX (fun (s:List dh) (i:Nat)=>((0,0,0,[],[],[],[],x.kind,x.n,x.step,x.text,x.list,[]++x.columns,s,x.rows,(x.rows.length:Int),(i:Int)):Int×Int×Int×Str×(List aS)×(List Str)×(List dh)×Int×Int×Int×Str×(List aS)×(List Str)×(List dh)×(List dh)×Int×Int))
    x.rows (some x) (fun i y a b=>?_) ?_
   ·have hi:=(zC.1 a).1;simp only[dec_lt a,ab,au,a,zA,ZA y (c.aZ y (zG a)),gd1 b hi d,dX a (fD d)]
   ·simp only[Int.lt_irrefl,decide_false,aa];cases x;rfl
  ·have l:=dA h;show pM (dQ n).1 (dQ n).2 xs=some xs
   unfold pM;refine qX (fun (s:List aS) (i:Nat)=>((s,xs,(xs.length:Int),(i:Int)):(List aS)×(List aS)×Int×Int)) xs (some xs) (fun i y a b=>?_) ?_
   ·have hi:=(zC.1 a).1;simp only[dec_lt a,ab,au,a,kZ,zA,ih.1 y (by have:=VP (zG a);omega) (h.aZ y (zG a)),gd1 b hi l,dX a (fD l)]
   ·simp only[Int.lt_irrefl,decide_false,aa];rfl
theorem Ff(x:aS)(h:Fit B20 (.base .val) x):oD x=some x:=(Du (siz x+1)).1 x (Nat.lt_succ_self _) h
theorem LQ:∀n,∀v:aS,siz v<n->Fit B20 (.base .val) v->yj n v=some v
 | 0=>fun v h=>absurd h (Nat.not_lt_zero _)
 | n+1=>by
  have ih:=LQ n;intro x j h;rw[Oj]at h;obtain⟨k,l,m,p,c,g,d⟩:=h;have e:=dA c;have q:=dA g;have f:=dA d;show Cb (yj n) x=some x
  unfold Cb;rw[bD (by omega),zA];refine qX (fun (s:List aS) (i:Nat)=>((x.kind,x.n,x.step,x.text,x.list,x.columns,x.rows,0,0,0,[],[],[],[],x.kind,x.n,x.step,x.text,s,[]++x.columns,[],(i:Int)):Int×Int×Int×Str×(List aS)×(List Str)×(List dh)×Int×Int×Int×Str×(List aS)×(List Str)×(List dh)×Int×Int×Int×Str×(List aS)×(List Str)×(List dh)×Int))
   x.list (some x) (fun i y a b=>?_) ?_
  ·have hi:=(zC.1 a).1;simp only[dec_lt a,ab,au,a,kZ,zA,ih y (by have:=VP (zG a);have:=OT (v:=x);omega) (c.aZ y (zG a)),gd1 b hi e,dX a (fD e)]
  ·simp only[Int.lt_irrefl,decide_false,aa];refine congrArg (fun o=>Option.bind o _) (qX (fun (s:List dh) (i:Nat)=>((x.kind,x.n,x.step,x.text,x.list,x.columns,x.rows,0,0,0,[],[],[],[],x.kind,x.n,x.step,x.text,x.list,[]++x.columns,s,(i:Int)):Int×Int×Int×Str×(List aS)×(List Str)×(List dh)×Int×Int×Int×Str×(List aS)×(List Str)×(List dh)×Int×Int×Int×Str×(List aS)×(List Str)×(List dh)×Int))
    x.rows (some x) (fun i y a b=>?_) ?_)
   ·have hi:=(zC.1 a).1;simp only[dec_lt a,ab,au,a,zA,aew y (d.aZ y (zG a)),gd1 b hi f,dX a (fD f)]
   ·simp only[Int.lt_irrefl,decide_false,aa];cases x;rfl
theorem O6(x:aS)(h:Fit B20 (.base .val) x):D6 x=some x:=LQ (siz x+1) x (Nat.lt_succ_self _) h
theorem qU(xs:List aN)(h:aX B20 (.list (.base .read) xs)):oG xs=some xs:=by
 have l:=dA h;unfold oG;refine qX (fun (s:List aN) (i:Nat)=>((s,xs,(xs.length:Int),(i:Int)):(List aN)×(List aN)×Int×Int)) xs (some xs) (fun i y a b=>?_) ?_
 ·have hi:=(zC.1 a).1;have f:=h.aZ y (zG a);rw[yX]at f;simp only[dec_lt a,ab,au,a,kZ,zA,Ff y.result f.2.2.2.2,gd1 b hi l,dX a (fD l)]
 ·simp only[Int.lt_irrefl,decide_false,aa];rfl
theorem LW(x:aN)(h:Fit B20 (.base .read) x):Cj x=some x:=by
 rw[yX]at h;unfold Cj;rw[kZ,O6 _ h.2.2.2.2,zA,kZ]
theorem zN(xs:List aN)(h:aX B20 (.list (.base .read) xs)):ug xs=some xs:=by
 have l:=dA h;unfold ug;refine qX (fun (s:List aN) (i:Nat)=>((xs,s,(i:Int)):(List aN)×(List aN)×Int)) xs (some xs) (fun i y a b=>?_) ?_
 ·have hi:=(zC.1 a).1;simp only[dec_lt a,ab,au,a,ul,zA,LW y (h.aZ y (zG a)),gd1 b hi l,dX a (fD l)]
 ·simp only[Int.lt_irrefl,decide_false,aa];rfl
theorem Ar(x:GOp)(h:Fit B20 (.base .op) x):pR x=some x:=by
 rw[xP]at h;obtain⟨c,d,e,a,f,g,i,j,k,b⟩:=h;have:=dA a;unfold pR;rw[bD (by omega),zA,qU _ b];rfl
theorem rJ(x:GOp)(h:Fit B20 (.base .op) x):kW x=some x:=by
 rw[xP]at h;obtain⟨c,d,e,a,f,g,i,j,k,b⟩:=h;have:=dA a;unfold kW;rw[bD (by omega),zA,zN _ b];rfl
theorem Nh(xs:List GOp)(h:aX B20 (.list (.base .op) xs)):Dv xs=some xs:=by
 have l:=dA h;unfold Dv;refine qX (fun (s:List GOp) (i:Nat)=>((s,xs,(xs.length:Int),(i:Int)):(List GOp)×(List GOp)×Int×Int)) xs (some xs) (fun i y a b=>?_) ?_
 ·have hi:=(zC.1 a).1;simp only[dec_lt a,ab,au,a,zA,Ar y (h.aZ y (zG a)),gd1 b hi l,dX a (fD l)]
 ·simp only[Int.lt_irrefl,decide_false,aa];rfl
theorem O1(xs:List GOp)(h:aX B20 (.list (.base .op) xs)):Ht xs=some xs:=by
 have l:=dA h;unfold Ht;refine qX (fun (s:List GOp) (i:Nat)=>((xs,s,(i:Int)):(List GOp)×(List GOp)×Int)) xs (some xs) (fun i y a b=>?_) ?_
 ·have hi:=(zC.1 a).1;simp only[dec_lt a,ab,au,a,zA,rJ y (h.aZ y (zG a)),gd1 b hi l,dX a (fD l)]
 ·simp only[Int.lt_irrefl,decide_false,aa];rfl
theorem NR(x:aB)(h:Fit B20 (.base .replica) x):mZ x=some x:=by
 rw[dF]at h;unfold mZ;rw[Nh _ h.2];rfl
theorem BU(x:aB)(h:Fit B20 (.base .replica) x):pq x=some x:=by
 rw[dF]at h;unfold pq;rw[O1 _ h.2];rfl
theorem aiG{α:Type}(f:α->Nat){xs ys:List α}(h:xs.Sublist ys):(xs.map f).sum<=(ys.map f).sum:=by
 induction h with
 | slnil=>exact ar _
 | cons x _ ih=>simp only[List.map_cons,List.sum_cons];omega
 | cons_cons x _ ih=>simp only[List.map_cons,List.sum_cons];omega
theorem aau(n:Int):(Lit.int .i64 (w64 n)).wf=true:=by
 unfold Lit.wf w64;simp[IntKind.wrap,IntKind.bits,IntKind.signed,IntKind.min,IntKind.max];omega
theorem JG(a:aB)(h:Fit B20 (.base .replica) a):∃v,dU a=some v/\gY a=some v/\(v=true->(a.ops.length:Int)<=60):=by
 rw[dF]at h;obtain⟨v,b,c,d⟩:=VA a.ops h.2;unfold dU gY;simp only[fG,vH,zA,b,c];cases (decide (0<=a.id)&&decide (a.id<=2))
 ·exact⟨_,rfl,rfl,fun h=>by cases h⟩
 ·exact⟨_,rfl,rfl,d⟩
end Go.Proofs.YtngjomkjlonfpaaGreat
/- Plain laws: expressions of the reference: sizes, validity, text; every function is total. Plain laws: the text of numbers and of expressions of the reference: total, and short. -/
namespace Go.Proofs.YtngjomkjlonfpaaGreat
open Go.Abs Go.Proofs
theorem ZV{α:Type}(xs:List α)(i:Nat)(h:i<=xs.length):cutAt xs (i:Int)=some i:=by
 unfold cutAt;rw[if_pos ⟨by omega,by omega⟩,aw]
theorem Uw{e:af}:siz e.args<siz e:=by
 cases e;simp only[siz];rw[af.mk.sizeOf_spec];omega
theorem XZ{x:af}{xs:List af}(h:x∈xs):siz x+1<=siz xs:=by
 have:=List.sizeOf_lt_of_mem h;simp only[siz];omega
theorem kV{x e:af}(h:x∈e.args):siz x+2<=siz e:=by
 have:=XZ h;have:=Uw (e:=e);omega
theorem adT{l:List af}(h:aX B20 (.list (.base .expr) l)){x:af}(a:x∈l):aX B20 (.list (.base .expr) x.args)/\(x.text.length:Int)<=1048576:=by
 have:=h.aZ x a;rw[Jq]at this;exact⟨this.2.2.2,AZ this.2.2.1⟩
theorem jD{α X ρ σ:Type}{g:X->Option (X⊕ρ)}(pk:σ->Nat->X)(xs:List α)(I:Nat->σ->Prop)(R:ρ->Prop)
  (f:∀i x s,xs[i]?=some x->I i s->(∃s',g (pk s i)=some (.inl (pk s' (i+1)))/\I (i+1) s')\/∃r,g (pk s i)=some (.inr r)/\R r)
  (h:∀s,I xs.length s->∃r,g (pk s xs.length)=some (.inr r)/\R r) (s:σ) (j:I 0 s):∃r,aA g (pk s 0)=some r/\R r:=by
 have key:∀(k i:Nat) (s:σ),xs.length=i+k->I i s->∃r,aA g (pk s i)=some r/\R r:=by
  intro k;induction k with
  | zero=>
   intro i s hi b;have:i=xs.length:=by omega
   subst this;obtain⟨r,e,a⟩:=h s b;exact⟨r,by rw[aF,e],a⟩
  | succ k ih=>
   intro i s hi b;have c:i<xs.length:=by omega
   rcases f i _ s (zF c) b with ⟨s',e,d⟩ | ⟨r,e,a⟩
   ·obtain⟨r,e',a⟩:=ih (i+1) s' (by omega) d;exact⟨r,by rw[aF,e];exact e',a⟩
   ·exact⟨r,by rw[aF,e],a⟩
 exact key xs.length 0 s (by omega) j
theorem ahQ(x:af):af.mk x.kind x.n x.text x.args=x:=by cases x;rfl
theorem OM{α:Type}(f:α->Nat){xs:List α}{i:Nat}{x:α}(h:xs[i]?=some x):((xs.take (i+1)).map f).sum=((xs.take i).map f).sum+f x:=by
 obtain⟨hi,rfl⟩:=zC.1 h;rw[List.take_succ_eq_append_getElem hi,List.map_append,List.sum_append];simp
theorem aeD(a b:Int):∃r,pz a b=some r:=by
 unfold pz;cases decide (a>b)<;>exact⟨_,rfl⟩
theorem Ib:∀(n:Nat) (e:af) (b:Int),siz e<n->aX B20 (.list (.base .expr) e.args)->0<=b->b<=1048576 ->
  ∃r,qx n e b=some r/\-1<=r/\r<=b-1/\(0<=r->3*r+(eH e:Int)<=3*b)
 | 0,e,b,h,_,_,_=>absurd h (Nat.not_lt_zero _)
 | n+1,e,b,u,k,v,w=>by
  have ih:=Ib n;have m:=fD (dA k);show ∃r,yB (qx n) e b=some r/\_
  unfold yB;rw[bM (n:=b-1) (by omega) (by omega)];refine jD (fun (s:Int) (i:Nat)=>((s,e.kind,e.n,e.text,e.args,(i:Int)):Int×Int×Int×Str×(List af)×Int)) e.args
   (fun i s=>-1<=s/\s<=b-1/\(0<=s->3*s+3+(((e.args.take i).map eH).sum:Int)<=3*b)) _ (fun i x s a d=>?_) (fun s d=>?_) (b-1) ⟨by omega,by omega,fun _=>by simp;omega⟩
  ·obtain⟨f,g,j⟩:=d;have l:=zG a;by_cases c:s>=0
   ·obtain⟨r,o,p,y,q⟩:=ih x s (by have:=kV l;omega) (adT k l).1 c (by omega);refine .inl ⟨r,?_,p,by omega,fun t=>?_⟩
    ·simp only[dec_lt a,ab,ae c,au,a,zA,aP,o,dX a m]
    ·have:=j c;have:=q t;rw[OM eH a];omega
   ·refine .inr ⟨s,?_,f,g,fun h=>absurd h c⟩;simp only[dec_lt a,ab,ac c,aa]
  ·obtain⟨f,g,j⟩:=d;refine⟨s,by simp only[aV,aa],f,g,fun h=>?_⟩;have:=j h;rw[List.take_length]at this;rw[DL,jH];omega
theorem YA(e:af)(b:Int)(a:aX B20 (.list (.base .expr) e.args))(c:0<=b)(d:b<=1048576) :
  ∃r,Ic e b=some r/\-1<=r/\r<=b-1/\(0<=r->3*r+(eH e:Int)<=3*b):=Ib _ e b (Nat.lt_succ_self _) a c d
theorem BQ:∀(n:Nat) (e:af),siz e<n->aX B20 (.list (.base .expr) e.args)->∃r,je n e=some r/\True
 | 0,e,h,_=>absurd h (Nat.not_lt_zero _)
 | n+1,e,k,b=>by
  have ih:=BQ n;have d:=fD (dA b);show ∃r,lS (je n) e=some r/\_
  unfold lS;refine jD (fun (s:Int) (i:Nat)=>((e.kind,e.n,e.text,e.args,s,(i:Int)):Int×Int×Str×(List af)×Int×Int)) e.args (fun _ _=>True) _ (fun i x s a f=>?_) (fun s f=>?_) 0 trivial
  ·have c:=zG a;obtain⟨r,g,_⟩:=ih x (by have:=kV c;omega) (adT b c).1;obtain⟨m,j⟩:=aeD s r;refine .inl ⟨m,?_,trivial⟩;simp only[dec_lt a,ab,au,a,zA,aP,g,j,dX a d]
  ·exact⟨_,by simp only[aV,aa];rfl,trivial⟩
theorem SE(e:af)(a:aX B20 (.list (.base .expr) e.args)):∃r,zK e=some r:=by
 obtain⟨r,h,_⟩:=BQ _ e (Nat.lt_succ_self _) a;exact⟨r,h⟩
theorem NH(a:Str)(h:a.length<lim):∃v,fK a=some v/\(v=true->a.length<=20):=by
 unfold fK;refine jD (fun (_:Unit) (i:Nat)=>((a,(i:Int)):Str×Int)) a (fun _ _=>True) _ (fun i x s b c=>?_) (fun s c=>?_) () trivial
 ·simp only[dec_lt b,ab,au,b,zA,dX b h];cases decide ((x.toNat:Int)<32)with
  | true=>exact .inr ⟨false,rfl,fun h=>(by cases h)⟩
  | false=>
   cases decide ((x.toNat:Int)>126)with
   | true=>exact .inr ⟨false,rfl,fun h=>(by cases h)⟩
   | false=>
    cases ((x.toNat:Int)==34)with
    | true=>exact .inr ⟨false,rfl,fun h=>(by cases h)⟩
    | false=>exact .inl ⟨(),rfl,trivial⟩
 ·refine⟨_,by simp only[aV,aa];rfl,fun h=>?_⟩;simp at h;omega
theorem PU(a:Str):∃v,jg a=some v:=by
 unfold jg oK;rw[zA,UD _ _ (by decide)];exact⟨_,rfl⟩
theorem Sm(a:Str)(h:a.length<lim):∃v,bU a=some v/\(v=true->a.length<=8/\1<=a.length):=by
 obtain⟨b,e⟩:=PU a;unfold bU;rw[LU a h,e];cases iW okc a 0 with
 | false=>exact⟨false,rfl,fun h=>(by cases h)⟩
 | true=>
  by_cases c:(a.length:Int)>0
  ·by_cases d:(a.length:Int)<=8
   ·rw[ae c,ae d];cases b with
    | true=>exact⟨false,rfl,fun h=>(by cases h)⟩
    | false=>exact⟨true,rfl,fun _=>⟨by omega,by omega⟩⟩
   ·rw[ae c,ac d];exact⟨false,rfl,fun h=>(by cases h)⟩
  ·rw[ac c];exact⟨false,rfl,fun h=>(by cases h)⟩
theorem Io(a:Str):∃r,dP a=some r/\r<=4/\(0<=r->a.length<=6):=by
 unfold dP;have go:∀(w:Str) (k:Int) (z:Option Int),w.length<=6->k<=4->(∃r,z=some r/\r<=4/\(0<=r->a.length<=6))->∃r,(bif (a==w)then some k else z)=some r/\r<=4/\(0<=r->a.length<=6):=by
  intro w k z b c d;cases h:(a==w)with
  | true=>
   have e:=eq_of_beq h;exact⟨k,rfl,c,fun _=>by rw[e];exact b⟩
  | false=>exact d
 repeat refine go _ _ _ (by decide) (by decide) ?_
 exact⟨-1,rfl,by decide,fun h=>by omega⟩
structure ND(e:af):Prop where
 k0:1<=e.kind
 k9:e.kind<=9
 num:e.kind=1->0<=e.n/\e.n<=1000000000
 text:e.text.length<=20
 call:e.kind=5->e.args.length<=4
 list:e.kind=4->e.args.length<=8
 op:e.kind=6->e.args.length=2/\1<=e.n/\e.n<=5
 two:e.kind=7\/e.kind=9->e.args.length=2
 three:e.kind=8->e.args.length=3
inductive AY:af->Prop
 | mk (e:af) (h:ND e) (hs:∀x,x∈e.args->AY x):AY e
theorem Yr(a b c:Int):∃v,kX a b c=some v/\(v=true->b<=a/\a<=c):=⟨_,fG a b c,fun h=>by simpa using h⟩
theorem Yy(e:af)(m:e.text.length<lim)(x:(e.args.length:Int)<=1048576):∃v,lU e=some v/\(v=true->ND e):=by
 obtain⟨y,o,p⟩:=Yr e.n 0 1000000000;obtain⟨A,q,r⟩:=NH e.text m;obtain⟨v3,s,g⟩:=Sm e.text m;obtain⟨B,t,C,i⟩:=Io e.text;obtain⟨D,u,w⟩:=Yr e.n 1 5;have no:∃v,(some false:Option Bool)=some v/\(v=true->ND e):=⟨false,rfl,fun h=>(by cases h)⟩;have bb:∀(c:Bool) (z:Option Bool),(c=true->∃v,z=some v/\(v=true->ND e))->∃v,(bif c then z else some false)=some v/\(v=true->ND e):=by
  intro c z j;cases c with
  | true=>exact j rfl
  | false=>exact no
 have kk:∀(k:Int) (z z':Option Bool),(e.kind=k->∃v,z=some v/\(v=true->ND e))->(¬e.kind=k->∃v,z'=some v/\(v=true->ND e))->∃v,(bif (e.kind==k)then z else z')=some v/\(v=true->ND e):=by
  intro k z z' j l;cases h:(e.kind==k)with
  | true=>exact j (eq_of_beq h)
  | false=>exact l (by simpa using h)
 unfold lU;simp only[o,q,s,t,u,zA];refine kk 1 _ _ (fun f=>bb _ _ fun d=>bb _ _ fun a=>⟨_,rfl,fun b=>?_⟩) fun E=>?_
 ·have:=p b;have a:=eq_of_beq a;exact⟨by omega,by omega,fun _=>this,by rw[a];simp,fun h=>by omega,fun h=>by omega,fun h=>by omega,fun h=>by omega,fun h=>by omega⟩
 refine kk 2 _ _ (fun f=>bb _ _ fun d=>bb _ _ fun a=>⟨_,rfl,fun b=>?_⟩) fun F=>?_
 ·exact⟨by omega,by omega,fun h=>by omega,r b,fun h=>by omega,fun h=>by omega,fun h=>by omega,fun h=>by omega,fun h=>by omega⟩
 refine kk 3 _ _ (fun f=>bb _ _ fun d=>bb _ _ fun a=>⟨_,rfl,fun b=>?_⟩) fun G=>?_
 ·have:=g b;exact⟨by omega,by omega,fun h=>by omega,by omega,fun h=>by omega,fun h=>by omega,fun h=>by omega,fun h=>by omega,fun h=>by omega⟩
 refine kk 4 _ _ (fun f=>bb _ _ fun d=>bb _ _ fun a=>⟨_,rfl,fun b=>?_⟩) fun H=>?_
 ·have a:=eq_of_beq a;have b:=of_decide_eq_true b;exact⟨by omega,by omega,fun h=>by omega,by rw[a];simp,fun h=>by omega,fun h=>by omega,fun h=>by omega,fun h=>by omega,fun h=>by omega⟩
 refine kk 5 _ _ (fun f=>bb _ _ fun d=>⟨_,rfl,fun b=>?_⟩) fun I=>?_
 ·have b:=eq_of_beq b;have:=i (by omega);exact⟨by omega,by omega,fun h=>by omega,by omega,fun h=>by omega,fun h=>by omega,fun h=>by omega,fun h=>by omega,fun h=>by omega⟩
 refine kk 6 _ _ (fun f=>bb _ _ fun d=>bb _ _ fun a=>⟨_,rfl,fun b=>?_⟩) fun J=>?_
 ·have d:=eq_of_beq d;have a:=eq_of_beq a;have:=w b;exact⟨by omega,by omega,fun h=>by omega,by rw[d];simp,fun h=>by omega,fun h=>by omega,fun _=>⟨by omega,this⟩,fun h=>by omega,fun h=>by omega⟩
 refine kk 7 _ _ (fun f=>bb _ _ fun d=>bb _ _ fun a=>⟨_,rfl,fun b=>?_⟩) fun K=>?_
 ·have a:=eq_of_beq a;have:=g b;exact⟨by omega,by omega,fun h=>by omega,by omega,fun h=>by omega,fun h=>by omega,fun h=>by omega,fun _=>by omega,fun h=>by omega⟩
 refine kk 9 _ _ (fun f=>bb _ _ fun d=>bb _ _ fun a=>⟨_,rfl,fun b=>?_⟩) fun n9=>?_
 ·have a:=eq_of_beq a;have:=g b;exact⟨by omega,by omega,fun h=>by omega,by omega,fun h=>by omega,fun h=>by omega,fun h=>by omega,fun _=>by omega,fun h=>by omega⟩
 refine kk 8 _ _ (fun f=>bb _ _ fun d=>bb _ _ fun a=>⟨_,rfl,fun b=>?_⟩) fun L=>no
 ·have a:=eq_of_beq a;have b:=eq_of_beq b;exact⟨by omega,by omega,fun h=>by omega,by rw[a];simp,fun h=>by omega,fun h=>by omega,fun h=>by omega,fun h=>by omega,fun _=>by omega⟩
theorem MC:∀(n:Nat) (e:af),siz e<n->Fit B20 (.base .expr) e->∃v,nI n e=some v/\(v=true->AY e)
 | 0,e,h,_=>absurd h (Nat.not_lt_zero _)
 | n+1,e,r,o=>by
  have ih:=MC n;have a:=o;rw[Jq]at a;have p:=fD (dA a.2.2.2);show ∃v,uU (nI n) e=some v/\_
  unfold uU;refine jD (fun (_:Unit) (i:Nat)=>((e.kind,e.n,e.text,e.args,(i:Int)):Int×Int×Str×(List af)×Int)) e.args (fun i _=>∀j x,e.args[j]?=some x->j<i->AY x) _ (fun i x s b d=>?_) (fun s d=>?_) () (fun j x _ c=>absurd c (Nat.not_lt_zero _))
  ·have m:=zG b;obtain⟨v,f,g⟩:=ih x (by have:=kV m;omega) (a.2.2.2.aZ x m);simp only[dec_lt b,ab,au,b,zA,aP,f,dX b p];cases v with
   | false=>exact .inr ⟨false,rfl,fun h=>(by cases h)⟩
   | true=>
    refine .inl ⟨(),rfl,fun j y k c=>?_⟩;by_cases l:j=i
    ·subst l;rw[b]at k;cases k
     exact g rfl
    ·exact d j y k (by omega)
  ·obtain⟨v,f,g⟩:=Yy e (fD (AZ a.2.2.1)) (dA a.2.2.2);refine⟨v,by simp only[aV,aa,ahQ,f,zA],fun q=>.mk e (g q) fun x b=>?_⟩;obtain⟨j,c⟩:=List.mem_iff_getElem?.1 b;exact d j x c (zC.1 c).1
theorem abC(e:af)(a:Fit B20 (.base .expr) e):∃v,Ie e=some v/\(v=true->AY e):=MC _ e (Nat.lt_succ_self _) a
theorem NI(e:af)(c:Fit B20 (.base .expr) e):∃v,gI e=some v/\(v=true->AY e/\eH e<=120):=by
 have a:=c;rw[Jq]at a;obtain⟨d,f,n,o,g⟩:=YA e 40 a.2.2.2 (by omega) (by omega);obtain⟨i,j⟩:=SE e a.2.2.2;obtain⟨v,k,l⟩:=abC e c;unfold gI;simp only[aP,f,j,k,zA];by_cases b:d>=0
 ·rw[ae b,ab];cases decide (i<=8)with
  | true=>exact⟨v,rfl,fun m=>⟨l m,by have:=g b;omega⟩⟩
  | false=>exact⟨false,rfl,fun h=>(by cases h)⟩
 ·rw[ac b];exact⟨false,rfl,fun h=>(by cases h)⟩
theorem xC(a:Int)(i:0<=a)(f:a<9223372036854775808):∃s,dZ a=some s/\s.length<=19/\1<=s.length:=by
 unfold dZ;by_cases d:a=0
 ·subst d;exact⟨_,rfl,by simp,by simp⟩
 have j:(a==0)=false:=by simpa using d
 have en:decide (a<0)=false:=by simp;omega
 rw[j,aa,en];have key:∀(n:Nat) (k:Int) (s:Str),0<=k->k<9223372036854775808->k<10 ^ n->s.length+n<=19->(k=0->1<=s.length)->∃t,aA (fun (b:Int×Bool×Str)=>
  bif (b.1 != 0)then
   bif (decide ((b.1.tmod 10)<0))then
    (gd ((bytesOf [w8 (w64 (48+(w64 (0-(b.1.tmod 10)))))]).length+b.2.2.length)).bind fun _=>
    some (.inl (w64 (b.1.tdiv 10),b.2.1,(bytesOf [w8 (w64 (48+(w64 (0-(b.1.tmod 10)))))])++b.2.2))
   else
    (gd ((bytesOf [w8 (w64 (48+(b.1.tmod 10)))]).length+b.2.2.length)).bind fun _=>
    some (.inl (w64 (b.1.tdiv 10),b.2.1,(bytesOf [w8 (w64 (48+(b.1.tmod 10)))])++b.2.2))
  else
   (
    bif b.2.1 then
     (gd ([45].length+b.2.2.length)).bind fun _=>
     some ([45]++b.2.2)
    else
     some (b.2.2)
   ).bind fun r=>some (.inr r)) (k,false,s)=some t/\t.length<=19/\1<=t.length:=by
  intro n
  induction n with
  | zero=>
   intro k s c _ e l f
   have g:k=0:=by simp at e;omega
   subst g
   rw[aF]
   exact⟨s,rfl,by omega,f rfl⟩
  | succ n ih=>
   intro k s c m e l hpos
   rw[aF]
   by_cases d:k=0
   ·subst d;exact⟨s,rfl,by omega,hpos rfl⟩
   ·have o:(k != 0)=true:=by simpa using d
    have q:decide (k.tmod 10<0)=false:=by
     have:=Int.tmod_nonneg 10 c;simp;omega
    have u:gd ((bytesOf [w8 (w64 (48+(k.tmod 10)))]).length+s.length)=some ():=bD (by simp[bytesOf];omega);have v:k.tdiv 10=k / 10:=by rw[Int.tdiv_eq_ediv_of_nonneg c]
    have w:w64 (k.tdiv 10)=k / 10:=by rw[v];exact bM (by omega) (by omega)
    simp only[o,q,ab,aa,u,zA,w];refine ih (k / 10) _ (by omega) (by omega) ?_ (by simp[bytesOf];omega) (fun _=>by simp[bytesOf]);have:(10:Int) ^ (n+1)=10 ^ n*10:=Int.pow_succ 10 n;rw[this]at e;generalize (10:Int) ^ n=p at e ⊢;omega
 exact key 19 a [] i f (by rw[show (10:Int) ^ 19=10000000000000000000 from rfl];omega) (by simp) (fun h=>absurd h d)
theorem vw(s:Str):(kP s).length=s.length:=by unfold kP;rw[List.length_map]
theorem aaf(xs:List Int):(bytesOf xs).length=xs.length:=by unfold bytesOf;rw[List.length_map]
def lens(xs:List Str):Nat:=(xs.map List.length).sum
theorem UO(xs:List Str)(x:Str):lens (xs++[x])=lens xs+x.length:=by simp[lens]
theorem YC(xs:List Str)(b:Str)(g:xs.length<lim)(k:lens xs+xs.length*b.length<=1000000):∃s,Ig xs b=some s/\s.length<=lens xs+xs.length*b.length:=by
 unfold Ig;refine jD (fun (s:List Int) (i:Nat)=>((xs,b,s,(i:Int)):(List Str)×Str×(List Int)×Int)) xs (fun i s=>s.length<=lens (xs.take i)+i*b.length) _ (fun i x s a c=>.inl ?_) (fun s c=>?_) [] (by simp)
 ·have hi:=(zC.1 a).1;have l:lens (xs.take (i+1))=lens (xs.take i)+x.length:=OM List.length a;have h:lens (xs.take (i+1))<=lens xs:=aiG _ (List.take_sublist _ _);have m:(i+1)*b.length<=xs.length*b.length:=Nat.mul_le_mul_right _ hi;have j:(i+1)*b.length=i*b.length+b.length:=Nat.succ_mul _ _;have d:gd (s.length+(kP b).length)=some ():=bD (by rw[vw];omega);have e:gd ((s++kP b).length+(kP x).length)=some ():=bD (by rw[aR,vw,vw];omega);have f:gd (s.length+(kP x).length)=some ():=bD (by rw[vw];omega);simp only[dec_lt a,ab,au,a,zA,d,e,f,dX a g];cases decide ((i:Int)>0)with
  | true=>exact⟨_,rfl,by rw[aR,aR,vw,vw];omega⟩
  | false=>exact⟨_,rfl,by rw[aR,vw];omega⟩
 ·rw[List.take_length]at c;exact⟨_,by simp only[aV,aa];rfl,by rw[aaf];exact c⟩
theorem LJ(e:af):∃r,rG e=some r/\0<=r/\r<=4:=by
 have go:∀(c:Bool) (x y:Option Int),(∃r,x=some r/\0<=r/\r<=4)->(∃r,y=some r/\0<=r/\r<=4)->∃r,(bif c then x else y)=some r/\0<=r/\r<=4:=by
  intro c x y g i;cases c with
  | true=>exact g
  | false=>exact i
 have v:∀k:Int,0<=k->k<=4->∃r,(some k:Option Int)=some r/\0<=r/\r<=4:=fun k h j=>⟨k,rfl,h,j⟩
 have a:=v 0 (by decide) (by decide);have b:=v 1 (by decide) (by decide);have d:=v 2 (by decide) (by decide);have l:=v 3 (by decide) (by decide);have f:=v 4 (by decide) (by decide);unfold rG;exact go _ _ _ a (go _ _ _ a (go _ _ _ a (go _ _ _ (go _ _ _ b (go _ _ _ b (go _ _ _ d (go _ _ _ d (go _ _ _ l f))))) f)))
theorem V3(n:Int)(a:1<=n)(b:n<=5):∃s,tZ n=some s/\s.length<=2:=by
 unfold tZ;have:n=1\/n=2\/n=3\/n=4\/n=5:=by omega
 rw[fG,ae a,ae b];rcases this with rfl | rfl | rfl | rfl | rfl<;>exact⟨_,rfl,by decide⟩
theorem Ai{α:Type}{xs:List α}{n:Nat}(h:n<xs.length):∃x,idx xs ((n:Nat):Int)=some x/\x∈xs/\xs[n]?=some x:=by
 refine⟨xs[n],?_,List.getElem_mem h,zF h⟩;rw[au];exact zF h
theorem OC{e:af}(h:e.args.length=2):∃a b,e.args=[a,b]:=by
 cases d:e.args with
 | nil=>rw[d]at h;cases h
 | cons a r=>cases r with
  | nil=>rw[d]at h;cases h
  | cons b r=>cases r with
   | nil=>exact⟨a,b,rfl⟩
   | cons c r=>rw[d]at h;simp at h
theorem aax{e:af}(h:e.args.length=3):∃a b c,e.args=[a,b,c]:=by
 cases f:e.args with
 | nil=>rw[f]at h;cases h
 | cons a r=>cases r with
  | nil=>rw[f]at h;cases h
  | cons b r=>cases r with
   | nil=>rw[f]at h;cases h
   | cons c r=>cases r with
    | nil=>exact⟨a,b,c,rfl⟩
    | cons d r=>rw[f]at h;simp at h
theorem ajm{α:Type}(f:α->Nat){xs:List α}{x:α}(h:x∈xs):f x<=(xs.map f).sum:=by
 induction xs with
 | nil=>cases h
 | cons y ys ih=>
  simp only[List.map_cons,List.sum_cons];rcases a8.1 h with rfl | h
  ·omega
  ·have:=ih h;omega
theorem ah1(e:af):3<=eH e:=by rw[DL];omega
theorem H6:∀(n:Nat),
  (∀e:af,siz e<n->AY e->eH e<=120->∃s,(bT n).1 e=some s/\s.length+4<=22*eH e) /\
  (∀xs:List af,siz xs<n->(∀x,x∈xs->AY x)->nP xs<=120->∃s,(bT n).2.1 xs=some s/\s.length<=22*nP xs) /\
  (∀(e:af) (b:Int),siz e+1<n->AY e->eH e<=120->∃s,(bT n).2.2 e b=some s/\s.length+2<=22*eH e)
 | 0=>⟨fun _ h=>absurd h (Nat.not_lt_zero _),fun _ h=>absurd h (Nat.not_lt_zero _),fun _ _ h=>absurd h (Nat.not_lt_zero _)⟩
 | n+1=>by
  obtain⟨ihT,ihL,ihA⟩:=H6 n;refine⟨fun e A w z=>?_,fun xs A w z=>?_,fun e b A w z=>?_⟩
  ·show ∃s,yw (bT n).1 (bT n).2.1 (bT n).2.2 e=some s/\_
   cases w with
   | mk _ k g=>
   have L:=DL e;have Y:=k.text;have hargs:=Uw (e:=e);unfold yw;cases H:(e.kind==1)with
   | true=>
    have:=k.num (eq_of_beq H);obtain⟨s,f,j,_⟩:=xC e.n (by omega) (by omega);exact⟨s,by simp only[ab,f,zA],by omega⟩
   | false=>
   cases M:(e.kind==2)with
   | true=>
    simp only[ab,aa];rw[bD (by simp;omega),zA,bD (by simp;omega),zA];exact⟨_,rfl,by simp;omega⟩
   | false=>
   cases N:(e.kind==3)with
   | true=>exact⟨e.text,rfl,by omega⟩
   | false=>
   cases k4:(e.kind==4)with
   | true=>
    obtain⟨s,f,j⟩:=ihL e.args (by omega) g (by omega);simp only[ab,aa,f,zA];rw[bD (by simp;omega),zA,bD (by simp;omega),zA];exact⟨_,rfl,by simp;omega⟩
   | false=>
   cases O:(e.kind==5)with
   | true=>
    obtain⟨s,f,j⟩:=ihL e.args (by omega) g (by omega);simp only[ab,aa,f,zA];rw[bD (by simp;omega),zA,bD (by simp;omega),zA,bD (by simp;omega),zA];exact⟨_,rfl,by simp;omega⟩
   | false=>
   cases I:(e.kind==7)with
   | true=>
    obtain⟨a,b,d⟩:=OC (k.two (.inl (eq_of_beq I)));have l:nP e.args=eH a+eH b:=by rw[d,jH];simp
    obtain⟨s,f,j⟩:=ihT a (by have:=kV (x:=a) (e:=e) (by rw[d];simp);omega) (g a (by rw[d];simp)) (by omega);obtain⟨t,m,B⟩:=ihT b (by have:=kV (x:=b) (e:=e) (by rw[d];simp);omega) (g b (by rw[d];simp)) (by omega);have p:idx e.args 0=some a:=by rw[d];rfl
    have q:idx e.args 1=some b:=by rw[d];rfl
    simp only[ab,aa,p,q,aP,f,m,zA];rw[bD (by simp;omega),zA,bD (by simp;omega),zA,bD (by simp;omega),zA,bD (by simp;omega),zA,bD (by simp;omega),zA];exact⟨_,rfl,by simp;omega⟩
   | false=>
   cases k9:(e.kind==9)with
   | true=>
    obtain⟨a,b,d⟩:=OC (k.two (.inr (eq_of_beq k9)));have l:nP e.args=eH a+eH b:=by rw[d,jH];simp
    obtain⟨s,f,j⟩:=ihT a (by have:=kV (x:=a) (e:=e) (by rw[d];simp);omega) (g a (by rw[d];simp)) (by omega);obtain⟨t,m,B⟩:=ihT b (by have:=kV (x:=b) (e:=e) (by rw[d];simp);omega) (g b (by rw[d];simp)) (by omega);have p:idx e.args 0=some a:=by rw[d];rfl
    have q:idx e.args 1=some b:=by rw[d];rfl
    simp only[ab,aa,p,q,aP,f,m,zA];rw[bD (by simp;omega),zA,bD (by simp;omega),zA,bD (by simp;omega),zA,bD (by simp;omega),zA,bD (by simp;omega),zA];exact⟨_,rfl,by simp;omega⟩
   | false=>
   cases J:(e.kind==8)with
   | true=>
    obtain⟨a,b,c,d⟩:=aax (k.three (eq_of_beq J));have l:nP e.args=eH a+(eH b+eH c):=by rw[d,jH];simp
    obtain⟨s,f,j⟩:=ihT a (by have:=kV (x:=a) (e:=e) (by rw[d];simp);omega) (g a (by rw[d];simp)) (by omega);obtain⟨t,m,B⟩:=ihT b (by have:=kV (x:=b) (e:=e) (by rw[d];simp);omega) (g b (by rw[d];simp)) (by omega);obtain⟨u,C,P⟩:=ihT c (by have:=kV (x:=c) (e:=e) (by rw[d];simp);omega) (g c (by rw[d];simp)) (by omega);have p:idx e.args 0=some a:=by rw[d];rfl
    have q:idx e.args 1=some b:=by rw[d];rfl
    have Q:idx e.args 2=some c:=by rw[d];rfl
    simp only[ab,aa,p,q,Q,aP,f,m,C,zA];rw[bD (by simp;omega),zA,bD (by simp;omega),zA,bD (by simp;omega),zA,bD (by simp;omega),zA,bD (by simp;omega),zA];exact⟨_,rfl,by simp;omega⟩
   | false=>
    have R:e.kind=6:=by
     have Z:=k.k0;have q9:=k.k9;have n1:¬e.kind=1:=by simpa using H
     have n2:¬e.kind=2:=by simpa using M
     have n3:¬e.kind=3:=by simpa using N
     have n4:¬e.kind=4:=by simpa using k4
     have n5:¬e.kind=5:=by simpa using O
     have n7:¬e.kind=7:=by simpa using I
     have n8:¬e.kind=8:=by simpa using J
     have n9:¬e.kind=9:=by simpa using k9
     omega
    obtain⟨S,D,E⟩:=k.op R;obtain⟨a,b,d⟩:=OC S;have l:nP e.args=eH a+eH b:=by rw[d,jH];simp
    have za:=kV (x:=a) (e:=e) (by rw[d];simp);have zb:=kV (x:=b) (e:=e) (by rw[d];simp);obtain⟨r,F,T,U⟩:=LJ e;obtain⟨s,f,j⟩:=ihA a 2 (by omega) (g a (by rw[d];simp)) (by omega);obtain⟨s',e1',l1'⟩:=ihA a r (by omega) (g a (by rw[d];simp)) (by omega);obtain⟨t,m,B⟩:=ihA b (w64 (r+1)) (by omega) (g b (by rw[d];simp)) (by omega);obtain⟨o,C,P⟩:=V3 e.n D E;have p:idx e.args 0=some a:=by rw[d];rfl
    have q:idx e.args 1=some b:=by rw[d];rfl
    simp only[aa,p,q,aP,F,f,e1',m,C,zA];cases (r==1)with
    | true=>
     simp only[ab];rw[bD (by simp;omega),zA,bD (by simp;omega),zA,bD (by simp;omega),zA,bD (by simp;omega),zA];exact⟨_,rfl,by simp;omega⟩
    | false=>
     simp only[aa];rw[bD (by simp;omega),zA,bD (by simp;omega),zA,bD (by simp;omega),zA,bD (by simp;omega),zA];exact⟨_,rfl,by simp;omega⟩
  ·show ∃s,yx (bT n).1 (bT n).2.1 (bT n).2.2 xs=some s/\_
   unfold yx;have V:3*xs.length<=nP xs:=by
    rw[jH];clear A w z ihT ihL ihA;induction xs with
    | nil=>simp
    | cons x xs ih=>have:=ah1 x;simp only[List.map_cons,List.sum_cons,List.length_cons];omega
   have K:xs.length<lim:=by show xs.length<4611686018427387904;omega
   refine jD (fun (s:List Str) (i:Nat)=>((xs,s,(i:Int)):(List af)×(List Str)×Int)) xs (fun i s=>s.length=i/\lens s+4*i<=22*((xs.take i).map eH).sum) _ (fun i x s y v=>.inl ?_) (fun s v=>?_) [] ⟨rfl,by simp[lens]⟩
   ·have hi:=(zC.1 y).1;have G:=zG y;have W:eH x<=nP xs:=by
     rw[jH];exact ajm eH G
    obtain⟨t,f,j⟩:=ihT x (by have:=XZ G;omega) (w x G) (by omega);refine⟨s++[t],?_,by simp[v.1],?_⟩
    ·simp only[dec_lt y,ab,au,y,zA,aP,f,bD (show s.length+([t]:List Str).length<=34359738368 by simp;omega),dX y K]
    ·have:=v.2;rw[UO,OM eH y];omega
   ·have X:=v.2;rw[List.take_length,<- jH]at X;obtain⟨t,f,j⟩:=YC s [44,32] (by rw[v.1];exact K) (by simp only[List.length_cons,List.length_nil];rw[v.1];omega);refine⟨t,by simp only[aV,aa,f,zA],?_⟩;simp only[List.length_cons,List.length_nil]at j;rw[v.1]at j;omega
  ·show ∃s,H8 (bT n).1 (bT n).2.1 (bT n).2.2 e b=some s/\_
   unfold H8;obtain⟨s,f,j⟩:=ihT e (by omega) w z;obtain⟨r,F,T,U⟩:=LJ e;simp only[aP,f,F,zA];cases decide (r<b)with
   | true=>
    simp only[ab];rw[bD (by simp;omega),zA,bD (by simp;omega),zA];exact⟨_,rfl,by simp;omega⟩
   | false=>exact⟨s,rfl,by omega⟩
theorem PW(e:af)(a:Fit B20 (.base .expr) e):∃s,gX e=some s/\s.length<=2640:=by
 obtain⟨v,b,c⟩:=NI e a;unfold gX;rw[aP,b,zA];cases v with
 | false=>exact⟨_,rfl,by simp⟩
 | true=>
  obtain⟨d,f⟩:=c rfl;obtain⟨s,g,h⟩:=(H6 (siz e+1)).1 e (Nat.lt_succ_self _) d f;refine⟨s,?_,by omega⟩;have:H7 e=some s:=g;simp only[aE,aa,this,zA]
end Go.Proofs.YtngjomkjlonfpaaGreat
/- Plain laws: what is drawn is drawn, and is small. -/
namespace Go.Proofs.YtngjomkjlonfpaaGreat
open Go.Abs Go.Proofs
def dB(c:bC):Prop:=0<=c.i/\(c.b.length:Int)<=1048576
theorem adu{X ρ σ:Type}{g:X->Option (X⊕ρ)}(pk:σ->X)(I:Nat->σ->Prop)(R:ρ->Prop)
  (d:∀n s,I n s->(∃s' m,m<n/\I m s'/\g (pk s)=some (.inl (pk s')))\/∃r,g (pk s)=some (.inr r)/\R r):∀n s,I n s->∃r,aA g (pk s)=some r/\R r:=by
 intro n;induction n using Nat.strongRecOn with
 | ind n ih=>
  intro s e;rcases d n s e with ⟨s',m,f,a,b⟩ | ⟨r,b,c⟩
  ·obtain⟨r,h,c⟩:=ih m f s' a;exact⟨r,by rw[aF,b];exact h,c⟩
  ·exact⟨r,by rw[aF,b],c⟩
theorem adC(n:Int):0<=w64 ((BitVec.ofInt 64 n &&& BitVec.ofInt 64 255).toNat:Int)/\w64 ((BitVec.ofInt 64 n &&& BitVec.ofInt 64 255).toNat:Int)<=255:=by
 have h:(BitVec.ofInt 64 n &&& BitVec.ofInt 64 255).toNat<=255:=by
  rw[BitVec.toNat_and];exact Nat.le_trans Nat.and_le_right (by decide)
 rw[bM (by omega) (by omega)];omega
theorem JB{c:bC}(h:dB c):∃c' x,wG c=some (c',x)/\dB c'/\0<=x/\x<=255:=by
 obtain⟨a,d⟩:=h;unfold wG;by_cases hi:c.i<(c.b.length:Int)
 ·obtain⟨y,e,_⟩:=QU a hi;rw[ae hi,ab,e,zA];exact⟨_,_,rfl,⟨by show 0<=w64 (c.i+1);rw[bM (by omega) (by omega)];omega,d⟩,adC _⟩
 ·rw[ac hi,aa];exact⟨_,_,rfl,⟨a,d⟩,adC _⟩
theorem ade{x n:Int}(a:0<=x)(b:0<n):∃r,aeS x n=some r/\0<=r/\r<n:=by
 unfold aeS;rw[if_neg (by omega)];exact⟨_,rfl,Int.tmod_nonneg _ a,Int.tmod_lt_of_pos _ b⟩
theorem gZ{c:bC}(h:dB c)(n:Int):∃c' x,aU c n=some (c',x)/\dB c'/\0<=x/\(0<n->x<n):=by
 unfold aU;by_cases l:n<=0
 ·rw[ae l,ab];exact⟨c,0,rfl,h,by omega,fun hh=>by omega⟩
 rw[ac l,aa];by_cases m:n<=256
 ·rw[ae m,ab];obtain⟨o,x,e,f,p,q⟩:=JB h;obtain⟨r,g,i,j⟩:=ade p (n:=n) (by omega);simp only[e,g,zA];exact⟨o,r,rfl,f,i,fun _=>j⟩
 ·rw[ac m,aa];obtain⟨o,a,e,f,A,B⟩:=JB h;obtain⟨C,b,g,s,D,E⟩:=JB f;obtain⟨F,d,t,u,G,H⟩:=JB s;obtain⟨v,k,w,k4,I,J⟩:=JB u;have y:w64 ((w64 ((w64 ((w64 (a*16777216))+(w64 (b*65536))))+(w64 (d*256))))+k)=a*16777216+b*65536+d*256+k:=by
   rw[bM (n:=a*16777216) (by omega) (by omega),bM (n:=b*65536) (by omega) (by omega),bM (n:=d*256) (by omega) (by omega),bM (n:=a*16777216+b*65536) (by omega) (by omega),bM (n:=a*16777216+b*65536+d*256) (by omega) (by omega),bM (by omega) (by omega)]
  obtain⟨r,z,i,j⟩:=ade (x:=a*16777216+b*65536+d*256+k) (n:=n) (by omega) (by omega);simp only[e,g,t,w,y,z,zA];exact⟨v,r,rfl,k4,i,fun _=>j⟩
theorem Eg{c:bC}(h:dB c)(n:Int):∃c' b,qP c n=some (c',b)/\dB c':=by
 obtain⟨c',x,e,k,_⟩:=gZ h n;unfold qP;rw[e];exact⟨c',_,rfl,k⟩
theorem adi{c:bC}(h:dB c)(xs:List Str)(a:xs≠[]):∃c' s,dH c xs=some (c',s)/\dB c'/\s∈xs:=by
 have f:0<xs.length:=List.length_pos_iff.2 a;obtain⟨c',x,e,k,p,q⟩:=gZ h xs.length;obtain⟨y,b,d⟩:=QU p (q (by omega));unfold dH;simp only[e,b,zA];exact⟨c',y,rfl,k,zG d⟩
theorem abN{c:bC}(h:dB c)(xs:List Int)(a:xs≠[]):∃c' s,jO c xs=some (c',s)/\dB c'/\s∈xs:=by
 have f:0<xs.length:=List.length_pos_iff.2 a;obtain⟨c',x,e,k,p,q⟩:=gZ h xs.length;obtain⟨y,b,d⟩:=QU p (q (by omega));unfold jO;simp only[e,b,zA];exact⟨c',y,rfl,k,zG d⟩
theorem alY(a:List Int)(h:(a.length:Int)<=1048576):∃c,Wl a=some c/\dB c:=by
 unfold Wl;refine adu (fun (s:Int×Nat)=>((a,s.1,(s.2:Int)):List Int×Int×Int)) (fun n s=>n+s.2=a.length) dB (fun n s e=>?_) a.length (_,0) (by simp);by_cases hi:s.2<a.length
 ·have b:=zF hi;simp only[dec_lt b,ab];by_cases d:(s.2:Int)<4000
  ·simp only[ae d,ab,au,b,zA,dX b (fD h)];exact .inl ⟨(_,s.2+1),n-1,by omega,by simp only;omega,rfl⟩
  ·simp only[ac d,aa];exact .inr ⟨_,rfl,by simp[dB],h⟩
 ·have:decide ((s.2:Int)<(a.length:Int))=false:=by simp;omega
  simp only[this,aa];exact .inr ⟨_,rfl,by simp[dB],h⟩
theorem nK{n:Int}(a:-1000000000<=n)(b:n<=1000000000):aX B20 (.int .i64 n):=ahx (Ou a b)
theorem FC{s:Str}(h:s.length<=1048576):aX B20 (.str s):=Ad (by omega)
theorem ahc{t:Ty}:aX B20 (.list t []):=dY (by simp) fun x a=>by cases a
theorem ad5{k n:Int}(a:aX B20 (.int .i64 k))(b:aX B20 (.int .i64 n)):Fit B20 (.base .val) (aS.mk k n 0 [] [] [] []):=by
 rw[Oj];exact⟨a,b,nK (n:=0) (by omega) (by omega),abZ,ahc,ahc,ahc⟩
theorem aeT{c:bC}(h:dB c):∃c' r,Cm c=some (c',r)/\dB c'/\(aX B20 (.int .i64 r.kind)/\aX B20 (.int .i64 r.n)/\aX B20 (.int .i64 r.time)/\aX B20 (.str r.text)):=by
 unfold Cm;obtain⟨s,d,e,f,t,g⟩:=gZ h 3;obtain⟨u,v,i,j,w,k⟩:=gZ f 7;obtain⟨x,a,l,m,b⟩:=adi j [[102],[103],[104],[122]] (by simp);obtain⟨o,y,p,k4,z,q⟩:=gZ m 3;simp only[e,i,l,p,zA];have:=g (by omega);have:=k (by omega);have:=q (by omega);refine⟨o,_,rfl,k4,?_,nK (by simp only;omega) (by simp only;omega),nK (by simp only;omega) (by simp only;omega),FC ?_⟩
 ·show aX B20 (.int .i64 (w64 (1+d)))
  rw[bM (by omega) (by omega)];exact nK (by omega) (by omega)
 ·show a.length<=1048576
  have:a.length=1:=by
   simp at b;rcases b with rfl | rfl | rfl | rfl<;>rfl
  omega
theorem mF{X ρ σ:Type}{g:X->Option (X⊕ρ)}(pk:σ->Nat->X)(n:Nat)(I:Nat->σ->Prop)(R:ρ->Prop)
  (d:∀i s,i<n->I i s->∃s',g (pk s i)=some (.inl (pk s' (i+1)))/\I (i+1) s') (f:∀s,I n s->∃r,g (pk s n)=some (.inr r)/\R r) (s:σ) (h:I 0 s):∃r,aA g (pk s 0)=some r/\R r:=by
 have key:∀(k i:Nat) (s:σ),n=i+k->I i s->∃r,aA g (pk s i)=some r/\R r:=by
  intro k;induction k with
  | zero=>
   intro i s hi a;have:i=n:=by omega
   subst this;obtain⟨r,e,b⟩:=f s a;exact⟨r,by rw[aF,e],b⟩
  | succ k ih=>
   intro i s hi a;obtain⟨s',e,c⟩:=d i s (by omega) a;obtain⟨r,e',b⟩:=ih (i+1) s' (by omega) c;exact⟨r,by rw[aF,e];exact e',b⟩
 exact key n 0 s (by omega) h
theorem cnt_lt{i n:Nat}(h:i<n):decide ((i:Int)<(n:Int))=true:=by simpa using h
theorem Nr{i n:Nat}(h:i<n)(a:n<=1048576):w64 ((i:Int)+1)=((i+1:Nat):Int):=by
 rw[bM (by omega) (by omega)];omega
theorem xM{n:Int}(h:0<=n):∃m:Nat,n=(m:Int):=⟨n.toNat,by omega⟩
theorem Iq{k n t:Int}{s:Str}{v:aS}(a:aX B20 (.int .i64 k))(b:aX B20 (.int .i64 n))(c:aX B20 (.int .i64 t))(d:aX B20 (.str s))(e:Fit B20 (.base .val) v):Fit B20 (.base .read) (aN.mk k n t s v):=by
 rw[yX];exact⟨a,b,c,d,e⟩
theorem af7{t:Ty}{xs:List t.den}{x:t.den}(h:aX B20 (.list t xs))(b:Fit B20 t x)(c:(xs.length:Int)+1<=1048576):aX B20 (.list t (xs++[x])):=
 dY (by rw[aR,List.length_singleton];omega) fun y a=>by
  rcases List.mem_append.1 a with a | a
  ·exact h.aZ y a
  ·rw[List.mem_singleton.1 a];exact b
theorem aeb{c:bC}(h:dB c):∃c' l,Ci c=some (c',l)/\dB c'/\aX B20 (.list (.base .read) l)/\l.length<=3:=by
 obtain⟨C,n,D,E,F,G⟩:=gZ h 4;have N:=G (by omega);obtain⟨m,rfl⟩:=xM F;unfold Ci;simp only[D,zA];have:=mF (g:=fun (d:(List Int)×Int×Int×(List aN)×Int×Int)=>
  bif (decide (d.2.2.2.2.2<d.2.2.2.2.1))then
   (Cm (bC.mk d.1 d.2.1 d.2.2.1)).bind fun a=>
   bif (a.2.kind != 2)then
    bif (a.2.kind != 3)then
     (fQ (w64 (50+d.2.2.2.2.2))).bind fun t=>
     (gd (d.2.2.2.1.length+([aN.mk a.2.kind 0 a.2.time [] (dK t)]).length)).bind fun _=>
     some (.inl (a.1.b,a.1.i,a.1.h,d.2.2.2.1++([aN.mk a.2.kind 0 a.2.time [] (dK t)]),d.2.2.2.2.1,w64 (d.2.2.2.2.2+1)))
    else
     (fQ (w64 (50+d.2.2.2.2.2))).bind fun u=>
     (gd (d.2.2.2.1.length+[aN.mk a.2.kind 0 a.2.time a.2.text (dK u)].length)).bind fun _=>
     some (.inl (a.1.b,a.1.i,a.1.h,d.2.2.2.1++[aN.mk a.2.kind 0 a.2.time a.2.text (dK u)],d.2.2.2.2.1,w64 (d.2.2.2.2.2+1)))
   else
    bif (a.2.kind != 3)then
     (fQ (w64 (50+d.2.2.2.2.2))).bind fun v=>
     (gd (d.2.2.2.1.length+([aN.mk a.2.kind a.2.n a.2.time [] (dK v)]).length)).bind fun _=>
     some (.inl (a.1.b,a.1.i,a.1.h,d.2.2.2.1++([aN.mk a.2.kind a.2.n a.2.time [] (dK v)]),d.2.2.2.2.1,w64 (d.2.2.2.2.2+1)))
    else
     (fQ (w64 (50+d.2.2.2.2.2))).bind fun w=>
     (gd (d.2.2.2.1.length+[aN.mk a.2.kind a.2.n a.2.time a.2.text (dK w)].length)).bind fun _=>
     some (.inl (a.1.b,a.1.i,a.1.h,d.2.2.2.1++[aN.mk a.2.kind a.2.n a.2.time a.2.text (dK w)],d.2.2.2.2.1,w64 (d.2.2.2.2.2+1)))
  else
   some (.inr (bC.mk d.1 d.2.1 d.2.2.1,d.2.2.2.1))) (fun (s:bC×List aN) (i:Nat)=>(s.1.b,s.1.i,s.1.h,s.2,(m:Int),(i:Int))) m
  (fun i s=>dB s.1/\aX B20 (.list (.base .read) s.2)/\s.2.length=i) (fun r=>dB r.1/\aX B20 (.list (.base .read) r.2)/\r.2.length<=3) (fun i s hi o=>?_) (fun s o=>?_) (C,[]) ⟨E,ahc,rfl⟩
 ·obtain⟨⟨c',l⟩,e,H,I,J⟩:=this;exact⟨c',l,e,H,I,J⟩
 ·obtain⟨p,q,y⟩:=o;obtain⟨c',r,e,kc,f,A,j,B⟩:=aeT p;have k:Fit B20 (.base .val) (aS.mk 1 (50+(i:Int)) 0 [] [] [] []):=ad5 (nK (by omega) (by omega)) (nK (by omega) (by omega));have K:w64 (50+(i:Int))=50+(i:Int):=bM (by omega) (by omega);have L:∀x:aN,gd (s.2.length+[x].length)=some ():=fun x=>bD (by simp;omega)
  have z:aX B20 (.int .i64 0):=nK (by omega) (by omega);simp only[cnt_lt hi,ab,e,zA,fQ,K,kZ,L,Nr hi (show m<=1048576 by omega)];have go:∀x:aN,Fit B20 (.base .read) x->∃s':bC×List aN,(some (.inl (c'.b,c'.i,c'.h,s.2++[x],(m:Int),((i+1:Nat):Int))):Option (((List Int)×Int×Int×(List aN)×Int×Int)⊕(bC×List aN)))=some (.inl (s'.1.b,s'.1.i,s'.1.h,s'.2,(m:Int),((i+1:Nat):Int)))/\dB s'.1/\aX B20 (.list (.base .read) s'.2)/\s'.2.length=i+1:=fun x M=>
   ⟨(c',s.2++[x]),rfl,kc,af7 q M (by omega),by simp[y]⟩
  cases (r.kind != 2)<;>cases (r.kind != 3)
  ·exact go _ (Iq f A j B k)
  ·exact go _ (Iq f A j abZ k)
  ·exact go _ (Iq f z j B k)
  ·exact go _ (Iq f z j abZ k)
 ·obtain⟨p,q,y⟩:=o;refine⟨(s.1,s.2),by simp only[aV,aa],p,q,by show s.2.length<=3;omega⟩
end Go.Proofs.YtngjomkjlonfpaaGreat
