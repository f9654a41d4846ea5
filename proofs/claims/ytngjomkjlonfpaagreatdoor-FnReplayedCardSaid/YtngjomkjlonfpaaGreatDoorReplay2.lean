import Derived.Test.YtngjomkjlonfpaaGreatDoorDr1
set_option linter.unusedSimpArgs false
set_option linter.unusedVariables false
/- Plain laws: ReplayOp is alike on both sides, whole. -/
namespace Go.Proofs.YtngjomkjlonfpaaGreatDoor
open Go.Abs Go.Proofs
theorem DU{α:Type}(p:α->Bool):∀(xs:List α) (i:Nat),(∃x,x∈xs/\p x=true)->0<=dB p xs i
 | [],i,⟨x,a,_⟩=>by cases a
 | y::ys,i,⟨x,a,b⟩=>by
  unfold dB;cases c:p y with
  | true=>rw[ac];omega
  | false=>
   rw[aa];refine DU p ys (i+1) ⟨x,?_,b⟩;rcases bc.1 a with rfl | a
   ·rw[b]at c;cases c
   ·exact a
theorem AL{α:Type}(p:α->Bool):∀(xs:List α) (i n:Nat) (x:α),dB p xs i=((i+n:Nat):Int)->xs[n]?=some x->p x=true
 | [],i,n,x,_,a=>by simp at a
 | y::ys,i,n,x,h,a=>by
  unfold dB at h;cases b:p y with
  | true=>
   rw[b,ac]at h;have:n=0:=by omega
   subst this;simp at a;rw[<- a];exact b
  | false=>
   rw[b,aa]at h;cases n with
   | zero=>
    rcases mM p ys (i+1)with e | ⟨m,z,e,_⟩
    ·rw[e]at h;omega
    ·rw[e]at h;omega
   | succ n=>exact AL p ys (i+1) n x (by rw[h];omega) (by simpa using a)
theorem apl{q:Bool}{a b:Option (ah×Int)}{k:Int}(h1:∀r,a=some r->r.1.id=k)(h2:∀r,b=some r->r.1.id=k):∀r,(bif q then a else b)=some r->r.1.id=k:=by cases q<;>assumption
theorem alM{α:Type}{x:Option α}{f:α->Option (ah×Int)}{k:Int}(h:∀a r,f a=some r->r.1.id=k):∀r,x.bind f=some r->r.1.id=k:=by
 intro r b;obtain⟨a,_,h2⟩:=zB.1 b;exact h a r h2
theorem alL{y:ah}{n k:Int}(h:y.id=k):∀r,some (y,n)=some r->r.1.id=k:=by
 intro r a;cases a
 exact h
theorem ahJ{x:ah}{b:dR}:∀r,ve x b=some r->r.1.id=x.id:=by
 unfold ve;repeat' first
  | exact alL rfl
  | refine apl ?_ ?_
  | refine alM fun _=>?_
theorem ack{a:ak}{b:dR}{w:ak}(f:Fit B20 (.base .notebook) a)(z:Fit B20 (.base .edit) b)(h:jq a b=some (w,0))(G:b.kind=1\/b.kind=4\/b.kind=6):∃x,x∈w.cells/\(x.id==b.cell.id)=true:=by
 obtain⟨v,A,g⟩:=kD a f;obtain⟨B,C⟩:=Ua f h;have q:=Yv f;have i:a.cells.length<lim:=dX q;have fb:=z;rw[vW]at fb;unfold jq at h;rw[g,copyS a (by omega)]at h;simp only[zA,fO,jk a _ i]at h;cases v with
 | false=>simp at h
 | true=>
  have j:(decide (1<=b.kind)&&decide (b.kind<=6))=true:=by simpa using B
  rw[j]at h;simp only[aM,aa]at h;by_cases k:b.kind=1
  ·obtain⟨vc,s,d⟩:=jc b.cell fb.2.2;simp only[k,beq_self_eq_true,ac,d,zA]at h;cases vc with
   | false=>simp at h
   | true=>
    simp only[aM,aa]at h;cases t:decide (dB (fun c=>c.id==b.cell.id) a.cells 0>=0)with
    | true=>rw[t]at h;simp at h
    | false=>
     rw[t]at h;simp only[aa]at h;cases u:((a.cells.length:Int)==8)with
     | true=>rw[u]at h;simp at h
     | false=>
      obtain⟨n,H,D,I⟩:=put_eq a.cells b.pos b.cell q;rw[u]at h;simp only[aa,D,zA,zD,Prod.mk.injEq,and_true]at h;rw[<- h];exact⟨b.cell,by simp,by simp⟩
  ·obtain⟨m,x,y,l⟩:=C k;have k1':(b.kind==1)=false:=by simpa using k
   have k2':(b.kind==2)=false:=by simp;omega
   have k3':(b.kind==3)=false:=by simp;omega
   have o:=(zC.1 l).1;have E:=AL (fun c:ah=>c.id==b.cell.id) a.cells 0 m x (by rw[y];simp) l;simp only[k1',k2',k3',aa,y,ae (show ¬(m:Int)<0 by omega),au,l,zA,aD]at h;obtain⟨r,F,h⟩:=zB.1 h;have p:=ahJ r F;cases e:(r.2==0)with
   | false=>
    rw[e]at h;simp only[aa,zD,Prod.mk.injEq]at h;rw[h.2]at e;simp at e
   | true=>
    rw[e]at h;simp only[ac,zD,Prod.mk.injEq]at h;rw[<- h.1];refine⟨r.1,List.mem_iff_getElem?.2 ⟨m,List.getElem?_set_self o⟩,?_⟩;rw[p];exact E
theorem aeO{a:ak}{b:dR}{w:ak}(d:Fit B20 (.base .notebook) a)(f:Fit B20 (.base .edit) b)(h:jq a b=some (w,0))(g:b.kind=1\/b.kind=4\/b.kind=6):∃(m:Nat) (x:ah),dB (fun c=>c.id==b.cell.id) w.cells 0=(m:Int)/\w.cells[m]?=some x:=by
 have i:=DU (fun c:ah=>c.id==b.cell.id) w.cells 0 (ack d f h g);rcases mM (fun c:ah=>c.id==b.cell.id) w.cells 0 with e | ⟨n,x,e,j⟩
 ·rw[e]at i;omega
 ·exact⟨n,x,by rw[e,Nat.zero_add],j⟩
theorem aaZ{cs:List ah}{b c:Str}(h:Fit B20 (.base .notebook) ⟨cs⟩)(l:c.length<=1048576):Fit B20 (.base .notebook) ⟨kept cs b c⟩:=by
 obtain⟨g,m⟩:=uK h;have e:aW B20 (.int .i64 1):=.int .i64 _ (wfS (by omega) (by omega));have h1:Fit B20 (.base .notebook) ⟨cs.map gQ⟩:=uI (fun x f=>by
  obtain⟨y,n,rfl⟩:=List.mem_map.1 f;have:=g y n;rw[fK]at this ⊢;exact⟨this.1,e,this.2.2⟩) (by simpa using m)
 obtain⟨i,_⟩:=uK (aiC (cs.map gQ) b c false h1 l);have hlen:=QF (cs.map gQ) b c false;rw[List.length_map]at hlen;unfold kept;generalize (qG (cs.map gQ) b c false).1.cells=o at i hlen;refine uI (fun x f=>?_) (by unfold o9;rw[List.length_zipWith];omega);obtain⟨k,a⟩:=List.mem_iff_getElem?.1 f;rw[MC hlen]at a;cases d:o[k]? with
 | none=>rw[d]at a;cases a
 | some y=>
  rw[d]at a;have p:=(zC.1 d).1;obtain⟨z,j⟩:∃z,cs[k]?=some z:=⟨_,zF (by omega)⟩;rw[j]at a;have a:BH z y=x:=a6 a;rw[<- a];have fy:=i y (zG d);have fz:=g z (zG j);rw[fK]at fy fz ⊢;exact⟨fy.1,fz.2.1,fy.2.2⟩
structure DocP(N M:Nat)(d:aB):Prop where
 nb:Fit B20 (.base .notebook) d.notebook
 tp:Tps N M d.tapes
 rn:aW B20 (.list (.base .op) d.renames)
theorem Pq{N M N' M':Nat}{l:List aK}(h:Tps N M l)(h1:N<=N')(h2:M<=M'):Tps N' M' l:=⟨h.1,Nat.le_trans h.2.1 h1,fun t a=>Nat.le_trans (h.2.2 t a) h2⟩
structure ahQ(N M:Nat)(d:aB)(o:GOp)(r:aB):Prop where
 nb:Fit B20 (.base .notebook) r.notebook
 tp:Tps N M r.tapes
 rn:r.renames=d.renames\/r.renames=d.renames++[o]
 tc:r.tapes=d.tapes\/r.tapes=wE d.tapes o.cell o.version o.reads
 nv:Nb d.notebook.cells->((1<=o.time/\o.time<=300)/\0<=o.by_/\o.by_<=2)->Nb r.notebook.cells
theorem al5{N M:Nat}{d:aB}(h:DocP N M d):nU d=some d/\Ig d=some d:=by
 have a:=Yv h.nb;constructor
 ·unfold nU;rw[WU d.notebook (by omega),zA,FQ _ h.tp.1,zA,aby _ h.rn,zA]
 ·unfold Ig;rw[copyS d.notebook (by omega),zA,MV _ h.tp.1,zA,acU _ h.rn,zA]
theorem Yb{N M:Nat}(d:aB)(o:GOp)(u:List GOp)(b:DocP N M d)(s:Fit B20 (.base .op) o)(I:aW B20 (.list (.base .op) u))(hN:N+o.reads.length<=1048576)(t:M+o.reads.length<=1048576) :
  ∃r,mZ d o u=some r/\kE d o u=some r/\ahQ (N+o.reads.length) (M+o.reads.length) d o r:=by
 obtain⟨cI,cS⟩:=al5 b;have orA:∀r,jy d o u=some r->mZ d o u=some r:=fun r h=>by unfold mZ;rw[h];rfl
 have X:=dh b.rn;have a:ahQ (N+o.reads.length) (M+o.reads.length) d o d:=⟨b.nb,Pq b.tp (Nat.le_add_right _ _) (Nat.le_add_right _ _),.inl rfl,.inl rfl,fun h _=>h⟩;have fo:=s;rw[AB]at fo;by_cases g:o.kind=1
 ·have fe:=fo.2.2.2.2.1;rw[vW,fK]at fe;obtain⟨e,v,y,c⟩:=acu o.edit u (by have:=dh I;omega) (by have:=AY fe.2.2.2.2.2.1;omega) (by have:=AY fe.2.2.2.2.2.2.1;omega) (fun x f=>by
   have fx:=I.bQ x f;rw[AB]at fx;have h1:=AY fx.2.2.2.2.2.1;have h2:=AY fx.2.2.2.2.2.2.1;omega)
  have fE:Fit B20 (.base .edit) e:=by
   rw[vW,fK,c.kind,c.pos,c.id,c.version,c.ckind,c.n];exact⟨fe.1,fe.2.1,fe.2.2.1,fe.2.2.2.1,fe.2.2.2.2.1,Ad (by have:=c.name;omega),Ad (by have:=c.code;omega),fe.2.2.2.2.2.2.2⟩
  obtain⟨w,n,j,A,B⟩:=JU d.notebook e b.nb fE;by_cases J:n=0
  ·subst J;have k:=Yv B;have st:jl o=some (w64 ((w64 (o.time*3))+o.by_))/\nN o=some (w64 ((w64 (o.time*3))+o.by_)):=⟨rfl,rfl⟩;have wv:aW B20 (.int .i64 (w64 ((w64 (o.time*3))+o.by_))):=.int .i64 _ (aoT _);have K:((1<=o.time/\o.time<=300)/\0<=o.by_/\o.by_<=2)->1<=w64 ((w64 (o.time*3))+o.by_)/\w64 ((w64 (o.time*3))+o.by_)<=999:=fun h=>by
    rw[bK (n:=o.time*3) (by omega) (by omega),bK (by omega) (by omega)];omega
   have nbw:Nb d.notebook.cells->Nb w.cells:=fun h=>by
    have q:=(Fq d.notebook e b.nb fE).symm.trans j;simp only[zD,Prod.mk.injEq]at q;rw[<- q.1];exact apB h fE q.2
   generalize w64 ((w64 (o.time*3))+o.by_)=V at st wv K;have put:∀(m:Nat) (x:ah),w.cells[m]?=some x->ahQ (N+o.reads.length) (M+o.reads.length) d o (aB.mk (ak.mk (w.cells.set m (ah.mk x.id V x.kind x.name x.code x.n))) d.tapes d.renames):=fun m x f=>by
    have L:Fit B20 (.base .notebook) (ak.mk (w.cells.set m (ah.mk x.id V x.kind x.name x.code x.n))):=by
     obtain⟨p,C⟩:=uK B;have fx:=p x (zG f);refine uI (aoZ p m ?_) (by simpa using C);rw[fK]at fx ⊢;exact⟨fx.1,wv,fx.2.2⟩
    exact⟨L,a.tp,.inl rfl,.inl rfl,fun h hv=>(nbw h).ver f (K hv) L⟩
   by_cases q:e.kind=1\/e.kind=4\/e.kind=6
   ·obtain⟨m,x,O,f⟩:=aeO b.nb fE j q;have xI:iG w o.edit.cell.id=some (m:Int):=by rw[xK w _ (dX k),<- c.id,O]
    have xS:jX w e.cell.id=some (m:Int):=by rw[jk w _ (dX k),O]
    refine⟨_,orA _ ?_,?_,put m x f⟩
    ·unfold jy;rcases q with q | q | q
     all_goals
      rw[c.kind]at q
      simp only[cI,g,beq_self_eq_true,ac,v,A,bne_self_eq_false,aa,q,xI,st.1,au,f,aD,zA]
      try rfl
    ·unfold kE;rcases q with q | q | q
     all_goals
      simp only[cS,g,beq_self_eq_true,ac,y,j,bne_self_eq_false,aa,q,xS,st.2,au,f,aD,zA]
      try rfl
   ·have P:(o.edit.kind==1)=false:=by rw[<- c.kind];simp;omega
    have Q:(o.edit.kind==4)=false:=by rw[<- c.kind];simp;omega
    have R:(o.edit.kind==6)=false:=by rw[<- c.kind];simp;omega
    refine⟨aB.mk w d.tapes d.renames,orA _ ?_,?_,⟨B,a.tp,.inl rfl,.inl rfl,fun h _=>nbw h⟩⟩
    ·unfold jy;simp only[cI,g,beq_self_eq_true,ac,v,A,bne_self_eq_false,aa,P,Q,R,zA]
    ·unfold kE;simp only[cS,g,beq_self_eq_true,ac,y,j,bne_self_eq_false,aa,c.kind,P,Q,R,zA]
  ·have l:(n != 0)=true:=by simpa using J
   refine⟨d,orA _ ?_,?_,a⟩
   ·unfold jy;simp only[cI,g,beq_self_eq_true,ac,v,A,l,zA]
   ·unfold kE;simp only[cS,g,beq_self_eq_true,ac,y,j,l,zA]
 have k1':(o.kind==1)=false:=by simpa using g
 by_cases i:o.kind=2
 ·obtain⟨cs⟩:∃cs:List ah,True:=⟨[],trivial⟩;obtain⟨p,C⟩:=uK (cs:=d.notebook.cells) b.nb;have s1:=AY fo.2.2.2.2.2.1;have s2:=AY fo.2.2.2.2.2.2.1;obtain⟨S,T⟩:=alD d.notebook.cells o.src o.dst C (TM p) (by omega) (by omega);have D:(ak.mk d.notebook.cells)=d.notebook:=rfl;rw[D]at S T;by_cases E:(qG (d.notebook.cells.map gQ) o.src o.dst false).2=0
  ·obtain⟨F,G⟩:=S E;have U:gd (d.renames.length+[o].length)=some ():=gdp (by simp;omega);refine⟨aB.mk ⟨kept d.notebook.cells o.src o.dst⟩ d.tapes (d.renames++[o]),orA _ ?_,?_,⟨aaZ b.nb (by omega),a.tp,.inr rfl,.inl rfl,fun h _=>alE h (aaZ b.nb (by omega)) (by omega) (by omega) E⟩⟩
   ·unfold jy;simp only[cI,k1',i,beq_self_eq_true,ac,aa,F,Ti o s,U,zA,show ((2:Int)==1)=false from rfl]
   ·unfold kE;simp only[cS,k1',i,beq_self_eq_true,ac,aa,G,BV o s,U,zA,show ((2:Int)==1)=false from rfl]
  ·obtain⟨F,G,z,Y⟩:=T E;refine⟨d,?_,?_,a⟩
   ·have Z:jy d o u=none:=by
     unfold jy;simp only[cI,k1',i,beq_self_eq_true,ac,aa,F,zA,Option.bind_none,show ((2:Int)==1)=false from rfl]
    have hB:Ak d o u=some d:=by
     unfold Ak;simp only[cI,k1',i,beq_self_eq_true,ac,aa,G,zA,show ((2:Int)==1)=false from rfl]
    unfold mZ;rw[Z,hB];rfl
   ·unfold kE;simp only[cS,k1',i,beq_self_eq_true,ac,aa,Y,zA,show ((2:Int)==1)=false from rfl]
 have k2':(o.kind==2)=false:=by simpa using i
 by_cases H:o.kind=3
 ·have fr:=fo.2.2.2.2.2.2.2.2.2;have p1:=abj d.tapes o.cell o.version o.reads b.tp fr t;have p2:=ZL d.tapes o.cell o.version o.reads b.tp fr t;have p3:Tps (N+o.reads.length) (M+o.reads.length) (wE d.tapes o.cell o.version o.reads):=by
   by_cases W:o.reads=[]
   ·rw[W,adI rfl (.inr rfl)];exact Pq b.tp (Nat.le_add_right _ _) (Nat.le_add_right _ _)
   ·have:0<o.reads.length:=List.length_pos_iff.2 W;exact Pq (aiG b.tp fr (az _) (by omega) t fo.2.2.2.2.2.2.2.1 fo.2.2.2.2.2.2.2.2.1) (by omega) (az _)
  refine⟨aB.mk d.notebook (wE d.tapes o.cell o.version o.reads) d.renames,orA _ ?_,?_,⟨a.nb,p3,.inl rfl,.inr rfl,fun h _=>h⟩⟩
  ·unfold jy;simp only[cI,k1',k2',H,beq_self_eq_true,ac,aa,p1,zA,show ((3:Int)==1)=false from rfl,show ((3:Int)==2)=false from rfl]
  ·unfold kE;simp only[cS,k1',k2',H,beq_self_eq_true,ac,aa,p2,zA,show ((3:Int)==1)=false from rfl,show ((3:Int)==2)=false from rfl]
 ·have k3':(o.kind==3)=false:=by simpa using H
  refine⟨d,orA _ ?_,?_,a⟩
  ·unfold jy;simp only[cI,k1',k2',k3',aa,zA]
  ·unfold kE;simp only[cS,k1',k2',k3',aa,zA]
end Go.Proofs.YtngjomkjlonfpaaGreatDoor
/- Sizes with lengths, and counts, for documents and operations. -/
namespace Go.Proofs.YtngjomkjlonfpaaGreatDoor
open Go.Abs Go.Proofs
theorem SzK.one{α:Type}{f:α->Int->Option Int}{P:Prop}{x:α}{c s:Nat}(h:SzK f P x c s):SzK f P x 20 20:=by
 intro l a h1;obtain⟨r,e,p⟩:=h l a h1;refine⟨r,e,?_⟩;rcases p with p | ⟨b,d,i,g⟩
 ·exact .inl p
 ·exact .inr ⟨b,d,by omega,g⟩
theorem al6{a b:List aN}(h:a.Sublist b):jR a<=jR b:=by
 induction h with
 | slnil=>exact az _
 | cons x _ ih=>
  simp only[D6,List.map_cons,List.sum_cons]at ih ⊢;omega
 | cons_cons x _ ih=>
  simp only[D6,List.map_cons,List.sum_cons]at ih ⊢;omega
theorem Wi(a b:List aN):jR (fA a b)<=jR a+jR b:=by
 obtain⟨t,e,h⟩:=tq b a;have:=al6 h;rw[e];simp only[D6,List.map_append,List.sum_append]at this ⊢;omega
theorem abD(c v:Int)(rs:List aN):∀l:List aK,lq (y5 c v rs l)<=lq l+jR rs
 | []=>Nat.zero_le _
 | t::r=>by
  have ih:=abD c v rs r;have a:=Wi t.reads rs;unfold y5;cases qL c v t
  ·simp only[aa,sD,List.map_cons,List.sum_cons]at ih ⊢;omega
  ·simp only[ac,sD,List.map_cons,List.sum_cons,NW]at ih ⊢;omega
theorem afE(x:aK):∀l:List aK,lq (Jk x l)<=lq l+D5 x
 | []=>by
  unfold Jk;simp only[sD,List.map_cons,List.map_nil,List.sum_cons,List.sum_nil];omega
 | t::r=>by
  have ih:=afE x r;unfold Jk;cases TU x t
  ·simp only[aa,sD,List.map_cons,List.sum_cons]at ih ⊢;omega
  ·simp only[ac,sD,List.map_cons,List.sum_cons]at ih ⊢;omega
theorem ak0(l:List aK)(c v:Int)(rs:List aN):lq (wE l c v rs)<=lq l+jR rs+2:=by
 unfold wE;cases l.any (qL c v)with
 | true=>have:=abD c v rs l;rw[ac];omega
 | false=>
  rw[aa];cases rs with
  | nil=>show lq l<=_;omega
  | cons y ys=>
   have h1:=afE (aK.mk c v (fA [] (y::ys))) l;have h2:=Wi [] (y::ys);have a:jR []=0:=rfl;simp only[NW]at h1;show lq (Jk _ l)<=_
   omega
theorem ahQ.cnt{N M:Nat}{d:aB}{o:GOp}{r:aB}(h:ahQ N M d o r):lq r.tapes<=lq d.tapes+jR o.reads+2:=by
 rcases h.tc with e | e
 ·rw[e];omega
 ·rw[e];exact ak0 _ _ _ _
end Go.Proofs.YtngjomkjlonfpaaGreatDoor
/- Plain law: FnExactReplayLog. -/
namespace Go.Proofs.YtngjomkjlonfpaaGreatDoor
noncomputable section
open Go.Abs Go.Proofs
def akj(x y:GOp):Prop:=x.time<y.time\/(x.time=y.time/\x.by_<y.by_)
theorem Wp{xs:List GOp}(hv:iw (ny xs) xs 0=true):∀(m i:Nat) (x y:GOp),xs[i]?=some x->xs[i+m+1]?=some y->akj x y:=by
 have one:∀(i:Nat) (x y:GOp),xs[i]?=some x->xs[i+1]?=some y->akj x y:=fun i x y b a=>by
  have h:=uN hv (i+1) y a;unfold ny at h;rw[Nat.zero_add,Nat.add_sub_cancel,b]at h;simp only[zI,Bool.or_eq_true,Bool.not_eq_true',decide_eq_false_iff_not,decide_eq_true_eq,beq_iff_eq]at h;rcases h.2 with h | h
  ·omega
  ·exact h
 intro m;induction m with
 | zero=>exact one
 | succ m ih=>
  intro i x y b a;have d:=(zC.1 a).1;obtain⟨z,c⟩:∃z,xs[i+m+1]?=some z:=⟨_,zF (by omega)⟩;have h1:=ih i x z b c;have h2:=one (i+m+1) z y c (by rw[<- a];rfl);unfold akj at h1 h2 ⊢;omega
theorem aaU{xs:List GOp}(hv:iw (ny xs) xs 0=true){i j:Nat}{x y:GOp}(a:xs[i]?=some x)(b:xs[j]?=some y)(c:x.time=y.time)(d:x.by_=y.by_):i=j:=by
 rcases Nat.lt_trichotomy i j with h | h | h
 ·have:=Wp hv (j-i-1) i x y a (by rw[<- b];congr 1;omega);unfold akj at this;omega
 ·exact h
 ·have:=Wp hv (i-j-1) j y x b (by rw[<- a];congr 1;omega);unfold akj at this;omega
theorem agU{xs:List GOp}(g:xs.length<=60)(hv:iw (ny xs) xs 0=true){k:Nat}{e:GOp}(d:xs[k]?=some e):oU xs e=some (k:Int):=by
 have h1:oU xs e=some (dB (fun x:GOp=>(x.time==e.time)&&(x.by_==e.by_)) xs 0):=by
  unfold oU;refine uS (fun i=>((xs,e.time,e.by_,e.kind,e.seen,e.edit.kind,e.edit.pos,e.edit.cell.id,e.edit.cell.version,e.edit.cell.kind,e.edit.cell.name,e.edit.cell.code,e.edit.cell.n,e.src,e.dst,e.cell,e.version,e.reads,(i:Int)):(List GOp)×Int×Int×Int×(List Int)×Int×Int×Int×Int×Int×Str×Str×Int×Str×Str×Int×Int×(List aN)×Int)) xs _ (fun i x a=>?_) ?_
  ·simp only[dw a,ac,au,a,zA,dn a (by omega)];cases (x.time==e.time)<;>cases (x.by_==e.by_)<;>rfl
  ·simp only[bG,aa]
 rw[h1];have f:=DU (fun x:GOp=>(x.time==e.time)&&(x.by_==e.by_)) xs 0 ⟨e,zG d,by simp⟩;rcases mM (fun x:GOp=>(x.time==e.time)&&(x.by_==e.by_)) xs 0 with b | ⟨n,x,b,a⟩
 ·rw[b]at f;omega
 ·have c:=AL (fun x:GOp=>(x.time==e.time)&&(x.by_==e.by_)) xs 0 n x b a;simp only[zI,beq_iff_eq]at c;have:=aaU hv a d c.1 c.2;rw[b,Nat.zero_add,this]
def hsB(xs:List GOp)(o:GOp)(k:Int):Bool:=(vw o xs k).getD false
theorem ajL{xs:List GOp}{o:GOp}(a:o.seen.length<lim)(b:xs.length<lim)(k:Int):vw o xs k=some (hsB xs o k)/\yU o xs k=some (hsB xs o k):=by
 obtain⟨v,c,d⟩:=aez o xs k a b;unfold hsB;rw[c,d];exact⟨rfl,rfl⟩
def Hr(xs:List GOp)(o:GOp)(k:Int):Option GOp:=if hsB xs o k=true then none else xs[k.toNat]?
def BA(xs:List GOp)(o:GOp)(at_:List Int):List GOp:=at_.filterMap (Hr xs o)
theorem Xr{xs:List GOp}{o:GOp}{at_:List Int}{j:Nat}{k:Int}(h:at_[j]?=some k):BA xs o (at_.take (j+1))=BA xs o (at_.take j)++(Hr xs o k).toList:=by
 unfold BA;rw[List.take_add_one,h,List.filterMap_append];show _++List.filterMap (Hr xs o) [k]=_
 rw[List.filterMap_cons,List.filterMap_nil];cases Hr xs o k<;>rfl
theorem ahY{xs:List GOp}{o:GOp}{at_:List Int}{x:GOp}(h:x∈BA xs o at_):x∈xs:=by
 unfold BA at h;obtain⟨k,_,a⟩:=List.mem_filterMap.1 h;unfold Hr at a;split at a
 ·cases a
 ·exact zG a
theorem Hq(xs:List GOp)(o:GOp)(at_:List Int):(BA xs o at_).length<=at_.length:=by
 unfold BA;exact List.length_filterMap_le _ _
def BL(xs:List GOp):Nat:=(xs.map fun x=>x.reads.length).sum
def akJ(xs:List GOp):Nat:=(xs.map fun x=>jR x.reads+2).sum
structure VI(xs:List GOp)(i:Nat)(d:aB)(at_:List Int):Prop where
 nb:Fit B20 (.base .notebook) d.notebook
 tp:Tps (BL (xs.take i)) (BL (xs.take i)) d.tapes
 cn:lq d.tapes<=akJ (xs.take i)
 ln:d.renames.length=at_.length
 rn:∀(j:Nat) (k:Int),at_[j]?=some k->0<=k/\k<(i:Int)/\d.renames[j]?=xs[k.toNat]?
 al:at_.length<=i
theorem VI.mem{xs:List GOp}{i:Nat}{d:aB}{at_:List Int}(h:VI xs i d at_){x:GOp}(b:x∈d.renames):x∈xs:=by
 obtain⟨j,a⟩:=List.mem_iff_getElem?.1 b;have c:=(zC.1 a).1;obtain⟨k,e⟩:∃k,at_[j]?=some k:=⟨_,zF (by have:=h.ln;omega)⟩;have:=(h.rn j k e).2.2;rw[a]at this;exact zG this.symm
theorem akH{xs:List GOp}{i:Nat}{x:GOp}(h:xs[i]?=some x):BL (xs.take (i+1))=BL (xs.take i)+x.reads.length:=by
 unfold BL;rw[List.take_add_one,h];simp
theorem akI{xs:List GOp}{i:Nat}{x:GOp}(h:xs[i]?=some x):akJ (xs.take (i+1))=akJ (xs.take i)+(jR x.reads+2):=by
 unfold akJ;rw[List.take_add_one,h];simp
theorem Xy:∀(xs:List GOp) (i:Nat),BL (xs.take i)<=BL xs
 | [],i=>by simp
 | x::r,0=>Nat.zero_le _
 | x::r,i+1=>by
  have:=Xy r i;unfold BL at this ⊢;simp only[List.take_succ_cons,List.map_cons,List.sum_cons];omega
abbrev LgI:=(List GOp)×(List ah)×(List aK)×(List GOp)×(List ah)×(List aK)×(List GOp)×(List Int)×(List GOp)×Int×Int
abbrev LgS:=(List GOp)×(List ah)×(List aK)×(List GOp)×(List ah)×(List aK)×(List GOp)×Int
abbrev LhI:=(List GOp)×(List ah)×(List aK)×(List GOp)×(List ah)×(List aK)×(List GOp)×(List Int)×Int×Int×Int×Int×(List Int)×Int×Int×Int×Int×Int×Str×Str×Int×Str×Str×Int×Int×(List aN)×(List GOp)×(List GOp)×Int×Int×Int×Int
abbrev LhS:=(List GOp)×(List ah)×(List aK)×(List GOp)×(List ah)×(List aK)×(List GOp)×Int×(List GOp)×Int
set_option maxHeartbeats 1000000 in
theorem alx(xs:List GOp)(h:aW B20 (.list (.base .op) xs))(hR:BL xs<=1048576)(J:Nat->aB->List Int->Prop)(S:J 0 (aB.mk (ak.mk []) [] []) [])
  (JS:iw (ny xs) xs 0=true->∀(i:Nat) (o:GOp) (d:aB) (at_:List Int) (r:aB),xs[i]?=some o->VI xs i d at_->J i d at_->mZ d o (BA xs o at_)=some r->kE d o (BA xs o at_)=some r->ahQ (BL (xs.take i)+o.reads.length) (BL (xs.take i)+o.reads.length) d o r ->
   J (i+1) r (if (decide ((r.renames.length:Int)>(d.renames.length:Int)))=true then at_++[(i:Int)]else at_)) :
  ∃(d:aB) (at_:List Int),oJ xs=some d/\oD xs=some d/\(((iw (ny xs) xs 0&&decide ((xs.length:Int)<=60))=false/\d=aB.mk (ak.mk []) [] []/\at_=[])\/((iw (ny xs) xs 0&&decide ((xs.length:Int)<=60))=true/\VI xs xs.length d at_/\J xs.length d at_)):=by
 obtain⟨G,F⟩:∃G:aB->List Int->Prop,G=fun d at_=>(((iw (ny xs) xs 0&&decide ((xs.length:Int)<=60))=false/\d=aB.mk (ak.mk []) [] []/\at_=[])\/((iw (ny xs) xs 0&&decide ((xs.length:Int)<=60))=true/\VI xs xs.length d at_/\J xs.length d at_)):=⟨_,rfl⟩
 suffices E:∃d:aB,oJ xs=some d/\oD xs=some d/\∃at_:List Int,G d at_ by
  obtain⟨d,h1,h2,at_,p⟩:=E;exact⟨d,at_,h1,h2,by rw[F]at p;exact p⟩
 obtain⟨T,U⟩:=Hl xs h;have hfull:=dh h;unfold oJ oD;rw[T,U,zA,zA];have V:VI xs 0 (aB.mk (ak.mk []) [] []) []:=⟨uI (fun x c=>by cases c) (by simp),⟨ajc,az _,fun t W=>by cases W⟩,Nat.zero_le _,rfl,fun j k a=>by simp at a,az _⟩;by_cases g:(iw (ny xs) xs 0&&decide ((xs.length:Int)<=60))=true
 case neg=>
  have:(iw (ny xs) xs 0&&decide ((xs.length:Int)<=60))=false:=by simpa using g
  rw[this]
  exact⟨_,rfl,rfl,[],by rw[F];exact .inl ⟨this,rfl,rfl⟩⟩
 rw[g];have v:=g;simp only[zI,decide_eq_true_eq]at g;obtain⟨hv,X⟩:=g;have hl60:xs.length<=60:=by omega
 have hlim:xs.length<lim:=dX hfull;simp only[aM,aa];refine Xt (fun (s:aB×List Int) (i:Nat)=>((xs,[],[],[],s.1.notebook.cells,s.1.tapes,s.1.renames,s.2,xs,(xs.length:Int),(i:Int)):LgI)) (fun (s:aB×List Int) (i:Nat)=>((xs,[],[],[],s.1.notebook.cells,s.1.tapes,s.1.renames,(i:Int)):LgS)) xs (fun i s=>VI xs i s.1 s.2/\J i s.1 s.2) (fun d=>∃at_:List Int,G d at_) (fun i o s c f=>.inl ?_) (fun s f=>?_) (aB.mk (ak.mk []) [] [],[]) ⟨V,S⟩
 ·obtain⟨d,at_⟩:=s;obtain⟨f,Y⟩:VI xs i d at_/\J i d at_:=f;have hi:=(zC.1 c).1;have Z:=f.al;have fo:=h.bQ o (zG c);have fo':=fo;rw[AB]at fo';have H:=dX (dh fo'.2.2.2.1);have E:=fun k=>ajL (xs:=xs) (o:=o) H hlim k
  have w:=akH c;have hrl:=Xy xs (i+1);have hul:=Hq xs o at_;have hlen:=f.ln;have frn:aW B20 (.list (.base .op) d.renames):=gu (by omega) fun x I=>h.bQ x (f.mem I)
  have fun_:aW B20 (.list (.base .op) (BA xs o at_)):=gu (by omega) fun x I=>h.bQ x (ahY I)
  obtain⟨r,P,Q,q⟩:=Yb d o (BA xs o at_) ⟨f.nb,f.tp,frn⟩ fo fun_ (by omega) (by omega);have hcn:=q.cnt;have hcu:=akI c;have hcI:=f.cn;have hdoc:aB.mk (ak.mk d.notebook.cells) d.tapes d.renames=d:=rfl;have y:GOp.mk o.time o.by_ o.kind o.seen (dR.mk o.edit.kind o.edit.pos (ah.mk o.edit.cell.id o.edit.cell.version o.edit.cell.kind o.edit.cell.name o.edit.cell.code o.edit.cell.n)) o.src o.dst o.cell o.version o.reads=o:=rfl;have z:∀(j:Nat) (k:Int),at_[j]?=some k->∃e,k=((k.toNat:Nat):Int)/\xs[k.toNat]?=some e/\d.renames[j]?=some e:=fun j k a=>by
   obtain⟨h1,h2,p⟩:=f.rn j k a;obtain⟨e,l⟩:∃e,xs[k.toNat]?=some e:=⟨_,zF (by omega)⟩;exact⟨e,by omega,l,by rw[p,l]⟩
  have next:∃at':List Int,(at'=if (decide ((r.renames.length:Int)>(d.renames.length:Int)))=true then at_++[(i:Int)]else at_)/\VI xs (i+1) r at':=by
   refine⟨_,rfl,?_⟩;rcases q.rn with e | e
   ·rw[e,ae (by omega),if_neg (by simp)];exact⟨q.nb,by rw[w];exact q.tp,by omega,by rw[e];exact hlen,fun j k a=>by
     obtain⟨h1,h2,p⟩:=f.rn j k a;exact⟨h1,by omega,by rw[e];exact p⟩,by omega⟩
   ·have K:r.renames.length=d.renames.length+1:=by rw[e];simp
    rw[aq (by omega),if_pos rfl];refine⟨q.nb,by rw[w];exact q.tp,by omega,by rw[K];simp[hlen],fun j k a=>?_,by simp;omega⟩;by_cases L:j<at_.length
    ·rw[List.getElem?_append_left L]at a;obtain⟨h1,h2,p⟩:=f.rn j k a;refine⟨h1,by omega,?_⟩;rw[e,List.getElem?_append_left (by omega)];exact p
    ·have M:=(zC.1 a).1;simp at M;have N:j=at_.length:=by omega
     subst N;rw[List.getElem?_append_right (az _),Nat.sub_self]at a;have a:(i:Int)=k:=by simpa using a
     subst a;refine⟨by omega,by omega,?_⟩;rw[e,List.getElem?_append_right (by omega),hlen,Nat.sub_self,aD,c];rfl
  obtain⟨at',b,O⟩:=next;have A:=JS hv i o d at_ r c f Y P Q q;rw[<- b]at A;refine⟨(r,at'),?_,?_,O,A⟩
  ·simp only[dw c,ac,au,c,zA];refine rO (dK (fun (u:List GOp) (j:Nat)=>((xs,[],[],[],d.notebook.cells,d.tapes,d.renames,at_,(i:Int),o.time,o.by_,o.kind,o.seen,o.edit.kind,o.edit.pos,o.edit.cell.id,o.edit.cell.version,o.edit.cell.kind,o.edit.cell.name,o.edit.cell.code,o.edit.cell.n,o.src,o.dst,o.cell,o.version,o.reads,u,xs,(xs.length:Int),(i:Int),(at_.length:Int),(j:Int)):LhI)) at_ (fun j u=>u=BA xs o (at_.take j)) _ (fun j k u a m=>.inl ?_) (fun u m=>?_) [] rfl)
   ·obtain⟨e,ek,l,_⟩:=z j k a;have L:=(zC.1 a).1;have hupd:=Xr (xs:=xs) (o:=o) a;have hidx:idx xs k=some e:=by rw[ek,au,l]
    have hull:=Hq xs o (at_.take j);rw[ba]at hull;simp only[dw a,ac,au,a,aD,zA,y,(E k).2,hidx,dn a (by omega),gdp (show u.length+[e].length<=34359738368 by rw[m];simp;omega)];rw[m,hupd];cases hh:hsB xs o k with
    | true=>
     refine⟨_,rfl,?_⟩;unfold Hr;rw[if_pos hh];simp
    | false=>
     refine⟨_,rfl,?_⟩;unfold Hr;rw[if_neg (by rw[hh];simp),l];rfl
   ·rw[List.take_length]at m;subst m;simp only[bG,aa,hdoc,y,P,zA];cases R:decide ((r.renames.length:Int)>(d.renames.length:Int))with
    | true=>
     rw[R,if_pos rfl]at b;rw[ac,gdp (show at_.length+[(i:Int)].length<=34359738368 by simp;omega),zA,b,dn c (by omega)];exact⟨_,rfl,rfl⟩
    | false=>
     rw[R,if_neg (by simp)]at b;rw[aa,b,dn c (by omega)];exact⟨_,rfl,rfl⟩
  ·simp only[dw c,ac];refine rO (dK (fun (u:List GOp) (j:Nat)=>((xs,[],[],[],d.notebook.cells,d.tapes,d.renames,(i:Int),u,(j:Int)):LhS)) d.renames (fun j u=>u=BA xs o (at_.take j)) _ (fun j e u l m=>.inl ?_) (fun u m=>?_) [] rfl)
   ·have L:=(zC.1 l).1;obtain⟨k,a⟩:∃k,at_[j]?=some k:=⟨_,zF (by omega)⟩;obtain⟨e',ek,B,C⟩:=z j k a;have:e=e':=by rw[l]at C;exact a6 C
    subst this;have hupd:=Xr (xs:=xs) (o:=o) a;have D:=agU hl60 hv B;rw[<- ek]at D;have hull:=Hq xs o (at_.take j);rw[ba]at hull;simp only[dw l,ac,au,c,l,aD,zA,D,(E k).1,dn l (by omega),gdp (show u.length+[e].length<=34359738368 by rw[m];simp;omega)];rw[m,hupd];cases hh:hsB xs o k with
    | true=>
     refine⟨_,rfl,?_⟩;unfold Hr;rw[if_pos hh];simp
    | false=>
     refine⟨_,rfl,?_⟩;unfold Hr;rw[if_neg (by rw[hh];simp),B];rfl
   ·rw[hlen,List.take_length]at m;subst m;simp only[bG,aa,au,c,hdoc,Q,zA,dn c (by omega)];exact⟨_,rfl,rfl⟩
 ·obtain⟨d,at_⟩:=s;simp only[bG,aa];exact⟨d,rfl,rfl,at_,by rw[F];exact .inr ⟨v,f.1,f.2⟩⟩
end
end Go.Proofs.YtngjomkjlonfpaaGreatDoor
/- Plain laws: drawn operations and logs; FnOps. -/
namespace Go.Proofs.YtngjomkjlonfpaaGreatDoor
open Go.Abs Go.Proofs
theorem alS(a:List GOp):∀s:Int,s<=a.foldl (fun s x=>if x.time>s then x.time else s) s/\(∀x,x∈a->x.time<=a.foldl (fun s x=>if x.time>s then x.time else s) s) /\
  ∀T,s<=T->(∀x,x∈a->x.time<=T)->a.foldl (fun s x=>if x.time>s then x.time else s) s<=T:=by
 induction a with
 | nil=>exact fun s=>⟨Int.le_refl _,fun x b=>(by cases b),fun T h _=>h⟩
 | cons y r ih=>
  intro s;obtain⟨h1,h2,c⟩:=ih (if y.time>s then y.time else s);have d:s<=(if y.time>s then y.time else s)/\y.time<=(if y.time>s then y.time else s):=by
   by_cases h:y.time>s
   ·rw[if_pos h];omega
   ·rw[if_neg h];omega
  rw[List.foldl_cons];refine⟨by omega,fun x b=>?_,fun T e b=>c T ?_ fun x h=>b x (ar _ h)⟩
  ·rcases bc.1 b with rfl | b
   ·omega
   ·exact h2 x b
  ·have:=b y aw;by_cases h:y.time>s
   ·rw[if_pos h];omega
   ·rw[if_neg h];omega
theorem Xl(n:Int):I64 (w64 n):=.int .i64 _ (by
 unfold Lit.wf w64;simp[IntKind.wrap,IntKind.bits,IntKind.signed,IntKind.min,IntKind.max];omega)
abbrev OpF(o:GOp):Prop:=Fit B20 (.base .op) o
theorem qU{o:GOp}:OpF o↔I64 o.time/\I64 o.by_/\I64 o.kind/\aW B20 (.list (.base .int) o.seen)/\ahR o.edit/\aW B20 (.str o.src)/\aW B20 (.str o.dst)/\I64 o.cell/\I64 o.version/\aW B20 (.list (.base .read) o.reads):=by
 show Fit B20 (.base .op) _↔_
 rw[AB]
theorem RQ{l:List Int}(c:l.length<=1000)(h:∀x,x∈l->I64 x):aW B20 (.list (.base .int) l):=
 gu (by omega) fun x a d b=>by
  have:d=.int .i64 x:=by simpa [Ty.cells,Base.cells] using b
  rw[this];exact h x a
theorem aa4{l:List Int}(h:aW B20 (.list (.base .int) l)):∀x,x∈l->I64 x:=fun x a=>h.bQ x a _ (by simp[Ty.cells,Base.cells])
structure OpD(T:Int)(o:GOp):Prop where
 fit:OpF o
 t0:0<=o.time
 t1:o.time<=T
 seen:o.seen.length=3
 rd:o.reads.length<=1000
theorem apf{n:Nat}(h:n<6):∃s,idx ([[],[97],[98],[99],[100],[101]]:List Str) ((n:Nat):Int)=some s/\s.length<=1/\([[],[97],[98],[99],[100],[101]]:List Str)[n]?=some s:=by
 obtain⟨s,b,_,a⟩:=Jl (xs:=([[],[97],[98],[99],[100],[101]]:List Str)) (n:=n) h;refine⟨s,b,?_,a⟩;have:=zG a;simp at this;rcases this with rfl | rfl | rfl | rfl | rfl | rfl<;>simp
theorem ahB{c:bW}(h:dM c):Dr (Ii c) ahR:=by
 unfold Ii;refine Dr.bind (vH h _ (by simp)) fun w k e f=>Dr.bind (dW e 4) fun y q g b=>Dr.bind (dW g 5) fun i n j d=>?_
 have z:1<=k/\k<=6:=by
  simp at f;omega
 have A:=b.2 (by omega);have l:=b.1;have B:=d.2 (by omega);have m:=d.1;have o:w64 (1+n)=1+n:=bK (by omega) (by omega);show Dr ((Ci i (w64 (1+n))).bind _) ahR
 rw[o];refine Dr.bind (amd j (1+n) (by omega) (by omega)) fun C x k4 px=>?_
 obtain⟨s,p,ls,r⟩:=apf (n:=(1+n).toNat) (by omega);have a:x.id=((1+n).toNat:Nat):=by rw[px.id];omega
 have fx:=ahI.1 px.fit;have fs:aW B20 (.str s):=PI (by omega);have ik:I64 k:=i64 (by omega) (by omega);have iq:I64 q:=i64 (by omega) (by omega);show Dr ((idx ([[],[97],[98],[99],[100],[101]]:List Str) x.id).bind _) ahR
 rw[a,p,zA,aD,r,zA];refine Dr.bif (fun _=>?_) fun _=>.ret k4 (ajZ ik iq (TN.2 ⟨by rw[<- a];exact fx.1,fx.2.1,fx.2.2.1,fs,fx.2.2.2.2.1,fx.2.2.2.2.2⟩))
 have u:I64 2:=i64 (by omega) (by omega);refine Dr.bind (WJ k4) fun D t v lt=>?_
 have ft:aW B20 (.str t):=PI (by omega);exact .ret v (ajZ ik iq (TN.2 ⟨by rw[<- a];exact fx.1,fx.2.1,u,fs,ft,fx.2.2.2.2.2⟩))
theorem Wn{c:bW}(h:dM c)(b:List GOp)(hl:b.length<=1000)(T:Int)(X:0<=T)(hT:T<=1000000)(Y:∀x,x∈b->x.time<=T)(by_:Int)(Z:0<=by_)(hy:by_<=1000):Dr (uX c b by_) (OpD (T+2)):=by
 unfold uX;have A:b.length<lim:=by show b.length<4611686018427387904;omega
 have lt:=Ut b A;obtain⟨f1,f2,U⟩:=alS b 0;have U:=U T X Y;generalize b.foldl (fun s x=>if x.time>s then x.time else s) 0=v at *;rw[lt,zA];refine Dr.bind (dW h 2) fun c2 q k2 V=>Dr.bind (ahB k2) fun I e k3 fe=>?_
 have hq:=V.2 (by omega);have hq0:=V.1;have w1:w64 (v+1)=v+1:=bK (by omega) (by omega);have w2:w64 (v+1+q)=v+1+q:=bK (by omega) (by omega);have it:I64 (v+1+q):=i64 (by omega) (by omega);have iy:I64 by_:=i64 (by omega) (by omega);simp only[w1,w2];have no:ahR (dR.mk 0 0 (ah.mk 0 0 0 [] [] 0)):=ajZ (i64 (by omega) (by omega)) (i64 (by omega) (by omega)) (TN.2 ⟨i64 (by omega) (by omega),i64 (by omega) (by omega),i64 (by omega) (by omega),PI (by simp),PI (by simp),i64 (by omega) (by omega)⟩);have B:I64 0:=i64 (by omega) (by omega);have os:aW B20 (.str []):=PI (by simp);have orr:aW B20 (.list (.base .read) []):=ajb;have g:0<=v+1+q:=by omega
 have j:v+1+q<=T+2:=by omega
 have o1:I64 1:=i64 (by omega) (by omega);have o2:I64 2:=i64 (by omega) (by omega);have o3:I64 3:=i64 (by omega) (by omega);generalize v+1+q=t at *;refine Dr.of (pX (fun (s:List Int) (i:Nat)=>((I.b,I.i,I.h,b,0,0,0,[],0,0,0,0,0,[],[],0,[],[],0,0,[],t,by_,1,s,e.kind,e.pos,e.cell.id,e.cell.version,e.cell.kind,e.cell.name,e.cell.code,e.cell.n,[],[],0,0,[],(i:Int)):(List Int)×Int×Int×(List GOp)×Int×Int×Int×(List Int)×Int×Int×Int×Int×Int×Str×Str×Int×Str×Str×Int×Int×(List aN)×Int×Int×Int×(List Int)×Int×Int×Int×Int×Int×Str×Str×Int×Str×Str×Int×Int×(List aN)×Int)) 3
  (fun i s=>s.length=i/\∀x,x∈s->I64 x) (fun (r:bW×GOp)=>dM r.1/\OpD (T+2) r.2) (fun i s hi K=>?_) (fun s K=>?_) [] ⟨rfl,fun x k=>(by cases k)⟩)
 ·obtain⟨f,m⟩:=K;obtain⟨w,ew,hw⟩:=X5 b (i:Int) A;have L:decide ((i:Int)<3)=true:=by simp;omega
  have M:w64 ((i:Int)+1)=((i+1:Nat):Int):=by rw[bK (by omega) (by omega)];omega
  refine⟨s++[w],?_,by simp[f],fun x k=>?_⟩
  ·simp only[L,ac,ew,zA,bZ (show s.length+[w].length<=34359738368 by simp;omega),M]
  ·rcases List.mem_append.1 k with k | k
   ·exact m x k
   ·rw[List.mem_singleton.1 k];rcases hw with rfl | ⟨n,rfl⟩
    ·exact B
    ·exact Xl n
 ·obtain⟨f,m⟩:=K;have fs:aW B20 (.list (.base .int) s):=RQ (by omega) m;have L:decide (((3:Nat):Int)<3)=false:=rfl;simp only[L,aa];have key:Dr ((aY I 8).bind fun p=>
   bif (p.2==0)then
    (dI p.1 ([[97],[98],[99]]:List Str)).bind fun C=>
    (dI C.1 ([[120],[121],[116,111,116,97,108]]:List Str)).bind fun D=>
    some (D.1,GOp.mk t by_ 2 s (dR.mk 0 0 (ah.mk 0 0 0 [] [] 0)) C.2 D.2 0 0 [])
   else
   bif (p.2==1)then
    (dI p.1 ([[97],[98],[99]]:List Str)).bind fun W=>
    (dI W.1 ([[120],[121],[116,111,116,97,108]]:List Str)).bind fun E=>
    some (E.1,GOp.mk t by_ 2 s (dR.mk 0 0 (ah.mk 0 0 0 [] [] 0)) W.2 E.2 0 0 [])
   else
    bif (p.2==2)then
     (aY p.1 5).bind fun F=>
     (aY F.1 20).bind fun G=>
     (Cj G.1).bind fun H=>
     some (H.1,GOp.mk t by_ 3 s (dR.mk 0 0 (ah.mk 0 0 0 [] [] 0)) [] [] (w64 (1+F.2)) (w64 (3+G.2)) H.2)
    else
     some (p.1,GOp.mk t by_ 1 s (dR.mk e.kind e.pos (ah.mk e.cell.id e.cell.version e.cell.kind e.cell.name e.cell.code e.cell.n)) [] [] 0 0 [])) (OpD (T+2)):=by
   have ren:∀u,dM u->Dr ((dI u ([[97],[98],[99]]:List Str)).bind fun C=>
     (dI C.1 ([[120],[121],[116,111,116,97,108]]:List Str)).bind fun D=>
     some (D.1,GOp.mk t by_ 2 s (dR.mk 0 0 (ah.mk 0 0 0 [] [] 0)) C.2 D.2 0 0 [])) (OpD (T+2)):=fun u z=>by
    refine Dr.bind (iJ z _ (by simp)) fun c7 a N O=>Dr.bind (iJ N _ (by simp)) fun c8 d Q R=>.ret Q ⟨qU.2 ⟨it,iy,o2,fs,no,PI ?_,PI ?_,B,B,orr⟩,g,j,f,by simp⟩
    ·simp at O;rcases O with rfl | rfl | rfl<;>simp
    ·simp at R;rcases R with rfl | rfl | rfl<;>simp
   refine Dr.bind (dW k3 8) fun u n z _=>Dr.bif (fun _=>ren u z) fun _=>Dr.bif (fun _=>ren u z) fun _=>Dr.bif (fun _=>?_) fun _=>?_
   ·refine Dr.bind (dW z 5) fun c7 x N O=>Dr.bind (dW N 20) fun c8 y Q R=>?_
    obtain⟨J,l,S,k9,fl,ll⟩:=aga Q;refine Dr.bind (P:=fun l=>aW B20 (.list (.base .read) l)/\l.length<=1000) ⟨J,l,S,k9,fl,by omega⟩ fun J l k9 fl=>.ret k9 ⟨qU.2 ⟨it,iy,o3,fs,no,os,os,Xl _,Xl _,fl.1⟩,g,j,f,fl.2⟩
   ·exact .ret z ⟨qU.2 ⟨it,iy,o1,fs,fe,os,os,B,B,orr⟩,g,j,f,by simp⟩
  obtain⟨J,o,S,k9,po⟩:=key;refine⟨(J,o),?_,k9,po⟩;rw[S];rfl
theorem ex1{ρ:Type}{z:Option ρ}(h:∃r,z=some r/\True):∃r,z=some r:=by
 obtain⟨r,e,_⟩:=h;exact⟨r,e⟩
theorem aiQ(a:List GOp)(b:GOp)(h:a.length<lim):∃r,oU a b=some r:=by
 unfold oU;refine ex1 (tu (fun (_:Unit) (i:Nat)=>((a,b.time,b.by_,b.kind,b.seen,b.edit.kind,b.edit.pos,b.edit.cell.id,b.edit.cell.version,b.edit.cell.kind,b.edit.cell.name,b.edit.cell.code,b.edit.cell.n,b.src,b.dst,b.cell,b.version,b.reads,(i:Int)):(List GOp)×Int×Int×Int×(List Int)×Int×Int×Int×Int×Int×Str×Str×Int×Str×Str×Int×Int×(List aN)×Int)) a (fun _ _=>True) (fun _=>True) (fun i x s c d=>?_) (fun s d=>?_) () trivial)
 ·simp only[dec_lt c,ac,au,c,zA,gG c h];cases (x.time==b.time)with
  | false=>exact .inl ⟨(),rfl,trivial⟩
  | true=>cases (x.by_==b.by_)with
   | false=>exact .inl ⟨(),rfl,trivial⟩
   | true=>exact .inr ⟨_,rfl,trivial⟩
 ·exact⟨_,by simp only[aT,aa];rfl,trivial⟩
theorem aaR(a b:List GOp)(C:a.length<=100)(D:b.length<=100)(P:GOp->Prop)(z:∀x,P x->OpF x)(pa:∀x,x∈a->P x)(pb:∀x,x∈b->P x) :
  ∃w,uj a b=some w/\w.length<=a.length+b.length/\∀x,x∈w->P x:=by
 unfold uj;rw[bZ (by omega),zA,bZ (by simp;omega),zA,List.nil_append];have hall:(a++b).length<=200:=by rw[a7];omega
 have pall:∀x,x∈a++b->P x:=fun x f=>by
  rcases List.mem_append.1 f with f | f
  ·exact pa x f
  ·exact pb x f
 rw[<- a7];generalize a++b=all at *;have l:all.length<lim:=by show all.length<4611686018427387904;omega
 refine tu (fun (s:List GOp) (i:Nat)=>((s,all,(i:Int)):(List GOp)×(List GOp)×Int)) all (fun i s=>s.length<=i/\∀x,x∈s->P x) (fun (w:List GOp)=>w.length<=all.length/\∀x,x∈w->P x) (fun i y s k q=>.inl ?_) (fun s q=>?_) [] ⟨az _,fun x f=>(by cases f)⟩
 ·obtain⟨E,ps⟩:=q;have hi:=(zC.1 k).1;have py:=pall y (zG k);obtain⟨r,er⟩:=aiQ s y (by show s.length<4611686018427387904;omega);simp only[dec_lt k,ac,au,k,aD,zA,er,gG k l];cases decide (r>=0)with
  | true=>exact⟨s,rfl,by omega,ps⟩
  | false=>
   have put:∀j:Nat,j<=s.length->((cutAt s (j:Int)).bind fun d=>
         ((if (j:Int)=(d:Int)then some ()else none)).bind fun _=>
         (gd (0+(s.take d).length)).bind fun _=>
         (idx all (i:Int)).bind fun _=>
         (all[(i:Int).toNat]?).bind fun m=>
         (nO m).bind fun h=>
         (gd (([]++(s.take d)).length+[h].length)).bind fun _=>
         ((if (j:Int)=(d:Int)then some ()else none)).bind fun _=>
         (gd ((([]++(s.take d))++[h]).length+(s.drop d).length)).bind fun _=>
         some ((.inl ((([]++(s.take d))++[h])++(s.drop d),all,((i+1:Nat):Int))):((List GOp)×(List GOp)×Int)⊕(List GOp)))=some (.inl (s.take j++[y]++s.drop j,all,((i+1:Nat):Int))):=fun j t=>by
    simp only[aj7 s j t,eq_self_iff_true,if_true,zA,au,k,aD,BV y (z y py)];rw[bZ (by simp;omega),zA,bZ (by simp;omega),zA,bZ (by simp;omega),zA];rfl
   have good:∀j:Nat,j<=s.length->∃s',(s.take j++[y]++s.drop j)=s'/\s'.length<=i+1/\∀x,x∈s'->P x:=fun j t=>⟨_,rfl,by simp;omega,fun x f=>by
    simp only[List.mem_append,List.mem_singleton]at f;rcases f with (f | rfl) | f
    ·exact ps x (List.mem_of_mem_take f)
    ·exact py
    ·exact ps x (List.mem_of_mem_drop f)⟩
   simp only[aa];have inner:∃r,aA (fun (c:(List GOp)×(List GOp)×Int×Int)=>
    bif (decide (c.2.2.2<(c.1.length:Int)))then
     (idx c.1 c.2.2.2).bind fun _=>
     (c.1[c.2.2.2.toNat]?).bind fun A=>
     (idx c.2.1 c.2.2.1).bind fun _=>
     (c.2.1[c.2.2.1.toNat]?).bind fun B=>
     (qm A B).bind fun u=>
     bif u then
      some (.inl (c.1,c.2.1,c.2.2.1,w64 (c.2.2.2+1)))
     else
     (
      (cutAt c.1 c.2.2.2).bind fun d=>
      ((if c.2.2.2=(d:Int)then some ()else none)).bind fun _=>
      (gd (0+(c.1.take d).length)).bind fun _=>
      (idx c.2.1 c.2.2.1).bind fun _=>
      (c.2.1[c.2.2.1.toNat]?).bind fun m=>
      (nO m).bind fun h=>
      (gd (([]++(c.1.take d)).length+[h].length)).bind fun _=>
      ((if c.2.2.2=(d:Int)then some ()else none)).bind fun _=>
      (gd ((([]++(c.1.take d))++[h]).length+(c.1.drop d).length)).bind fun _=>
      some ((.inl ((([]++(c.1.take d))++[h])++(c.1.drop d),c.2.1,w64 (c.2.2.1+1))):((List GOp)×(List GOp)×Int)⊕(List GOp))
     ).bind fun r=>some (.inr r)
    else
    (
     (cutAt c.1 c.2.2.2).bind fun g=>
     ((if c.2.2.2=(g:Int)then some ()else none)).bind fun _=>
     (gd (0+(c.1.take g).length)).bind fun _=>
     (idx c.2.1 c.2.2.1).bind fun _=>
     (c.2.1[c.2.2.1.toNat]?).bind fun v=>
     (nO v).bind fun n=>
     (gd (([]++(c.1.take g)).length+[n].length)).bind fun _=>
     ((if c.2.2.2=(g:Int)then some ()else none)).bind fun _=>
     (gd ((([]++(c.1.take g))++[n]).length+(c.1.drop g).length)).bind fun _=>
     some (.inl ((([]++(c.1.take g))++[n])++(c.1.drop g),c.2.1,w64 (c.2.2.1+1)))
    ).bind fun r=>some (.inr r)
   ) (s,all,(i:Int),0)=some r/\∃s',r=.inl (s',all,((i+1:Nat):Int))/\s'.length<=i+1/\∀x,x∈s'->P x:=by
    refine tu (fun (_:Unit) (j:Nat)=>((s,all,(i:Int),(j:Int)):(List GOp)×(List GOp)×Int×Int)) s (fun _ _=>True)
     (fun (r:((List GOp)×(List GOp)×Int)⊕(List GOp))=>∃s':List GOp,r=.inl (s',all,((i+1:Nat):Int))/\s'.length<=i+1/\∀x,x∈s'->P x) (fun j x _ f _=>?_) (fun _ _=>?_) () trivial
    ·have t:=(zC.1 f).1;obtain⟨s',e',o,p⟩:=good j (by omega);have pj:=put j (by omega);simp only[dec_lt f,ac,zy,gG f (show s.length<4611686018427387904 by omega),gG k l];rw[pj];simp only[au,f,k,aD,zA];cases (decide (x.time<y.time)||((x.time==y.time)&&decide (x.by_<y.by_)))with
     | true=>exact .inl ⟨(),rfl,trivial⟩
     | false=>exact .inr ⟨_,rfl,s',by rw[e'],o,p⟩
    ·obtain⟨s',e',o,p⟩:=good s.length (az _);have pj:=put s.length (az _);simp only[aT,aa,gG k l];rw[pj];exact⟨_,rfl,s',by rw[e'],o,p⟩
   obtain⟨r,e,s',rfl,o,p⟩:=inner;exact⟨s',e,o,p⟩
 ·exact⟨s,by simp only[aT,aa],q⟩
theorem OpD.mono{T T':Int}{o:GOp}(h:OpD T o)(a:T<=T'):OpD T' o:=⟨h.fit,h.t0,by have:=h.t1;omega,h.seen,h.rd⟩
theorem Rn{c:bW}(h:dM c)(b:Int)(U:0<=b)(h1:b<=20):Dr (Ej c b) fun l=>l.length<=b.toNat/\∀o,o∈l->OpD 100 o:=by
 unfold Ej;have I:w64 (b+1)=b+1:=bK (by omega) (by omega);rw[I];refine Dr.bind (dW h (b+1)) fun J n K G=>?_
 have V:=G.2 (by omega);obtain⟨m,rfl⟩:=Gx G.1;refine Dr.of (pX (fun (z:bW×List GOp) (i:Nat)=>((z.1.b,z.1.i,z.1.h,z.2,(m:Int),(i:Int)):(List Int)×Int×Int×(List GOp)×Int×Int)) m
  (fun i z=>dM z.1/\z.2.length<=i/\∀o,o∈z.2->OpD (2*(i:Int)) o) (fun (r:bW×List GOp)=>dM r.1/\r.2.length<=b.toNat/\∀o,o∈r.2->OpD 100 o) (fun i z hi s=>?_) (fun z s=>?_) (J,[]) ⟨K,az _,fun o f=>(by cases f)⟩)
 ·obtain⟨t,L,f⟩:=s;obtain⟨W,M,N,H⟩:=zY t 2;have wl:w64 ((z.2.length:Int)+1)=((z.2.length+1:Nat):Int):=akC (by omega);have fin:∀(e:bW) (known:List GOp) (by_:Int),dM e->known.length<=1000->(∀x,x∈known->x∈z.2)->0<=by_->by_<3->∃(d:bW) (o:GOp) (w:List GOp),uX e known by_=some (d,o)/\uj z.2 [o]=some w/\dM d/\w.length<=i+1/\∀o,o∈w->OpD (2*((i+1:Nat):Int)) o:=by
   intro e known by_ g O P u Q;obtain⟨d,o,j,k,po⟩:=Wn g known O (2*(i:Int)) (by omega) (by omega) (fun x a=>(f x (P x a)).t1) by_ u (by omega);have po':OpD (2*((i+1:Nat):Int)) o:=po.mono (by omega);obtain⟨w,p,v,A⟩:=aaR z.2 [o] (by omega) (by simp) (OpD (2*((i+1:Nat):Int))) (fun x a=>a.fit) (fun x a=>(f x a).mono (by omega)) (fun x a=>by rw[List.mem_singleton.1 a];exact po');exact⟨d,o,w,j,p,k,by simp only[List.length_cons,List.length_nil]at v;omega,A⟩
  simp only[cnt_lt hi,ac,N,zA,wl];cases M with
  | true=>
   obtain⟨X,q,R,k4,S,T⟩:=jA H ((z.2.length+1:Nat):Int);have:=T (by omega);obtain⟨q,rfl⟩:=Gx S;obtain⟨e,y,B,g,C,D⟩:=jA k4 3;have:=D (by omega);obtain⟨d,o,w,j,p,k,E,F⟩:=fin e (z.2.take q) y g (by rw[ba];omega) (fun x a=>List.mem_of_mem_take a) C this;simp only[ac,R,zA,rf z.2 q (by omega),B,j,p,NV hi (show m<=1048576 by omega)];exact⟨(d,w),rfl,k,E,F⟩
  | false=>
   obtain⟨e,y,B,g,C,D⟩:=jA H 3;have:=D (by omega);obtain⟨d,o,w,j,p,k,E,F⟩:=fin e z.2 y g (by omega) (fun x a=>a) C this;simp only[aa,zA,B,j,p,NV hi (show m<=1048576 by omega)];exact⟨(d,w),rfl,k,E,F⟩
 ·obtain⟨t,L,f⟩:=s;exact⟨(z.1,z.2),by simp only[aT,aa],t,by show z.2.length<=_;omega,fun o h=>(f o h).mono (by omega)⟩
def OpR(o:GOp):Prop:=OpF o/\o.reads.length<=1000
theorem ahM{c:bW}(h:dM c):Dr (uY c) OpR:=by
 unfold uY;refine Dr.bind (Rn h 3 (by omega) (by omega)) fun E l A w=>Dr.bind (dW A 3) fun F y B z=>?_
 have G:l.length<=3:=w.1;have H:=z.2 (by omega);refine Dr.bind (Wn B l (by omega) 100 (by omega) (by omega) (fun x b=>(w.2 x b).t1) y z.1 (by show y<=1000;omega)) fun I o C po=>Dr.bind (dW C 10) fun J q k4 K=>?_
 obtain⟨m,p,r,f,g,i,s,j,k,a⟩:=qU.1 po.fit;refine Dr.bif (fun _=>?_) fun _=>Dr.bif (fun _=>?_) fun _=>Dr.bif (fun _=>?_) fun _=>Dr.bif (fun _=>?_) fun _=>Dr.bif (fun _=>?_) fun _=>Dr.bif (fun _=>?_) fun _=>.ret k4 ⟨po.fit,po.rd⟩
 ·refine Dr.bind (vH k4 _ (by simp)) fun t n e d=>?_
  have on:I64 n:=by
   simp at d;exact i64 (by omega) (by omega)
  exact .ret e ⟨qU.2 ⟨on,p,r,f,g,i,s,j,k,a⟩,po.rd⟩
 ·refine Dr.bind (vH k4 _ (by simp)) fun t n e d=>?_
  have on:I64 n:=by
   simp at d;exact i64 (by omega) (by omega)
  exact .ret e ⟨qU.2 ⟨m,on,r,f,g,i,s,j,k,a⟩,po.rd⟩
 ·refine Dr.gd (by show o.seen.length+1<=_;rw[po.seen];omega) (.ret k4 ⟨qU.2 ⟨m,p,r,RQ (by show (o.seen++[0]).length<=_;rw[a7,po.seen];decide) fun x b=>?_,g,i,s,j,k,a⟩,po.rd⟩);rcases List.mem_append.1 b with b | b
  ·exact aa4 f x b
  ·rw[List.mem_singleton.1 b];exact i64 (by omega) (by omega)
 ·refine Dr.bind (dW k4 5) fun t n e d=>?_
  have on:I64 n:=i64 (by have:=d.1;omega) (by have:=d.2 (by omega);omega);exact .ret e ⟨qU.2 ⟨m,p,on,f,g,i,s,j,k,a⟩,po.rd⟩
 ·refine Dr.bind (vH k4 _ (by simp)) fun t n e d=>?_
  obtain⟨v,u,_,D⟩:=Jl (xs:=o.seen) (n:=0) (by rw[po.seen];omega);have u:idx o.seen 0=some v:=u;show Dr ((idx o.seen 0).bind _) OpR
  rw[u,zA,D,zA];refine .ret e ⟨qU.2 ⟨m,p,r,RQ (by show (o.seen.set 0 n).length<=_;rw[List.length_set,po.seen];omega) fun x b=>?_,g,i,s,j,k,a⟩,po.rd⟩;rcases mem_set b with b | rfl
  ·exact aa4 f x b
  ·simp at d;exact i64 (by omega) (by omega)
 ·exact .ret k4 ⟨qU.2 ⟨m,p,r,f,g,i,PI (by simp),j,k,a⟩,po.rd⟩
theorem aeD(a:List Int)(z:(a.length:Int)<=1048576):∃l,oq a=some l/\l.length<=10/\∀x,x∈l->OpR x:=by
 obtain⟨I,A,k0⟩:=ajd a z;obtain⟨B,l,C,s,D,t⟩:=Rn k0 6 (by omega) (by omega);have g:l.length<=6:=D;have d:∀x,x∈l->OpR x:=fun x b=>⟨(t x b).fit,(t x b).rd⟩
 have bent:∀(c:bW) (l:List GOp),dM c->l.length<=6->(∀x,x∈l->OpR x)->∃l',((lF c 10).bind fun e=>
   bif e.2 then
    (uY e.1).bind fun f=>
    (gd (l.length+[f.2].length)).bind fun _=>
    some (l++[f.2])
   else
    some (l))=some l'/\l'.length<=10/\∀x,x∈l'->OpR x:=by
  intro c l k g d;obtain⟨i,j,m,h⟩:=zY k 10;rw[m,zA];cases j with
  | false=>exact⟨l,rfl,by omega,d⟩
  | true=>
   obtain⟨J,o,E,K,fo⟩:=ahM h;simp only[ac,E,zA];rw[bZ (by simp;omega),zA];refine⟨_,rfl,by simp;omega,fun x b=>?_⟩;rcases List.mem_append.1 b with b | b
   ·exact d x b
   ·rw[List.mem_singleton.1 b];exact fo
 unfold oq;simp only[A,C,zA];cases y:decide ((l.length:Int)>1)with
 | false=>exact bent B l s g d
 | true=>
  have y:=of_decide_eq_true y;obtain⟨i,j,m,h⟩:=zY s 4;simp only[ac,m,zA];cases j with
  | false=>exact bent i l h g d
  | true=>
   obtain⟨u,p,um,F⟩:=Jl (xs:=l) (n:=0) (by omega);obtain⟨v,q,vm,G⟩:=Jl (xs:=l) (n:=1) (by omega);have p:idx l 0=some u:=p;have q:idx l 1=some v:=q;obtain⟨w,r,wm,H⟩:=Jl (xs:=l.set 0 v) (n:=1) (by rw[List.length_set];omega);have r:idx (l.set 0 v) 1=some w:=r;simp only[ac,p,F,q,G,r,H,zA];refine bent i _ h (by rw[List.length_set,List.length_set];exact g) fun x b=>?_
   rcases mem_set b with b | rfl
   ·rcases mem_set b with b | rfl
    ·exact d x b
    ·exact d _ vm
   ·exact d _ um
theorem VD(a:List Int)(c:(a.length:Int)<=1048576):∃l,pG a=some l/\l.length<=20/\∀x,x∈l->OpR x:=by
 obtain⟨n,f,k0⟩:=ajd a c;obtain⟨o,g,h,i⟩:=zY k0 12;unfold pG;simp only[f,h,zA];cases g with
 | true=>
  obtain⟨l,b,j,k⟩:=aeD a c;simp only[ac,b,zA];exact⟨l,rfl,by omega,k⟩
 | false=>
  obtain⟨p,l,b,q,m,d⟩:=Rn i 12 (by omega) (by omega);have j:l.length<=12:=m;simp only[aa,b,zA];exact⟨l,rfl,by omega,fun x e=>⟨(d x e).fit,(d x e).rd⟩⟩
theorem aiV{x:GOp}(h:opB x=true):(1<=x.time/\x.time<=300)/\0<=x.by_/\x.by_<=2:=by
 unfold opB oG at h;rw[fO,fO]at h;simp only[zA]at h;by_cases a:(decide (1<=x.time)&&decide (x.time<=300))=true
 ·rw[a]at h;simp only[aM,aa]at h;by_cases b:(decide (0<=x.by_)&&decide (x.by_<=2))=true
  ·exact⟨by simpa using a,by simpa using b⟩
  ·have q2':(decide (0<=x.by_)&&decide (x.by_<=2))=false:=by simpa using b
   rw[q2']at h;simp at h
 ·have q1':(decide (1<=x.time)&&decide (x.time<=300))=false:=by simpa using a
  rw[q1']at h;simp at h
end Go.Proofs.YtngjomkjlonfpaaGreatDoor
/- Plain laws: a log has one document, a valid notebook, and can be replayed operation by operation; the law FnReplayed. -/
namespace Go.Proofs.YtngjomkjlonfpaaGreatDoor
open Go.Abs Go.Proofs
def upA(d r:aB)(at_:List Int)(i:Nat):List Int:=if (decide ((r.renames.length:Int)>(d.renames.length:Int)))=true then at_++[(i:Int)]else at_
inductive Run(xs:List GOp):Nat->aB->List Int->Prop
 | zero:Run xs 0 (aB.mk (ak.mk []) [] []) []
 | step (i:Nat) (o:GOp) (d r:aB) (at_:List Int) (h:Run xs i d at_) (hx:xs[i]?=some o) (hr:mZ d o (BA xs o at_)=some r):Run xs (i+1) r (upA d r at_ i)
theorem Run.lt{xs:List GOp}{i:Nat}{d:aB}{at_:List Int}(h:Run xs i d at_):∀k,k∈at_->0<=k/\k<(i:Int):=by
 induction h with
 | zero=>intro k a;cases a
 | step i o d r at_ h b c ih=>
  intro k a;unfold upA at a;split at a
  ·rcases List.mem_append.1 a with a | a
   ·have:=ih k a;omega
   ·rw[List.mem_singleton.1 a];omega
  ·have:=ih k a;omega
theorem ajy{α:Type}{xs:List α}{n:Nat}{k:Int}(a:0<=k)(h1:k<(n:Int))(b:n<=xs.length):idx (xs.take n) k=idx xs k:=by
 obtain⟨m,rfl⟩:∃m:Nat,k=(m:Int):=⟨k.toNat,by omega⟩;rw[au,au,List.getElem?_take,if_pos (by omega)]
theorem ajK{xs:List GOp}{o:GOp}{n:Nat}(a:n<=xs.length)(e:xs.length<=1000){k:Int}(b:0<=k)(h1:k<(n:Int)):hsB (xs.take n) o k=hsB xs o k:=by
 have hlen:(xs.take n).length=n:=by rw[ba];omega
 have c:w64 (((xs.take n).length:Int)-1)=(n:Int)-1:=by rw[hlen,bK (by omega) (by omega)]
 have d:w64 ((xs.length:Int)-1)=(xs.length:Int)-1:=bK (by omega) (by omega);obtain⟨m,rfl⟩:∃m:Nat,k=(m:Int):=⟨k.toNat,by omega⟩;unfold hsB vw;rw[fO,fO,c,d,ajy b h1 a,rf (xs.take n) m (by omega),rf xs m (by omega),List.take_take,show min m n=m by omega,
  aq (show ((m:Nat):Int)<=(n:Int)-1 by omega),aq (show ((m:Nat):Int)<=(xs.length:Int)-1 by omega)]
theorem abH{α β:Type}{f g:α->Option β}:∀ {l:List α},(∀x,x∈l->f x=g x)->l.filterMap f=l.filterMap g
 | [],_=>rfl
 | x::r,h=>by rw[List.filterMap_cons,List.filterMap_cons,h x (by simp),abH fun y a=>h y (by simp[a])]
theorem af6{xs:List GOp}{o:GOp}{n:Nat}(a:n<=xs.length)(b:xs.length<=1000){at_:List Int}(h:∀k,k∈at_->0<=k/\k<(n:Int)):BA (xs.take n) o at_=BA xs o at_:=by
 unfold BA;refine abH fun k c=>?_
 obtain⟨d,h1⟩:=h k c;unfold Hr;have e:(xs.take n)[k.toNat]?=xs[k.toNat]?:=by rw[List.getElem?_take,if_pos (by omega)]
 rw[ajK a b d h1,e]
theorem Run.same{xs:List GOp}{n:Nat}(f:n<=xs.length)(g:xs.length<=1000):∀(i:Nat) (d d':aB) (a a':List Int),i<=n->Run (xs.take n) i d a->Run xs i d' a'->d=d'/\a=a'
 | 0,_,_,_,_,_,h,b=>by cases h;cases b;exact⟨rfl,rfl⟩
 | i+1,_,_,_,_,hi,h,b=>by
  cases h with
  | step _ o d r a h j l=>
  cases b with
  | step _ o' d' r' a' b c e=>
  obtain⟨m,p⟩:=Run.same f g i d d' a a' (by omega) h b;subst m;subst p;rw[List.getElem?_take,if_pos (by omega),c]at j;cases j
  rw[af6 f g fun k q=>by have:=b.lt k q;omega,e]at l;cases l
  exact⟨rfl,rfl⟩
theorem adW:Nb []:=⟨uI (fun x a=>by cases a) (by simp),by simp,fun x a=>(by cases a),List.nodup_nil⟩
theorem ajf{n:ak}(h:Nb n.cells):dH n=some true:=by
 obtain⟨b,_,a⟩:=kD n h.fit;have:=(aln h.fit).2 h;unfold nbB at this;rw[show ak.mk n.cells=n from rfl,a]at this;rw[a];exact congrArg some this
theorem alv{xs:List GOp}(hv:iw (ny xs) xs 0=true){i:Nat}{x:GOp}(a:xs[i]?=some x):opB x=true:=by
 have h:=uN hv i x a;unfold ny at h;rw[zI]at h;exact h.1
theorem ajh{xs:List GOp}(hv:iw (ny xs) xs 0=true)(n:Nat):iw (ny (xs.take n)) (xs.take n) 0=true:=
 aco fun k x a=>by
  have b:=(zC.1 a).1;rw[ba]at b;rw[List.getElem?_take,if_pos (by omega)]at a;have h:=uN hv k x a;rw[Nat.zero_add]at h;unfold ny at h ⊢;rw[List.getElem?_take,if_pos (by omega)];exact h
theorem QE(xs:List GOp)(h:aW B20 (.list (.base .op) xs))(f:BL xs<=1048576):∃(d:aB) (at_:List Int),oJ xs=some d/\oD xs=some d/\Nb d.notebook.cells/\Fit B20 (.base .document) d /\
  (((iw (ny xs) xs 0&&decide ((xs.length:Int)<=60))=false/\d=aB.mk (ak.mk []) [] [])\/((iw (ny xs) xs 0&&decide ((xs.length:Int)<=60))=true/\VI xs xs.length d at_/\Run xs xs.length d at_)):=by
 obtain⟨d,at_,h1,h2,g⟩:=alx xs h f (fun i d at_=>Nb d.notebook.cells/\Run xs i d at_) ⟨adW,.zero⟩
  (fun hv i o d at_ r c a b hi _ j=>⟨j.nv b.1 (aiV (alv hv c)),.step i o d r at_ b.2 c hi⟩)
 refine⟨d,at_,h1,h2,?_⟩;rcases g with ⟨e,rfl,rfl⟩ | ⟨e,a,b⟩
 ·exact⟨adW,by rw[tZ];exact⟨adW.fit,ajc,ajc⟩,.inl ⟨e,rfl⟩⟩
 ·refine⟨b.1,?_,.inr ⟨e,a,b.2⟩⟩;simp only[zI,decide_eq_true_eq]at e;rw[tZ];exact⟨a.nb,a.tp.1,gu (by have:=a.ln;have:=a.al;omega) fun x c=>h.bQ x (a.mem c)⟩
theorem PD(C:Nat):∀xs:List GOp,(∀x,x∈xs->x.reads.length<=C)->BL xs<=xs.length*C
 | [],_=>Nat.zero_le _
 | x::r,h=>by
  have h1:=PD C r fun y a=>h y (ar _ a)
  have h2:=h x aw;unfold BL at h1 ⊢;simp only[List.map_cons,List.sum_cons,List.length_cons,Nat.succ_mul];omega
theorem agc(xs:List GOp)(n:Nat):BL (xs.take n)<=BL xs:=Xy xs n
abbrev RpO:=(List GOp)×(List ah)×(List aK)×(List GOp)×Int×(List ah)×(List aK)×(List GOp)×(List GOp)×Int
abbrev RpN:=(List GOp)×(List ah)×(List aK)×(List GOp)×Int×(List ah)×(List aK)×(List GOp)×(List GOp)×Int×Int
theorem Rw(a:List Int)(N:aW B47 (.list (.base .u8) a)):FnReplayed a=some true:=by
 refine akh N fun B=>?_
 obtain⟨xs,O,P,L⟩:=VD a B;have fx:aW B20 (.list (.base .op) xs):=gu (by omega) fun x i=>(L x i).1
 have hS:=PD 1000 xs fun x i=>(L x i).2
 have Q:BL xs<=1048576:=by have:xs.length*1000<=20*1000:=Nat.mul_le_mul_right _ P;omega
 obtain⟨d,at_,R,S,hNb,fd,T⟩:=QE xs fx Q;obtain⟨U,_⟩:=Hl xs fx;have eqi:=Jy d d fd;have eqs:=IG d d fd;simp only[TA,Bool.and_self]at eqi eqs;simp only[O,R,S,eqi,eqs,ajf hNb,U,zA,aM,aa];rcases T with ⟨e,rfl⟩ | ⟨e,V,hRun⟩
 ·rw[e];rfl
 ·rw[e];simp only[zI,decide_eq_true_eq]at e;obtain⟨hv,W⟩:=e;simp only[aM,aa];generalize X:xs.length=m at V hRun;cases hRun with
  | zero=>
   have:xs=[]:=List.length_eq_zero_iff.1 X;subst this;rfl
  | step n o Y _ D hRun0 i Z=>
   have hlen:(xs.length:Int)=(n:Int)+1:=by omega
   have r:(((n+1:Nat):Int)==0)=false:=by simp;omega
   have p:w64 (((n+1:Nat):Int)-1)=(n:Int):=by rw[bK (by omega) (by omega)];omega
   simp only[r,p,aa,rf xs n (by omega),zA];obtain⟨c,f,i2,s2,_,_,E⟩:=QE (xs.take n) (gu (by rw[ba];omega) fun x i=>fx.bQ x (List.mem_of_mem_take i)) (by have:=agc xs n;omega);have F:(xs.take n).length=n:=by rw[ba];omega
   have G:=ajh hv n;rcases E with ⟨e,_⟩ | ⟨_,g,t⟩
   ·rw[G,aq (by omega)]at e;cases e
   rw[F]at g t;obtain⟨q1,q2⟩:=Run.same (by omega) (by omega) n c Y f D (az _) t hRun0;subst q1;subst q2;simp only[i2,zA];have fo:=fx.bQ o (zG i);have fo':=fo;rw[AB]at fo';have H:=dX (dh fo'.2.2.2.1);have hs:=fun k=>(ajL (xs:=xs) (o:=o) H (by show xs.length<4611686018427387904;omega) k).2
   have I:∀(j:Nat) (e:GOp),c.renames[j]?=some e->∃k:Nat,f[j]?=some (k:Int)/\k<n/\xs[k]?=some e:=fun j e q=>by
    have hj:=(zC.1 q).1;obtain⟨k,C⟩:∃k,f[j]?=some k:=⟨_,zF (by have:=g.ln;omega)⟩;obtain⟨h1,h2,M⟩:=g.rn j k C;refine⟨k.toNat,by rw[C];congr 1;omega,by omega,?_⟩;rw[q,List.getElem?_take,if_pos (by omega)]at M;exact M.symm
   have J:=g.ln;have hal:=g.al;refine rO (dK (fun (u:List GOp) (j:Nat)=>((xs,d.notebook.cells,d.tapes,d.renames,(n:Int),c.notebook.cells,c.tapes,c.renames,u,(j:Int)):RpO)) c.renames (fun j u=>u=BA xs o (f.take j)) (fun b=>b=true) (fun j e u q v=>.inl ?_) (fun u v=>?_) [] rfl)
   ·obtain⟨k,C,K,s⟩:=I j e q;have hj:=(zC.1 q).1;have hul:u.length<=j:=by
     have:=Hq xs o (f.take j);rw[ba]at this;rw[v];omega
    refine⟨u++(Hr xs o (k:Int)).toList,?_,by rw[v,Xr C]⟩;simp only[dw q,ac];refine rO (pX (fun (w:List GOp) (l:Nat)=>((xs,d.notebook.cells,d.tapes,d.renames,(n:Int),c.notebook.cells,c.tapes,c.renames,w,(j:Int),(l:Int)):RpN)) n (fun l w=>w=if k<l then u++(Hr xs o (k:Int)).toList else u) _ (fun l w B p=>?_) (fun w p=>?_) u (by simp))
    ·obtain⟨y,z⟩:∃y,xs[l]?=some y:=⟨_,zF (by omega)⟩;have fy:=fx.bQ y (zG z);simp only[cnt_lt B,ac,au,z,q,i,aD,zA,aaq y e fy,hs,NV B (show n<=1048576 by omega)];by_cases A:k=l
     ·subst A;rw[s]at z;cases z
      rw[if_neg (by omega)]at p;subst p;rw[TA];simp only[ac,if_pos (Nat.lt_succ_self k)];have hg:gd (w.length+[e].length)=some ():=gdp (by simp;omega);cases hh:hsB xs o (k:Int)with
      | true=>
       refine⟨_,rfl,?_⟩;unfold Hr;rw[if_pos hh];simp
      | false=>
       simp only[Bool.not_false,ac,hg,zA];refine⟨_,rfl,?_⟩;unfold Hr;rw[if_neg (by rw[hh];simp),aD,s];rfl
     ·have r:eqd y e=false:=by
       cases hq:eqd y e with
       | false=>rfl
       | true=>
        have e':y=e:=by simpa [eqd] using hq
        subst e';exact absurd (aaU hv s z rfl rfl) A
      rw[r];simp only[aa];refine⟨w,rfl,?_⟩;rw[p];by_cases h:k<l
      ·rw[if_pos h,if_pos (by omega)]
      ·rw[if_neg h,if_neg (by omega)]
    ·rw[if_pos K]at p;subst p;refine⟨_,?_,rfl⟩;simp only[aT,aa,dn q (by omega)]
   ·rw[J,List.take_length]at v;subst v;have eta:aB.mk (ak.mk c.notebook.cells) c.tapes c.renames=c:=rfl;have eta2:aB.mk (ak.mk d.notebook.cells) d.tapes d.renames=d:=rfl;refine⟨true,?_,rfl⟩;simp only[bG,aa,au,i,aD,zA,eta,eta2,Z,eqs]
end Go.Proofs.YtngjomkjlonfpaaGreatDoor
