import Derived.Test.YtngjomkjlonfpaaGreatAdapt
import Derived.Test.YtngjomkjlonfpaaGreatOps2
set_option linter.unusedSimpArgs false
set_option linter.unusedVariables false
/- Plain laws: ReplayOp is alike on both sides, whole. -/
namespace Go.Proofs.YtngjomkjlonfpaaGreat
open Go.Abs Go.Proofs
theorem Dx{α:Type}(p:α->Bool):∀(xs:List α) (i:Nat),(∃x,x∈xs/\p x=true)->0<=dG p xs i
 | [],i,⟨x,a,_⟩=>by cases a
 | y::ys,i,⟨x,a,b⟩=>by
  unfold dG;cases c:p y with
  | true=>rw[ab];omega
  | false=>
   rw[aa];refine Dx p ys (i+1) ⟨x,?_,b⟩;rcases a8.1 a with rfl | a
   ·rw[b]at c;cases c
   ·exact a
theorem AO{α:Type}(p:α->Bool):∀(xs:List α) (i n:Nat) (x:α),dG p xs i=((i+n:Nat):Int)->xs[n]?=some x->p x=true
 | [],i,n,x,_,a=>by simp at a
 | y::ys,i,n,x,h,a=>by
  unfold dG at h;cases b:p y with
  | true=>
   rw[b,ab]at h;have:n=0:=by omega
   subst this;simp at a;rw[<- a];exact b
  | false=>
   rw[b,aa]at h;cases n with
   | zero=>
    rcases mD p ys (i+1)with e | ⟨m,z,e,_⟩
    ·rw[e]at h;omega
    ·rw[e]at h;omega
   | succ n=>exact AO p ys (i+1) n x (by rw[h];omega) (by simpa using a)
theorem al4{q:Bool}{a b:Option (ah×Int)}{k:Int}(c:∀r,a=some r->r.1.id=k)(d:∀r,b=some r->r.1.id=k):∀r,(bif q then a else b)=some r->r.1.id=k:=by cases q<;>assumption
theorem ajE{α:Type}{x:Option α}{f:α->Option (ah×Int)}{k:Int}(h:∀a r,f a=some r->r.1.id=k):∀r,x.bind f=some r->r.1.id=k:=by
 intro r b;obtain⟨a,_,c⟩:=zB.1 b;exact h a r c
theorem ajD{y:ah}{n k:Int}(h:y.id=k):∀r,some (y,n)=some r->r.1.id=k:=by
 intro r a;cases a
 exact h
theorem afD{x:ah}{b:dM}:∀r,uS x b=some r->r.1.id=x.id:=by
 unfold uS;repeat' first
  | exact ajD rfl
  | refine al4 ?_ ?_
  | refine ajE fun _=>?_
theorem aam{a:ak}{b:dM}{w:ak}(f:Fit B20 (.base .notebook) a)(z:Fit B20 (.base .edit) b)(h:jk a b=some (w,0))(G:b.kind=1\/b.kind=4\/b.kind=6):∃x,x∈w.cells/\(x.id==b.cell.id)=true:=by
 obtain⟨v,A,g⟩:=mG a f;obtain⟨B,C⟩:=RP f h;have q:=Xe f;have i:a.cells.length<lim:=fD q;have fb:=z;rw[vN]at fb;unfold jk at h;rw[g,copyS a (by omega)]at h;simp only[zA,fG,jP a _ i]at h;cases v with
 | false=>simp at h
 | true=>
  have j:(decide (1<=b.kind)&&decide (b.kind<=6))=true:=by simpa using B
  rw[j]at h;simp only[aE,aa]at h;by_cases k:b.kind=1
  ·obtain⟨vc,s,d⟩:=iY b.cell fb.2.2;simp only[k,beq_self_eq_true,ab,d,zA]at h;cases vc with
   | false=>simp at h
   | true=>
    simp only[aE,aa]at h;cases t:decide (dG (fun c=>c.id==b.cell.id) a.cells 0>=0)with
    | true=>rw[t]at h;simp at h
    | false=>
     rw[t]at h;simp only[aa]at h;cases u:((a.cells.length:Int)==8)with
     | true=>rw[u]at h;simp at h
     | false=>
      obtain⟨n,H,D,I⟩:=put_eq a.cells b.pos b.cell q;rw[u]at h;simp only[aa,D,zA,zD,Prod.mk.injEq,and_true]at h;rw[<- h];exact⟨b.cell,by simp,by simp⟩
  ·obtain⟨m,x,y,l⟩:=C k;have k1':(b.kind==1)=false:=by simpa using k
   have k2':(b.kind==2)=false:=by simp;omega
   have k3':(b.kind==3)=false:=by simp;omega
   have o:=(zC.1 l).1;have E:=AO (fun c:ah=>c.id==b.cell.id) a.cells 0 m x (by rw[y];simp) l;simp only[k1',k2',k3',aa,y,ac (show ¬(m:Int)<0 by omega),au,l,zA,aw]at h;obtain⟨r,F,h⟩:=zB.1 h;have p:=afD r F;cases e:(r.2==0)with
   | false=>
    rw[e]at h;simp only[aa,zD,Prod.mk.injEq]at h;rw[h.2]at e;simp at e
   | true=>
    rw[e]at h;simp only[ab,zD,Prod.mk.injEq]at h;rw[<- h.1];refine⟨r.1,List.mem_iff_getElem?.2 ⟨m,List.getElem?_set_self o⟩,?_⟩;rw[p];exact E
theorem acF{a:ak}{b:dM}{w:ak}(d:Fit B20 (.base .notebook) a)(f:Fit B20 (.base .edit) b)(h:jk a b=some (w,0))(g:b.kind=1\/b.kind=4\/b.kind=6):∃(m:Nat) (x:ah),dG (fun c=>c.id==b.cell.id) w.cells 0=(m:Int)/\w.cells[m]?=some x:=by
 have i:=Dx (fun c:ah=>c.id==b.cell.id) w.cells 0 (aam d f h g);rcases mD (fun c:ah=>c.id==b.cell.id) w.cells 0 with e | ⟨n,x,e,j⟩
 ·rw[e]at i;omega
 ·exact⟨n,x,by rw[e,Nat.zero_add],j⟩
theorem Zi{cs:List ah}{b c:Str}(h:Fit B20 (.base .notebook) ⟨cs⟩)(l:c.length<=1048576):Fit B20 (.base .notebook) ⟨kept cs b c⟩:=by
 obtain⟨g,m⟩:=uF h;have e:aX B20 (.int .i64 1):=.int .i64 _ (wfS (by omega) (by omega));have n:Fit B20 (.base .notebook) ⟨cs.map gG⟩:=uz (fun x f=>by
  obtain⟨y,p,rfl⟩:=List.mem_map.1 f;have:=g y p;rw[fM]at this ⊢;exact⟨this.1,e,this.2.2⟩) (by simpa using m)
 obtain⟨i,_⟩:=uF (agD (cs.map gG) b c false n l);have hlen:=P8 (cs.map gG) b c false;rw[List.length_map]at hlen;unfold kept;generalize (qF (cs.map gG) b c false).1.cells=o at i hlen;refine uz (fun x f=>?_) (by unfold oW;rw[List.length_zipWith];omega);obtain⟨k,a⟩:=List.mem_iff_getElem?.1 f;rw[Ll hlen]at a;cases d:o[k]? with
 | none=>rw[d]at a;cases a
 | some y=>
  rw[d]at a;have q:=(zC.1 d).1;obtain⟨z,j⟩:∃z,cs[k]?=some z:=⟨_,zF (by omega)⟩;rw[j]at a;have a:BF z y=x:=aM a;rw[<- a];have fy:=i y (zG d);have fz:=g z (zG j);rw[fM]at fy fz ⊢;exact⟨fy.1,fz.2.1,fy.2.2⟩
structure DocP(N M:Nat)(d:aK):Prop where
 nb:Fit B20 (.base .notebook) d.notebook
 tp:Tps N M d.tapes
 rn:aX B20 (.list (.base .op) d.renames)
theorem OG{N M N' M':Nat}{l:List aO}(h:Tps N M l)(a:N<=N')(b:M<=M'):Tps N' M' l:=⟨h.1,Nat.le_trans h.2.1 a,fun t c=>Nat.le_trans (h.2.2 t c) b⟩
structure afL(N M:Nat)(d:aK)(o:GOp)(r:aK):Prop where
 nb:Fit B20 (.base .notebook) r.notebook
 tp:Tps N M r.tapes
 rn:r.renames=d.renames\/r.renames=d.renames++[o]
 tc:r.tapes=d.tapes\/r.tapes=wo d.tapes o.cell o.version o.reads
 nv:Nb d.notebook.cells->((1<=o.time/\o.time<=300)/\0<=o.by_/\o.by_<=2)->Nb r.notebook.cells
theorem ajV{N M:Nat}{d:aK}(h:DocP N M d):qV d=some d/\Hq d=some d:=by
 have a:=Xe h.nb;constructor
 ·unfold qV;rw[Va d.notebook (by omega),zA,Fh _ h.tp.1,zA,Nh _ h.rn,zA]
 ·unfold Hq;rw[copyS d.notebook (by omega),zA,LV _ h.tp.1,zA,O1 _ h.rn,zA]
theorem WJ{N M:Nat}(d:aK)(o:GOp)(u:List GOp)(b:DocP N M d)(s:Fit B20 (.base .op) o)(I:aX B20 (.list (.base .op) u))(hN:N+o.reads.length<=1048576)(t:M+o.reads.length<=1048576) :
  ∃r,uw d o u=some r/\jY d o u=some r/\afL (N+o.reads.length) (M+o.reads.length) d o r:=by
 obtain⟨cI,cS⟩:=ajV b;have orA:∀r,jU d o u=some r->uw d o u=some r:=fun r h=>by unfold uw;rw[h];rfl
 have X:=dA b.rn;have a:afL (N+o.reads.length) (M+o.reads.length) d o d:=⟨b.nb,OG b.tp (Nat.le_add_right _ _) (Nat.le_add_right _ _),.inl rfl,.inl rfl,fun h _=>h⟩;have fo:=s;rw[xP]at fo;by_cases g:o.kind=1
 ·have fe:=fo.2.2.2.2.1;rw[vN,fM]at fe;obtain⟨e,v,y,c⟩:=aar o.edit u (by have:=dA I;omega) (by have:=AZ fe.2.2.2.2.2.1;omega) (by have:=AZ fe.2.2.2.2.2.2.1;omega) (fun x f=>by
   have fx:=I.aZ x f;rw[xP]at fx;have h1:=AZ fx.2.2.2.2.2.1;have h2:=AZ fx.2.2.2.2.2.2.1;omega)
  have fE:Fit B20 (.base .edit) e:=by
   rw[vN,fM,c.kind,c.pos,c.id,c.version,c.ckind,c.n];exact⟨fe.1,fe.2.1,fe.2.2.1,fe.2.2.2.1,fe.2.2.2.2.1,Ad (by have:=c.name;omega),Ad (by have:=c.code;omega),fe.2.2.2.2.2.2.2⟩
  obtain⟨w,n,j,A,B⟩:=JD d.notebook e b.nb fE;by_cases J:n=0
  ·subst J;have k:=Xe B;have st:jT o=some (w64 ((w64 (o.time*3))+o.by_))/\nH o=some (w64 ((w64 (o.time*3))+o.by_)):=⟨rfl,rfl⟩;have wv:aX B20 (.int .i64 (w64 ((w64 (o.time*3))+o.by_))):=.int .i64 _ (aau _);have K:((1<=o.time/\o.time<=300)/\0<=o.by_/\o.by_<=2)->1<=w64 ((w64 (o.time*3))+o.by_)/\w64 ((w64 (o.time*3))+o.by_)<=999:=fun h=>by
    rw[bM (n:=o.time*3) (by omega) (by omega),bM (by omega) (by omega)];omega
   have nbw:Nb d.notebook.cells->Nb w.cells:=fun h=>by
    have q:=(E5 d.notebook e b.nb fE).symm.trans j;simp only[zD,Prod.mk.injEq]at q;rw[<- q.1];exact amk h fE q.2
   generalize w64 ((w64 (o.time*3))+o.by_)=V at st wv K;have put:∀(m:Nat) (x:ah),w.cells[m]?=some x->afL (N+o.reads.length) (M+o.reads.length) d o (aK.mk (ak.mk (w.cells.set m (ah.mk x.id V x.kind x.name x.code x.n))) d.tapes d.renames):=fun m x f=>by
    have L:Fit B20 (.base .notebook) (ak.mk (w.cells.set m (ah.mk x.id V x.kind x.name x.code x.n))):=by
     obtain⟨p,C⟩:=uF B;have fx:=p x (zG f);refine uz (alJ p m ?_) (by simpa using C);rw[fM]at fx ⊢;exact⟨fx.1,wv,fx.2.2⟩
    exact⟨L,a.tp,.inl rfl,.inl rfl,fun h Y=>(nbw h).ver f (K Y) L⟩
   by_cases q:e.kind=1\/e.kind=4\/e.kind=6
   ·obtain⟨m,x,O,f⟩:=acF b.nb fE j q;have xI:iT w o.edit.cell.id=some (m:Int):=by rw[xO w _ (fD k),<- c.id,O]
    have xS:jQ w e.cell.id=some (m:Int):=by rw[jP w _ (fD k),O]
    refine⟨_,orA _ ?_,?_,put m x f⟩
    ·unfold jU;rcases q with q | q | q
     all_goals
      rw[c.kind]at q
      simp only[cI,g,beq_self_eq_true,ab,v,A,bne_self_eq_false,aa,q,xI,st.1,au,f,aw,zA]
      try rfl
    ·unfold jY;rcases q with q | q | q
     all_goals
      simp only[cS,g,beq_self_eq_true,ab,y,j,bne_self_eq_false,aa,q,xS,st.2,au,f,aw,zA]
      try rfl
   ·have P:(o.edit.kind==1)=false:=by rw[<- c.kind];simp;omega
    have Q:(o.edit.kind==4)=false:=by rw[<- c.kind];simp;omega
    have R:(o.edit.kind==6)=false:=by rw[<- c.kind];simp;omega
    refine⟨aK.mk w d.tapes d.renames,orA _ ?_,?_,⟨B,a.tp,.inl rfl,.inl rfl,fun h _=>nbw h⟩⟩
    ·unfold jU;simp only[cI,g,beq_self_eq_true,ab,v,A,bne_self_eq_false,aa,P,Q,R,zA]
    ·unfold jY;simp only[cS,g,beq_self_eq_true,ab,y,j,bne_self_eq_false,aa,c.kind,P,Q,R,zA]
  ·have l:(n != 0)=true:=by simpa using J
   refine⟨d,orA _ ?_,?_,a⟩
   ·unfold jU;simp only[cI,g,beq_self_eq_true,ab,v,A,l,zA]
   ·unfold jY;simp only[cS,g,beq_self_eq_true,ab,y,j,l,zA]
 have k1':(o.kind==1)=false:=by simpa using g
 by_cases i:o.kind=2
 ·obtain⟨cs⟩:∃cs:List ah,True:=⟨[],trivial⟩;obtain⟨p,C⟩:=uF (cs:=d.notebook.cells) b.nb;have s1:=AZ fo.2.2.2.2.2.1;have s2:=AZ fo.2.2.2.2.2.2.1;obtain⟨S,T⟩:=ajw d.notebook.cells o.src o.dst C (Rz p) (by omega) (by omega);have D:(ak.mk d.notebook.cells)=d.notebook:=rfl;rw[D]at S T;by_cases E:(qF (d.notebook.cells.map gG) o.src o.dst false).2=0
  ·obtain⟨F,G⟩:=S E;have U:gd (d.renames.length+[o].length)=some ():=gdp (by simp;omega);refine⟨aK.mk ⟨kept d.notebook.cells o.src o.dst⟩ d.tapes (d.renames++[o]),orA _ ?_,?_,⟨Zi b.nb (by omega),a.tp,.inr rfl,.inl rfl,fun h _=>ajx h (Zi b.nb (by omega)) (by omega) (by omega) E⟩⟩
   ·unfold jU;simp only[cI,k1',i,beq_self_eq_true,ab,aa,F,Ar o s,U,zA,show ((2:Int)==1)=false from rfl]
   ·unfold jY;simp only[cS,k1',i,beq_self_eq_true,ab,aa,G,rJ o s,U,zA,show ((2:Int)==1)=false from rfl]
  ·obtain⟨F,G,z,Z⟩:=T E;refine⟨d,?_,?_,a⟩
   ·have hA:jU d o u=none:=by
     unfold jU;simp only[cI,k1',i,beq_self_eq_true,ab,aa,F,zA,Option.bind_none,show ((2:Int)==1)=false from rfl]
    have hB:Gg d o u=some d:=by
     unfold Gg;simp only[cI,k1',i,beq_self_eq_true,ab,aa,G,zA,show ((2:Int)==1)=false from rfl]
    unfold uw;rw[hA,hB];rfl
   ·unfold jY;simp only[cS,k1',i,beq_self_eq_true,ab,aa,Z,zA,show ((2:Int)==1)=false from rfl]
 have k2':(o.kind==2)=false:=by simpa using i
 by_cases H:o.kind=3
 ·have fr:=fo.2.2.2.2.2.2.2.2.2;have p1:=Zv d.tapes o.cell o.version o.reads b.tp fr t;have p2:=X8 d.tapes o.cell o.version o.reads b.tp fr t;have p3:Tps (N+o.reads.length) (M+o.reads.length) (wo d.tapes o.cell o.version o.reads):=by
   by_cases W:o.reads=[]
   ·rw[W,abM rfl (.inr rfl)];exact OG b.tp (Nat.le_add_right _ _) (Nat.le_add_right _ _)
   ·have:0<o.reads.length:=List.length_pos_iff.2 W;exact OG (agI b.tp fr (ar _) (by omega) t fo.2.2.2.2.2.2.2.1 fo.2.2.2.2.2.2.2.2.1) (by omega) (ar _)
  refine⟨aK.mk d.notebook (wo d.tapes o.cell o.version o.reads) d.renames,orA _ ?_,?_,⟨a.nb,p3,.inl rfl,.inr rfl,fun h _=>h⟩⟩
  ·unfold jU;simp only[cI,k1',k2',H,beq_self_eq_true,ab,aa,p1,zA,show ((3:Int)==1)=false from rfl,show ((3:Int)==2)=false from rfl]
  ·unfold jY;simp only[cS,k1',k2',H,beq_self_eq_true,ab,aa,p2,zA,show ((3:Int)==1)=false from rfl,show ((3:Int)==2)=false from rfl]
 ·have k3':(o.kind==3)=false:=by simpa using H
  refine⟨d,orA _ ?_,?_,a⟩
  ·unfold jU;simp only[cI,k1',k2',k3',aa,zA]
  ·unfold jY;simp only[cS,k1',k2',k3',aa,zA]
end Go.Proofs.YtngjomkjlonfpaaGreat
/- Sizes with lengths, and counts, for documents and operations. -/
namespace Go.Proofs.YtngjomkjlonfpaaGreat
open Go.Abs Go.Proofs
theorem SzK.one{α:Type}{f:α->Int->Option Int}{P:Prop}{x:α}{c s:Nat}(h:SzK f P x c s):SzK f P x 20 20:=by
 intro l a b;obtain⟨r,e,p⟩:=h l a b;refine⟨r,e,?_⟩;rcases p with p | ⟨d,g,j,i⟩
 ·exact .inl p
 ·exact .inr ⟨d,g,by omega,i⟩
theorem ajW{a b:List aN}(h:a.Sublist b):jG a<=jG b:=by
 induction h with
 | slnil=>exact ar _
 | cons x _ ih=>
  simp only[DK,List.map_cons,List.sum_cons]at ih ⊢;omega
 | cons_cons x _ ih=>
  simp only[DK,List.map_cons,List.sum_cons]at ih ⊢;omega
theorem UK(a b:List aN):jG (fC a b)<=jG a+jG b:=by
 obtain⟨t,e,h⟩:=tq b a;have:=ajW h;rw[e];simp only[DK,List.map_append,List.sum_append]at this ⊢;omega
theorem ZE(c v:Int)(rs:List aN):∀l:List aO,lg (yV c v rs l)<=lg l+jG rs
 | []=>Nat.zero_le _
 | t::r=>by
  have ih:=ZE c v rs r;have a:=UK t.reads rs;unfold yV;cases qI c v t
  ·simp only[aa,rZ,List.map_cons,List.sum_cons]at ih ⊢;omega
  ·simp only[ab,rZ,List.map_cons,List.sum_cons,Ns]at ih ⊢;omega
theorem adF(x:aO):∀l:List aO,lg (Jb x l)<=lg l+DJ x
 | []=>by
  unfold Jb;simp only[rZ,List.map_cons,List.map_nil,List.sum_cons,List.sum_nil];omega
 | t::r=>by
  have ih:=adF x r;unfold Jb;cases RH x t
  ·simp only[aa,rZ,List.map_cons,List.sum_cons]at ih ⊢;omega
  ·simp only[ab,rZ,List.map_cons,List.sum_cons]at ih ⊢;omega
theorem aiZ(l:List aO)(c v:Int)(rs:List aN):lg (wo l c v rs)<=lg l+jG rs+2:=by
 unfold wo;cases l.any (qI c v)with
 | true=>have:=ZE c v rs l;rw[ab];omega
 | false=>
  rw[aa];cases rs with
  | nil=>show lg l<=_;omega
  | cons y ys=>
   have a:=adF (aO.mk c v (fC [] (y::ys))) l;have b:=UK [] (y::ys);have d:jG []=0:=rfl;simp only[Ns]at a;show lg (Jb _ l)<=_
   omega
theorem afL.cnt{N M:Nat}{d:aK}{o:GOp}{r:aK}(h:afL N M d o r):lg r.tapes<=lg d.tapes+jG o.reads+2:=by
 rcases h.tc with e | e
 ·rw[e];omega
 ·rw[e];exact aiZ _ _ _ _
end Go.Proofs.YtngjomkjlonfpaaGreat
/- Plain law: FnExactReplayLog. -/
namespace Go.Proofs.YtngjomkjlonfpaaGreat
noncomputable section
open Go.Abs Go.Proofs
def aib(x y:GOp):Prop:=x.time<y.time\/(x.time=y.time/\x.by_<y.by_)
theorem UN{xs:List GOp}(d:iW (pK xs) xs 0=true):∀(m i:Nat) (x y:GOp),xs[i]?=some x->xs[i+m+1]?=some y->aib x y:=by
 have one:∀(i:Nat) (x y:GOp),xs[i]?=some x->xs[i+1]?=some y->aib x y:=fun i x y b a=>by
  have h:=EM d (i+1) y a;unfold pK at h;rw[Nat.zero_add,Nat.add_sub_cancel,b]at h;simp only[zI,Bool.or_eq_true,Bool.not_eq_true',decide_eq_false_iff_not,decide_eq_true_eq,beq_iff_eq]at h;rcases h.2 with h | h
  ·omega
  ·exact h
 intro m;induction m with
 | zero=>exact one
 | succ m ih=>
  intro i x y b a;have g:=(zC.1 a).1;obtain⟨z,c⟩:∃z,xs[i+m+1]?=some z:=⟨_,zF (by omega)⟩;have e:=ih i x z b c;have f:=one (i+m+1) z y c (by rw[<- a];rfl);unfold aib at e f ⊢;omega
theorem ahj{xs:List GOp}(a:iW (pK xs) xs 0=true){i j:Nat}{x y:GOp}(b:xs[i]?=some x)(c:xs[j]?=some y)(d:x.time=y.time)(e:x.by_=y.by_):i=j:=by
 rcases Nat.lt_trichotomy i j with h | h | h
 ·have:=UN a (j-i-1) i x y b (by rw[<- c];congr 1;omega);unfold aib at this;omega
 ·exact h
 ·have:=UN a (i-j-1) j y x c (by rw[<- b];congr 1;omega);unfold aib at this;omega
theorem aeZ{xs:List GOp}(j:xs.length<=60)(f:iW (pK xs) xs 0=true){k:Nat}{e:GOp}(d:xs[k]?=some e):lC xs e=some (k:Int):=by
 have g:lC xs e=some (dG (fun x:GOp=>(x.time==e.time)&&(x.by_==e.by_)) xs 0):=by
  unfold lC;refine uM (fun i=>((xs,e.time,e.by_,e.kind,e.seen,e.edit.kind,e.edit.pos,e.edit.cell.id,e.edit.cell.version,e.edit.cell.kind,e.edit.cell.name,e.edit.cell.code,e.edit.cell.n,e.src,e.dst,e.cell,e.version,e.reads,(i:Int)):(List GOp)×Int×Int×Int×(List Int)×Int×Int×Int×Int×Int×Str×Str×Int×Str×Str×Int×Int×(List aN)×Int)) xs _ (fun i x a=>?_) ?_
  ·simp only[dn a,ab,au,a,zA,dm a (by omega)];cases (x.time==e.time)<;>cases (x.by_==e.by_)<;>rfl
  ·simp only[bP,aa]
 rw[g];have h:=Dx (fun x:GOp=>(x.time==e.time)&&(x.by_==e.by_)) xs 0 ⟨e,zG d,by simp⟩;rcases mD (fun x:GOp=>(x.time==e.time)&&(x.by_==e.by_)) xs 0 with b | ⟨n,x,b,a⟩
 ·rw[b]at h;omega
 ·have c:=AO (fun x:GOp=>(x.time==e.time)&&(x.by_==e.by_)) xs 0 n x b a;simp only[zI,beq_iff_eq]at c;have:=ahj f a d c.1 c.2;rw[b,Nat.zero_add,this]
def hsB(xs:List GOp)(o:GOp)(k:Int):Bool:=(yE o xs k).getD false
theorem al6{xs:List GOp}{o:GOp}(a:o.seen.length<lim)(b:xs.length<lim)(k:Int):yE o xs k=some (hsB xs o k)/\Jl o xs k=some (hsB xs o k):=by
 obtain⟨v,c,d⟩:=acr o xs k a b;unfold hsB;rw[c,d];exact⟨rfl,rfl⟩
def VF(xs:List GOp)(o:GOp)(k:Int):Option GOp:=if hsB xs o k=true then none else xs[k.toNat]?
def JI(xs:List GOp)(o:GOp)(at_:List Int):List GOp:=at_.filterMap (VF xs o)
theorem acO{xs:List GOp}{o:GOp}{at_:List Int}{j:Nat}{k:Int}(h:at_[j]?=some k):JI xs o (at_.take (j+1))=JI xs o (at_.take j)++(VF xs o k).toList:=by
 unfold JI;rw[List.take_add_one,h,List.filterMap_append];show _++List.filterMap (VF xs o) [k]=_
 rw[List.filterMap_cons,List.filterMap_nil];cases VF xs o k<;>rfl
theorem afS{xs:List GOp}{o:GOp}{at_:List Int}{x:GOp}(h:x∈JI xs o at_):x∈xs:=by
 unfold JI at h;obtain⟨k,_,a⟩:=List.mem_filterMap.1 h;unfold VF at a;split at a
 ·cases a
 ·exact zG a
theorem OA(xs:List GOp)(o:GOp)(at_:List Int):(JI xs o at_).length<=at_.length:=by
 unfold JI;exact List.length_filterMap_le _ _
def GR(xs:List GOp):Nat:=(xs.map fun x=>x.reads.length).sum
def aiF(xs:List GOp):Nat:=(xs.map fun x=>jG x.reads+2).sum
structure Ug(xs:List GOp)(i:Nat)(d:aK)(at_:List Int):Prop where
 nb:Fit B20 (.base .notebook) d.notebook
 tp:Tps (GR (xs.take i)) (GR (xs.take i)) d.tapes
 cn:lg d.tapes<=aiF (xs.take i)
 ln:d.renames.length=at_.length
 rn:∀(j:Nat) (k:Int),at_[j]?=some k->0<=k/\k<(i:Int)/\d.renames[j]?=xs[k.toNat]?
 al:at_.length<=i
theorem Ug.mem{xs:List GOp}{i:Nat}{d:aK}{at_:List Int}(h:Ug xs i d at_){x:GOp}(b:x∈d.renames):x∈xs:=by
 obtain⟨j,a⟩:=List.mem_iff_getElem?.1 b;have c:=(zC.1 a).1;obtain⟨k,e⟩:∃k,at_[j]?=some k:=⟨_,zF (by have:=h.ln;omega)⟩;have:=(h.rn j k e).2.2;rw[a]at this;exact zG this.symm
theorem aiD{xs:List GOp}{i:Nat}{x:GOp}(h:xs[i]?=some x):GR (xs.take (i+1))=GR (xs.take i)+x.reads.length:=by
 unfold GR;rw[List.take_add_one,h];simp
theorem aiE{xs:List GOp}{i:Nat}{x:GOp}(h:xs[i]?=some x):aiF (xs.take (i+1))=aiF (xs.take i)+(jG x.reads+2):=by
 unfold aiF;rw[List.take_add_one,h];simp
theorem acT:∀(xs:List GOp) (i:Nat),GR (xs.take i)<=GR xs
 | [],i=>by simp
 | x::r,0=>Nat.zero_le _
 | x::r,i+1=>by
  have:=acT r i;unfold GR at this ⊢;simp only[List.take_succ_cons,List.map_cons,List.sum_cons];omega
abbrev LgI:=(List GOp)×(List ah)×(List aO)×(List GOp)×(List ah)×(List aO)×(List GOp)×(List Int)×(List GOp)×Int×Int
abbrev LgS:=(List GOp)×(List ah)×(List aO)×(List GOp)×(List ah)×(List aO)×(List GOp)×Int
abbrev LhI:=(List GOp)×(List ah)×(List aO)×(List GOp)×(List ah)×(List aO)×(List GOp)×(List Int)×Int×Int×Int×Int×(List Int)×Int×Int×Int×Int×Int×Str×Str×Int×Str×Str×Int×Int×(List aN)×(List GOp)×(List GOp)×Int×Int×Int×Int
abbrev LhS:=(List GOp)×(List ah)×(List aO)×(List GOp)×(List ah)×(List aO)×(List GOp)×Int×(List GOp)×Int
set_option maxHeartbeats 1000000 in
theorem ajq(xs:List GOp)(h:aX B20 (.list (.base .op) xs))(hR:GR xs<=1048576)(J:Nat->aK->List Int->Prop)(V:J 0 (aK.mk (ak.mk []) [] []) [])
  (JS:iW (pK xs) xs 0=true->∀(i:Nat) (o:GOp) (d:aK) (at_:List Int) (r:aK),xs[i]?=some o->Ug xs i d at_->J i d at_->uw d o (JI xs o at_)=some r->jY d o (JI xs o at_)=some r->afL (GR (xs.take i)+o.reads.length) (GR (xs.take i)+o.reads.length) d o r ->
   J (i+1) r (if (decide ((r.renames.length:Int)>(d.renames.length:Int)))=true then at_++[(i:Int)]else at_)) :
  ∃(d:aK) (at_:List Int),Ak xs=some d/\nX xs=some d/\(((iW (pK xs) xs 0&&decide ((xs.length:Int)<=60))=false/\d=aK.mk (ak.mk []) [] []/\at_=[])\/((iW (pK xs) xs 0&&decide ((xs.length:Int)<=60))=true/\Ug xs xs.length d at_/\J xs.length d at_)):=by
 obtain⟨G,I⟩:∃G:aK->List Int->Prop,G=fun d at_=>(((iW (pK xs) xs 0&&decide ((xs.length:Int)<=60))=false/\d=aK.mk (ak.mk []) [] []/\at_=[])\/((iW (pK xs) xs 0&&decide ((xs.length:Int)<=60))=true/\Ug xs xs.length d at_/\J xs.length d at_)):=⟨_,rfl⟩
 suffices F:∃d:aK,Ak xs=some d/\nX xs=some d/\∃at_:List Int,G d at_ by
  obtain⟨d,v,H,at_,p⟩:=F;exact⟨d,at_,v,H,by rw[I]at p;exact p⟩
 obtain⟨W,X⟩:=zo xs h;have hfull:=dA h;unfold Ak nX;rw[W,X,zA,zA];have Y:Ug xs 0 (aK.mk (ak.mk []) [] []) []:=⟨uz (fun x c=>by cases c) (by simp),⟨ahd,ar _,fun t Z=>by cases Z⟩,Nat.zero_le _,rfl,fun j k a=>by simp at a,ar _⟩;by_cases g:(iW (pK xs) xs 0&&decide ((xs.length:Int)<=60))=true
 case neg=>
  have:(iW (pK xs) xs 0&&decide ((xs.length:Int)<=60))=false:=by simpa using g
  rw[this]
  exact⟨_,rfl,rfl,[],by rw[I];exact .inl ⟨this,rfl,rfl⟩⟩
 rw[g];have w:=g;simp only[zI,decide_eq_true_eq]at g;obtain⟨R,h60⟩:=g;have hl60:xs.length<=60:=by omega
 have hlim:xs.length<lim:=fD hfull;simp only[aE,aa];refine VG (fun (s:aK×List Int) (i:Nat)=>((xs,[],[],[],s.1.notebook.cells,s.1.tapes,s.1.renames,s.2,xs,(xs.length:Int),(i:Int)):LgI)) (fun (s:aK×List Int) (i:Nat)=>((xs,[],[],[],s.1.notebook.cells,s.1.tapes,s.1.renames,(i:Int)):LgS)) xs (fun i s=>Ug xs i s.1 s.2/\J i s.1 s.2) (fun d=>∃at_:List Int,G d at_) (fun i o s c f=>.inl ?_) (fun s f=>?_) (aK.mk (ak.mk []) [] [],[]) ⟨Y,V⟩
 ·obtain⟨d,at_⟩:=s;obtain⟨f,hJ⟩:Ug xs i d at_/\J i d at_:=f;have hi:=(zC.1 c).1;have hal:=f.al;have fo:=h.aZ o (zG c);have fo':=fo;rw[xP]at fo';have K:=fD (dA fo'.2.2.2.1);have F:=fun k=>al6 (xs:=xs) (o:=o) K hlim k
  have y:=aiD c;have hrl:=acT xs (i+1);have hul:=OA xs o at_;have hlen:=f.ln;have frn:aX B20 (.list (.base .op) d.renames):=dY (by omega) fun x L=>h.aZ x (f.mem L)
  have fun_:aX B20 (.list (.base .op) (JI xs o at_)):=dY (by omega) fun x L=>h.aZ x (afS L)
  obtain⟨r,S,T,q⟩:=WJ d o (JI xs o at_) ⟨f.nb,f.tp,frn⟩ fo fun_ (by omega) (by omega);have hcn:=q.cnt;have hcu:=aiE c;have hcI:=f.cn;have hdoc:aK.mk (ak.mk d.notebook.cells) d.tapes d.renames=d:=rfl;have z:GOp.mk o.time o.by_ o.kind o.seen (dM.mk o.edit.kind o.edit.pos (ah.mk o.edit.cell.id o.edit.cell.version o.edit.cell.kind o.edit.cell.name o.edit.cell.code o.edit.cell.n)) o.src o.dst o.cell o.version o.reads=o:=rfl;have A:∀(j:Nat) (k:Int),at_[j]?=some k->∃e,k=((k.toNat:Nat):Int)/\xs[k.toNat]?=some e/\d.renames[j]?=some e:=fun j k a=>by
   obtain⟨v,H,p⟩:=f.rn j k a;obtain⟨e,l⟩:∃e,xs[k.toNat]?=some e:=⟨_,zF (by omega)⟩;exact⟨e,by omega,l,by rw[p,l]⟩
  have next:∃at':List Int,(at'=if (decide ((r.renames.length:Int)>(d.renames.length:Int)))=true then at_++[(i:Int)]else at_)/\Ug xs (i+1) r at':=by
   refine⟨_,rfl,?_⟩;rcases q.rn with e | e
   ·rw[e,ac (by omega),if_neg (by simp)];exact⟨q.nb,by rw[y];exact q.tp,by omega,by rw[e];exact hlen,fun j k a=>by
     obtain⟨v,H,p⟩:=f.rn j k a;exact⟨v,by omega,by rw[e];exact p⟩,by omega⟩
   ·have M:r.renames.length=d.renames.length+1:=by rw[e];simp
    rw[ae (by omega),if_pos rfl];refine⟨q.nb,by rw[y];exact q.tp,by omega,by rw[M];simp[hlen],fun j k a=>?_,by simp;omega⟩;by_cases N:j<at_.length
    ·rw[List.getElem?_append_left N]at a;obtain⟨v,H,p⟩:=f.rn j k a;refine⟨v,by omega,?_⟩;rw[e,List.getElem?_append_left (by omega)];exact p
    ·have O:=(zC.1 a).1;simp at O;have P:j=at_.length:=by omega
     subst P;rw[List.getElem?_append_right (ar _),Nat.sub_self]at a;have a:(i:Int)=k:=by simpa using a
     subst a;refine⟨by omega,by omega,?_⟩;rw[e,List.getElem?_append_right (by omega),hlen,Nat.sub_self,aw,c];rfl
  obtain⟨at',b,Q⟩:=next;have B:=JS R i o d at_ r c f hJ S T q;rw[<- b]at B;refine⟨(r,at'),?_,?_,Q,B⟩
  ·simp only[dn c,ab,au,c,zA];refine vk (dL (fun (u:List GOp) (j:Nat)=>((xs,[],[],[],d.notebook.cells,d.tapes,d.renames,at_,(i:Int),o.time,o.by_,o.kind,o.seen,o.edit.kind,o.edit.pos,o.edit.cell.id,o.edit.cell.version,o.edit.cell.kind,o.edit.cell.name,o.edit.cell.code,o.edit.cell.n,o.src,o.dst,o.cell,o.version,o.reads,u,xs,(xs.length:Int),(i:Int),(at_.length:Int),(j:Int)):LhI)) at_ (fun j u=>u=JI xs o (at_.take j)) _ (fun j k u a m=>.inl ?_) (fun u m=>?_) [] rfl)
   ·obtain⟨e,ek,l,_⟩:=A j k a;have N:=(zC.1 a).1;have hupd:=acO (xs:=xs) (o:=o) a;have hidx:idx xs k=some e:=by rw[ek,au,l]
    have hull:=OA xs o (at_.take j);rw[a7]at hull;simp only[dn a,ab,au,a,aw,zA,z,(F k).2,hidx,dm a (by omega),gdp (show u.length+[e].length<=34359738368 by rw[m];simp;omega)];rw[m,hupd];cases hh:hsB xs o k with
    | true=>
     refine⟨_,rfl,?_⟩;unfold VF;rw[if_pos hh];simp
    | false=>
     refine⟨_,rfl,?_⟩;unfold VF;rw[if_neg (by rw[hh];simp),l];rfl
   ·rw[List.take_length]at m;subst m;simp only[bP,aa,hdoc,z,S,zA];cases U:decide ((r.renames.length:Int)>(d.renames.length:Int))with
    | true=>
     rw[U,if_pos rfl]at b;rw[ab,gdp (show at_.length+[(i:Int)].length<=34359738368 by simp;omega),zA,b,dm c (by omega)];exact⟨_,rfl,rfl⟩
    | false=>
     rw[U,if_neg (by simp)]at b;rw[aa,b,dm c (by omega)];exact⟨_,rfl,rfl⟩
  ·simp only[dn c,ab];refine vk (dL (fun (u:List GOp) (j:Nat)=>((xs,[],[],[],d.notebook.cells,d.tapes,d.renames,(i:Int),u,(j:Int)):LhS)) d.renames (fun j u=>u=JI xs o (at_.take j)) _ (fun j e u l m=>.inl ?_) (fun u m=>?_) [] rfl)
   ·have N:=(zC.1 l).1;obtain⟨k,a⟩:∃k,at_[j]?=some k:=⟨_,zF (by omega)⟩;obtain⟨e',ek,C,D⟩:=A j k a;have:e=e':=by rw[l]at D;exact aM D
    subst this;have hupd:=acO (xs:=xs) (o:=o) a;have E:=aeZ hl60 R C;rw[<- ek]at E;have hull:=OA xs o (at_.take j);rw[a7]at hull;simp only[dn l,ab,au,c,l,aw,zA,E,(F k).1,dm l (by omega),gdp (show u.length+[e].length<=34359738368 by rw[m];simp;omega)];rw[m,hupd];cases hh:hsB xs o k with
    | true=>
     refine⟨_,rfl,?_⟩;unfold VF;rw[if_pos hh];simp
    | false=>
     refine⟨_,rfl,?_⟩;unfold VF;rw[if_neg (by rw[hh];simp),C];rfl
   ·rw[hlen,List.take_length]at m;subst m;simp only[bP,aa,au,c,hdoc,T,zA,dm c (by omega)];exact⟨_,rfl,rfl⟩
 ·obtain⟨d,at_⟩:=s;simp only[bP,aa];exact⟨d,rfl,rfl,at_,by rw[I];exact .inr ⟨w,f.1,f.2⟩⟩
theorem ae7(xs:List GOp)(h:aX B20 (.list (.base .op) xs))(a:GR xs<=1048576):∃d,Ak xs=some d/\nX xs=some d/\∃(n:Nat) (at_:List Int),Ug xs n d at_/\n<=60:=by
 obtain⟨d,at_,b,c,e⟩:=ajq xs h a (fun _ _ _=>True) trivial (fun _ _ _ _ _ _ _ _ _ _ _ _=>trivial);refine⟨d,b,c,?_⟩;rcases e with ⟨_,rfl,rfl⟩ | ⟨f,g,_⟩
 ·exact⟨0,[],⟨uz (fun x i=>by cases i) (by simp),⟨ahd,ar _,fun t l=>by cases l⟩,Nat.zero_le _,rfl,fun j k m=>by simp at m,ar _⟩,by omega⟩
 ·simp only[zI,decide_eq_true_eq]at f;exact⟨xs.length,at_,g,by omega⟩
end
end Go.Proofs.YtngjomkjlonfpaaGreat
/- Plain laws: replicas that have pulled from each other; the law FnReplicas. -/
namespace Go.Proofs.YtngjomkjlonfpaaGreat
open Go.Abs Go.Proofs
def VR(r:aB):Prop:=(0<=r.id/\r.id<=2)/\DR r.ops
theorem o5(a:aB)(h:Fit B20 (.base .replica) a):∃v,dU a=some v/\gY a=some v/\(v=true↔VR a):=by
 obtain⟨v,b,c,_⟩:=JG a h;refine⟨v,b,c,?_⟩;rw[dF]at h;obtain⟨u,d,g,f⟩:=Ox a.ops h.2;unfold dU at b;simp only[fG,zA,d]at b;unfold VR;by_cases q:0<=a.id/\a.id<=2
 ·rw[ae q.1,ae q.2]at b;have b:some u=some v:=b;cases b
  rw[f];exact⟨fun h=>⟨q,h⟩,fun h=>h.2⟩
 ·have e:(decide (0<=a.id)&&decide (a.id<=2))=false:=by simp;omega
  rw[e]at b;have b:some false=some v:=b;cases b
  exact⟨fun h=>(by cases h),fun h=>absurd h.1 q⟩
theorem XI{v:Bool}{P:Prop}(h:v=true↔P)(a:¬P):v=false:=by
 cases v with
 | false=>rfl
 | true=>exact absurd (h.1 rfl) a
theorem Kr(a b:aB)(f:Fit B20 (.base .replica) a)(i:Fit B20 (.base .replica) b) :
  (VR a/\VR b/\VR (aB.mk a.id (eF a.ops b.ops))/\LH a b=some (aB.mk a.id (eF a.ops b.ops),true)/\MX a b=some (aB.mk a.id (eF a.ops b.ops),true)/\Fit B20 (.base .replica) (aB.mk a.id (eF a.ops b.ops))) \/
  (¬(VR a/\VR b/\VR (aB.mk a.id (eF a.ops b.ops)))/\LH a b=some (a,false)/\MX a b=some (a,false)):=by
 have fa:=f;rw[dF]at fa;have fb:=i;rw[dF]at fb;have la:=dA fa.2;have lb:=dA fb.2;have l:=Hg a.ops b.ops (by omega) (by omega) (fun x c=>fa.2.aZ x c) (fun x c=>fb.2.aZ x c);have hi:=Jh a.ops b.ops (by omega) (by omega) (fun x c=>fa.2.aZ x c) (fun x c=>fb.2.aZ x c);have hlen:=Qy a.ops b.ops;obtain⟨v,m,n,v3⟩:=o5 a f;obtain⟨u,o,p,j⟩:=o5 b i;unfold LH MX;rw[l,hi];simp only[zA,m,n,o,p,BU a f,NR a f];by_cases d:VR a
 case neg=>
  rw[XI v3 d]
  exact .inr ⟨fun h=>d h.1,rfl,rfl⟩
 rw[v3.2 d];by_cases e:VR b
 case neg=>
  rw[XI j e]
  exact .inr ⟨fun h=>e h.2.1,rfl,rfl⟩
 rw[j.2 e];have s:=d.2.len;have t:=e.2.len;have fn:Fit B20 (.base .replica) (aB.mk a.id (eF a.ops b.ops)):=by
  rw[dF];refine⟨fa.1,dY (by show ((eF a.ops b.ops).length:Int)<=1048576;omega) fun x c=>?_⟩;rcases vz c with h | h
  ·exact fa.2.aZ x h
  ·exact fb.2.aZ x h
 obtain⟨z,q,r,k⟩:=o5 _ fn;simp only[aE,aa,q,r,zA];by_cases g:VR (aB.mk a.id (eF a.ops b.ops))
 ·rw[k.2 g];exact .inl ⟨d,e,g,rfl,rfl,fn⟩
 ·rw[XI k g];exact .inr ⟨fun h=>g h.2.2,rfl,rfl⟩
theorem ab2{l c:List GOp}(id:Int)(m:DR l)(q:∀y,y∈l->OpF y):∃M,wU (aB.mk id l) (Uy c)=some M/\M.length<=l.length/\(∀o,o∈M->o∈l)/\∀(j:Nat) (o:GOp),l[j]?=some o->o∈M\/lu (l.take j) o.by_<lu c o.by_:=by
 have r:=m.len;have hlim:l.length<4611686018427387904:=by omega
 unfold wU;refine jD (fun (s:List GOp) (i:Nat)=>((Uy c,id,l,s,l,(l.length:Int),(i:Int)):(List Int)×Int×(List GOp)×(List GOp)×(List GOp)×Int×Int)) l (fun i s=>s.length<=i/\(∀o,o∈s->o∈l)/\∀(j:Nat) (o:GOp),j<i->l[j]?=some o->o∈s\/lu (l.take j) o.by_<lu c o.by_)
  (fun (M:List GOp)=>M.length<=l.length/\(∀o,o∈M->o∈l)/\∀(j:Nat) (o:GOp),l[j]?=some o->o∈M\/lu (l.take j) o.by_<lu c o.by_) (fun i y s b e=>.inl ?_) (fun s e=>?_) [] ⟨ar _,fun o h=>(by cases h),fun j o h=>absurd h (Nat.not_lt_zero _)⟩
 ·obtain⟨v,n,p⟩:=e;have hi:=(zC.1 b).1;have f:=zG b;have g:=(Y1 (m.op y f)).2;have t:decide (y.by_<((Uy c).length:Int))=true:=by
   show decide (y.by_<3)=true
   simp;omega
  simp only[dec_lt b,ab,au,b,zA,ae (show y.by_>=0 from g.1),t,wZ l i (by omega),Nc (l.take i) y.by_ (by rw[a7];omega),aeh c g.1 g.2,dX b hlim];by_cases k:lu (l.take i) y.by_<lu c y.by_
  ·rw[ae (by omega)];refine⟨s,rfl,by omega,n,fun j o u a=>?_⟩;by_cases d:j=i
   ·subst d;rw[b]at a;cases a
    exact .inr k
   ·exact p j o (by omega) a
  ·rw[ac (by omega)];simp only[Bool.not_false,ab,Ar y (q y f),zA];rw[bD (by simp;omega),zA];refine⟨s++[y],rfl,by simp;omega,fun o a=>?_,fun j o u a=>?_⟩
   ·rcases List.mem_append.1 a with a | a
    ·exact n o a
    ·rw[List.mem_singleton.1 a];exact f
   ·by_cases d:j=i
    ·subst d;rw[b]at a;cases a
     exact .inl (by simp)
    ·rcases p j o (by omega) a with h | h
     ·exact .inl (List.mem_append_left _ h)
     ·exact .inr h
 ·simp only[aV,aa];exact⟨s,rfl,e.1,e.2.1,fun j o a=>e.2.2 j o (zC.1 a).1 a⟩
structure amJ(r q:aB):Prop where
 fr:Fit B20 (.base .replica) r
 fq:Fit B20 (.base .replica) q
 lr:r.ops.length<=1000
 lq:q.ops.length<=1000
 rr:∀o,o∈r.ops->o.reads.length<=1000
 rq:∀o,o∈q.ops->o.reads.length<=1000
 net:DR r.ops->∃U,aiw U/\(∀x,x∈r.ops->x∈U)/\(∀x,x∈q.ops->x∈U)/\(∀x,x∈r.ops->∀y,y∈U->y.by_=x.by_->iG y x=true->y∈r.ops)/\∀x,x∈q.ops->∀y,y∈U->y.by_=x.by_->iG y x=true->y∈q.ops
theorem ZR(a:List Int)(g:(a.length:Int)<=1048576):∃r q,Ee a=some (r,q)/\amJ r q:=by
 obtain⟨w,i,k0⟩:=alY a g;obtain⟨x,rs,j,k,U,c⟩:=ahe k0 14 (by omega) (by omega);obtain⟨z,b,l,m⟩:=Eg k 8;have p:=c.n;obtain⟨r,er,_,d⟩:=Ai (xs:=rs) (n:=0) (by omega);obtain⟨q,eq,_,e⟩:=Ai (xs:=rs) (n:=1) (by omega);have er:idx rs 0=some r:=er;have eq:idx rs 1=some q:=eq;unfold Ee;simp only[i,j,l,er,eq,d,e,zA];cases b with
 | true=>
  obtain⟨A,s,t,B,fs,ls,rs'⟩:=afF m;simp only[t,ab,zA];refine⟨s,aB.mk 1 [],rfl,fs,?_,ls,by simp,rs',fun o f=>(by cases f),fun u=>⟨s.ops,MR u.sorted,fun _ h=>h,fun _ h=>(by cases h),fun _ _ y v _ _=>v,fun _ h=>(by cases h)⟩⟩;rw[dF];exact⟨show I64 1 from i64 (by omega) (by omega),ahd⟩
 | false=>
  simp only[aa];have C:=(c.log 0 r d).len;have D:=(c.log 1 q e).len;exact⟨r,q,rfl,c.aeO d,c.aeO e,by omega,by omega,fun o f=>c.rd o (c.sub 0 r d o f),fun o f=>c.rd o (c.sub 1 q e o f),fun _=>⟨U,c.key,c.sub 0 r d,c.sub 1 q e,c.pre 0 r d,c.pre 1 q e⟩⟩
theorem ajp{x y:GOp}(h:iG x y=false)(a:iG y x=false):jl x y=true:=by
 unfold iG at h a;unfold jl;simp only[Bool.or_eq_false_iff,Bool.and_eq_false_iff,decide_eq_false_iff_not,beq_eq_false_iff_ne,zI,beq_iff_eq]at *;omega
theorem afZ{xs:List GOp}{C:Nat}(h:∀x,x∈xs->x.reads.length<=C):GR xs<=xs.length*C:=by
 induction xs with
 | nil=>exact Nat.zero_le _
 | cons x r ih=>
  have a:=ih fun y b=>h y (ao _ b)
  have c:=h x aq;unfold GR at a ⊢;simp only[List.map_cons,List.sum_cons,List.length_cons,Nat.succ_mul];omega
theorem QF(a:List Int)(W:aX B47 (.list (.base .u8) a)):FnReplicas a=some true:=by
 refine ah9 W fun X=>?_
 obtain⟨r,q,P,f⟩:=ZR a X;have fr:=f.fr;rw[dF]at fr;have fq:=f.fq;rw[dF]at fq;have s:∀x,x∈r.ops->OpF x:=fun x b=>fr.2.aZ x b
 have k:∀x,x∈q.ops->OpF x:=fun x b=>fq.2.aZ x b
 have sr:=zx r.ops f.lr s;have sq:=zx q.ops f.lq k;have swap:DR r.ops->eF q.ops r.ops=eF r.ops q.ops:=fun h=>by
  obtain⟨U,m,p,Q,_⟩:=f.net h;exact FH (nJ _ _) (nJ _ _) fun o=>by rw[ou m Q p,ou m p Q,Or.comm]
 rcases Kr r q f.fr f.fq with ⟨vr,vq,vm,p,D,fm⟩ | ⟨no,p,D⟩
 ·have t:=swap vr.2;have E:MX q r=some (aB.mk q.id (eF r.ops q.ops),true):=by
   rcases Kr q r f.fq f.fr with ⟨_,_,_,_,h,_⟩ | ⟨no,_,_⟩
   ·rw[t]at h;exact h
   ·exact absurd ⟨vq,vr,vq.1,by show DR (eF q.ops r.ops);rw[t];exact vm.2⟩ no
  have fm':=fm;rw[dF]at fm';have u:∀x,x∈eF r.ops q.ops->OpF x:=fun x b=>fm'.2.aZ x b
  have lm:=vm.2.len;have lm:((eF r.ops q.ops).length:Int)<=60:=lm;have sm:=zx (eF r.ops q.ops) (by omega) u;obtain⟨U,m,F,G,Y,Z⟩:=f.net vr.2;obtain⟨M,m1,m2,H,m4⟩:=ab2 (c:=r.ops) q.id vq.2 k;have lr:=vr.2.len;have lq:=vq.2.len;have m0:qM r.ops M=some (eF r.ops M):=Jh r.ops M (by omega) (by omega) s fun x b=>k x (H x b)
  have mm:eF r.ops M=eF r.ops q.ops:=by
   refine FH (nJ _ _) (nJ _ _) fun o=>?_
   rw[ou m F fun x b=>G x (H x b),ou m F G];refine⟨fun h=>h.imp id (H o),fun h=>h.elim .inl fun h=>?_⟩;obtain⟨j,R⟩:=List.mem_iff_getElem?.1 h;rcases m4 j o R with h' | I
   ·exact .inr h'
   ·refine .inl (Classical.byContradiction fun w=>?_);have hsub:∀x,x∈r.ops.filter (fun x=>x.by_==o.by_)->x∈(q.ops.take j).filter (fun x=>x.by_==o.by_):=fun x b=>by
     rw[List.mem_filter]at b ⊢;have S:x.by_=o.by_:=eq_of_beq b.2;have y:=F x b.1;have z:=G o h;have g:iG x o=true:=by
      cases h1:iG x o with
      | true=>rfl
      | false=>
       cases T:iG o x with
       | true=>exact absurd (Y x b.1 o z S.symm T) w
       | false=>exact absurd (by rw[<- m x y o z (ajp h1 T)];exact b.1) w
     refine⟨?_,b.2⟩;obtain⟨i,hi⟩:=List.mem_iff_getElem?.1 (Z o h x y S g);have J:i<j:=Classical.byContradiction fun hge=>by
      have K:=zC.1 hi;have L:=zC.1 R;obtain⟨N,A⟩:=K;obtain⟨O,l⟩:=L;by_cases e:i=j
      ·subst e;rw[A]at l;rw[l,kU.irrefl]at g;cases g
      ·have:=List.pairwise_iff_getElem.1 vq.2.sorted j i O N (by omega);rw[A,l]at this;have:=kU.trans _ _ _ this g;rw[kU.irrefl]at this;cases this
     exact List.mem_iff_getElem?.2 ⟨i,by rw[List.getElem?_take,if_pos J];exact hi⟩
    have:=acU ((VO vr.2.sorted).filter _) hsub;unfold lu at I;omega
  have hsum:=afZ (xs:=eF r.ops q.ops) (C:=1000) fun x b=>by
   rcases vz b with h | h
   ·exact f.rr x h
   ·exact f.rq x h
  obtain⟨d,_,rl,n,at_,B,hn⟩:=ae7 (eF r.ops q.ops) fm'.2 (by
   have:(eF r.ops q.ops).length*1000<=60*1000:=Nat.mul_le_mul_right _ (by omega);omega)
  have fd:Fit B20 (.base .document) d:=by
   rw[Jr];exact⟨B.nb,B.tp.1,dY (by have:=B.ln;have:=B.al;omega) fun x b=>u x (B.mem b)⟩
  have ed:=Il d d fd;simp only[Rn,Bool.and_self]at ed;obtain⟨v,_,V,v3⟩:=o5 _ fm;rw[v3.2 vm]at V;simp only[P,D,E,p,sm,aiK r (by omega),m1,m0,mm,V,rl,ed,zA,beq_self_eq_true,aE,aa,ab]
 ·have E:MX q r=some (q,false):=by
   rcases Kr q r f.fq f.fr with ⟨vq,vr,vm,_,h,_⟩ | ⟨_,_,h⟩
   ·refine absurd ⟨vr,vq,vr.1,?_⟩ no;show DR (eF r.ops q.ops)
    rw[<- swap vr.2];exact vm.2
   ·exact h
  simp only[P,D,E,p,sr,sq,zA,beq_self_eq_true,aE,Bool.not_false,aa,ab]
end Go.Proofs.YtngjomkjlonfpaaGreat
