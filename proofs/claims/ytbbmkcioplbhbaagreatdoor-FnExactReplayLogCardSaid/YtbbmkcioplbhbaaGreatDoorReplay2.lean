import Derived.Test.YtbbmkcioplbhbaaGreatDoorHist1
import Derived.Test.YtbbmkcioplbhbaaGreatDoorS3
import Derived.Test.YtbbmkcioplbhbaaGreatDoorLink1
import Derived.Shelf.Strconv.Itoa3
import Derived.Shelf.Strings.OnBuilder
import Derived.Shelf.Strings.Prefix
import Derived.Shelf.Strings.Split
import Derived.Shelf.Small.Strs
import Derived.Shelf.Sort.Plain
import Derived.Shelf.Slices.In.SortNone2
set_option linter.unusedSimpArgs false
set_option linter.unusedVariables false
/- Plain laws: ReplayOp is alike on both sides, whole. -/
namespace Go.Proofs.YtbbmkcioplbhbaaGreatDoor
open Go.Abs Go.Proofs
theorem Dw{α:Type}(p:α->Bool):∀(xs:List α) (i:Nat),(∃x,x∈xs/\p x=true)->0<=dM p xs i
 | [],i,⟨x,a,_⟩=>by cases a
 | y::ys,i,⟨x,a,b⟩=>by
  unfold dM;cases c:p y with
  | true=>rw[ac];omega
  | false=>
   rw[aa];refine Dw p ys (i+1) ⟨x,?_,b⟩;rcases bc.1 a with rfl | a
   ·rw[b]at c;cases c
   ·exact a
theorem Ai{α:Type}(p:α->Bool):∀(xs:List α) (i n:Nat) (x:α),dM p xs i=((i+n:Nat):Int)->xs[n]?=some x->p x=true
 | [],i,n,x,_,a=>by simp at a
 | y::ys,i,n,x,h,a=>by
  unfold dM at h;cases b:p y with
  | true=>
   rw[b,ac]at h;have:n=0:=by omega
   subst this;simp at a;rw[<- a];exact b
  | false=>
   rw[b,aa]at h;cases n with
   | zero=>
    rcases oH p ys (i+1)with e | ⟨m,z,e,_⟩
    ·rw[e]at h;omega
    ·rw[e]at h;omega
   | succ n=>exact Ai p ys (i+1) n x (by rw[h];omega) (by simpa using a)
theorem ap1{q:Bool}{a b:Option (ah×Int)}{k:Int}(h1:∀r,a=some r->r.1.id=k)(h2:∀r,b=some r->r.1.id=k):∀r,(bif q then a else b)=some r->r.1.id=k:=by cases q<;>assumption
theorem al7{α:Type}{x:Option α}{f:α->Option (ah×Int)}{k:Int}(h:∀a r,f a=some r->r.1.id=k):∀r,x.bind f=some r->r.1.id=k:=by
 intro r b;obtain⟨a,_,h2⟩:=zB.1 b;exact h a r h2
theorem al6{y:ah}{n k:Int}(h:y.id=k):∀r,some (y,n)=some r->r.1.id=k:=by
 intro r a;cases a
 exact h
theorem ahW{x:ah}{b:dP}:∀r,BL x b=some r->r.1.id=x.id:=by
 unfold BL;repeat' first
  | exact al6 rfl
  | refine ap1 ?_ ?_
  | refine al7 fun _=>?_
theorem acC{a:ak}{b:dP}{w:ak}(f:Fit B20 (.base .notebook) a)(z:Fit B20 (.base .edit) b)(h:kM a b=some (w,0))(G:b.kind=1\/b.kind=4\/b.kind=6):∃x,x∈w.cells/\(x.id==b.cell.id)=true:=by
 obtain⟨v,A,g⟩:=o5 a f;obtain⟨B,C⟩:=TA f h;have q:=Yo f;have i:a.cells.length<lim:=jb q;have fb:=z;rw[uS]at fb;unfold kM at h;rw[g,copyS a (by omega)]at h;simp only[zA,mP,kU a _ i]at h;cases v with
 | false=>simp at h
 | true=>
  have j:(decide (1<=b.kind)&&decide (b.kind<=6))=true:=by simpa using B
  rw[j]at h;simp only[aM,aa]at h;by_cases k:b.kind=1
  ·obtain⟨vc,s,d⟩:=jq b.cell fb.2.2;simp only[k,beq_self_eq_true,ac,d,zA]at h;cases vc with
   | false=>simp at h
   | true=>
    simp only[aM,aa]at h;cases t:decide (dM (fun c=>c.id==b.cell.id) a.cells 0>=0)with
    | true=>rw[t]at h;simp at h
    | false=>
     rw[t]at h;simp only[aa]at h;cases u:((a.cells.length:Int)==8)with
     | true=>rw[u]at h;simp at h
     | false=>
      obtain⟨n,H,D,I⟩:=put_eq a.cells b.pos b.cell q;rw[u]at h;simp only[aa,D,zA,zD,Prod.mk.injEq,and_true]at h;rw[<- h];exact⟨b.cell,by simp,by simp⟩
  ·obtain⟨m,x,y,l⟩:=C k;have k1':(b.kind==1)=false:=by simpa using k
   have k2':(b.kind==2)=false:=by simp;omega
   have k3':(b.kind==3)=false:=by simp;omega
   have o:=(zC.1 l).1;have E:=Ai (fun c:ah=>c.id==b.cell.id) a.cells 0 m x (by rw[y];simp) l;simp only[k1',k2',k3',aa,y,ae (show ¬(m:Int)<0 by omega),aA,l,zA,aD]at h;obtain⟨r,F,h⟩:=zB.1 h;have p:=ahW r F;cases e:(r.2==0)with
   | false=>
    rw[e]at h;simp only[aa,zD,Prod.mk.injEq]at h;rw[h.2]at e;simp at e
   | true=>
    rw[e]at h;simp only[ac,zD,Prod.mk.injEq]at h;rw[<- h.1];refine⟨r.1,List.mem_iff_getElem?.2 ⟨m,List.getElem?_set_self o⟩,?_⟩;rw[p];exact E
theorem aeW{a:ak}{b:dP}{w:ak}(d:Fit B20 (.base .notebook) a)(f:Fit B20 (.base .edit) b)(h:kM a b=some (w,0))(g:b.kind=1\/b.kind=4\/b.kind=6):∃(m:Nat) (x:ah),dM (fun c=>c.id==b.cell.id) w.cells 0=(m:Int)/\w.cells[m]?=some x:=by
 have i:=Dw (fun c:ah=>c.id==b.cell.id) w.cells 0 (acC d f h g);rcases oH (fun c:ah=>c.id==b.cell.id) w.cells 0 with e | ⟨n,x,e,j⟩
 ·rw[e]at i;omega
 ·exact⟨n,x,by rw[e,Nat.zero_add],j⟩
theorem ajW{cs:List ah}{b c:Str}(h:Fit B20 (.base .notebook) ⟨cs⟩)(l:c.length<=1048576):Fit B20 (.base .notebook) ⟨kept cs b c⟩:=by
 obtain⟨g,m⟩:=yM h;have e:aW B20 (.int .i64 1):=.int .i64 _ (wfS (by omega) (by omega));have h1:Fit B20 (.base .notebook) ⟨cs.map ig⟩:=yH (fun x f=>by
  obtain⟨y,n,rfl⟩:=List.mem_map.1 f;have:=g y n;rw[je]at this ⊢;exact⟨this.1,e,this.2.2⟩) (by simpa using m)
 obtain⟨i,_⟩:=yM (ai5 (cs.map ig) b c false h1 l);have hlen:=Qp (cs.map ig) b c false;rw[List.length_map]at hlen;unfold kept;generalize (vw (cs.map ig) b c false).1.cells=o at i hlen;refine yH (fun x f=>?_) (by unfold rJ;rw[List.length_zipWith];omega);obtain⟨k,a⟩:=List.mem_iff_getElem?.1 f;rw[WH hlen]at a;cases d:o[k]? with
 | none=>rw[d]at a;cases a
 | some y=>
  rw[d]at a;have p:=(zC.1 d).1;obtain⟨z,j⟩:∃z,cs[k]?=some z:=⟨_,zF (by omega)⟩;rw[j]at a;have a:FX z y=x:=a6 a;rw[<- a];have fy:=i y (zG d);have fz:=g z (zG j);rw[je]at fy fz ⊢;exact⟨fy.1,fz.2.1,fy.2.2⟩
structure DocP(N M:Nat)(d:aN):Prop where
 nb:Fit B20 (.base .notebook) d.notebook
 tp:Tps N M d.tapes
 rn:aW B20 (.list (.base .op) d.renames)
theorem OW{N M N' M':Nat}{l:List aJ}(h:Tps N M l)(h1:N<=N')(h2:M<=M'):Tps N' M' l:=⟨h.1,Nat.le_trans h.2.1 h1,fun t a=>Nat.le_trans (h.2.2 t a) h2⟩
structure ak6(N M:Nat)(d:aN)(o:GOp)(r:aN):Prop where
 nb:Fit B20 (.base .notebook) r.notebook
 tp:Tps N M r.tapes
 rn:r.renames=d.renames\/r.renames=d.renames++[o]
 tc:r.tapes=d.tapes\/r.tapes=vz d.tapes o.cell o.version o.reads
theorem amw{N M:Nat}{d:aN}(h:DocP N M d):mW d=some d/\Ig d=some d:=by
 have a:=Yo h.nb;constructor
 ·unfold mW;rw[Wy d.notebook (by omega),zA,FM _ h.tp.1,zA,abD _ h.rn,zA]
 ·unfold Ig;rw[copyS d.notebook (by omega),zA,LZ _ h.tp.1,zA,adf _ h.rn,zA]
theorem X5{N M:Nat}(d:aN)(o:GOp)(u:List GOp)(hd:DocP N M d)(p:Fit B20 (.base .op) o)(G:aW B20 (.list (.base .op) u))(hN:N+o.reads.length<=1048576)(s:M+o.reads.length<=1048576) :
  ∃r,ou d o u=some r/\jO d o u=some r/\ak6 (N+o.reads.length) (M+o.reads.length) d o r:=by
 obtain⟨cI,cS⟩:=amw hd;have orA:∀r,jd d o u=some r->ou d o u=some r:=fun r h=>by unfold ou;rw[h];rfl
 have T:=dY hd.rn;have a:ak6 (N+o.reads.length) (M+o.reads.length) d o d:=⟨hd.nb,OW hd.tp (Nat.le_add_right _ _) (Nat.le_add_right _ _),.inl rfl,.inl rfl⟩;have fo:=p;rw[uQ]at fo;by_cases c:o.kind=1
 ·have fe:=fo.2.2.2.2.1;rw[uS,je]at fe;obtain⟨e,t,v,b⟩:=acH o.edit u (by have:=dY G;omega) (by have:=Fa fe.2.2.2.2.2.1;omega) (by have:=Fa fe.2.2.2.2.2.2.1;omega) (fun x f=>by
   have fx:=G.bW x f;rw[uQ]at fx;have h1:=Fa fx.2.2.2.2.2.1;have h2:=Fa fx.2.2.2.2.2.2.1;omega)
  have fE:Fit B20 (.base .edit) e:=by
   rw[uS,je,b.kind,b.pos,b.id,b.version,b.ckind,b.n];exact⟨fe.1,fe.2.1,fe.2.2.1,fe.2.2.2.1,fe.2.2.2.2.1,lU (by have:=b.name;omega),lU (by have:=b.code;omega),fe.2.2.2.2.2.2.2⟩
  obtain⟨w,n,k,y,A⟩:=Zw d.notebook e hd.nb fE;by_cases H:n=0
  ·subst H;have i:=Yo A;have st:iR o=some (w64 ((w64 (o.time*3))+o.by_))/\mO o=some (w64 ((w64 (o.time*3))+o.by_)):=⟨rfl,rfl⟩;have wv:aW B20 (.int .i64 (w64 ((w64 (o.time*3))+o.by_))):=.int .i64 _ (apF _);generalize w64 ((w64 (o.time*3))+o.by_)=V at st wv;have put:∀(m:Nat) (x:ah),w.cells[m]?=some x->ak6 (N+o.reads.length) (M+o.reads.length) d o (aN.mk (ak.mk (w.cells.set m (ah.mk x.id V x.kind x.name x.code x.n))) d.tapes d.renames):=fun m x f=>by
    refine⟨?_,a.tp,.inl rfl,.inl rfl⟩;obtain⟨l,B⟩:=yM A;have fx:=l x (zG f);refine yH (apN l m ?_) (by simpa using B);rw[je]at fx ⊢;exact⟨fx.1,wv,fx.2.2⟩
   by_cases q:e.kind=1\/e.kind=4\/e.kind=6
   ·obtain⟨m,x,I,f⟩:=aeW hd.nb fE k q;have xI:gU w o.edit.cell.id=some (m:Int):=by rw[wO w _ (jb i),<- b.id,I]
    have xS:jG w e.cell.id=some (m:Int):=by rw[kU w _ (jb i),I]
    refine⟨_,orA _ ?_,?_,put m x f⟩
    ·unfold jd;rcases q with q | q | q
     all_goals
      rw[b.kind]at q
      simp only[cI,c,beq_self_eq_true,ac,t,y,bne_self_eq_false,aa,q,xI,st.1,aA,f,aD,zA]
      try rfl
    ·unfold jO;rcases q with q | q | q
     all_goals
      simp only[cS,c,beq_self_eq_true,ac,v,k,bne_self_eq_false,aa,q,xS,st.2,aA,f,aD,zA]
      try rfl
   ·have J:(o.edit.kind==1)=false:=by rw[<- b.kind];simp;omega
    have K:(o.edit.kind==4)=false:=by rw[<- b.kind];simp;omega
    have L:(o.edit.kind==6)=false:=by rw[<- b.kind];simp;omega
    refine⟨aN.mk w d.tapes d.renames,orA _ ?_,?_,⟨A,a.tp,.inl rfl,.inl rfl⟩⟩
    ·unfold jd;simp only[cI,c,beq_self_eq_true,ac,t,y,bne_self_eq_false,aa,J,K,L,zA]
    ·unfold jO;simp only[cS,c,beq_self_eq_true,ac,v,k,bne_self_eq_false,aa,b.kind,J,K,L,zA]
  ·have j:(n != 0)=true:=by simpa using H
   refine⟨d,orA _ ?_,?_,a⟩
   ·unfold jd;simp only[cI,c,beq_self_eq_true,ac,t,y,j,zA]
   ·unfold jO;simp only[cS,c,beq_self_eq_true,ac,v,k,j,zA]
 have k1':(o.kind==1)=false:=by simpa using c
 by_cases g:o.kind=2
 ·obtain⟨cs⟩:∃cs:List ah,True:=⟨[],trivial⟩;obtain⟨l,B⟩:=yM (cs:=d.notebook.cells) hd.nb;have s1:=Fa fo.2.2.2.2.2.1;have s2:=Fa fo.2.2.2.2.2.2.1;obtain⟨O,P⟩:=al3 d.notebook.cells o.src o.dst B (acp l) (by omega) (by omega);have C:(ak.mk d.notebook.cells)=d.notebook:=rfl;rw[C]at O P;by_cases Q:(vw (d.notebook.cells.map ig) o.src o.dst false).2=0
  ·obtain⟨D,E⟩:=O Q;have R:gd (d.renames.length+[o].length)=some ():=gdp (by simp;omega);refine⟨aN.mk ⟨kept d.notebook.cells o.src o.dst⟩ d.tapes (d.renames++[o]),orA _ ?_,?_,⟨ajW hd.nb (by omega),a.tp,.inr rfl,.inl rfl⟩⟩
   ·unfold jd;simp only[cI,k1',g,beq_self_eq_true,ac,aa,D,Si o p,R,zA,show ((2:Int)==1)=false from rfl]
   ·unfold jO;simp only[cS,k1',g,beq_self_eq_true,ac,aa,E,LX o p,R,zA,show ((2:Int)==1)=false from rfl]
  ·obtain⟨D,E,z,U⟩:=P Q;refine⟨d,?_,?_,a⟩
   ·have W:jd d o u=none:=by
     unfold jd;simp only[cI,k1',g,beq_self_eq_true,ac,aa,D,zA,Option.bind_none,show ((2:Int)==1)=false from rfl]
    have X:zT d o u=some d:=by
     unfold zT;simp only[cI,k1',g,beq_self_eq_true,ac,aa,E,zA,show ((2:Int)==1)=false from rfl]
    unfold ou;rw[W,X];rfl
   ·unfold jO;simp only[cS,k1',g,beq_self_eq_true,ac,aa,U,zA,show ((2:Int)==1)=false from rfl]
 have k2':(o.kind==2)=false:=by simpa using g
 by_cases F:o.kind=3
 ·have fr:=fo.2.2.2.2.2.2.2.2.2;have Y:=abo d.tapes o.cell o.version o.reads hd.tp fr s;have Z:=Z7 d.tapes o.cell o.version o.reads hd.tp fr s;have p3:Tps (N+o.reads.length) (M+o.reads.length) (vz d.tapes o.cell o.version o.reads):=by
   by_cases S:o.reads=[]
   ·rw[S,adJ rfl (.inr rfl)];exact OW hd.tp (Nat.le_add_right _ _) (Nat.le_add_right _ _)
   ·have:0<o.reads.length:=List.length_pos_iff.2 S;exact OW (aja hd.tp fr (az _) (by omega) s fo.2.2.2.2.2.2.2.1 fo.2.2.2.2.2.2.2.2.1) (by omega) (az _)
  refine⟨aN.mk d.notebook (vz d.tapes o.cell o.version o.reads) d.renames,orA _ ?_,?_,⟨a.nb,p3,.inl rfl,.inr rfl⟩⟩
  ·unfold jd;simp only[cI,k1',k2',F,beq_self_eq_true,ac,aa,Y,zA,show ((3:Int)==1)=false from rfl,show ((3:Int)==2)=false from rfl]
  ·unfold jO;simp only[cS,k1',k2',F,beq_self_eq_true,ac,aa,Z,zA,show ((3:Int)==1)=false from rfl,show ((3:Int)==2)=false from rfl]
 ·have k3':(o.kind==3)=false:=by simpa using F
  refine⟨d,orA _ ?_,?_,a⟩
  ·unfold jd;simp only[cI,k1',k2',k3',aa,zA]
  ·unfold jO;simp only[cS,k1',k2',k3',aa,zA]
end Go.Proofs.YtbbmkcioplbhbaaGreatDoor
/- Sizes with lengths, and counts, for documents and operations. -/
namespace Go.Proofs.YtbbmkcioplbhbaaGreatDoor
open Go.Abs Go.Proofs
theorem SzK.plus{α:Type}{f:α->Int->Option Int}{P:Prop}{x:α}{c s:Nat}(h:SzK f P x c s)(n:Nat):SzK f P x (c+n) (s+n):=by
 intro l a h1;obtain⟨r,e,p⟩:=h l a h1;refine⟨r,e,?_⟩;rcases p with p | ⟨b,d,i,g⟩
 ·exact .inl p
 ·exact .inr ⟨b,d,by omega,g⟩
theorem SzK.one{α:Type}{f:α->Int->Option Int}{P:Prop}{x:α}{c s:Nat}(h:SzK f P x c s):SzK f P x 20 20:=by
 intro l a h1;obtain⟨r,e,p⟩:=h l a h1;refine⟨r,e,?_⟩;rcases p with p | ⟨b,d,i,g⟩
 ·exact .inl p
 ·exact .inr ⟨b,d,by omega,g⟩
theorem SzK.both{α:Type}{f:α->Int->Option Int}{P P':Prop}{x:α}{c s c' s':Nat}(h:SzK f P x c s)(b:SzK f P' x c' s'):SzK f (P/\c<=20971520+s) x c' s':=by
 intro l a h1;obtain⟨r,e,p⟩:=h l a h1;obtain⟨r',e',p'⟩:=b l a h1;have:r=r':=a6 (e.symm.trans e');subst this;refine⟨r,e,?_⟩;rcases p with p | ⟨k,m,n,d⟩
 ·exact .inl p
 ·rcases p' with q | ⟨g,i,j,o⟩
  ·exact .inl q
  ·exact .inr ⟨g,i,j,d,by omega⟩
theorem Pj{α:Type}:∀xs:List α,(xs.map fun _=>20).sum=20*xs.length
 | []=>rfl
 | x::xs=>by
  have:=Pj xs;simp only[List.map_cons,List.sum_cons,List.length_cons];omega
theorem acT(xs:List aO)(h:aW B47 (.list (.base .read) xs)):SzK DY (aW B20 (.list (.base .read) xs)) xs (20*xs.length) 0:=by
 have:=pq (t:=.base .read) (f:=fun e b=>JH e b) (g:=DY) (fun _ _=>rfl) (fun _=>20) 20 (by omega) xs (fun y _ a=>(Vx y a).one) h;rw[Pj]at this;exact this
theorem alf(x:GOp)(h:Fit B47 (.base .op) x):SzK Xp (Fit B20 (.base .op) x) x (20*x.reads.length) 0:=by
 intro l E h1;rw[uQ]at h ⊢;obtain⟨o,p,q,s,t,u,v,w,y,z⟩:=h;unfold Xp;obtain⟨i,A,a⟩:=JJ x.seen s l (by omega) (by omega);rw[A,zA];rcases a with a | ⟨F,G,H,a⟩
 ·exact⟨-1,by simp only[a,decide_true,ac],.inl (by omega)⟩
 rw[ae (show ¬i<0 by omega),aa];obtain⟨d,B,b⟩:=Vz x.edit t i (by omega) (by omega);rw[B,zA];rcases b with b | ⟨I,J,K,b⟩
 ·exact⟨-1,by simp only[b,decide_true,ac],.inl (by omega)⟩
 rw[ae (show ¬d<0 by omega),aa];have L:=Hz u;rw[aT (n:=d-(x.src.length:Int)) (by omega) (by omega)];by_cases j:d-(x.src.length:Int)<0
 ·exact⟨-1,by simp only[j,decide_true,ac],.inl (by omega)⟩
 rw[ae j,aa];obtain⟨e,f⟩:∃r,r=d-(x.src.length:Int):=⟨_,rfl⟩;rw[<- f];have M:=Hz v;rw[aT (n:=e-(x.dst.length:Int)) (by omega) (by omega)];by_cases k:e-(x.dst.length:Int)<0
 ·exact⟨-1,by simp only[k,decide_true,ac],.inl (by omega)⟩
 rw[ae k,aa];obtain⟨C,g⟩:∃r,r=e-(x.dst.length:Int):=⟨_,rfl⟩;rw[<- g];obtain⟨m,D,c⟩:=acT x.reads z C (by omega) (by omega);rw[D,zA];rcases c with c | ⟨N,O,P,c⟩
 ·exact⟨-1,by simp only[c,decide_true,ac],.inl (by omega)⟩
 rw[ae (show ¬m<0 by omega),aa];exact⟨m,rfl,.inr ⟨by omega,by omega,by omega,o.fD,p.fD,q.fD,a,b,lU (by omega),lU (by omega),w.fD,y.fD,c⟩⟩
theorem amx{a b:List aO}(h:a.Sublist b):fK a<=fK b:=by
 induction h with
 | slnil=>exact az _
 | cons x _ ih=>
  simp only[DF,List.map_cons,List.sum_cons]at ih ⊢;omega
 | cons_cons x _ ih=>
  simp only[DF,List.map_cons,List.sum_cons]at ih ⊢;omega
theorem VQ(a b:List aO):fK (eG a b)<=fK a+fK b:=by
 obtain⟨t,e,h⟩:=rW b a;have:=amx h;rw[e];simp only[DF,List.map_append,List.sum_append]at this ⊢;omega
theorem abN(c v:Int)(rs:List aO):∀l:List aJ,gu (yF c v rs l)<=gu l+fK rs
 | []=>Nat.zero_le _
 | t::r=>by
  have ih:=abN c v rs r;have a:=VQ t.reads rs;unfold yF;cases pX c v t
  ·simp only[aa,rq,List.map_cons,List.sum_cons]at ih ⊢;omega
  ·simp only[ac,rq,List.map_cons,List.sum_cons,Nv]at ih ⊢;omega
theorem afN(x:aJ):∀l:List aJ,gu (IY x l)<=gu l+oW x
 | []=>by
  unfold IY;simp only[rq,List.map_cons,List.map_nil,List.sum_cons,List.sum_nil];omega
 | t::r=>by
  have ih:=afN x r;unfold IY;cases Tq x t
  ·simp only[aa,rq,List.map_cons,List.sum_cons]at ih ⊢;omega
  ·simp only[ac,rq,List.map_cons,List.sum_cons]at ih ⊢;omega
theorem alE(l:List aJ)(c v:Int)(rs:List aO):gu (vz l c v rs)<=gu l+fK rs+2:=by
 unfold vz;cases l.any (pX c v)with
 | true=>have:=abN c v rs l;rw[ac];omega
 | false=>
  rw[aa];cases rs with
  | nil=>show gu l<=_;omega
  | cons y ys=>
   have h1:=afN (aJ.mk c v (eG [] (y::ys))) l;have h2:=VQ [] (y::ys);have a:fK []=0:=rfl;simp only[Nv]at h1;show gu (IY _ l)<=_
   omega
theorem ak6.cnt{N M:Nat}{d:aN}{o:GOp}{r:aN}(h:ak6 N M d o r):gu r.tapes<=gu d.tapes+fK o.reads+2:=by
 rcases h.tc with e | e
 ·rw[e];omega
 ·rw[e];exact alE _ _ _ _
end Go.Proofs.YtbbmkcioplbhbaaGreatDoor
/- Plain law: FnExactReplayLog. -/
namespace Go.Proofs.YtbbmkcioplbhbaaGreatDoor
noncomputable section
open Go.Abs Go.Proofs
def akQ(x y:GOp):Prop:=x.time<y.time\/(x.time=y.time/\x.by_<y.by_)
theorem VT{xs:List GOp}(hv:kT (Fq xs) xs 0=true):∀(m i:Nat) (x y:GOp),xs[i]?=some x->xs[i+m+1]?=some y->akQ x y:=by
 have one:∀(i:Nat) (x y:GOp),xs[i]?=some x->xs[i+1]?=some y->akQ x y:=fun i x y b a=>by
  have h:=Lu hv (i+1) y a;unfold Fq at h;rw[Nat.zero_add,Nat.add_sub_cancel,b]at h;simp only[zI,Bool.or_eq_true,Bool.not_eq_true',decide_eq_false_iff_not,decide_eq_true_eq,beq_iff_eq]at h;rcases h.2 with h | h
  ·omega
  ·exact h
 intro m;induction m with
 | zero=>exact one
 | succ m ih=>
  intro i x y b a;have d:=(zC.1 a).1;obtain⟨z,c⟩:∃z,xs[i+m+1]?=some z:=⟨_,zF (by omega)⟩;have h1:=ih i x z b c;have h2:=one (i+m+1) z y c (by rw[<- a];rfl);unfold akQ at h1 h2 ⊢;omega
theorem ajK{xs:List GOp}(hv:kT (Fq xs) xs 0=true){i j:Nat}{x y:GOp}(a:xs[i]?=some x)(b:xs[j]?=some y)(c:x.time=y.time)(d:x.by_=y.by_):i=j:=by
 rcases Nat.lt_trichotomy i j with h | h | h
 ·have:=VT hv (j-i-1) i x y a (by rw[<- b];congr 1;omega);unfold akQ at this;omega
 ·exact h
 ·have:=VT hv (i-j-1) j y x b (by rw[<- a];congr 1;omega);unfold akQ at this;omega
theorem ajk{xs:List GOp}(g:xs.length<=60)(hv:kT (Fq xs) xs 0=true){k:Nat}{e:GOp}(d:xs[k]?=some e):xh xs e=some (k:Int):=by
 have h1:xh xs e=some (dM (fun x:GOp=>(x.time==e.time)&&(x.by_==e.by_)) xs 0):=by
  unfold xh;refine uf (fun i=>((xs,e.time,e.by_,e.kind,e.seen,e.edit.kind,e.edit.pos,e.edit.cell.id,e.edit.cell.version,e.edit.cell.kind,e.edit.cell.name,e.edit.cell.code,e.edit.cell.n,e.src,e.dst,e.cell,e.version,e.reads,(i:Int)):(List GOp)×Int×Int×Int×(List Int)×Int×Int×Int×Int×Int×Str×Str×Int×Str×Str×Int×Int×(List aO)×Int)) xs _ (fun i x a=>?_) ?_
  ·simp only[bZ a,ac,aA,a,zA,bY a (by omega)];cases (x.time==e.time)<;>cases (x.by_==e.by_)<;>rfl
  ·simp only[bG,aa]
 rw[h1];have f:=Dw (fun x:GOp=>(x.time==e.time)&&(x.by_==e.by_)) xs 0 ⟨e,zG d,by simp⟩;rcases oH (fun x:GOp=>(x.time==e.time)&&(x.by_==e.by_)) xs 0 with b | ⟨n,x,b,a⟩
 ·rw[b]at f;omega
 ·have c:=Ai (fun x:GOp=>(x.time==e.time)&&(x.by_==e.by_)) xs 0 n x b a;simp only[zI,beq_iff_eq]at c;have:=ajK hv a d c.1 c.2;rw[b,Nat.zero_add,this]
def hsB(xs:List GOp)(o:GOp)(k:Int):Bool:=(xB o xs k).getD false
theorem ap3{xs:List GOp}{o:GOp}(a:o.seen.length<lim)(b:xs.length<lim)(k:Int):xB o xs k=some (hsB xs o k)/\Dl o xs k=some (hsB xs o k):=by
 obtain⟨v,c,d⟩:=aeB o xs k a b;unfold hsB;rw[c,d];exact⟨rfl,rfl⟩
def Xa(xs:List GOp)(o:GOp)(k:Int):Option GOp:=if hsB xs o k=true then none else xs[k.toNat]?
def OQ(xs:List GOp)(o:GOp)(at_:List Int):List GOp:=at_.filterMap (Xa xs o)
theorem ae5{xs:List GOp}{o:GOp}{at_:List Int}{j:Nat}{k:Int}(h:at_[j]?=some k):OQ xs o (at_.take (j+1))=OQ xs o (at_.take j)++(Xa xs o k).toList:=by
 unfold OQ;rw[List.take_add_one,h,List.filterMap_append];show _++List.filterMap (Xa xs o) [k]=_
 rw[List.filterMap_cons,List.filterMap_nil];cases Xa xs o k<;>rfl
theorem ah7{xs:List GOp}{o:GOp}{at_:List Int}{x:GOp}(h:x∈OQ xs o at_):x∈xs:=by
 unfold OQ at h;obtain⟨k,_,a⟩:=List.mem_filterMap.1 h;unfold Xa at a;split at a
 ·cases a
 ·exact zG a
theorem OO(xs:List GOp)(o:GOp)(at_:List Int):(OQ xs o at_).length<=at_.length:=by
 unfold OQ;exact List.length_filterMap_le _ _
def Pn(xs:List GOp):Nat:=(xs.map fun x=>x.reads.length).sum
def acV(xs:List GOp):Nat:=(xs.map fun x=>fK x.reads+2).sum
structure acI(xs:List GOp)(i:Nat)(d:aN)(at_:List Int):Prop where
 nb:Fit B20 (.base .notebook) d.notebook
 tp:Tps (Pn (xs.take i)) (Pn (xs.take i)) d.tapes
 cn:gu d.tapes<=acV (xs.take i)
 ln:d.renames.length=at_.length
 rn:∀(j:Nat) (k:Int),at_[j]?=some k->0<=k/\k<(i:Int)/\d.renames[j]?=xs[k.toNat]?
 al:at_.length<=i
theorem acI.mem{xs:List GOp}{i:Nat}{d:aN}{at_:List Int}(h:acI xs i d at_){x:GOp}(b:x∈d.renames):x∈xs:=by
 obtain⟨j,a⟩:=List.mem_iff_getElem?.1 b;have c:=(zC.1 a).1;obtain⟨k,e⟩:∃k,at_[j]?=some k:=⟨_,zF (by have:=h.ln;omega)⟩;have:=(h.rn j k e).2.2;rw[a]at this;exact zG this.symm
theorem alk{xs:List GOp}{i:Nat}{x:GOp}(h:xs[i]?=some x):Pn (xs.take (i+1))=Pn (xs.take i)+x.reads.length:=by
 unfold Pn;rw[List.take_add_one,h];simp
theorem alm{xs:List GOp}{i:Nat}{x:GOp}(h:xs[i]?=some x):acV (xs.take (i+1))=acV (xs.take i)+(fK x.reads+2):=by
 unfold acV;rw[List.take_add_one,h];simp
theorem afg:∀(xs:List GOp) (i:Nat),Pn (xs.take i)<=Pn xs
 | [],i=>by simp
 | x::r,0=>Nat.zero_le _
 | x::r,i+1=>by
  have:=afg r i;unfold Pn at this ⊢;simp only[List.take_succ_cons,List.map_cons,List.sum_cons];omega
abbrev LgI:=(List GOp)×(List ah)×(List aJ)×(List GOp)×(List ah)×(List aJ)×(List GOp)×(List Int)×(List GOp)×Int×Int
abbrev LgS:=(List GOp)×(List ah)×(List aJ)×(List GOp)×(List ah)×(List aJ)×(List GOp)×Int
abbrev LhI:=(List GOp)×(List ah)×(List aJ)×(List GOp)×(List ah)×(List aJ)×(List GOp)×(List Int)×Int×Int×Int×Int×(List Int)×Int×Int×Int×Int×Int×Str×Str×Int×Str×Str×Int×Int×(List aO)×(List GOp)×(List GOp)×Int×Int×Int×Int
abbrev LhS:=(List GOp)×(List ah)×(List aJ)×(List GOp)×(List ah)×(List aJ)×(List GOp)×Int×(List GOp)×Int
set_option maxHeartbeats 1000000 in
theorem ahd(xs:List GOp)(h:aW B20 (.list (.base .op) xs))(X:Pn xs<=1048576):∃d,uK xs=some d/\yX xs=some d/\∃(n:Nat) (at_:List Int),acI xs n d at_/\n<=60:=by
 obtain⟨L,M⟩:=WY xs h;have hfull:=dY h;unfold uK yX;rw[L,M,zA,zA];have J:acI xs 0 (aN.mk (ak.mk []) [] []) []:=⟨yH (fun x b=>by cases b) (by simp),⟨aqv,az _,fun t N=>by cases N⟩,Nat.zero_le _,rfl,fun j k a=>by simp at a,az _⟩;by_cases m:(kT (Fq xs) xs 0&&decide ((xs.length:Int)<=60))=true
 case neg=>
  have:(kT (Fq xs) xs 0&&decide ((xs.length:Int)<=60))=false:=by simpa using m
  rw[this]
  exact⟨_,rfl,rfl,0,[],J,by omega⟩
 rw[m];simp only[zI,decide_eq_true_eq]at m;obtain⟨hv,O⟩:=m;have hl60:xs.length<=60:=by omega
 have hlim:xs.length<lim:=jb hfull;simp only[aM,aa];refine Xb (fun (s:aN×List Int) (i:Nat)=>((xs,[],[],[],s.1.notebook.cells,s.1.tapes,s.1.renames,s.2,xs,(xs.length:Int),(i:Int)):LgI)) (fun (s:aN×List Int) (i:Nat)=>((xs,[],[],[],s.1.notebook.cells,s.1.tapes,s.1.renames,(i:Int)):LgS)) xs (fun i s=>acI xs i s.1 s.2) (fun d=>∃(n:Nat) (at_:List Int),acI xs n d at_/\n<=60) (fun i o s b f=>.inl ?_) (fun s f=>?_) (aN.mk (ak.mk []) [] [],[]) J
 ·obtain⟨d,at_⟩:=s;have f:acI xs i d at_:=f;have hi:=(zC.1 b).1;have P:=f.al;have fo:=h.bW o (zG b);have fo':=fo;rw[uQ]at fo';have C:=jb (dY fo'.2.2.2.1);have K:=fun k=>ap3 (xs:=xs) (o:=o) C hlim k
  have q:=alk b;have Q:=afg xs (i+1);have R:=OO xs o at_;have hlen:=f.ln;have frn:aW B20 (.list (.base .op) d.renames):=jv (by omega) fun x D=>h.bW x (f.mem D)
  have fun_:aW B20 (.list (.base .op) (OQ xs o at_)):=jv (by omega) fun x D=>h.bW x (ah7 D)
  obtain⟨r,S,T,p⟩:=X5 d o (OQ xs o at_) ⟨f.nb,f.tp,frn⟩ fo fun_ (by omega) (by omega);have U:=p.cnt;have V:=alm b;have W:=f.cn;have hdoc:aN.mk (ak.mk d.notebook.cells) d.tapes d.renames=d:=rfl;have v:GOp.mk o.time o.by_ o.kind o.seen (dP.mk o.edit.kind o.edit.pos (ah.mk o.edit.cell.id o.edit.cell.version o.edit.cell.kind o.edit.cell.name o.edit.cell.code o.edit.cell.n)) o.src o.dst o.cell o.version o.reads=o:=rfl;have w:∀(j:Nat) (k:Int),at_[j]?=some k->∃e,k=((k.toNat:Nat):Int)/\xs[k.toNat]?=some e/\d.renames[j]?=some e:=fun j k a=>by
   obtain⟨h1,h2,y⟩:=f.rn j k a;obtain⟨e,g⟩:∃e,xs[k.toNat]?=some e:=⟨_,zF (by omega)⟩;exact⟨e,by omega,g,by rw[y,g]⟩
  have next:∃at':List Int,(at'=if (decide ((r.renames.length:Int)>(d.renames.length:Int)))=true then at_++[(i:Int)]else at_)/\acI xs (i+1) r at':=by
   refine⟨_,rfl,?_⟩;rcases p.rn with e | e
   ·rw[e,ae (by omega),if_neg (by simp)];exact⟨p.nb,by rw[q];exact p.tp,by omega,by rw[e];exact hlen,fun j k a=>by
     obtain⟨h1,h2,y⟩:=f.rn j k a;exact⟨h1,by omega,by rw[e];exact y⟩,by omega⟩
   ·have E:r.renames.length=d.renames.length+1:=by rw[e];simp
    rw[aq (by omega),if_pos rfl];refine⟨p.nb,by rw[q];exact p.tp,by omega,by rw[E];simp[hlen],fun j k a=>?_,by simp;omega⟩;by_cases F:j<at_.length
    ·rw[List.getElem?_append_left F]at a;obtain⟨h1,h2,y⟩:=f.rn j k a;refine⟨h1,by omega,?_⟩;rw[e,List.getElem?_append_left (by omega)];exact y
    ·have G:=(zC.1 a).1;simp at G;have H:j=at_.length:=by omega
     subst H;rw[List.getElem?_append_right (az _),Nat.sub_self]at a;have a:(i:Int)=k:=by simpa using a
     subst a;refine⟨by omega,by omega,?_⟩;rw[e,List.getElem?_append_right (by omega),hlen,Nat.sub_self,aD,b];rfl
  obtain⟨at',c,I⟩:=next;refine⟨(r,at'),?_,?_,I⟩
  ·simp only[bZ b,ac,aA,b,zA];refine uz (dw (fun (u:List GOp) (j:Nat)=>((xs,[],[],[],d.notebook.cells,d.tapes,d.renames,at_,(i:Int),o.time,o.by_,o.kind,o.seen,o.edit.kind,o.edit.pos,o.edit.cell.id,o.edit.cell.version,o.edit.cell.kind,o.edit.cell.name,o.edit.cell.code,o.edit.cell.n,o.src,o.dst,o.cell,o.version,o.reads,u,xs,(xs.length:Int),(i:Int),(at_.length:Int),(j:Int)):LhI)) at_ (fun j u=>u=OQ xs o (at_.take j)) _ (fun j k u a l=>.inl ?_) (fun u l=>?_) [] rfl)
   ·obtain⟨e,ek,g,_⟩:=w j k a;have F:=(zC.1 a).1;have hupd:=ae5 (xs:=xs) (o:=o) a;have hidx:idx xs k=some e:=by rw[ek,aA,g]
    have hull:=OO xs o (at_.take j);rw[ba]at hull;simp only[bZ a,ac,aA,a,aD,zA,v,(K k).2,hidx,bY a (by omega),gdp (show u.length+[e].length<=34359738368 by rw[l];simp;omega)];rw[l,hupd];cases hh:hsB xs o k with
    | true=>
     refine⟨_,rfl,?_⟩;unfold Xa;rw[if_pos hh];simp
    | false=>
     refine⟨_,rfl,?_⟩;unfold Xa;rw[if_neg (by rw[hh];simp),g];rfl
   ·rw[List.take_length]at l;subst l;simp only[bG,aa,hdoc,v,S,zA];cases hd:decide ((r.renames.length:Int)>(d.renames.length:Int))with
    | true=>
     rw[hd,if_pos rfl]at c;rw[ac,gdp (show at_.length+[(i:Int)].length<=34359738368 by simp;omega),zA,c,bY b (by omega)];exact⟨_,rfl,rfl⟩
    | false=>
     rw[hd,if_neg (by simp)]at c;rw[aa,c,bY b (by omega)];exact⟨_,rfl,rfl⟩
  ·simp only[bZ b,ac];refine uz (dw (fun (u:List GOp) (j:Nat)=>((xs,[],[],[],d.notebook.cells,d.tapes,d.renames,(i:Int),u,(j:Int)):LhS)) d.renames (fun j u=>u=OQ xs o (at_.take j)) _ (fun j e u g l=>.inl ?_) (fun u l=>?_) [] rfl)
   ·have F:=(zC.1 g).1;obtain⟨k,a⟩:∃k,at_[j]?=some k:=⟨_,zF (by omega)⟩;obtain⟨e',ek,z,A⟩:=w j k a;have:e=e':=by rw[g]at A;exact a6 A
    subst this;have hupd:=ae5 (xs:=xs) (o:=o) a;have B:=ajk hl60 hv z;rw[<- ek]at B;have hull:=OO xs o (at_.take j);rw[ba]at hull;simp only[bZ g,ac,aA,b,g,aD,zA,B,(K k).1,bY g (by omega),gdp (show u.length+[e].length<=34359738368 by rw[l];simp;omega)];rw[l,hupd];cases hh:hsB xs o k with
    | true=>
     refine⟨_,rfl,?_⟩;unfold Xa;rw[if_pos hh];simp
    | false=>
     refine⟨_,rfl,?_⟩;unfold Xa;rw[if_neg (by rw[hh];simp),z];rfl
   ·rw[hlen,List.take_length]at l;subst l;simp only[bG,aa,aA,b,hdoc,T,zA,bY b (by omega)];exact⟨_,rfl,rfl⟩
 ·obtain⟨d,at_⟩:=s;simp only[bG,aa];exact⟨d,rfl,rfl,xs.length,at_,f,hl60⟩
theorem ait(xs:List GOp)(h:aW B47 (.list (.base .op) xs)):SzK O9 (aW B20 (.list (.base .op) xs)) xs ((xs.map fun x=>20*x.reads.length+20).sum) 0:=
 pq (t:=.base .op) (f:=fun e b=>Xp e b) (g:=O9) (fun _ _=>rfl) (fun x=>20*x.reads.length+20) 20 (by omega) xs (fun y _ a=>(alf y a).plus 20) h
theorem afh:∀xs:List GOp,20*Pn xs<=(xs.map fun x=>20*x.reads.length+20).sum
 | []=>Nat.zero_le _
 | x::r=>by
  have:=afh r;unfold Pn at this ⊢;simp only[List.map_cons,List.sum_cons];omega
theorem acn:∀ {xs:List GOp} {x:GOp},x∈xs->rG x<=qh xs
 | [],x,h=>by cases h
 | y::r,x,h=>by
  simp only[ES,List.map_cons,List.sum_cons];rcases bc.1 h with rfl | h
  ·omega
  ·have:=acn h;rw[ES]at this;omega
theorem afY(C:Nat):∀(xs:List GOp),(∀x,x∈xs->rG x<=C)->qh xs<=xs.length*C
 | [],_=>Nat.zero_le _
 | y::r,h=>by
  have ih:=afY C r fun x a=>h x (ar _ a)
  have b:=h y aw;rw[ES]at ih ⊢;simp only[List.map_cons,List.sum_cons,List.length_cons,Nat.succ_mul];omega
theorem afi:∀(xs:List GOp) (i:Nat),acV (xs.take i)<=qh xs
 | [],i=>by simp[acV]
 | x::r,0=>Nat.zero_le _
 | x::r,i+1=>by
  have:=afi r i;have a:=WA x;unfold acV at this ⊢;simp only[List.take_succ_cons,List.map_cons,List.sum_cons,ES]at this ⊢;omega
theorem CJ(a:List GOp)(f:aW B47 (.list (.base .op) a)):FnExactReplayLog a=some true:=by
 unfold FnExactReplayLog;refine aqw ((aiu a f).both (ait a f)) _ (by omega) (by omega) fun pa p q h1 g=>?_
 obtain⟨pa,na⟩:=pa;have h:=afh a;obtain⟨d,i,j,n,at_,b,r⟩:=ahd a pa (by omega);have c:d.renames.length<=60:=by have:=b.ln;have:=b.al;omega
 have fr:Fit B24 (.base .document) d:=by
  rw[Ah];exact⟨b.nb.mono ahh,b.tp.1.mono ahh,.ajG (by show _<=16777216;omega) fun x e=>(pa.bW x (b.mem e)).mono ahh⟩
 have k:=afY (qh a) d.renames fun x e=>acn (b.mem e)
 have s:qh d.renames<=60*20971520:=Nat.le_trans k (Nat.mul_le_mul c (by omega));have t:=b.cn;have u:=afi a n;obtain⟨_,nn⟩:=Yd (b.nb.mono ahh);have v:kK d=dX d.notebook+gu d.tapes+qh d.renames:=rfl;have oa:=ajC (pa.mono ahh);have oR:=aaQ fr;obtain⟨w,l,_⟩:=QO a oa 1 (by omega) (by omega);obtain⟨y,m,o⟩:=NP d oR 1 (by omega) (by omega);simp only[aii a pa,i,j,Vd d fr,akw a pa,l,m,o,zA,aM,aa,
  ae (show ¬(1+(qh a:Nat):Int)<0 by omega),ae (show ¬(1+(kK d:Nat):Int)<0 by omega),jf]
end
end Go.Proofs.YtbbmkcioplbhbaaGreatDoor
/- Functions of the library, as the evaluator's contracts. -/
namespace Go.Abs
open Go.RowKit Go.Sort Go.Proofs Go.Shelf
theorem below_grow(w:World)(k:Nat)(os:Array Obj):Below w.heap.size w (grow (w.drewN k) os):=
 ⟨rfl,rfl,rfl,by simp[grow],fun i hi=>by
  show (w.heap++os)[i]?=_
  rw[Array.getElem?_append_left hi]⟩
theorem J6{B:Nat}{w':World}{S:Nat->Nat->Prop}(s:Str):DR B w' S true [⟨false,.base .str⟩] s (.string ⟨s.toArray⟩):=
 ⟨[_],rfl,fun _ _=>False,⟨Ow.str (w:=w') (S:=fun _ _=>False) (deep:=true) ⟨s.toArray⟩ _,trivial⟩,fun _ _ h=>h.elim,fun _ _ _ h=>h.elim⟩
theorem agV{B:Nat}{w':World}{S:Nat->Nat->Prop}(n:Int):DR B w' S true [⟨false,.base .int⟩] n (.int .i64 n):=
 ⟨[_],rfl,fun _ _=>False,⟨.int _ _ _,trivial⟩,fun _ _ h=>h.elim,fun _ _ _ h=>h.elim⟩
theorem Qo{B:Nat}{w':World}{S:Nat->Nat->Prop}(b:Bool):DR B w' S true [⟨false,.base .bool⟩] b (.bool b):=
 ⟨[_],rfl,fun _ _=>False,⟨.bool _ _,trivial⟩,fun _ _ h=>h.elim,fun _ _ _ h=>h.elim⟩
theorem Uk{B:Nat}{w':World}{S:Nat->Nat->Prop}(n:Int)(b:Bool):DR B w' S true [⟨false,.base .int⟩,⟨false,.base .bool⟩] (n,b) (.tuple #[.int .i64 n,.bool b]):=
 ⟨[.int .i64 n,.bool b],rfl,fun _ _=>False,⟨⟨.int _ _ _,trivial⟩,⟨.bool _ _,trivial⟩⟩,fun _ _ h=>h.elim,fun _ _ _ h=>h.elim⟩
theorem lS{w:World}{S:Nat->Nat->Prop}{s:Str}{u:Value}(h:Rep w S (.str s) u):u=.string ⟨s.toArray⟩:=by
 generalize hd:D.str s=d at h;cases h<;>cases hd
 rfl
theorem vO{w:World}{S:Nat->Nat->Prop}{k:IntKind}{n:Int}{u:Value}(h:Rep w S (.int k n) u):u=.int k n:=by
 generalize hd:D.int k n=d at h;cases h<;>cases hd
 rfl
theorem aee {P : Program} {ρ : Ren} (L : LaysM.n171 P ρ) (htab : ∀ w, amb w -> Go.Lib.TabIs P w "internal/strconv.uint64pow10" .u64 Go.Lib.pow10Tab) :
  Sound P { fid:=ρ.f 171,ps:=[⟨false,.base .int⟩],rs:=[⟨false,.base .str⟩],ex:=true,fn:=fun x=>Eu x }:=by
 intro w S args x y h ha hr hS;rcases args with _ | ⟨u,_ | ⟨u2,r⟩⟩
 ·exact hr.elim
 ·have hu:=vO (show Rep w S (.int .i64 x) u from hr.1);subst hu;have h:Eu x=some y:=h;unfold Eu at h;split at h
  case isFalse=>cases h
  rename_i hx;cases h
  refine (Any.strconv_Itoa L x hx.1 hx.2 w (htab w ha)).mono ?_;rintro e w' ⟨rfl,k,os,rfl⟩;exact⟨_,rfl,below_grow w k os,J6 _⟩
 ·exact hr.elim
theorem ZU{P:Program}{ρ:Ren}(L:Lays.n146 P ρ)(o:(P.info? (ρ.t 9)).map (fun i=>(i.zero,i.size,i.bytes))=some (some (.string ByteArray.empty),1,16))(hmax:∀w,amb w->∃m,w.cell? ⟨(ρ.g 1),0,none⟩=some (.int .i64 m)) :
  Sound P { fid:=ρ.f 146,ps:=[⟨false,.base .str⟩,⟨false,.base .str⟩],rs:=[⟨false,.list (.base .str)⟩],ex:=true,fn:=fun x=>kR x.1 x.2 }:=by
 intro w S args x y h D a J;rcases args with _ | ⟨u,_ | ⟨E,_ | ⟨K,r⟩⟩⟩
 ·exact a.elim
 ·exact a.2.elim
 ·have F:=lS (show Rep w S (.str x.1) u from a.1.1);have p:=lS (show Rep w S (.str x.2) E from a.2.1);subst F;subst p;have h:kR x.1 x.2=some y:=h;unfold kR at h;split at h
  case isFalse=>cases h
  rename_i q;obtain⟨m,G⟩:=hmax w D;have A:(⟨x.1.toArray⟩:ByteArray).size=x.1.length:=by show x.1.toArray.size=_;simp
  have H:(⟨x.2.toArray⟩:ByteArray).size=x.2.length:=by show x.2.toArray.size=_;simp
  have h1:1<=(⟨x.2.toArray⟩:ByteArray).size:=by rw[H];exact q.2
  have l:=Lib.splitB_all ⟨x.2.toArray⟩ h1 0 _ ⟨x.1.toArray⟩ rfl;have b:=Lib.countB_le ⟨x.2.toArray⟩ h1 (⟨x.1.toArray⟩:ByteArray).size ⟨x.1.toArray⟩ (az _);have hd:=Lib.splitB_data ⟨x.2.toArray⟩ 0 (Lib.countB ⟨x.1.toArray⟩ ⟨x.2.toArray⟩) ⟨x.1.toArray⟩;have B:(Lib.splitB ⟨x.2.toArray⟩ 0 (Lib.countB ⟨x.1.toArray⟩ ⟨x.2.toArray⟩) ⟨x.1.toArray⟩).map (·.data.toList)=y:=by
   cases h
   rw[hd];rfl
  refine (Any.strings_Split L o ⟨x.1.toArray⟩ ⟨x.2.toArray⟩ m w (by rw[A];exact q.1) G h1).mono ?_;generalize Lib.splitB ⟨x.2.toArray⟩ 0 (Lib.countB ⟨x.1.toArray⟩ ⟨x.2.toArray⟩) ⟨x.1.toArray⟩=bs at l B;generalize Lib.countB ⟨x.1.toArray⟩ ⟨x.2.toArray⟩=n at l b;subst B;rintro e w' ⟨rfl,rfl⟩;have v:(w.alloc (.cells (bs.map Value.string).toArray (ρ.t 9))).heap.size=w.heap.size+1:=Array.size_push _;refine⟨_,rfl,(Below.refl _ _).alloc (az _) _,[_],rfl,fun i c=>i=0/\c=w.heap.size,⟨?_,trivial⟩,fun i c I=>by rw[I.2,v];omega,fun i i' c h1 h2=>h1.1.trans h2.1.symm⟩
  ·have C:(bs.map (·.data.toList)).length=n+1:=by rw[List.length_map,l]
   have key:=Ow.list (w:=w.alloc (.cells (bs.map Value.string).toArray (ρ.t 9))) (S:=fun _ _=>False) (deep:=true) (.base .str) (bs.map (·.data.toList)) w.heap.size (n+1) (bs.map Value.string).toArray (ρ.t 9) (fun i _=>.string (bs[i]!)) (fun _ _ _=>False) (fun c=>0=0/\c=w.heap.size)
    (Array.getElem?_push_size) (by rw[C];exact az _) (by rw[A]at b;have:=q.1;unfold maxLen;omega) (by show (bs.map Value.string).toArray.size=(n+1)*1;simp[l]) ⟨rfl,rfl⟩
    (fun i s j d k hd=>?_) (fun i s j d k hd=>?_) (fun _ _ _ h=>h.elim) (fun _ _ _ _ _ h=>h.elim)
   ·rw[C]at key;exact key
   ·cases j with
    | succ j=>simp[Ty.cells,Base.cells]at hd
    | zero=>
     have e:i*(Ty.base .str).size+0=i:=by show i*1+0=i;omega
     have hi:i<bs.length:=by
      have:=(zC.1 k).1;simpa using this
     rw[e];simp[hi]
   ·cases j with
    | succ j=>simp[Ty.cells,Base.cells]at hd
    | zero=>
     simp only[Ty.cells,Base.cells,List.getElem?_cons_zero,zD]at hd;subst hd;have hi:i<bs.length:=by
      have:=(zC.1 k).1;simpa using this
     have z:bs[i].data.toList=s:=by
      rw[List.getElem?_map,zF hi]at k;simpa using k
     rw[getElem!_pos bs i hi,<- z];exact Ow.str _ _
 ·exact a.2.elim
theorem Oa{P:Program}{ρ:Ren}(L:Lays.n99 P ρ) :
  Sound P { fid:=ρ.f 99,ps:=[⟨false,.base .str⟩,⟨false,.base .str⟩],rs:=[⟨false,.base .bool⟩],ex:=true,fn:=fun x=>jw x.1 x.2 }:=by
 intro w S args x y h g a i;rcases args with _ | ⟨u,_ | ⟨c,_ | ⟨j,r⟩⟩⟩
 ·exact a.elim
 ·exact a.2.elim
 ·have d:=lS (show Rep w S (.str x.1) u from a.1.1);have b:=lS (show Rep w S (.str x.2) c from a.2.1);subst d;subst b;have h:some (Go.Lib.hasPrefix x.1 x.2)=some y:=h;cases h
  refine (Any.strings_HasPrefix L ⟨x.1.toArray⟩ ⟨x.2.toArray⟩ w).mono ?_;rintro e w' ⟨rfl,rfl⟩;exact⟨_,rfl,Below.refl _ _,Qo _⟩
 ·exact a.2.elim
theorem NQ{P:Program}{ρ:Ren}(L:Lays.n137 P ρ) :
  Sound P { fid:=ρ.f 137,ps:=[⟨false,.base .str⟩,⟨false,.base .u8⟩],rs:=[⟨false,.base .int⟩],ex:=true,fn:=fun x=>eu x.1 x.2 }:=by
 intro w S args x y h g a i;rcases args with _ | ⟨u,_ | ⟨c,_ | ⟨j,r⟩⟩⟩
 ·exact a.elim
 ·exact a.2.elim
 ·have d:=lS (show Rep w S (.str x.1) u from a.1.1);have b:=vO (show Rep w S (.int .u8 x.2) c from a.2.1);subst d;subst b;have h:some (Go.Lib.indexByte x.1 (Int.toNat x.2).toUInt8)=some y:=h;cases h
  refine (Any.strings_IndexByte L ⟨x.1.toArray⟩ x.2 w).mono ?_;rintro e w' ⟨rfl,rfl⟩;exact⟨_,rfl,Below.refl _ _,agV _⟩
 ·exact a.2.elim
theorem VS(xs:List Str):(xs.map fun s=>(⟨s.toArray⟩:ByteArray)).map (·.data.toList)=xs:=by
 induction xs with
 | nil=>rfl
 | cons x r ih=>simpa using ih
theorem aed{P:Program}{ρ:Ren}(L:Lays.n156 P ρ)(X:Builder.Extra P ρ) :
  Sound P { fid:=ρ.f 156,ps:=[⟨false,.list (.base .str)⟩,⟨false,.base .str⟩],rs:=[⟨false,.base .str⟩],ex:=true,fn:=fun x=>Es x.1 x.2 }:=by
 intro w S args x y h H g o;rcases args with _ | ⟨u,_ | ⟨p,_ | ⟨I,r⟩⟩⟩
 ·exact g.elim
 ·exact g.2.elim
 ·have k:=lS (show Rep w S (.str x.2) p from g.2.1);subst k;have h1:Rep w S (.list (.base .str) x.1) u:=g.1.1;obtain⟨xs,sep⟩:=x;have h1:Rep w S (.list (.base .str) xs) u:=h1;have h:Es xs sep=some y:=h;unfold Es at h;obtain⟨_,A,h⟩:=zB.1 h;obtain⟨_,B,h⟩:=zB.1 h;cases h
  have J:=ji A;have K:=ji B;have none':∀(a:Option Addr) (c:Nat),xs=[]->Calls P (ρ.f 156) #[.slice a 0 c,.string ⟨sep.toArray⟩] w fun e w'=>∃v,e=.returned v/\Below w.heap.size w w'/\DR w.heap.size w' S true [⟨false,.base .str⟩] (Go.Lib.join xs sep) v:=by
   rintro a c rfl;refine (Any.strings_Join_none L X a c ⟨sep.toArray⟩ w).mono ?_;rintro e w' ⟨rfl,rfl⟩;exact⟨_,rfl,Below.refl _ _,J6 _⟩
  generalize hd:D.list (.base .str) xs=d at h1;cases h1 with
  | int=>cases hd
  | bool=>cases hd
  | str=>cases hd
  | nil=>cases hd;exact none' _ _ rfl
  | emp=>cases hd;exact none' _ _ rfl
  | list t xs' b off cap vs hcap C l=>
   cases hd
   by_cases m:xs=[]
   ·subst m;exact none' _ _ rfl
   have hlen:(xs.map fun s=>(⟨s.toArray⟩:ByteArray)).length=xs.length:=by simp
   have hcell:∀(j:Nat) (z:ByteArray),(xs.map fun s=>(⟨s.toArray⟩:ByteArray))[j]?=some z->w.cell? ⟨b,off+j,none⟩=some (.string z)/\b<w.heap.size:=by
    intro j z i;rw[List.getElem?_map,Option.map_eq_some_iff]at i;obtain⟨s,n,rfl⟩:=i;have q:=C j s 0 (.str s) n rfl;have E:=lS (l j s 0 (.str s) n rfl);rw[E]at q;have e:off+(j*(Ty.base .str).size+0)=off+j:=by show off+(j*1+0)=_;omega
    rw[e]at q;exact⟨q.1,o _ _ q.2⟩
   have F:b<w.heap.size:=by
    obtain⟨s,r,rfl⟩:=List.exists_cons_of_ne_nil m;exact (hcell 0 _ rfl).2
   have:=Any.strings_Join L X b off cap (xs.map fun s=>(⟨s.toArray⟩:ByteArray)) ⟨sep.toArray⟩ w (fun j z i=>(hcell j z i).1) F (by rw[hlen];omega) (by rw[hlen];exact hcap)
    (by rw[VS];show (Go.Lib.join xs sep).length<=_;omega)
   rw[hlen,VS]at this;refine this.mono ?_;rintro e w' ⟨rfl,G⟩;exact⟨_,rfl,G,J6 _⟩
 ·exact g.2.elim
theorem apV{w:World}{S:Nat->Nat->Prop}{deep:Bool}{s:Str}{u:Value}{fp:Nat->Prop}(h:Ow w S deep (.str s) u fp):u=.string ⟨s.toArray⟩:=by
 generalize hd:D.str s=d at h;cases h with
 | int=>cases hd
 | bool=>cases hd
 | str v=>cases hd;rfl
 | nil=>cases hd
 | ro d v fp _ a=>subst hd;exact lS a
 | list=>cases hd
set_option maxHeartbeats 1000000 in
theorem JL{P:Program}{ρ:Ren}(L:Lays.n192 P ρ)(w:World)(S:Nat->Nat->Prop)(deep:Bool)(u:Value)(xs ys:List Str)(fp:Nat->Prop)(h:jc xs=some ys)
  (N:OwT w S deep true (.base .str) xs u fp) (A:∀c,fp c->c<w.heap.size) (X:∀b o,S b o->b<w.heap.size) :
  Calls P (ρ.f 192) #[u] w fun e w'=>e=.returned (.tuple #[])/\Off (fun c=>fp c/\∀o,¬S c o) w w'/\OwT w' S deep true (.base .str) ys u fp:=by
 unfold jc at h;obtain⟨_,O,h⟩:=zB.1 h;have Y:=ji O;have h:=(a6 h).symm;rcases N with ⟨rfl,Q⟩ | ⟨b,cap,arr,E',vs,fps,rfl,B,hcap,hmax,r,g,J,R,Z,hdis,C⟩
 ·subst Q;refine (Any.sort_Strings_none L none 0 w).mono ?_;rintro e w' ⟨rfl,rfl⟩;refine⟨rfl,⟨rfl,rfl,rfl,az _,fun c J _=>rfl⟩,.inl ⟨rfl,?_⟩⟩;rw[h];simp
 have t:∀o,¬S b o:=fun o v=>by cases (C o v).1
 have hblt:b<w.heap.size:=A b g;have K:arr.size=cap:=by rw[r];exact Nat.mul_one _
 have D:∀(i:Nat) (s:Str),xs[i]?=some s->arr[i]?=some (.string ⟨s.toArray⟩):=by
  intro i s a;have q:=J i s 0 (.str s) a rfl;have T:=R i s 0 (.str s) a rfl;have e:i*(Ty.base .str).size+0=i:=by show i*1+0=i;omega
  rw[e]at q;have U:vs i 0=.string ⟨s.toArray⟩:=apV T;rw[q,U]
 have V:Holds encStr w b 0 xs.toArray:=by
  intro j M;have E:j<xs.length:=by simpa using M
  have e:w.cell? ⟨b,0+j,none⟩=arr[j]?:=by simp[World.cell?,B]
  refine⟨?_,?_⟩
  ·rw[e,D j _ (zF E)];rw[getElem!_pos _ j M];simp[encStr]
  ·unfold World.frozen?;simp only[B];simp
 refine (Any.sort_Strings L b 0 cap xs w V hblt (by omega)).mono ?_;rintro e w' ⟨rfl,n,os,rfl⟩;have k:ys=xs.mergeSort fun x y=>decide (x<=y):=h
 have z:ys.length=xs.length:=by rw[k];exact List.length_mergeSort _
 have hheap:∀c,c<w.heap.size->c≠b->(grow (putRow encStr (Sort.ahead w n) b 0 (xs.mergeSort fun x y=>decide (x<=y)).toArray) os).heap[c]?=w.heap[c]?:=by
  intro c l F;show ((putRow encStr (Sort.ahead w n) b 0 _).heap++os)[c]?=_
  rw[Array.getElem?_append_left (by rw[size_putRow];exact l)];show (w.heap.modify b _)[c]?=_
  rw[Array.getElem?_modify,if_neg (Ne.symm F)]
 have hheapb:(grow (putRow encStr (Sort.ahead w n) b 0 (xs.mergeSort fun x y=>decide (x<=y)).toArray) os).heap[b]?=some (.cells (putCells encStr 0 (xs.mergeSort fun x y=>decide (x<=y)).toArray arr) E' (0,0)):=by
  show ((putRow encStr (Sort.ahead w n) b 0 _).heap++os)[b]?=_
  rw[Array.getElem?_append_left (by rw[size_putRow];exact hblt)];show (w.heap.modify b _)[b]?=_
  rw[Array.getElem?_modify,if_pos rfl,B];rfl
 have hsize:w.heap.size<=(grow (putRow encStr (Sort.ahead w n) b 0 (xs.mergeSort fun x y=>decide (x<=y)).toArray) os).heap.size:=by
  show _<=((putRow encStr (Sort.ahead w n) b 0 _).heap++os).size
  rw[Array.size_append,size_putRow];exact Nat.le_add_right _ _
 have m:(grow (putRow encStr (Sort.ahead w n) b 0 (xs.mergeSort fun x y=>decide (x<=y)).toArray) os).os=w.os:=rfl;have p:(grow (putRow encStr (Sort.ahead w n) b 0 (xs.mergeSort fun x y=>decide (x<=y)).toArray) os).tape=w.tape:=rfl;have hout:(grow (putRow encStr (Sort.ahead w n) b 0 (xs.mergeSort fun x y=>decide (x<=y)).toArray) os).output=w.output:=rfl;rw[<- k]at hheap hheapb hsize m p hout;have G:grow (putRow encStr (Sort.ahead w n) b 0 (List.mergeSort xs fun x y=>decide (x<=y)).toArray) os=grow (putRow encStr (Sort.ahead w n) b 0 ys.toArray) os:=by rw[k]
 rw[G];generalize grow (putRow encStr (Sort.ahead w n) b 0 ys.toArray) os=w' at hheap hheapb hsize m p hout;have hget:∀(i:Nat) (s:Str),ys[i]?=some s->(putCells encStr 0 ys.toArray arr)[i]?=some (.string ⟨s.toArray⟩):=by
  intro i s a;have hi:i<ys.length:=(zC.1 a).1;have H:i<arr.size:=by
   have W:i<ys.length:=hi;omega
  unfold putCells;rw[Array.getElem?_mapIdx,Array.getElem?_eq_getElem H,Option.map_some,if_pos ⟨Nat.zero_le _,by simpa using hi⟩,Nat.sub_zero];rw[getElem!_pos _ i (by simpa using hi)];have:ys[i]=s:=(zC.1 a).2;simp only[List.getElem_toArray,this];try rfl
 refine⟨rfl,⟨m,p,hout,hsize,fun c l I=>hheap c l fun e=>I ⟨e▸g,fun o v=>t o (e▸v)⟩⟩,.inr ⟨b,cap,putCells encStr 0 ys.toArray arr,E',fun i _=>.string ⟨(ys[i]!).toArray⟩,fun _ _ _=>False,?_,hheapb,?_,hmax,?_,g,?_,?_,fun _ _ _ h=>h.elim,fun _ _ _ _ _ h=>h.elim,fun o v=>absurd v (t o)⟩⟩
 ·rw[z]
 ·rw[z];exact hcap
 ·show (putCells encStr 0 _ arr).size=_
  unfold putCells;rw[Array.size_mapIdx];exact r
 ·intro i s j d a hd;cases j with
  | succ j=>simp[Ty.cells,Base.cells]at hd
  | zero=>
   have e:i*(Ty.base .str).size+0=i:=by show i*1+0=i;omega
   rw[e,hget i s a];have hi:=(zC.1 a);show _=some (Value.string ⟨(ys[i]!).toArray⟩)
   rw[getElem!_pos ys i hi.1,hi.2]
 ·intro i s j d a hd;cases j with
  | succ j=>simp[Ty.cells,Base.cells]at hd
  | zero=>
   simp only[Ty.cells,Base.cells,List.getElem?_cons_zero,zD]at hd;subst hd;have hi:=(zC.1 a);show Ow _ _ _ _ (Value.string ⟨(ys[i]!).toArray⟩) _
   rw[getElem!_pos ys i hi.1,hi.2];exact Ow.str ⟨List.toArray s⟩ _
theorem Ia{P:Program}{ρ:Ren}(L:Lays.n192 P ρ):LJ P { fid:=ρ.f 192,t:=.base .str,fn:=jc }:=
 fun w S deep u xs ys fp h _ b a c=>JL L w S deep u xs ys fp h b a c
end Go.Abs
