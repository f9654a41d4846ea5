import Derived.Test.YtbbmkcioplbhbaaGreatDoorHist1
import Derived.Test.YtbbmkcioplbhbaaGreatDoorS3
import Derived.Test.YtbbmkcioplbhbaaGreatDoorLink1
import Derived.Shelf.Strconv.Itoa3
import Derived.Shelf.Strings.OnBuilder
import Derived.Shelf.Strings.Prefix
import Derived.Shelf.Strings.Split
import Derived.Shelf.Small.Strs
import Derived.Shelf.Sort.Plain
import Derived.Shelf.Slices.In.SortNone2
import Derived.Test.YtbbmkcioplbhbaaGreatDoorProg
import Derived.Shelf.Strconv.ErrVarAll
import Derived.KernelRfl
set_option linter.unusedSimpArgs false
set_option linter.unusedVariables false
/- Plain laws: ReplayOp is alike on both sides, whole. -/
namespace Go.Proofs.YtbbmkcioplbhbaaGreatDoor
open Go.Abs Go.Proofs
theorem Nk{α:Type}(p:α->Bool):∀(xs:List α) (i:Nat),(∃x,x∈xs/\p x=true)->0<=dU p xs i
 | [],i,⟨x,a,_⟩=>by cases a
 | y::ys,i,⟨x,a,b⟩=>by
  unfold dU;cases c:p y with
  | true=>rw[ac];omega
  | false=>
   rw[aa];refine Nk p ys (i+1) ⟨x,?_,b⟩;rcases ba.1 a with rfl | a
   ·rw[b]at c;cases c
   ·exact a
theorem Jd{α:Type}(p:α->Bool):∀(xs:List α) (i n:Nat) (x:α),dU p xs i=((i+n:Nat):Int)->xs[n]?=some x->p x=true
 | [],i,n,x,_,a=>by simp at a
 | y::ys,i,n,x,h,a=>by
  unfold dU at h;cases b:p y with
  | true=>
   rw[b,ac]at h;have:n=0:=by omega
   subst this;simp at a;rw[<- a];exact b
  | false=>
   rw[b,aa]at h;cases n with
   | zero=>
    rcases qZ p ys (i+1)with e | ⟨m,z,e,_⟩
    ·rw[e]at h;omega
    ·rw[e]at h;omega
   | succ n=>exact Jd p ys (i+1) n x (by rw[h];omega) (by simpa using a)
theorem ao0{q:Bool}{a b:Option (ah×Int)}{k:Int}(h1:∀r,a=some r->r.1.id=k)(h2:∀r,b=some r->r.1.id=k):∀r,(bif q then a else b)=some r->r.1.id=k:=by cases q<;>assumption
theorem alk{α:Type}{x:Option α}{f:α->Option (ah×Int)}{k:Int}(h:∀a r,f a=some r->r.1.id=k):∀r,x.bind f=some r->r.1.id=k:=by
 intro r b;obtain⟨a,_,h2⟩:=zB.1 b;exact h a r h2
theorem alj{y:ah}{n k:Int}(h:y.id=k):∀r,some (y,n)=some r->r.1.id=k:=by
 intro r a;cases a
 exact h
theorem ahs{x:ah}{b:dZ}:∀r,BI x b=some r->r.1.id=x.id:=by
 unfold BI;repeat' first
  | exact alj rfl
  | refine ao0 ?_ ?_
  | refine alk fun _=>?_
theorem acf{a:ak}{b:dZ}{w:ak}(f:Fit B20 (.base .notebook) a)(z:Fit B20 (.base .edit) b)(h:kJ a b=some (w,0))(G:b.kind=1\/b.kind=4\/b.kind=6):∃x,x∈w.cells/\(x.id==b.cell.id)=true:=by
 obtain⟨v,A,g⟩:=o5 a f;obtain⟨B,C⟩:=Tj f h;have q:=Yd f;have i:a.cells.length<lim:=jQ q;have fb:=z;rw[uN]at fb;unfold kJ at h;rw[g,copyS a (by omega)]at h;simp only[zA,xg,kQ a _ i]at h;cases v with
 | false=>simp at h
 | true=>
  have j:(decide (1<=b.kind)&&decide (b.kind<=6))=true:=by simpa using B
  rw[j]at h;simp only[aL,aa]at h;by_cases k:b.kind=1
  ·obtain⟨vc,s,d⟩:=jl b.cell fb.2.2;simp only[k,beq_self_eq_true,ac,d,zA]at h;cases vc with
   | false=>simp at h
   | true=>
    simp only[aL,aa]at h;cases t:decide (dU (fun c=>c.id==b.cell.id) a.cells 0>=0)with
    | true=>rw[t]at h;simp at h
    | false=>
     rw[t]at h;simp only[aa]at h;cases u:((a.cells.length:Int)==8)with
     | true=>rw[u]at h;simp at h
     | false=>
      obtain⟨n,H,D,I⟩:=put_eq a.cells b.pos b.cell q;rw[u]at h;simp only[aa,D,zA,zD,Prod.mk.injEq,and_true]at h;rw[<- h];exact⟨b.cell,by simp,by simp⟩
  ·obtain⟨m,x,y,l⟩:=C k;have k1':(b.kind==1)=false:=by simpa using k
   have k2':(b.kind==2)=false:=by simp;omega
   have k3':(b.kind==3)=false:=by simp;omega
   have o:=(zC.1 l).1;have E:=Jd (fun c:ah=>c.id==b.cell.id) a.cells 0 m x (by rw[y];simp) l;simp only[k1',k2',k3',aa,y,ae (show ¬(m:Int)<0 by omega),aA,l,zA,az]at h;obtain⟨r,F,h⟩:=zB.1 h;have p:=ahs r F;cases e:(r.2==0)with
   | false=>
    rw[e]at h;simp only[aa,zD,Prod.mk.injEq]at h;rw[h.2]at e;simp at e
   | true=>
    rw[e]at h;simp only[ac,zD,Prod.mk.injEq]at h;rw[<- h.1];refine⟨r.1,List.mem_iff_getElem?.2 ⟨m,List.getElem?_set_self o⟩,?_⟩;rw[p];exact E
theorem aew{a:ak}{b:dZ}{w:ak}(d:Fit B20 (.base .notebook) a)(f:Fit B20 (.base .edit) b)(h:kJ a b=some (w,0))(g:b.kind=1\/b.kind=4\/b.kind=6):∃(m:Nat) (x:ah),dU (fun c=>c.id==b.cell.id) w.cells 0=(m:Int)/\w.cells[m]?=some x:=by
 have i:=Nk (fun c:ah=>c.id==b.cell.id) w.cells 0 (acf d f h g);rcases qZ (fun c:ah=>c.id==b.cell.id) w.cells 0 with e | ⟨n,x,e,j⟩
 ·rw[e]at i;omega
 ·exact⟨n,x,by rw[e,Nat.zero_add],j⟩
theorem ajl{cs:List ah}{b c:Str}(h:Fit B20 (.base .notebook) ⟨cs⟩)(l:c.length<=1048576):Fit B20 (.base .notebook) ⟨kept cs b c⟩:=by
 obtain⟨g,m⟩:=yH h;have e:aV B20 (.int .i64 1):=.int .i64 _ (wfS (by omega) (by omega));have h1:Fit B20 (.base .notebook) ⟨cs.map ig⟩:=EG (fun x f=>by
  obtain⟨y,n,rfl⟩:=List.mem_map.1 f;have:=g y n;rw[jb]at this ⊢;exact⟨this.1,e,this.2.2⟩) (by simpa using m)
 obtain⟨i,_⟩:=yH (aiv (cs.map ig) b c false h1 l);have hlen:=Qh (cs.map ig) b c false;rw[List.length_map]at hlen;unfold kept;generalize (vg (cs.map ig) b c false).1.cells=o at i hlen;refine EG (fun x f=>?_) (by unfold rJ;rw[List.length_zipWith];omega);obtain⟨k,a⟩:=List.mem_iff_getElem?.1 f;rw[Wv hlen]at a;cases d:o[k]? with
 | none=>rw[d]at a;cases a
 | some y=>
  rw[d]at a;have p:=(zC.1 d).1;obtain⟨z,j⟩:∃z,cs[k]?=some z:=⟨_,zF (by omega)⟩;rw[j]at a;have a:FT z y=x:=aR a;rw[<- a];have fy:=i y (zG d);have fz:=g z (zG j);rw[jb]at fy fz ⊢;exact⟨fy.1,fz.2.1,fy.2.2⟩
structure DocP(N M:Nat)(d:aO):Prop where
 nb:Fit B20 (.base .notebook) d.notebook
 tp:Tps N M d.tapes
 rn:aV B20 (.list (.base .op) d.renames)
theorem OM{N M N' M':Nat}{l:List aK}(h:Tps N M l)(h1:N<=N')(h2:M<=M'):Tps N' M' l:=⟨h.1,Nat.le_trans h.2.1 h1,fun t a=>Nat.le_trans (h.2.2 t a) h2⟩
structure akr(N M:Nat)(d:aO)(o:GOp)(r:aO):Prop where
 nb:Fit B20 (.base .notebook) r.notebook
 tp:Tps N M r.tapes
 rn:r.renames=d.renames\/r.renames=d.renames++[o]
 tc:r.tapes=d.tapes\/r.tapes=vk d.tapes o.cell o.version o.reads
theorem alK{N M:Nat}{d:aO}(h:DocP N M d):mQ d=some d/\Ia d=some d:=by
 have a:=Yd h.nb;constructor
 ·unfold mQ;rw[Wn d.notebook (by omega),zA,FC _ h.tp.1,zA,abl _ h.rn,zA]
 ·unfold Ia;rw[copyS d.notebook (by omega),zA,LX _ h.tp.1,zA,acT _ h.rn,zA]
theorem XR{N M:Nat}(d:aO)(o:GOp)(u:List GOp)(hd:DocP N M d)(p:Fit B20 (.base .op) o)(G:aV B20 (.list (.base .op) u))(hN:N+o.reads.length<=1048576)(s:M+o.reads.length<=1048576) :
  ∃r,pX d o u=some r/\kP d o u=some r/\akr (N+o.reads.length) (M+o.reads.length) d o r:=by
 obtain⟨cI,cS⟩:=alK hd;have orA:∀r,ja d o u=some r->pX d o u=some r:=fun r h=>by unfold pX;rw[h];rfl
 have T:=eU hd.rn;have a:akr (N+o.reads.length) (M+o.reads.length) d o d:=⟨hd.nb,OM hd.tp (Nat.le_add_right _ _) (Nat.le_add_right _ _),.inl rfl,.inl rfl⟩;have fo:=p;rw[wM]at fo;by_cases c:o.kind=1
 ·have fe:=fo.2.2.2.2.1;rw[uN,jb]at fe;obtain⟨e,t,v,b⟩:=ack o.edit u (by have:=eU G;omega) (by have:=EY fe.2.2.2.2.2.1;omega) (by have:=EY fe.2.2.2.2.2.2.1;omega) (fun x f=>by
   have fx:=G.cu x f;rw[wM]at fx;have h1:=EY fx.2.2.2.2.2.1;have h2:=EY fx.2.2.2.2.2.2.1;omega)
  have fE:Fit B20 (.base .edit) e:=by
   rw[uN,jb,b.kind,b.pos,b.id,b.version,b.ckind,b.n];exact⟨fe.1,fe.2.1,fe.2.2.1,fe.2.2.2.1,fe.2.2.2.2.1,lV (by have:=b.name;omega),lV (by have:=b.code;omega),fe.2.2.2.2.2.2.2⟩
  obtain⟨w,n,k,y,A⟩:=Zj d.notebook e hd.nb fE;by_cases H:n=0
  ·subst H;have i:=Yd A;have st:iQ o=some (w64 ((w64 (o.time*3))+o.by_))/\mM o=some (w64 ((w64 (o.time*3))+o.by_)):=⟨rfl,rfl⟩;have wv:aV B20 (.int .i64 (w64 ((w64 (o.time*3))+o.by_))):=.int .i64 _ (aoE _);generalize w64 ((w64 (o.time*3))+o.by_)=V at st wv;have put:∀(m:Nat) (x:ah),w.cells[m]?=some x->akr (N+o.reads.length) (M+o.reads.length) d o (aO.mk (ak.mk (w.cells.set m (ah.mk x.id V x.kind x.name x.code x.n))) d.tapes d.renames):=fun m x f=>by
    refine⟨?_,a.tp,.inl rfl,.inl rfl⟩;obtain⟨l,B⟩:=yH A;have fx:=l x (zG f);refine EG (aoM l m ?_) (by simpa using B);rw[jb]at fx ⊢;exact⟨fx.1,wv,fx.2.2⟩
   by_cases q:e.kind=1\/e.kind=4\/e.kind=6
   ·obtain⟨m,x,I,f⟩:=aew hd.nb fE k q;have xI:gU w o.edit.cell.id=some (m:Int):=by rw[wL w _ (jQ i),<- b.id,I]
    have xS:jD w e.cell.id=some (m:Int):=by rw[kQ w _ (jQ i),I]
    refine⟨_,orA _ ?_,?_,put m x f⟩
    ·unfold ja;rcases q with q | q | q
     all_goals
      rw[b.kind]at q
      simp only[cI,c,beq_self_eq_true,ac,t,y,bne_self_eq_false,aa,q,xI,st.1,aA,f,az,zA]
      try rfl
    ·unfold kP;rcases q with q | q | q
     all_goals
      simp only[cS,c,beq_self_eq_true,ac,v,k,bne_self_eq_false,aa,q,xS,st.2,aA,f,az,zA]
      try rfl
   ·have J:(o.edit.kind==1)=false:=by rw[<- b.kind];simp;omega
    have K:(o.edit.kind==4)=false:=by rw[<- b.kind];simp;omega
    have L:(o.edit.kind==6)=false:=by rw[<- b.kind];simp;omega
    refine⟨aO.mk w d.tapes d.renames,orA _ ?_,?_,⟨A,a.tp,.inl rfl,.inl rfl⟩⟩
    ·unfold ja;simp only[cI,c,beq_self_eq_true,ac,t,y,bne_self_eq_false,aa,J,K,L,zA]
    ·unfold kP;simp only[cS,c,beq_self_eq_true,ac,v,k,bne_self_eq_false,aa,b.kind,J,K,L,zA]
  ·have j:(n != 0)=true:=by simpa using H
   refine⟨d,orA _ ?_,?_,a⟩
   ·unfold ja;simp only[cI,c,beq_self_eq_true,ac,t,y,j,zA]
   ·unfold kP;simp only[cS,c,beq_self_eq_true,ac,v,k,j,zA]
 have k1':(o.kind==1)=false:=by simpa using c
 by_cases g:o.kind=2
 ·obtain⟨cs⟩:∃cs:List ah,True:=⟨[],trivial⟩;obtain⟨l,B⟩:=yH (cs:=d.notebook.cells) hd.nb;have s1:=EY fo.2.2.2.2.2.1;have s2:=EY fo.2.2.2.2.2.2.1;obtain⟨O,P⟩:=alg d.notebook.cells o.src o.dst B (ab2 l) (by omega) (by omega);have C:(ak.mk d.notebook.cells)=d.notebook:=rfl;rw[C]at O P;by_cases Q:(vg (d.notebook.cells.map ig) o.src o.dst false).2=0
  ·obtain⟨D,E⟩:=O Q;have R:gd (d.renames.length+[o].length)=some ():=gdp (by simp;omega);refine⟨aO.mk ⟨kept d.notebook.cells o.src o.dst⟩ d.tapes (d.renames++[o]),orA _ ?_,?_,⟨ajl hd.nb (by omega),a.tp,.inr rfl,.inl rfl⟩⟩
   ·unfold ja;simp only[cI,k1',g,beq_self_eq_true,ac,aa,D,RP o p,R,zA,show ((2:Int)==1)=false from rfl]
   ·unfold kP;simp only[cS,k1',g,beq_self_eq_true,ac,aa,E,LV o p,R,zA,show ((2:Int)==1)=false from rfl]
  ·obtain⟨D,E,z,U⟩:=P Q;refine⟨d,?_,?_,a⟩
   ·have W:ja d o u=none:=by
     unfold ja;simp only[cI,k1',g,beq_self_eq_true,ac,aa,D,zA,Option.bind_none,show ((2:Int)==1)=false from rfl]
    have X:zO d o u=some d:=by
     unfold zO;simp only[cI,k1',g,beq_self_eq_true,ac,aa,E,zA,show ((2:Int)==1)=false from rfl]
    unfold pX;rw[W,X];rfl
   ·unfold kP;simp only[cS,k1',g,beq_self_eq_true,ac,aa,U,zA,show ((2:Int)==1)=false from rfl]
 have k2':(o.kind==2)=false:=by simpa using g
 by_cases F:o.kind=3
 ·have fr:=fo.2.2.2.2.2.2.2.2.2;have Y:=aa5 d.tapes o.cell o.version o.reads hd.tp fr s;have Z:=ZP d.tapes o.cell o.version o.reads hd.tp fr s;have p3:Tps (N+o.reads.length) (M+o.reads.length) (vk d.tapes o.cell o.version o.reads):=by
   by_cases S:o.reads=[]
   ·rw[S,adn rfl (.inr rfl)];exact OM hd.tp (Nat.le_add_right _ _) (Nat.le_add_right _ _)
   ·have:0<o.reads.length:=List.length_pos_iff.2 S;exact OM (aiA hd.tp fr (aw _) (by omega) s fo.2.2.2.2.2.2.2.1 fo.2.2.2.2.2.2.2.2.1) (by omega) (aw _)
  refine⟨aO.mk d.notebook (vk d.tapes o.cell o.version o.reads) d.renames,orA _ ?_,?_,⟨a.nb,p3,.inl rfl,.inr rfl⟩⟩
  ·unfold ja;simp only[cI,k1',k2',F,beq_self_eq_true,ac,aa,Y,zA,show ((3:Int)==1)=false from rfl,show ((3:Int)==2)=false from rfl]
  ·unfold kP;simp only[cS,k1',k2',F,beq_self_eq_true,ac,aa,Z,zA,show ((3:Int)==1)=false from rfl,show ((3:Int)==2)=false from rfl]
 ·have k3':(o.kind==3)=false:=by simpa using F
  refine⟨d,orA _ ?_,?_,a⟩
  ·unfold ja;simp only[cI,k1',k2',k3',aa,zA]
  ·unfold kP;simp only[cS,k1',k2',k3',aa,zA]
end Go.Proofs.YtbbmkcioplbhbaaGreatDoor
/- Sizes with lengths, and counts, for documents and operations. -/
namespace Go.Proofs.YtbbmkcioplbhbaaGreatDoor
open Go.Abs Go.Proofs
theorem SzK.plus{α:Type}{f:α->Int->Option Int}{P:Prop}{x:α}{c s:Nat}(h:SzK f P x c s)(n:Nat):SzK f P x (c+n) (s+n):=by
 intro l a h1;obtain⟨r,e,p⟩:=h l a h1;refine⟨r,e,?_⟩;rcases p with p | ⟨b,d,i,g⟩
 ·exact .inl p
 ·exact .inr ⟨b,d,by omega,g⟩
theorem SzK.one{α:Type}{f:α->Int->Option Int}{P:Prop}{x:α}{c s:Nat}(h:SzK f P x c s):SzK f P x 20 20:=by
 intro l a h1;obtain⟨r,e,p⟩:=h l a h1;refine⟨r,e,?_⟩;rcases p with p | ⟨b,d,i,g⟩
 ·exact .inl p
 ·exact .inr ⟨b,d,by omega,g⟩
theorem SzK.both{α:Type}{f:α->Int->Option Int}{P P':Prop}{x:α}{c s c' s':Nat}(h:SzK f P x c s)(b:SzK f P' x c' s'):SzK f (P/\c<=20971520+s) x c' s':=by
 intro l a h1;obtain⟨r,e,p⟩:=h l a h1;obtain⟨r',e',p'⟩:=b l a h1;have:r=r':=aR (e.symm.trans e');subst this;refine⟨r,e,?_⟩;rcases p with p | ⟨k,m,n,d⟩
 ·exact .inl p
 ·rcases p' with q | ⟨g,i,j,o⟩
  ·exact .inl q
  ·exact .inr ⟨g,i,j,d,by omega⟩
theorem O7{α:Type}:∀xs:List α,(xs.map fun _=>20).sum=20*xs.length
 | []=>rfl
 | x::xs=>by
  have:=O7 xs;simp only[List.map_cons,List.sum_cons,List.length_cons];omega
theorem O4(xs:List aN)(h:aV B47 (.list (.base .read) xs)):SzK DT (aV B20 (.list (.base .read) xs)) xs (20*xs.length) 0:=by
 have:=lN (t:=.base .read) (f:=fun e b=>JE e b) (g:=DT) (fun _ _=>rfl) (fun _=>20) 20 (by omega) xs (fun y _ a=>(Vq y a).one) h;rw[O7]at this;exact this
theorem afR(x:aK)(h:Fit B47 (.base .tape) x):SzK Bj (Fit B20 (.base .tape) x) x (20*x.reads.length) 0:=by
 intro l g h1;rw[qX]at h ⊢;obtain⟨c,d,e⟩:=h;unfold Bj;obtain⟨b,f,a⟩:=O4 x.reads e l (by omega) (by omega);rw[f,zA];rcases a with a | ⟨i,j,k,a⟩
 ·exact⟨-1,by simp only[a,decide_true,ac],.inl (by omega)⟩
 rw[ae (show ¬b<0 by omega),aa];exact⟨b,rfl,.inr ⟨by omega,by omega,by omega,c.dY,d.dY,a⟩⟩
def Yl(t:aK):Nat:=20*t.reads.length+20
theorem acA(xs:List aK)(h:aV B47 (.list (.base .tape) xs)):SzK Hr (aV B20 (.list (.base .tape) xs)) xs ((xs.map Yl).sum) 0:=
 lN (t:=.base .tape) (f:=fun e b=>Bj e b) (g:=Hr) (fun _ _=>rfl) Yl 20 (by omega) xs (fun y _ a=>(afR y a).plus 20) h
theorem akz(x:GOp)(h:Fit B47 (.base .op) x):SzK ZH (Fit B20 (.base .op) x) x (20*x.reads.length) 0:=by
 intro l E h1;rw[wM]at h ⊢;obtain⟨o,p,q,s,t,u,v,w,y,z⟩:=h;unfold ZH;obtain⟨i,A,a⟩:=JG x.seen s l (by omega) (by omega);rw[A,zA];rcases a with a | ⟨F,G,H,a⟩
 ·exact⟨-1,by simp only[a,decide_true,ac],.inl (by omega)⟩
 rw[ae (show ¬i<0 by omega),aa];obtain⟨d,B,b⟩:=Vs x.edit t i (by omega) (by omega);rw[B,zA];rcases b with b | ⟨I,J,K,b⟩
 ·exact⟨-1,by simp only[b,decide_true,ac],.inl (by omega)⟩
 rw[ae (show ¬d<0 by omega),aa];have L:=Hu u;rw[aT (n:=d-(x.src.length:Int)) (by omega) (by omega)];by_cases j:d-(x.src.length:Int)<0
 ·exact⟨-1,by simp only[j,decide_true,ac],.inl (by omega)⟩
 rw[ae j,aa];obtain⟨e,f⟩:∃r,r=d-(x.src.length:Int):=⟨_,rfl⟩;rw[<- f];have M:=Hu v;rw[aT (n:=e-(x.dst.length:Int)) (by omega) (by omega)];by_cases k:e-(x.dst.length:Int)<0
 ·exact⟨-1,by simp only[k,decide_true,ac],.inl (by omega)⟩
 rw[ae k,aa];obtain⟨C,g⟩:∃r,r=e-(x.dst.length:Int):=⟨_,rfl⟩;rw[<- g];obtain⟨m,D,c⟩:=O4 x.reads z C (by omega) (by omega);rw[D,zA];rcases c with c | ⟨N,O,P,c⟩
 ·exact⟨-1,by simp only[c,decide_true,ac],.inl (by omega)⟩
 rw[ae (show ¬m<0 by omega),aa];exact⟨m,rfl,.inr ⟨by omega,by omega,by omega,o.dY,p.dY,q.dY,a,b,lV (by omega),lV (by omega),w.dY,y.dY,c⟩⟩
theorem alL{a b:List aN}(h:a.Sublist b):fB a<=fB b:=by
 induction h with
 | slnil=>exact aw _
 | cons x _ ih=>
  simp only[Dw,List.map_cons,List.sum_cons]at ih ⊢;omega
 | cons_cons x _ ih=>
  simp only[Dw,List.map_cons,List.sum_cons]at ih ⊢;omega
theorem VK(a b:List aN):fB (eF a b)<=fB a+fB b:=by
 obtain⟨t,e,h⟩:=rW b a;have:=alL h;rw[e];simp only[Dw,List.map_append,List.sum_append]at this ⊢;omega
theorem abv(c v:Int)(rs:List aN):∀l:List aK,fA (yD c v rs l)<=fA l+fB rs
 | []=>Nat.zero_le _
 | t::r=>by
  have ih:=abv c v rs r;have a:=VK t.reads rs;unfold yD;cases pV c v t
  ·simp only[aa,rq,List.map_cons,List.sum_cons]at ih ⊢;omega
  ·simp only[ac,rq,List.map_cons,List.sum_cons,Dv]at ih ⊢;omega
theorem afi(x:aK):∀l:List aK,fA (IQ x l)<=fA l+lJ x
 | []=>by
  unfold IQ;simp only[rq,List.map_cons,List.map_nil,List.sum_cons,List.sum_nil];omega
 | t::r=>by
  have ih:=afi x r;unfold IQ;cases Tc x t
  ·simp only[aa,rq,List.map_cons,List.sum_cons]at ih ⊢;omega
  ·simp only[ac,rq,List.map_cons,List.sum_cons]at ih ⊢;omega
theorem akR(l:List aK)(c v:Int)(rs:List aN):fA (vk l c v rs)<=fA l+fB rs+2:=by
 unfold vk;cases l.any (pV c v)with
 | true=>have:=abv c v rs l;rw[ac];omega
 | false=>
  rw[aa];cases rs with
  | nil=>show fA l<=_;omega
  | cons y ys=>
   have h1:=afi (aK.mk c v (eF [] (y::ys))) l;have h2:=VK [] (y::ys);have a:fB []=0:=rfl;simp only[Dv]at h1;show fA (IQ _ l)<=_
   omega
theorem akr.cnt{N M:Nat}{d:aO}{o:GOp}{r:aO}(h:akr N M d o r):fA r.tapes<=fA d.tapes+fB o.reads+2:=by
 rcases h.tc with e | e
 ·rw[e];omega
 ·rw[e];exact akR _ _ _ _
theorem aaQ:∀ {l:List aK} {t:aK},t∈l->20*t.reads.length+20*l.length<=(l.map Yl).sum
 | [],t,h=>by cases h
 | u::l,t,h=>by
  have key:∀l:List aK,20*l.length<=(l.map Yl).sum:=by
   intro l;induction l with
   | nil=>exact Nat.zero_le _
   | cons u l ih=>
    simp only[List.map_cons,List.sum_cons,List.length_cons,Yl];omega
  have a:=key l;simp only[List.map_cons,List.sum_cons,List.length_cons];have b:Yl u=20*u.reads.length+20:=rfl;rcases ba.1 h with rfl | h
  ·omega
  ·have:=aaQ h;omega
theorem ajb(l:List aK):20*l.length<=(l.map Yl).sum:=by
 induction l with
 | nil=>exact Nat.zero_le _
 | cons u l ih=>
  simp only[List.map_cons,List.sum_cons,List.length_cons,Yl];omega
end Go.Proofs.YtbbmkcioplbhbaaGreatDoor
/- Plain law: FnExactReplayOp. -/
namespace Go.Proofs.YtbbmkcioplbhbaaGreatDoor
open Go.Abs Go.Proofs
theorem TI(x:aO)(h:Fit B47 (.base .document) x):SzK o9 (Fit B20 (.base .document) x) x ((x.tapes.map Yl).sum) 0:=by
 intro l o h1;rw[kL]at h ⊢;obtain⟨g,i,j⟩:=h;unfold o9;obtain⟨d,k,a⟩:=EX x.notebook g l (by omega) (by omega);rw[k,zA];rcases a with a | ⟨p,q,r,a⟩
 ·exact⟨-1,by simp only[a,decide_true,ac],.inl (by omega)⟩
 rw[ae (show ¬d<0 by omega),aa];obtain⟨e,m,b⟩:=acA x.tapes i d (by omega) (by omega);rw[m,zA];rcases b with b | ⟨s,t,u,b⟩
 ·exact⟨-1,by simp only[b,decide_true,ac],.inl (by omega)⟩
 rw[ae (show ¬e<0 by omega),aa];obtain⟨f,n,c⟩:=O6 x.renames j e (by omega) (by omega);rw[n,zA];rcases c with c | ⟨v,w,y,c⟩
 ·exact⟨-1,by simp only[c,decide_true,ac],.inl (by omega)⟩
 rw[ae (show ¬f<0 by omega),aa];exact⟨f,rfl,.inr ⟨by omega,by omega,by omega,a,b,c⟩⟩
theorem ES(a:aO)(b:GOp)(c:List GOp)(h:Fit B47 (.base .document) a)(i:Fit B47 (.base .op) b)(j:aV B47 (.list (.base .op) c)):FnExactReplayOp a b c=some true:=by
 unfold FnExactReplayOp;refine ajd ((TJ a h).both (TI a h)) _ (by omega) (by omega) fun pa z A h1 k=>?_
 refine ajd ((aeL b i).both (akz b i)) _ (by omega) (by omega) fun pb B h2 C l=>?_
 refine ajd (O6 c j) _ (by omega) (by omega) fun pc D E F m=>?_
 obtain⟨pa,na⟩:=pa;obtain⟨pb,nb⟩:=pb;have fa:=pa;rw[kL]at fa;have hlen:=ajb a.tapes;obtain⟨r,n,o,d⟩:=XR (N:=a.tapes.length) (M:=1048576-b.reads.length) a b c ⟨fa.1,⟨fa.2.1,aw _,fun t p=>by have:=aaQ p;omega⟩,fa.2.2⟩ pb pc (by omega) (by omega);have fr:Fit B24 (.base .document) r:=by
  rw[kL];refine⟨d.nb.mono Kz,d.tp.1.mono Kz,?_⟩;have G:=eU fa.2.2;rcases d.rn with e | e
  ·rw[e];exact fa.2.2.mono Kz
  ·rw[e];refine .ai5 (by simp;show _<=16777216;omega) fun x f=>?_
   rcases List.mem_append.1 f with f | f
   ·exact (fa.2.2.cu x f).mono Kz
   ·rw[List.mem_singleton.1 f];exact pb.mono Kz
 have q:=d.cnt;rw[AP]at na;rw[Ll]at nb;have g:qg r.renames<=qg a.renames+uT b:=by
  rcases d.rn with e | e
  ·rw[e];omega
  ·rw[e];simp only[ahp,List.map_append,List.sum_append,List.map_cons,List.map_nil,List.sum_cons,List.sum_nil];omega
 rw[Ll]at g;have oa:=MN (pa.mono Kz);have ob:=apu (pb.mono Kz);have oc:=ai1 (pc.mono Kz);have oR:=MN fr;obtain⟨_,nn⟩:=Iq (d.nb.mono Kz);obtain⟨_,nna⟩:=Iq (fa.1.mono Kz);have H:gG a=dM a.notebook+fA a.tapes+qg a.renames:=rfl;have I:Nu b=jI b.seen+fB b.reads:=rfl;have J:gG r=dM r.notebook+fA r.tapes+qg r.renames:=rfl;obtain⟨K,s,_⟩:=Aw a oa 1 (by omega) (by omega);obtain⟨L,u,_⟩:=agG b ob (1+(gG a:Nat)) (by omega) (by omega);obtain⟨O,v,_⟩:=QI c oc (1+(gG a:Nat)+(Nu b:Nat)) (by omega) (by omega);obtain⟨P,w,y⟩:=Aw r oR 1 (by omega) (by omega);simp only[TF a pa,aeH b pb,Zz c pc,n,o,FI r fr,U6 a pa,alB b pb,ajR c pc,s,u,v,w,y,zA,aL,aa,
  ae (show ¬(1+(gG a:Nat)+(Nu b:Nat)+(qg c:Nat):Int)<0 by omega),ae (show ¬(1+(gG r:Nat):Int)<0 by omega),jc]
end Go.Proofs.YtbbmkcioplbhbaaGreatDoor
/- Functions of the library, as the evaluator's contracts. -/
namespace Go.Abs
open Go.RowKit Go.Sort Go.Proofs Go.Shelf
theorem below_grow(w:World)(k:Nat)(os:Array Obj):Below w.heap.size w (grow (w.drewN k) os):=
 ⟨rfl,rfl,rfl,by simp[grow],fun i hi=>by
  show (w.heap++os)[i]?=_
  rw[Array.getElem?_append_left hi]⟩
theorem J4{B:Nat}{w':World}{S:Nat->Nat->Prop}(s:Str):DI B w' S true [⟨false,.base .str⟩] s (.string ⟨s.toArray⟩):=
 ⟨[_],rfl,fun _ _=>False,⟨Ow.str (w:=w') (S:=fun _ _=>False) (deep:=true) ⟨s.toArray⟩ _,trivial⟩,fun _ _ h=>h.elim,fun _ _ _ h=>h.elim⟩
theorem agq{B:Nat}{w':World}{S:Nat->Nat->Prop}(n:Int):DI B w' S true [⟨false,.base .int⟩] n (.int .i64 n):=
 ⟨[_],rfl,fun _ _=>False,⟨.int _ _ _,trivial⟩,fun _ _ h=>h.elim,fun _ _ _ h=>h.elim⟩
theorem Qg{B:Nat}{w':World}{S:Nat->Nat->Prop}(b:Bool):DI B w' S true [⟨false,.base .bool⟩] b (.bool b):=
 ⟨[_],rfl,fun _ _=>False,⟨.bool _ _,trivial⟩,fun _ _ h=>h.elim,fun _ _ _ h=>h.elim⟩
theorem Ug{B:Nat}{w':World}{S:Nat->Nat->Prop}(n:Int)(b:Bool):DI B w' S true [⟨false,.base .int⟩,⟨false,.base .bool⟩] (n,b) (.tuple #[.int .i64 n,.bool b]):=
 ⟨[.int .i64 n,.bool b],rfl,fun _ _=>False,⟨⟨.int _ _ _,trivial⟩,⟨.bool _ _,trivial⟩⟩,fun _ _ h=>h.elim,fun _ _ _ h=>h.elim⟩
theorem lT{w:World}{S:Nat->Nat->Prop}{s:Str}{u:Value}(h:Rep w S (.str s) u):u=.string ⟨s.toArray⟩:=by
 generalize hd:D.str s=d at h;cases h<;>cases hd
 rfl
theorem vM{w:World}{S:Nat->Nat->Prop}{k:IntKind}{n:Int}{u:Value}(h:Rep w S (.int k n) u):u=.int k n:=by
 generalize hd:D.int k n=d at h;cases h<;>cases hd
 rfl
theorem adR {P : Program} {ρ : Ren} (L : LaysM.n171 P ρ) (htab : ∀ w, amb w -> Go.Lib.TabIs P w "internal/strconv.uint64pow10" .u64 Go.Lib.pow10Tab) :
  Sound P { fid:=ρ.f 171,ps:=[⟨false,.base .int⟩],rs:=[⟨false,.base .str⟩],ex:=true,fn:=fun x=>Ej x }:=by
 intro w S args x y h ha hr hS;rcases args with _ | ⟨u,_ | ⟨u2,r⟩⟩
 ·exact hr.elim
 ·have hu:=vM (show Rep w S (.int .i64 x) u from hr.1);subst hu;have h:Ej x=some y:=h;unfold Ej at h;split at h
  case isFalse=>cases h
  rename_i hx;cases h
  refine (Any.strconv_Itoa L x hx.1 hx.2 w (htab w ha)).mono ?_;rintro e w' ⟨rfl,k,os,rfl⟩;exact⟨_,rfl,below_grow w k os,J4 _⟩
 ·exact hr.elim
theorem ZI{P:Program}{ρ:Ren}(L:Lays.n146 P ρ)(o:(P.info? (ρ.t 9)).map (fun i=>(i.zero,i.size,i.bytes))=some (some (.string ByteArray.empty),1,16))(hmax:∀w,amb w->∃m,w.cell? ⟨(ρ.g 1),0,none⟩=some (.int .i64 m)) :
  Sound P { fid:=ρ.f 146,ps:=[⟨false,.base .str⟩,⟨false,.base .str⟩],rs:=[⟨false,.list (.base .str)⟩],ex:=true,fn:=fun x=>kN x.1 x.2 }:=by
 intro w S args x y h D a J;rcases args with _ | ⟨u,_ | ⟨E,_ | ⟨K,r⟩⟩⟩
 ·exact a.elim
 ·exact a.2.elim
 ·have F:=lT (show Rep w S (.str x.1) u from a.1.1);have p:=lT (show Rep w S (.str x.2) E from a.2.1);subst F;subst p;have h:kN x.1 x.2=some y:=h;unfold kN at h;split at h
  case isFalse=>cases h
  rename_i q;obtain⟨m,G⟩:=hmax w D;have A:(⟨x.1.toArray⟩:ByteArray).size=x.1.length:=by show x.1.toArray.size=_;simp
  have H:(⟨x.2.toArray⟩:ByteArray).size=x.2.length:=by show x.2.toArray.size=_;simp
  have h1:1<=(⟨x.2.toArray⟩:ByteArray).size:=by rw[H];exact q.2
  have l:=Lib.splitB_all ⟨x.2.toArray⟩ h1 0 _ ⟨x.1.toArray⟩ rfl;have b:=Lib.countB_le ⟨x.2.toArray⟩ h1 (⟨x.1.toArray⟩:ByteArray).size ⟨x.1.toArray⟩ (aw _);have hd:=Lib.splitB_data ⟨x.2.toArray⟩ 0 (Lib.countB ⟨x.1.toArray⟩ ⟨x.2.toArray⟩) ⟨x.1.toArray⟩;have B:(Lib.splitB ⟨x.2.toArray⟩ 0 (Lib.countB ⟨x.1.toArray⟩ ⟨x.2.toArray⟩) ⟨x.1.toArray⟩).map (·.data.toList)=y:=by
   cases h
   rw[hd];rfl
  refine (Any.strings_Split L o ⟨x.1.toArray⟩ ⟨x.2.toArray⟩ m w (by rw[A];exact q.1) G h1).mono ?_;generalize Lib.splitB ⟨x.2.toArray⟩ 0 (Lib.countB ⟨x.1.toArray⟩ ⟨x.2.toArray⟩) ⟨x.1.toArray⟩=bs at l B;generalize Lib.countB ⟨x.1.toArray⟩ ⟨x.2.toArray⟩=n at l b;subst B;rintro e w' ⟨rfl,rfl⟩;have v:(w.alloc (.cells (bs.map Value.string).toArray (ρ.t 9))).heap.size=w.heap.size+1:=Array.size_push _;refine⟨_,rfl,(Below.refl _ _).alloc (aw _) _,[_],rfl,fun i c=>i=0/\c=w.heap.size,⟨?_,trivial⟩,fun i c I=>by rw[I.2,v];omega,fun i i' c h1 h2=>h1.1.trans h2.1.symm⟩
  ·have C:(bs.map (·.data.toList)).length=n+1:=by rw[List.length_map,l]
   have key:=Ow.list (w:=w.alloc (.cells (bs.map Value.string).toArray (ρ.t 9))) (S:=fun _ _=>False) (deep:=true) (.base .str) (bs.map (·.data.toList)) w.heap.size (n+1) (bs.map Value.string).toArray (ρ.t 9) (fun i _=>.string (bs[i]!)) (fun _ _ _=>False) (fun c=>0=0/\c=w.heap.size)
    (Array.getElem?_push_size) (by rw[C];exact aw _) (by rw[A]at b;have:=q.1;unfold maxLen;omega) (by show (bs.map Value.string).toArray.size=(n+1)*1;simp[l]) ⟨rfl,rfl⟩
    (fun i s j d k hd=>?_) (fun i s j d k hd=>?_) (fun _ _ _ h=>h.elim) (fun _ _ _ _ _ h=>h.elim)
   ·rw[C]at key;exact key
   ·cases j with
    | succ j=>simp[Ty.cells,Base.cells]at hd
    | zero=>
     have e:i*(Ty.base .str).size+0=i:=by show i*1+0=i;omega
     have hi:i<bs.length:=by
      have:=(zC.1 k).1;simpa using this
     rw[e];simp[hi]
   ·cases j with
    | succ j=>simp[Ty.cells,Base.cells]at hd
    | zero=>
     simp only[Ty.cells,Base.cells,List.getElem?_cons_zero,zD]at hd;subst hd;have hi:i<bs.length:=by
      have:=(zC.1 k).1;simpa using this
     have z:bs[i].data.toList=s:=by
      rw[List.getElem?_map,zF hi]at k;simpa using k
     rw[getElem!_pos bs i hi,<- z];exact Ow.str _ _
 ·exact a.2.elim
theorem N8{P:Program}{ρ:Ren}(L:Lays.n99 P ρ) :
  Sound P { fid:=ρ.f 99,ps:=[⟨false,.base .str⟩,⟨false,.base .str⟩],rs:=[⟨false,.base .bool⟩],ex:=true,fn:=fun x=>jo x.1 x.2 }:=by
 intro w S args x y h g a i;rcases args with _ | ⟨u,_ | ⟨c,_ | ⟨j,r⟩⟩⟩
 ·exact a.elim
 ·exact a.2.elim
 ·have d:=lT (show Rep w S (.str x.1) u from a.1.1);have b:=lT (show Rep w S (.str x.2) c from a.2.1);subst d;subst b;have h:some (Go.Lib.hasPrefix x.1 x.2)=some y:=h;cases h
  refine (Any.strings_HasPrefix L ⟨x.1.toArray⟩ ⟨x.2.toArray⟩ w).mono ?_;rintro e w' ⟨rfl,rfl⟩;exact⟨_,rfl,Below.refl _ _,Qg _⟩
 ·exact a.2.elim
theorem NM{P:Program}{ρ:Ren}(L:Lays.n137 P ρ) :
  Sound P { fid:=ρ.f 137,ps:=[⟨false,.base .str⟩,⟨false,.base .u8⟩],rs:=[⟨false,.base .int⟩],ex:=true,fn:=fun x=>dX x.1 x.2 }:=by
 intro w S args x y h g a i;rcases args with _ | ⟨u,_ | ⟨c,_ | ⟨j,r⟩⟩⟩
 ·exact a.elim
 ·exact a.2.elim
 ·have d:=lT (show Rep w S (.str x.1) u from a.1.1);have b:=vM (show Rep w S (.int .u8 x.2) c from a.2.1);subst d;subst b;have h:some (Go.Lib.indexByte x.1 (Int.toNat x.2).toUInt8)=some y:=h;cases h
  refine (Any.strings_IndexByte L ⟨x.1.toArray⟩ x.2 w).mono ?_;rintro e w' ⟨rfl,rfl⟩;exact⟨_,rfl,Below.refl _ _,agq _⟩
 ·exact a.2.elim
theorem VN(xs:List Str):(xs.map fun s=>(⟨s.toArray⟩:ByteArray)).map (·.data.toList)=xs:=by
 induction xs with
 | nil=>rfl
 | cons x r ih=>simpa using ih
theorem adQ{P:Program}{ρ:Ren}(L:Lays.n156 P ρ)(X:Builder.Extra P ρ) :
  Sound P { fid:=ρ.f 156,ps:=[⟨false,.list (.base .str)⟩,⟨false,.base .str⟩],rs:=[⟨false,.base .str⟩],ex:=true,fn:=fun x=>Ei x.1 x.2 }:=by
 intro w S args x y h H g o;rcases args with _ | ⟨u,_ | ⟨p,_ | ⟨I,r⟩⟩⟩
 ·exact g.elim
 ·exact g.2.elim
 ·have k:=lT (show Rep w S (.str x.2) p from g.2.1);subst k;have h1:Rep w S (.list (.base .str) x.1) u:=g.1.1;obtain⟨xs,sep⟩:=x;have h1:Rep w S (.list (.base .str) xs) u:=h1;have h:Ei xs sep=some y:=h;unfold Ei at h;obtain⟨_,A,h⟩:=zB.1 h;obtain⟨_,B,h⟩:=zB.1 h;cases h
  have J:=jf A;have K:=jf B;have none':∀(a:Option Addr) (c:Nat),xs=[]->Calls P (ρ.f 156) #[.slice a 0 c,.string ⟨sep.toArray⟩] w fun e w'=>∃v,e=.returned v/\Below w.heap.size w w'/\DI w.heap.size w' S true [⟨false,.base .str⟩] (Go.Lib.join xs sep) v:=by
   rintro a c rfl;refine (Any.strings_Join_none L X a c ⟨sep.toArray⟩ w).mono ?_;rintro e w' ⟨rfl,rfl⟩;exact⟨_,rfl,Below.refl _ _,J4 _⟩
  generalize hd:D.list (.base .str) xs=d at h1;cases h1 with
  | int=>cases hd
  | bool=>cases hd
  | str=>cases hd
  | nil=>cases hd;exact none' _ _ rfl
  | emp=>cases hd;exact none' _ _ rfl
  | list t xs' b off cap vs hcap C l=>
   cases hd
   by_cases m:xs=[]
   ·subst m;exact none' _ _ rfl
   have hlen:(xs.map fun s=>(⟨s.toArray⟩:ByteArray)).length=xs.length:=by simp
   have hcell:∀(j:Nat) (z:ByteArray),(xs.map fun s=>(⟨s.toArray⟩:ByteArray))[j]?=some z->w.cell? ⟨b,off+j,none⟩=some (.string z)/\b<w.heap.size:=by
    intro j z i;rw[List.getElem?_map,Option.map_eq_some_iff]at i;obtain⟨s,n,rfl⟩:=i;have q:=C j s 0 (.str s) n rfl;have E:=lT (l j s 0 (.str s) n rfl);rw[E]at q;have e:off+(j*(Ty.base .str).size+0)=off+j:=by show off+(j*1+0)=_;omega
    rw[e]at q;exact⟨q.1,o _ _ q.2⟩
   have F:b<w.heap.size:=by
    obtain⟨s,r,rfl⟩:=List.exists_cons_of_ne_nil m;exact (hcell 0 _ rfl).2
   have:=Any.strings_Join L X b off cap (xs.map fun s=>(⟨s.toArray⟩:ByteArray)) ⟨sep.toArray⟩ w (fun j z i=>(hcell j z i).1) F (by rw[hlen];omega) (by rw[hlen];exact hcap)
    (by rw[VN];show (Go.Lib.join xs sep).length<=_;omega)
   rw[hlen,VN]at this;refine this.mono ?_;rintro e w' ⟨rfl,G⟩;exact⟨_,rfl,G,J4 _⟩
 ·exact g.2.elim
theorem aoU{w:World}{S:Nat->Nat->Prop}{deep:Bool}{s:Str}{u:Value}{fp:Nat->Prop}(h:Ow w S deep (.str s) u fp):u=.string ⟨s.toArray⟩:=by
 generalize hd:D.str s=d at h;cases h with
 | int=>cases hd
 | bool=>cases hd
 | str v=>cases hd;rfl
 | nil=>cases hd
 | ro d v fp _ a=>subst hd;exact lT a
 | list=>cases hd
set_option maxHeartbeats 1000000 in
theorem JJ{P:Program}{ρ:Ren}(L:Lays.n192 P ρ)(w:World)(S:Nat->Nat->Prop)(deep:Bool)(u:Value)(xs ys:List Str)(fp:Nat->Prop)(h:iZ xs=some ys)
  (N:OwT w S deep true (.base .str) xs u fp) (A:∀c,fp c->c<w.heap.size) (X:∀b o,S b o->b<w.heap.size) :
  Calls P (ρ.f 192) #[u] w fun e w'=>e=.returned (.tuple #[])/\Off (fun c=>fp c/\∀o,¬S c o) w w'/\OwT w' S deep true (.base .str) ys u fp:=by
 unfold iZ at h;obtain⟨_,O,h⟩:=zB.1 h;have Y:=jf O;have h:=(aR h).symm;rcases N with ⟨rfl,Q⟩ | ⟨b,cap,arr,E',vs,fps,rfl,B,hcap,hmax,r,g,J,R,Z,hdis,C⟩
 ·subst Q;refine (Any.sort_Strings_none L none 0 w).mono ?_;rintro e w' ⟨rfl,rfl⟩;refine⟨rfl,⟨rfl,rfl,rfl,aw _,fun c J _=>rfl⟩,.inl ⟨rfl,?_⟩⟩;rw[h];simp
 have t:∀o,¬S b o:=fun o v=>by cases (C o v).1
 have hblt:b<w.heap.size:=A b g;have K:arr.size=cap:=by rw[r];exact Nat.mul_one _
 have D:∀(i:Nat) (s:Str),xs[i]?=some s->arr[i]?=some (.string ⟨s.toArray⟩):=by
  intro i s a;have q:=J i s 0 (.str s) a rfl;have T:=R i s 0 (.str s) a rfl;have e:i*(Ty.base .str).size+0=i:=by show i*1+0=i;omega
  rw[e]at q;have U:vs i 0=.string ⟨s.toArray⟩:=aoU T;rw[q,U]
 have V:Holds encStr w b 0 xs.toArray:=by
  intro j M;have E:j<xs.length:=by simpa using M
  have e:w.cell? ⟨b,0+j,none⟩=arr[j]?:=by simp[World.cell?,B]
  refine⟨?_,?_⟩
  ·rw[e,D j _ (zF E)];rw[getElem!_pos _ j M];simp[encStr]
  ·unfold World.frozen?;simp only[B];simp
 refine (Any.sort_Strings L b 0 cap xs w V hblt (by omega)).mono ?_;rintro e w' ⟨rfl,n,os,rfl⟩;have k:ys=xs.mergeSort fun x y=>decide (x<=y):=h
 have z:ys.length=xs.length:=by rw[k];exact List.length_mergeSort _
 have hheap:∀c,c<w.heap.size->c≠b->(grow (putRow encStr (Sort.ahead w n) b 0 (xs.mergeSort fun x y=>decide (x<=y)).toArray) os).heap[c]?=w.heap[c]?:=by
  intro c l F;show ((putRow encStr (Sort.ahead w n) b 0 _).heap++os)[c]?=_
  rw[Array.getElem?_append_left (by rw[size_putRow];exact l)];show (w.heap.modify b _)[c]?=_
  rw[Array.getElem?_modify,if_neg (Ne.symm F)]
 have hheapb:(grow (putRow encStr (Sort.ahead w n) b 0 (xs.mergeSort fun x y=>decide (x<=y)).toArray) os).heap[b]?=some (.cells (putCells encStr 0 (xs.mergeSort fun x y=>decide (x<=y)).toArray arr) E' (0,0)):=by
  show ((putRow encStr (Sort.ahead w n) b 0 _).heap++os)[b]?=_
  rw[Array.getElem?_append_left (by rw[size_putRow];exact hblt)];show (w.heap.modify b _)[b]?=_
  rw[Array.getElem?_modify,if_pos rfl,B];rfl
 have hsize:w.heap.size<=(grow (putRow encStr (Sort.ahead w n) b 0 (xs.mergeSort fun x y=>decide (x<=y)).toArray) os).heap.size:=by
  show _<=((putRow encStr (Sort.ahead w n) b 0 _).heap++os).size
  rw[Array.size_append,size_putRow];exact Nat.le_add_right _ _
 have m:(grow (putRow encStr (Sort.ahead w n) b 0 (xs.mergeSort fun x y=>decide (x<=y)).toArray) os).os=w.os:=rfl;have p:(grow (putRow encStr (Sort.ahead w n) b 0 (xs.mergeSort fun x y=>decide (x<=y)).toArray) os).tape=w.tape:=rfl;have hout:(grow (putRow encStr (Sort.ahead w n) b 0 (xs.mergeSort fun x y=>decide (x<=y)).toArray) os).output=w.output:=rfl;rw[<- k]at hheap hheapb hsize m p hout;have G:grow (putRow encStr (Sort.ahead w n) b 0 (List.mergeSort xs fun x y=>decide (x<=y)).toArray) os=grow (putRow encStr (Sort.ahead w n) b 0 ys.toArray) os:=by rw[k]
 rw[G];generalize grow (putRow encStr (Sort.ahead w n) b 0 ys.toArray) os=w' at hheap hheapb hsize m p hout;have hget:∀(i:Nat) (s:Str),ys[i]?=some s->(putCells encStr 0 ys.toArray arr)[i]?=some (.string ⟨s.toArray⟩):=by
  intro i s a;have hi:i<ys.length:=(zC.1 a).1;have H:i<arr.size:=by
   have W:i<ys.length:=hi;omega
  unfold putCells;rw[Array.getElem?_mapIdx,Array.getElem?_eq_getElem H,Option.map_some,if_pos ⟨Nat.zero_le _,by simpa using hi⟩,Nat.sub_zero];rw[getElem!_pos _ i (by simpa using hi)];have:ys[i]=s:=(zC.1 a).2;simp only[List.getElem_toArray,this];try rfl
 refine⟨rfl,⟨m,p,hout,hsize,fun c l I=>hheap c l fun e=>I ⟨e▸g,fun o v=>t o (e▸v)⟩⟩,.inr ⟨b,cap,putCells encStr 0 ys.toArray arr,E',fun i _=>.string ⟨(ys[i]!).toArray⟩,fun _ _ _=>False,?_,hheapb,?_,hmax,?_,g,?_,?_,fun _ _ _ h=>h.elim,fun _ _ _ _ _ h=>h.elim,fun o v=>absurd v (t o)⟩⟩
 ·rw[z]
 ·rw[z];exact hcap
 ·show (putCells encStr 0 _ arr).size=_
  unfold putCells;rw[Array.size_mapIdx];exact r
 ·intro i s j d a hd;cases j with
  | succ j=>simp[Ty.cells,Base.cells]at hd
  | zero=>
   have e:i*(Ty.base .str).size+0=i:=by show i*1+0=i;omega
   rw[e,hget i s a];have hi:=(zC.1 a);show _=some (Value.string ⟨(ys[i]!).toArray⟩)
   rw[getElem!_pos ys i hi.1,hi.2]
 ·intro i s j d a hd;cases j with
  | succ j=>simp[Ty.cells,Base.cells]at hd
  | zero=>
   simp only[Ty.cells,Base.cells,List.getElem?_cons_zero,zD]at hd;subst hd;have hi:=(zC.1 a);show Ow _ _ _ _ (Value.string ⟨(ys[i]!).toArray⟩) _
   rw[getElem!_pos ys i hi.1,hi.2];exact Ow.str ⟨List.toArray s⟩ _
theorem H7{P:Program}{ρ:Ren}(L:Lays.n192 P ρ):LG P { fid:=ρ.f 192,t:=.base .str,fn:=iZ }:=
 fun w S deep u xs ys fp h _ b a c=>JJ L w S deep u xs ys fp h b a c
end Go.Abs
/- Functions of the library, by this program's numbers. -/
namespace Go.Proofs.YtbbmkcioplbhbaaGreatDoor
open Go.Proofs Go.Shelf Go.RowKit Go.Lib Go.Sort
def apw:Go.Shelf.Ren:=⟨fun | 171=>273 | 243=>295 | 246=>322 | 283=>345 | 284=>346 | 285=>347 | 286=>348 | 129=>321 | 317=>359 | 318=>360 | 319=>361 | 320=>362 | 337=>371 | 338=>372 | n=>n,fun | 3=>3 | 9=>9 | 2=>2 | 4=>4 | 171=>314 | 0=>0 | 53=>291 | 37=>146 | 5=>5 | 173=>316 | 212=>332 | 51=>289 | 20=>20 | 213=>333 | 46=>274 | 232=>347 | 233=>348 | n=>n,fun | 17=>3 | 18=>6 | 19=>7 | n=>n⟩
theorem l171:LaysM.n171 Tryz.prog apw where
 mixed:=by kernel_rfl
 f129:=Tryz.func321.trans (congrArg some (by kernel_rfl))
 f171:=Tryz.func273.trans (congrArg some (by kernel_rfl))
 f243:=Tryz.func295.trans (congrArg some (by kernel_rfl))
 f246:=Tryz.func322.trans (congrArg some (by kernel_rfl))
 f283:=Tryz.func345.trans (congrArg some (by kernel_rfl))
 f284:=Tryz.func346.trans (congrArg some (by kernel_rfl))
 f285:=Tryz.func347.trans (congrArg some (by kernel_rfl))
 f286:=Tryz.func348.trans (congrArg some (by kernel_rfl))
 f317:=Tryz.func359.trans (congrArg some (by kernel_rfl))
 f318:=Tryz.func360.trans (congrArg some (by kernel_rfl))
 f319:=Tryz.func361.trans (congrArg some (by kernel_rfl))
 f320:=Tryz.func362.trans (congrArg some (by kernel_rfl))
 f337:=Tryz.func371.trans (congrArg some (by kernel_rfl))
 f338:=Tryz.func372.trans (congrArg some (by kernel_rfl))
 t0:=Tryz.underlying0
 a0:=Tryz.isAgg0
 z0:=Tryz.sizeOf0
 v0:=Tryz.zeroValue0
 t2:=Tryz.underlying2
 a2:=Tryz.isAgg2
 z2:=Tryz.sizeOf2
 v2:=Tryz.zeroValue2
 t3:=Tryz.underlying3
 a3:=Tryz.isAgg3
 z3:=Tryz.sizeOf3
 v3:=Tryz.zeroValue3
 t4:=Tryz.underlying4
 a4:=Tryz.isAgg4
 z4:=Tryz.sizeOf4
 v4:=Tryz.zeroValue4
 t5:=Tryz.underlying5
 a5:=Tryz.isAgg5
 z5:=Tryz.sizeOf5
 v5:=Tryz.zeroValue5
 t9:=Tryz.underlying9
 a9:=Tryz.isAgg9
 z9:=Tryz.sizeOf9
 v9:=Tryz.zeroValue9
 t20:=Tryz.underlying20
 a20:=Tryz.isAgg20
 z20:=Tryz.sizeOf20
 v20:=Tryz.zeroValue20
 t37:=Tryz.underlying146
 a37:=Tryz.isAgg146
 z37:=Tryz.sizeOf146
 v37:=Tryz.zeroValue146
 t46:=Tryz.underlying274
 a46:=Tryz.isAgg274
 z46:=Tryz.sizeOf274
 v46:=Tryz.zeroValue274
 t51:=Tryz.underlying289
 a51:=Tryz.isAgg289
 z51:=Tryz.sizeOf289
 v51:=Tryz.zeroValue289
 t53:=Tryz.underlying291
 a53:=Tryz.isAgg291
 z53:=Tryz.sizeOf291
 v53:=Tryz.zeroValue291
 t171:=Tryz.underlying314
 a171:=Tryz.isAgg314
 z171:=Tryz.sizeOf314
 v171:=Tryz.zeroValue314
 t173:=Tryz.underlying316
 a173:=Tryz.isAgg316
 z173:=Tryz.sizeOf316
 v173:=Tryz.zeroValue316
 t212:=Tryz.underlying332
 a212:=Tryz.isAgg332
 z212:=Tryz.sizeOf332
 v212:=Tryz.zeroValue332
 t213:=Tryz.underlying333
 a213:=Tryz.isAgg333
 z213:=Tryz.sizeOf333
 t232:=Tryz.underlying347
 a232:=Tryz.isAgg347
 z232:=Tryz.sizeOf347
 v232:=Tryz.zeroValue347
 t233:=Tryz.underlying348
 a233:=Tryz.isAgg348
 z233:=Tryz.sizeOf348
 v233:=Tryz.zeroValue348
 g17:=by kernel_rfl
 g18:=by kernel_rfl
 g19:=by kernel_rfl
 i0:=by kernel_rfl
 i2:=by kernel_rfl
 i3:=by kernel_rfl
 i4:=by kernel_rfl
 i5:=by kernel_rfl
 i9:=by kernel_rfl
 i20:=by kernel_rfl
 i37:=by kernel_rfl
 i46:=by kernel_rfl
 i51:=by kernel_rfl
 i53:=by kernel_rfl
 i171:=by kernel_rfl
 i173:=by kernel_rfl
 i212:=by kernel_rfl
 i232:=by kernel_rfl
 i233:=by kernel_rfl
 m17:=by kernel_rfl
 m18:=by kernel_rfl
 m19:=by kernel_rfl
def alZ:Go.Shelf.Ren:=⟨fun | 172=>289 | 244=>307 | 245=>308 | 247=>334 | 279=>335 | 280=>336 | 281=>337 | 282=>338 | 287=>355 | 316=>356 | 171=>273 | 205=>357 | 321=>369 | 322=>370 | 243=>295 | 246=>322 | 283=>345 | 284=>346 | 285=>347 | 286=>348 | 129=>321 | 317=>359 | 318=>360 | 319=>361 | 320=>362 | 337=>371 | 338=>372 | n=>n,fun | 9=>9 | 3=>3 | 75=>269 | 76=>270 | 4=>4 | 5=>5 | 167=>302 | 37=>146 | 0=>0 | 85=>303 | 2=>2 | 168=>305 | 53=>291 | 175=>321 | 46=>274 | 210=>325 | 127=>318 | 145=>340 | 143=>338 | 21=>21 | 171=>314 | 173=>316 | 212=>332 | 51=>289 | 20=>20 | 213=>333 | 232=>347 | 233=>348 | 80=>242 | n=>n,fun | 15=>1 | 16=>2 | 17=>3 | 18=>6 | 19=>7 | n=>n⟩
theorem ald:LaysC.n172 Tryz.prog alZ where
 mixed:=by kernel_rfl
 f129:=Tryz.func321.trans (congrArg some (by kernel_rfl))
 f171:=Tryz.func273.trans (congrArg some (by kernel_rfl))
 f172:=Tryz.func289.trans (congrArg some (by kernel_rfl))
 f205:=Tryz.func357.trans (congrArg some (by kernel_rfl))
 f243:=Tryz.func295.trans (congrArg some (by kernel_rfl))
 f244:=Tryz.func307.trans (congrArg some (by kernel_rfl))
 f245:=Tryz.func308.trans (congrArg some (by kernel_rfl))
 f246:=Tryz.func322.trans (congrArg some (by kernel_rfl))
 f247:=Tryz.func334.trans (congrArg some (by kernel_rfl))
 f279:=Tryz.func335.trans (congrArg some (by kernel_rfl))
 f280:=Tryz.func336.trans (congrArg some (by kernel_rfl))
 f281:=Tryz.func337.trans (congrArg some (by kernel_rfl))
 f282:=Tryz.func338.trans (congrArg some (by kernel_rfl))
 f283:=Tryz.func345.trans (congrArg some (by kernel_rfl))
 f284:=Tryz.func346.trans (congrArg some (by kernel_rfl))
 f285:=Tryz.func347.trans (congrArg some (by kernel_rfl))
 f286:=Tryz.func348.trans (congrArg some (by kernel_rfl))
 f287:=Tryz.func355.trans (congrArg some (by kernel_rfl))
 f316:=Tryz.func356.trans (congrArg some (by kernel_rfl))
 f317:=Tryz.func359.trans (congrArg some (by kernel_rfl))
 f318:=Tryz.func360.trans (congrArg some (by kernel_rfl))
 f319:=Tryz.func361.trans (congrArg some (by kernel_rfl))
 f320:=Tryz.func362.trans (congrArg some (by kernel_rfl))
 f321:=Tryz.func369.trans (congrArg some (by kernel_rfl))
 f322:=Tryz.func370.trans (congrArg some (by kernel_rfl))
 f337:=Tryz.func371.trans (congrArg some (by kernel_rfl))
 f338:=Tryz.func372.trans (congrArg some (by kernel_rfl))
 t0:=Tryz.underlying0
 a0:=Tryz.isAgg0
 z0:=Tryz.sizeOf0
 v0:=Tryz.zeroValue0
 t2:=Tryz.underlying2
 a2:=Tryz.isAgg2
 z2:=Tryz.sizeOf2
 v2:=Tryz.zeroValue2
 t3:=Tryz.underlying3
 a3:=Tryz.isAgg3
 z3:=Tryz.sizeOf3
 v3:=Tryz.zeroValue3
 t4:=Tryz.underlying4
 a4:=Tryz.isAgg4
 z4:=Tryz.sizeOf4
 v4:=Tryz.zeroValue4
 t5:=Tryz.underlying5
 a5:=Tryz.isAgg5
 z5:=Tryz.sizeOf5
 v5:=Tryz.zeroValue5
 t9:=Tryz.underlying9
 a9:=Tryz.isAgg9
 z9:=Tryz.sizeOf9
 v9:=Tryz.zeroValue9
 t20:=Tryz.underlying20
 a20:=Tryz.isAgg20
 z20:=Tryz.sizeOf20
 v20:=Tryz.zeroValue20
 t21:=Tryz.underlying21
 a21:=Tryz.isAgg21
 z21:=Tryz.sizeOf21
 v21:=Tryz.zeroValue21
 t37:=Tryz.underlying146
 a37:=Tryz.isAgg146
 z37:=Tryz.sizeOf146
 v37:=Tryz.zeroValue146
 t46:=Tryz.underlying274
 a46:=Tryz.isAgg274
 z46:=Tryz.sizeOf274
 v46:=Tryz.zeroValue274
 t51:=Tryz.underlying289
 a51:=Tryz.isAgg289
 z51:=Tryz.sizeOf289
 v51:=Tryz.zeroValue289
 t53:=Tryz.underlying291
 a53:=Tryz.isAgg291
 z53:=Tryz.sizeOf291
 v53:=Tryz.zeroValue291
 t75:=Tryz.underlying269
 a75:=Tryz.isAgg269
 z75:=Tryz.sizeOf269
 v75:=Tryz.zeroValue269
 t76:=Tryz.underlying270
 a76:=Tryz.isAgg270
 z76:=Tryz.sizeOf270
 v76:=Tryz.zeroValue270
 t85:=Tryz.underlying303
 a85:=Tryz.isAgg303
 z85:=Tryz.sizeOf303
 v85:=Tryz.zeroValue303
 t127:=Tryz.underlying318
 a127:=Tryz.isAgg318
 z127:=Tryz.sizeOf318
 v127:=Tryz.zeroValue318
 t143:=Tryz.underlying338
 a143:=Tryz.isAgg338
 z143:=Tryz.sizeOf338
 v143:=Tryz.zeroValue338
 t145:=Tryz.underlying340
 a145:=Tryz.isAgg340
 z145:=Tryz.sizeOf340
 v145:=Tryz.zeroValue340
 t167:=Tryz.underlying302
 a167:=Tryz.isAgg302
 z167:=Tryz.sizeOf302
 v167:=Tryz.zeroValue302
 t168:=Tryz.underlying305
 a168:=Tryz.isAgg305
 z168:=Tryz.sizeOf305
 v168:=Tryz.zeroValue305
 t171:=Tryz.underlying314
 a171:=Tryz.isAgg314
 z171:=Tryz.sizeOf314
 v171:=Tryz.zeroValue314
 t173:=Tryz.underlying316
 a173:=Tryz.isAgg316
 z173:=Tryz.sizeOf316
 v173:=Tryz.zeroValue316
 t175:=Tryz.underlying321
 a175:=Tryz.isAgg321
 z175:=Tryz.sizeOf321
 v175:=Tryz.zeroValue321
 t210:=Tryz.underlying325
 a210:=Tryz.isAgg325
 z210:=Tryz.sizeOf325
 v210:=Tryz.zeroValue325
 t212:=Tryz.underlying332
 a212:=Tryz.isAgg332
 z212:=Tryz.sizeOf332
 v212:=Tryz.zeroValue332
 t213:=Tryz.underlying333
 a213:=Tryz.isAgg333
 z213:=Tryz.sizeOf333
 t232:=Tryz.underlying347
 a232:=Tryz.isAgg347
 z232:=Tryz.sizeOf347
 v232:=Tryz.zeroValue347
 t233:=Tryz.underlying348
 a233:=Tryz.isAgg348
 z233:=Tryz.sizeOf348
 v233:=Tryz.zeroValue348
 g15:=by kernel_rfl
 g16:=by kernel_rfl
 g17:=by kernel_rfl
 g18:=by kernel_rfl
 g19:=by kernel_rfl
 t80:=Tryz.underlying242
 a80:=Tryz.isAgg242
 z80:=Tryz.sizeOf242
 v80:=Tryz.zeroValue242
 i0:=by kernel_rfl
 i2:=by kernel_rfl
 i3:=by kernel_rfl
 i4:=by kernel_rfl
 i5:=by kernel_rfl
 i9:=by kernel_rfl
 i20:=by kernel_rfl
 i21:=by kernel_rfl
 i37:=by kernel_rfl
 i46:=by kernel_rfl
 i51:=by kernel_rfl
 i53:=by kernel_rfl
 i75:=by kernel_rfl
 i76:=by kernel_rfl
 i80:=by kernel_rfl
 i85:=by kernel_rfl
 i127:=by kernel_rfl
 i143:=by kernel_rfl
 i145:=by kernel_rfl
 i167:=by kernel_rfl
 i168:=by kernel_rfl
 i171:=by kernel_rfl
 i173:=by kernel_rfl
 i175:=by kernel_rfl
 i210:=by kernel_rfl
 i212:=by kernel_rfl
 i232:=by kernel_rfl
 i233:=by kernel_rfl
 m15:=by kernel_rfl
 m16:=by kernel_rfl
 m17:=by kernel_rfl
 m18:=by kernel_rfl
 m19:=by kernel_rfl
 c0:=by kernel_rfl
 c2:=by kernel_rfl
 c3:=by kernel_rfl
 c4:=by kernel_rfl
 c5:=by kernel_rfl
 c9:=by kernel_rfl
 c20:=by kernel_rfl
 c21:=by kernel_rfl
 c37:=by kernel_rfl
 c46:=by kernel_rfl
 c51:=by kernel_rfl
 c53:=by kernel_rfl
 c75:=by kernel_rfl
 c76:=by kernel_rfl
 c80:=by kernel_rfl
 c85:=by kernel_rfl
 c127:=by kernel_rfl
 c143:=by kernel_rfl
 c145:=by kernel_rfl
 c167:=by kernel_rfl
 c168:=by kernel_rfl
 c171:=by kernel_rfl
 c173:=by kernel_rfl
 c175:=by kernel_rfl
 c210:=by kernel_rfl
 c212:=by kernel_rfl
 c213:=by kernel_rfl
 c232:=by kernel_rfl
 c233:=by kernel_rfl
def al0:Go.Shelf.Ren:=⟨fun | 156=>296 | 165=>323 | 166=>324 | 169=>325 | 240=>349 | 241=>350 | 276=>363 | 277=>364 | n=>n,fun | 31=>104 | 9=>9 | 3=>3 | 4=>4 | 0=>0 | 20=>20 | 72=>295 | 76=>270 | 70=>293 | 37=>146 | 75=>269 | 127=>318 | 164=>334 | 5=>5 | 80=>242 | n=>n,fun n=>n⟩
theorem l156:Lays.n156 Tryz.prog al0 where
 mixed:=by kernel_rfl
 f156:=Tryz.func296.trans (congrArg some (by kernel_rfl))
 f165:=Tryz.func323.trans (congrArg some (by kernel_rfl))
 f166:=Tryz.func324.trans (congrArg some (by kernel_rfl))
 f169:=Tryz.func325.trans (congrArg some (by kernel_rfl))
 f240:=Tryz.func349.trans (congrArg some (by kernel_rfl))
 f241:=Tryz.func350.trans (congrArg some (by kernel_rfl))
 f276:=Tryz.func363.trans (congrArg some (by kernel_rfl))
 f277:=Tryz.func364.trans (congrArg some (by kernel_rfl))
 t0:=Tryz.underlying0
 a0:=Tryz.isAgg0
 z0:=Tryz.sizeOf0
 v0:=Tryz.zeroValue0
 t3:=Tryz.underlying3
 a3:=Tryz.isAgg3
 z3:=Tryz.sizeOf3
 v3:=Tryz.zeroValue3
 t4:=Tryz.underlying4
 a4:=Tryz.isAgg4
 z4:=Tryz.sizeOf4
 v4:=Tryz.zeroValue4
 t9:=Tryz.underlying9
 a9:=Tryz.isAgg9
 z9:=Tryz.sizeOf9
 v9:=Tryz.zeroValue9
 t20:=Tryz.underlying20
 a20:=Tryz.isAgg20
 z20:=Tryz.sizeOf20
 v20:=Tryz.zeroValue20
 t31:=Tryz.underlying104
 a31:=Tryz.isAgg104
 z31:=Tryz.sizeOf104
 v31:=Tryz.zeroValue104
 t37:=Tryz.underlying146
 a37:=Tryz.isAgg146
 z37:=Tryz.sizeOf146
 v37:=Tryz.zeroValue146
 t70:=Tryz.underlying293
 a70:=Tryz.isAgg293
 z70:=Tryz.sizeOf293
 v70:=Tryz.zeroValue293
 t72:=Tryz.underlying295
 a72:=Tryz.isAgg295
 z72:=Tryz.sizeOf295
 v72:=Tryz.zeroValue295
 t75:=Tryz.underlying269
 a75:=Tryz.isAgg269
 z75:=Tryz.sizeOf269
 v75:=Tryz.zeroValue269
 t76:=Tryz.underlying270
 a76:=Tryz.isAgg270
 z76:=Tryz.sizeOf270
 v76:=Tryz.zeroValue270
 t127:=Tryz.underlying318
 a127:=Tryz.isAgg318
 z127:=Tryz.sizeOf318
 v127:=Tryz.zeroValue318
 t164:=Tryz.underlying334
 a164:=Tryz.isAgg334
 z164:=Tryz.sizeOf334
 v164:=Tryz.zeroValue334
theorem x156:Builder.Extra Tryz.prog al0 where
 sizeBuilder:=by kernel_rfl
 liesBuilder:=by kernel_rfl
 t5:=Tryz.underlying5
 a5:=Tryz.isAgg5
 z5:=Tryz.sizeOf5
 v5:=Tryz.zeroValue5
 infoByte:=by kernel_rfl
 cellsByte:=by kernel_rfl
 sizeByte:=by kernel_rfl
 neB5:=by decide
def apx:Go.Shelf.Ren:=⟨fun | 137=>265 | 217=>290 | 266=>309 | n=>n,fun | 9=>9 | 5=>5 | 3=>3 | n=>n,fun n=>n⟩
theorem l137:Lays.n137 Tryz.prog apx where
 mixed:=by kernel_rfl
 f137:=Tryz.func265.trans (congrArg some (by kernel_rfl))
 f217:=Tryz.func290.trans (congrArg some (by kernel_rfl))
 f266:=Tryz.func309.trans (congrArg some (by kernel_rfl))
 t3:=Tryz.underlying3
 a3:=Tryz.isAgg3
 z3:=Tryz.sizeOf3
 v3:=Tryz.zeroValue3
 t5:=Tryz.underlying5
 a5:=Tryz.isAgg5
 z5:=Tryz.sizeOf5
 v5:=Tryz.zeroValue5
 t9:=Tryz.underlying9
 a9:=Tryz.isAgg9
 z9:=Tryz.sizeOf9
 v9:=Tryz.zeroValue9
def l99r:Go.Shelf.Ren:=⟨fun | 99=>267 | 206=>291 | n=>n,fun | 9=>9 | 4=>4 | 3=>3 | n=>n,fun n=>n⟩
theorem l99:Lays.n99 Tryz.prog l99r where
 mixed:=by kernel_rfl
 f99:=Tryz.func267.trans (congrArg some (by kernel_rfl))
 f206:=Tryz.func291.trans (congrArg some (by kernel_rfl))
 t3:=Tryz.underlying3
 a3:=Tryz.isAgg3
 z3:=Tryz.sizeOf3
 v3:=Tryz.zeroValue3
 t4:=Tryz.underlying4
 a4:=Tryz.isAgg4
 z4:=Tryz.sizeOf4
 v4:=Tryz.zeroValue4
 t9:=Tryz.underlying9
 a9:=Tryz.isAgg9
 z9:=Tryz.sizeOf9
 v9:=Tryz.zeroValue9
def apv:Go.Shelf.Ren:=⟨fun | 192=>233 | 190=>272 | 125=>294 | 258=>293 | 128=>320 | 129=>321 | 302=>311 | 303=>312 | 304=>313 | 305=>314 | 306=>315 | 307=>316 | 308=>317 | 309=>318 | 310=>319 | 333=>339 | 329=>340 | 330=>341 | 334=>342 | 335=>343 | 336=>344 | 344=>358 | n=>n,fun | 31=>104 | 0=>0 | 9=>9 | 3=>3 | 46=>274 | 51=>289 | 53=>291 | 4=>4 | 183=>283 | 182=>282 | 131=>247 | 5=>5 | 218=>308 | 222=>312 | 228=>327 | 229=>328 | n=>n,fun n=>n⟩
theorem l192:Lays.n192 Tryz.prog apv where
 mixed:=by kernel_rfl
 f125:=Tryz.func294.trans (congrArg some (by kernel_rfl))
 f128:=Tryz.func320.trans (congrArg some (by kernel_rfl))
 f129:=Tryz.func321.trans (congrArg some (by kernel_rfl))
 f190:=Tryz.func272.trans (congrArg some (by kernel_rfl))
 f192:=Tryz.func233.trans (congrArg some (by kernel_rfl))
 f258:=Tryz.func293.trans (congrArg some (by kernel_rfl))
 f302:=Tryz.func311.trans (congrArg some (by kernel_rfl))
 f303:=Tryz.func312.trans (congrArg some (by kernel_rfl))
 f304:=Tryz.func313.trans (congrArg some (by kernel_rfl))
 f305:=Tryz.func314.trans (congrArg some (by kernel_rfl))
 f306:=Tryz.func315.trans (congrArg some (by kernel_rfl))
 f307:=Tryz.func316.trans (congrArg some (by kernel_rfl))
 f308:=Tryz.func317.trans (congrArg some (by kernel_rfl))
 f309:=Tryz.func318.trans (congrArg some (by kernel_rfl))
 f310:=Tryz.func319.trans (congrArg some (by kernel_rfl))
 f329:=Tryz.func340.trans (congrArg some (by kernel_rfl))
 f330:=Tryz.func341.trans (congrArg some (by kernel_rfl))
 f333:=Tryz.func339.trans (congrArg some (by kernel_rfl))
 f334:=Tryz.func342.trans (congrArg some (by kernel_rfl))
 f335:=Tryz.func343.trans (congrArg some (by kernel_rfl))
 f336:=Tryz.func344.trans (congrArg some (by kernel_rfl))
 f344:=Tryz.func358.trans (congrArg some (by kernel_rfl))
 t0:=Tryz.underlying0
 a0:=Tryz.isAgg0
 z0:=Tryz.sizeOf0
 v0:=Tryz.zeroValue0
 t3:=Tryz.underlying3
 a3:=Tryz.isAgg3
 z3:=Tryz.sizeOf3
 v3:=Tryz.zeroValue3
 t4:=Tryz.underlying4
 a4:=Tryz.isAgg4
 z4:=Tryz.sizeOf4
 v4:=Tryz.zeroValue4
 t5:=Tryz.underlying5
 a5:=Tryz.isAgg5
 z5:=Tryz.sizeOf5
 v5:=Tryz.zeroValue5
 t9:=Tryz.underlying9
 a9:=Tryz.isAgg9
 z9:=Tryz.sizeOf9
 v9:=Tryz.zeroValue9
 t31:=Tryz.underlying104
 a31:=Tryz.isAgg104
 z31:=Tryz.sizeOf104
 v31:=Tryz.zeroValue104
 t46:=Tryz.underlying274
 a46:=Tryz.isAgg274
 z46:=Tryz.sizeOf274
 v46:=Tryz.zeroValue274
 t51:=Tryz.underlying289
 a51:=Tryz.isAgg289
 z51:=Tryz.sizeOf289
 v51:=Tryz.zeroValue289
 t53:=Tryz.underlying291
 a53:=Tryz.isAgg291
 z53:=Tryz.sizeOf291
 v53:=Tryz.zeroValue291
 t131:=Tryz.underlying247
 a131:=Tryz.isAgg247
 z131:=Tryz.sizeOf247
 v131:=Tryz.zeroValue247
 t182:=Tryz.underlying282
 a182:=Tryz.isAgg282
 z182:=Tryz.sizeOf282
 v182:=Tryz.zeroValue282
 t183:=Tryz.underlying283
 a183:=Tryz.isAgg283
 z183:=Tryz.sizeOf283
 v183:=Tryz.zeroValue283
 t218:=Tryz.underlying308
 a218:=Tryz.isAgg308
 z218:=Tryz.sizeOf308
 v218:=Tryz.zeroValue308
 t222:=Tryz.underlying312
 a222:=Tryz.isAgg312
 z222:=Tryz.sizeOf312
 v222:=Tryz.zeroValue312
 t228:=Tryz.underlying327
 a228:=Tryz.isAgg327
 z228:=Tryz.sizeOf327
 v228:=Tryz.zeroValue327
 t229:=Tryz.underlying328
 a229:=Tryz.isAgg328
 z229:=Tryz.sizeOf328
 v229:=Tryz.zeroValue328
def aje:Go.Shelf.Ren:=⟨fun | 146=>275 | 221=>297 | 268=>326 | 138=>327 | 143=>328 | 195=>351 | 197=>352 | 218=>353 | 219=>354 | 260=>365 | 217=>290 | 225=>366 | 224=>367 | 267=>368 | 266=>309 | 314=>373 | n=>n,fun | 9=>9 | 31=>104 | 3=>3 | 4=>4 | 0=>0 | 105=>319 | 21=>21 | 5=>5 | 46=>274 | 119=>341 | 139=>344 | 138=>343 | 146=>345 | 51=>289 | n=>n,fun | 1=>0 | 3=>4 | 4=>5 | n=>n⟩
theorem l146:Lays.n146 Tryz.prog aje where
 mixed:=by kernel_rfl
 f138:=Tryz.func327.trans (congrArg some (by kernel_rfl))
 f143:=Tryz.func328.trans (congrArg some (by kernel_rfl))
 f146:=Tryz.func275.trans (congrArg some (by kernel_rfl))
 f195:=Tryz.func351.trans (congrArg some (by kernel_rfl))
 f197:=Tryz.func352.trans (congrArg some (by kernel_rfl))
 f217:=Tryz.func290.trans (congrArg some (by kernel_rfl))
 f218:=Tryz.func353.trans (congrArg some (by kernel_rfl))
 f219:=Tryz.func354.trans (congrArg some (by kernel_rfl))
 f221:=Tryz.func297.trans (congrArg some (by kernel_rfl))
 f224:=Tryz.func367.trans (congrArg some (by kernel_rfl))
 f225:=Tryz.func366.trans (congrArg some (by kernel_rfl))
 f260:=Tryz.func365.trans (congrArg some (by kernel_rfl))
 f266:=Tryz.func309.trans (congrArg some (by kernel_rfl))
 f267:=Tryz.func368.trans (congrArg some (by kernel_rfl))
 f268:=Tryz.func326.trans (congrArg some (by kernel_rfl))
 f314:=Tryz.func373.trans (congrArg some (by kernel_rfl))
 t0:=Tryz.underlying0
 a0:=Tryz.isAgg0
 z0:=Tryz.sizeOf0
 v0:=Tryz.zeroValue0
 t3:=Tryz.underlying3
 a3:=Tryz.isAgg3
 z3:=Tryz.sizeOf3
 v3:=Tryz.zeroValue3
 t4:=Tryz.underlying4
 a4:=Tryz.isAgg4
 z4:=Tryz.sizeOf4
 v4:=Tryz.zeroValue4
 t5:=Tryz.underlying5
 a5:=Tryz.isAgg5
 z5:=Tryz.sizeOf5
 v5:=Tryz.zeroValue5
 t9:=Tryz.underlying9
 a9:=Tryz.isAgg9
 z9:=Tryz.sizeOf9
 v9:=Tryz.zeroValue9
 t21:=Tryz.underlying21
 a21:=Tryz.isAgg21
 z21:=Tryz.sizeOf21
 v21:=Tryz.zeroValue21
 t31:=Tryz.underlying104
 a31:=Tryz.isAgg104
 z31:=Tryz.sizeOf104
 v31:=Tryz.zeroValue104
 t46:=Tryz.underlying274
 a46:=Tryz.isAgg274
 z46:=Tryz.sizeOf274
 v46:=Tryz.zeroValue274
 t51:=Tryz.underlying289
 a51:=Tryz.isAgg289
 z51:=Tryz.sizeOf289
 v51:=Tryz.zeroValue289
 t105:=Tryz.underlying319
 a105:=Tryz.isAgg319
 z105:=Tryz.sizeOf319
 v105:=Tryz.zeroValue319
 t119:=Tryz.underlying341
 a119:=Tryz.isAgg341
 z119:=Tryz.sizeOf341
 t138:=Tryz.underlying343
 a138:=Tryz.isAgg343
 z138:=Tryz.sizeOf343
 v138:=Tryz.zeroValue343
 t139:=Tryz.underlying344
 a139:=Tryz.isAgg344
 z139:=Tryz.sizeOf344
 v139:=Tryz.zeroValue344
 t146:=Tryz.underlying345
 a146:=Tryz.isAgg345
 z146:=Tryz.sizeOf345
 v146:=Tryz.zeroValue345
 g1:=by kernel_rfl
 g3:=by kernel_rfl
 g4:=by kernel_rfl
end Go.Proofs.YtbbmkcioplbhbaaGreatDoor
