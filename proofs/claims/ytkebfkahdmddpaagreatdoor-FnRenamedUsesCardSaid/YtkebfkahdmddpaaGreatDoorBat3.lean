import Derived.Test.YtkebfkahdmddpaaGreatDoorPlain4
import Derived.Test.YtkebfkahdmddpaaGreatDoorExpr1
import Derived.Test.YtkebfkahdmddpaaGreatDoorFree1
import Derived.Test.YtkebfkahdmddpaaGreatDoorS3
import Derived.Test.YtkebfkahdmddpaaGreatDoorLink1
import Derived.Shelf.Strconv.Itoa3
import Derived.Shelf.Strings.OnBuilder
import Derived.Shelf.Strings.Prefix
import Derived.Shelf.Strings.Split
import Derived.Shelf.Small.Strs
import Derived.Shelf.Sort.Plain
import Derived.Shelf.Slices.In.SortNone2
set_option linter.unusedSimpArgs false
set_option linter.unusedVariables false
/- Plain laws: the pure form of an edit. Plain laws: the inverse of an edit brings the content back. Plain laws: the pure form of batches; a batch and its inverse. Plain laws: drawn notebooks, edits and batches. Plain laws: FnBatches, FnInverseBatches. -/
namespace Go.Proofs.YtkebfkahdmddpaaGreatDoor
open Go.Abs Go.Proofs
def ins{α:Type}(xs:List α)(n:Nat)(c:α):List α:=xs.take n++[c]++xs.drop n
def ids(s:List aj):List Int:=s.map (·.id)
structure Nb(s:List aj):Prop where
 fit:Fit B20 (.base .notebook) (aC.mk s)
 len:s.length<=8
 val:∀x,x∈s->ajy x=true
 nd:(ids s).Nodup
def bad(l:List Int):Int:=kP (fun c=>c != 0) l 0
theorem Dr.join{X β:Type}{p:Option (X⊕(bM×β))}{P:X->Prop}{k:X->Option (bM×β)}{Q:β->Prop}(a:∃st,p=some (.inl st)/\P st)(b:∀st,P st->Dr (k st) Q):Dr (ael p k) Q:=by
 obtain⟨st,e,h⟩:=a;rw[e];exact b st h
abbrev GV(x:aj):Prop:=Fit B20 (.base .cell) x
abbrev I64(n:Int):Prop:=fH B20 (.int .i64 n)
theorem i64{n:Int}(a:-1000000000<=n)(b:n<=1000000000):I64 n:=qI a b
theorem tq{id v k n:Int}{nm cd:Str}:GV (aj.mk id v k nm cd n)↔I64 id/\I64 v/\I64 k/\fH B20 (.str nm)/\fH B20 (.str cd)/\I64 n:=by
 show Fit B20 (.base .cell) _↔_
 rw[Gv]
theorem IW{x:aj}:GV x↔I64 x.id/\I64 x.version/\I64 x.kind/\fH B20 (.str x.name)/\fH B20 (.str x.code)/\I64 x.n:=by
 show Fit B20 (.base .cell) _↔_
 rw[Gv]
structure NbD(m:Nat)(x:aC):Prop where
 len:x.cells.length<=m
 fit:∀c,c∈x.cells->GV c
theorem NbD.nb{m:Nat}{x:aC}(h:NbD m x)(a:m<=1000):Fit B20 (.base .notebook) x:=by
 rw[Gt];exact WZ (by have:=h.len;omega) h.fit
theorem Z7{n:Nat}(h:n<=1000000):w64 ((n:Int)+1)=((n+1:Nat):Int):=by rw[bK (by omega) (by omega)];omega
theorem SA{c:bM}(h:dF c)(b:Int)(O:0<=b)(P:b<=8):Dr (zL c b) fun x=>NbD b.toNat x/\∀y,y∈x.cells->y.code.length<=600:=by
 unfold zL;have C:w64 (b+1)=b+1:=bK (by omega) (by omega);rw[C];refine Dr.bind (dZ h (b+1)) fun D n E v=>?_
 have Q:=v.2 (by omega);obtain⟨m,rfl⟩:=D5 v.1;refine Dr.of (sZ (fun (z:bM×List aj) (i:Nat)=>((z.1.b,z.1.i,z.1.h,[],z.2,(m:Int),(i:Int)):(List Int)×Int×Int×(List aj)×(List aj)×Int×Int)) m
  (fun i z=>dF z.1/\z.2.length=i/\∀y,y∈z.2->GV y/\y.code.length<=600) (fun (r:bM×aC)=>dF r.1/\NbD b.toNat r.2/\∀y,y∈r.2.cells->y.code.length<=600) (fun i z hi o=>?_) (fun z o=>?_) (D,[]) ⟨E,rfl,fun y d=>(by cases d)⟩)
 ·obtain⟨p,F,d⟩:=o;have g:w64 ((i:Int)+1)=(i:Int)+1:=bK (by omega) (by omega);obtain⟨G,x,H,w,px⟩:=aaY p ((i:Int)+1) (by omega) (by omega);have wl:w64 ((z.2.length:Int)+1)=((z.2.length+1:Nat):Int):=Z7 (by omega);have put:∀(e:bM) (y:aj),dF e->GV y->y.code.length<=600->∃z':bM×List aj,
    ((bH e (w64 ((z.2.length:Int)+1))).bind fun j=>
     (eff.cutL z.2 none (some j.2)).bind fun k=>
     (gd (0+k.length)).bind fun _=>
     (gd (([]++k).length+[y].length)).bind fun _=>
     (eff.cutL z.2 (some j.2) none).bind fun A=>
     (gd ((([]++k)++[y]).length+A.length)).bind fun _=>
     some ((.inl (j.1.b,j.1.i,j.1.h,[],(([]++k)++[y])++A,(m:Int),w64 ((i:Int)+1))):((List Int)×Int×Int×(List aj)×(List aj)×Int×Int)⊕(bM×aC))) =
     some (.inl (z'.1.b,z'.1.i,z'.1.h,[],z'.2,(m:Int),((i+1:Nat):Int)))/\dF z'.1/\z'.2.length=i+1/\∀y,y∈z'.2->GV y/\y.code.length<=600:=by
   intro e y l t u;obtain⟨I,a,J,k4,K,L⟩:=lm l ((z.2.length+1:Nat):Int);have:=L (by omega);obtain⟨q,rfl⟩:=D5 K;have B:q<=z.2.length:=by omega
   refine⟨(I,(([]++z.2.take q)++[y])++z.2.drop q),?_,k4,by simp;omega,fun x f=>?_⟩
   ·rw[wl,J];simp only[zA,aaW z.2 q B,SI z.2 q B];rw[dR (by simp;omega),zA,dR (by simp;omega),zA,dR (by simp;omega),zA,g];rfl
   ·simp only[List.nil_append,List.mem_append,List.mem_singleton]at f;rcases f with (f | rfl) | f
    ·exact d x (List.mem_of_mem_take f)
    ·exact⟨t,u⟩
    ·exact d x (List.mem_of_mem_drop f)
  simp only[cnt_lt hi,ac,g]at put ⊢;rw[H];simp only[zA];cases R:(x.kind != 1)with
  | false=>exact put G x w px.fit px.code
  | true=>
   obtain⟨e,M,N,l⟩:=BB w 10;simp only[ac,N,zA];cases M with
   | true=>exact put e x l px.fit px.code
   | false=>
    obtain⟨s,es,_,es'⟩:=aaN (xs:=([[97],[98],[99],[100],[101],[97,49],[98,49],[99,49]]:List Str)) (n:=i) (by show i<8;omega);have S:s.length<=2:=by
     have:=zG es';simp at this;rcases this with rfl | rfl | rfl | rfl | rfl | rfl | rfl | rfl<;>simp
    simp only[Bool.not_false,ac,es,aD,es',zA];have pf:=IW.1 px.fit;exact put e (aj.mk x.id x.version x.kind s x.code x.n) l (tq.2 ⟨pf.1,pf.2.1,pf.2.2.1,abg (by omega),pf.2.2.2.2.1,pf.2.2.2.2.2⟩) px.code
 ·obtain⟨p,F,d⟩:=o;exact⟨(z.1,aC.mk z.2),by simp only[iJ,aa],p,⟨by show z.2.length<=_;omega,fun y h=>(d y h).1⟩,fun y h=>(d y h).2⟩
theorem acL{c:bM}(h:dF c):Dr (EY c) (NbD 9):=by
 unfold EY;refine Dr.bind (SA h 6 (by omega) (by omega)) fun Q nb G k=>?_
 obtain⟨k,pc⟩:=k;have R:nb.cells.length<=6:=k.len;have H:NbD 9 nb:=⟨by omega,k.fit⟩;refine Dr.bif (fun _=>.ret G H) fun I=>?_
 have I:nb.cells.length≠0:=by simpa using I
 refine Dr.bind (dZ G _) fun S q K J=>?_
 have C:=J.2 (by show (0:Int)<(nb.cells.length:Int);omega);obtain⟨q,rfl⟩:=D5 J.1;have C:q<nb.cells.length:=by have:((q:Int))<(nb.cells.length:Int):=C;omega
 obtain⟨x,ex,u,ex'⟩:=aaN C;refine Dr.bind (dZ K 12) fun L s m T=>?_
 have fx:=IW.1 (k.fit x u);have set:∀ {y:aj},GV y->NbD 9 (aC.mk (nb.cells.set q y)):=fun {y} t=>⟨by show (nb.cells.set q y).length<=9;rw[List.length_set];omega,fun z j=>by
  rcases mem_set j with j | rfl
  ·exact k.fit z j
  ·exact t⟩
 simp only[ex,ex',aD,zA];refine Dr.bif (fun _=>?_) fun _=>Dr.bif (fun _=>?_) fun _=>Dr.bif (fun _=>?_) fun _=>Dr.bif (fun _=>?_) fun _=>Dr.bif (fun _=>?_) fun _=>Dr.bif (fun _=>?_) fun _=>.ret m H
 ·refine Dr.bind (DV m _ (by simp)) fun v n k4 e=>.ret k4 (set (tq.2 ⟨i64 ?_ ?_,fx.2⟩))<;>(simp at e;omega)
 ·refine Dr.bind (DV m _ (by simp)) fun v n k4 e=>.ret k4 (set (tq.2 ⟨fx.1,i64 ?_ ?_,fx.2.2⟩))<;>(simp at e;omega)
 ·refine Dr.bind (dZ m 6) fun v n k4 e=>.ret k4 (set (tq.2 ⟨fx.1,fx.2.1,i64 ?_ ?_,fx.2.2.2⟩))<;>(have:=e.2 (by omega);have:=e.1;omega)
 ·have:=pc x u;exact Dr.gd (by simp;omega) (.ret m (set (tq.2 ⟨fx.1,fx.2.1,fx.2.2.1,fx.2.2.2.1,abg (by simp;omega),fx.2.2.2.2.2⟩)))
 ·refine Dr.bind (fJ m _ (by simp)) fun v n k4 e=>.ret k4 (set (tq.2 ⟨fx.1,fx.2.1,fx.2.2.1,abg ?_,fx.2.2.2.2⟩))
  simp at e;rcases e with rfl | rfl | rfl<;>simp
 ·have key:∀(f:Nat) (c:bM) (l:List aj),dF c->l.length<=9->9<=l.length+f->(∀y,y∈l->GV y)->∃r:bM×aC,ak (fun (d:(List Int)×Int×Int×(List aj)×(List aj))=>
   (bH (bM.mk d.1 d.2.1 d.2.2.1) 2).bind fun o=>
   bif (decide ((d.2.2.2.2.length:Int)<(w64 (8+o.2))))then
    (vI o.1 (w64 (20+(d.2.2.2.2.length:Int)))).bind fun g=>
    (gd (d.2.2.2.2.length+[g.2].length)).bind fun _=>
    some (.inl (g.1.b,g.1.i,g.1.h,d.2.2.2.1,d.2.2.2.2++[g.2]))
   else
    some ((.inr (o.1,aC.mk d.2.2.2.2)):((List Int)×Int×Int×(List aj)×(List aj))⊕(bM×aC))
  ) (c.b,c.i,c.h,[],l)=some r/\dF r.1/\NbD 9 r.2:=by
   intro f;induction f with
   | zero=>
    intro c l D p M t;obtain⟨v,a,A,k4,e,E⟩:=lm D 2;have:=E (by omega);have B:w64 (8+a)=8+a:=bK (by omega) (by omega);rw[aJ];simp only[A,zA,B,ae (show ¬((l.length:Int)<8+a) by omega),aa];exact⟨_,rfl,k4,⟨p,t⟩⟩
   | succ f ih=>
    intro c l D p M t;obtain⟨v,a,A,k4,e,E⟩:=lm D 2;have:=E (by omega);have B:w64 (8+a)=8+a:=bK (by omega) (by omega);have F:w64 (20+(l.length:Int))=20+(l.length:Int):=bK (by omega) (by omega);rw[aJ];by_cases w:(l.length:Int)<8+a
    ·obtain⟨N,y,O,P,py⟩:=aaY k4 (20+(l.length:Int)) (by omega) (by omega);simp only[A,zA,B,F,al w,ac,O,dR (show l.length+[y].length<=34359738368 by simp;omega)];exact ih N (l++[y]) P (by simp;omega) (by simp;omega) fun z j=>by
      rcases List.mem_append.1 j with j | j
      ·exact t z j
      ·rw[List.mem_singleton.1 j];exact py.fit
    ·simp only[A,zA,B,ae w,aa];exact⟨_,rfl,k4,⟨p,t⟩⟩
  exact Dr.of (key 9 L nb.cells m (by omega) (by omega) k.fit)
theorem afa{a:List Int}(d:fH B47 (.list (.base .u8) a)){k:Option Bool}(b:(a.length:Int)<=1048576->k=some true):((big a).bind fun c=>bif c then some (true)else k)=some true:=by
 unfold big;rw[zA];by_cases h:(a.length:Int)>1048576
 ·rw[al h];rfl
 ·rw[ae h];exact b (by omega)
end Go.Proofs.YtkebfkahdmddpaaGreatDoor
/- Plain laws: after a renaming the old name is not used and the new one is used where the old one was; the law FnRenamedUses. -/
namespace Go.Proofs.YtkebfkahdmddpaaGreatDoor
open Go.Abs Go.Proofs
theorem aa0(e:af)(b c:Str)(d:wtE e<=1000):iE e b c=some ((evE e []).any (IZ b c)):=by
 have a:xC e b c []=some ((evE e []).any (IZ b c)):=IY b c _ e [] (by omega) (by simp;omega);unfold iE;rw[aH,a];rfl
theorem ac3{p:aO}(h:lu p)(i:p.kind=2){b c:Str}(j:bZ b=true)(f:bZ c=true)(d:b.length<=120)(a:c.length<=120)(hcap:Ku p b c=false)(g:bV p.expr=some true):textOf p b c=txt (pcE (kG b c p.expr)):=by
 obtain⟨hv,k⟩:=h.expr i;obtain⟨t,u,l⟩:=adE (b:=b) f a hv k g;have e:iE p.expr b c=some false:=by
  have q:=aa0 p.expr b c (by omega);unfold Ku at hcap;rw[q]at hcap ⊢;exact congrArg some hcap
 have m:iZ p.expr b c=some (kG b c p.expr,true):=by
  have n:xB p.expr b c=some (kG b c p.expr):=Ut b c _ p.expr (Nat.lt_succ_self _) (by omega) hv;unfold iZ;simp only[aH,g,nJ b d,nJ c a,j,f,e,n,zA,aM,aa]
 obtain⟨s,_,o,_,_,r⟩:=RU (kG b c p.expr) (by omega);unfold textOf;rw[m,zA,o];exact r l
theorem Ii(d:Bool)(b c:Str):∀(ps:List aO) (i:Nat) (cs:List aj) (full:Bool) (r:List aj×Bool),lN d b c i ps cs full=some r ->
  (∀j,j<i->r.1[j]?=cs[j]?)/\∀(j:Nat) (p:aO) (x:aj),ps[j]?=some p->cs[i+j]?=some x->r.1[i+j]?=some (if tX p b=true then TD d (textOf p b c) x else x)/\(tX p b=true->(textOf p b c).length<=120)
 | [],i,cs,full,r,h=>by cases h;exact⟨fun _ _=>rfl,fun j p x h=>by simp at h⟩
 | p::ps,i,cs,full,r,h=>by
  unfold lN at h;split at h
  ·rename_i hh;split at h
   ·rename_i m;split at h
    ·rename_i x l;have hi:=(zC.1 l).1;obtain⟨g,k⟩:=Ii d b c ps (i+1) _ _ r h;refine⟨fun j a=>?_,fun j q y a f=>?_⟩
     ·rw[g j (by omega),List.getElem?_set_ne (by omega)]
     ·cases j with
      | zero=>
       have a:p=q:=by simpa using a
       subst a;rw[Nat.add_zero]at f ⊢;rw[l]at f;cases f
       rw[g i (by omega),List.getElem?_set_self hi,if_pos hh];exact⟨rfl,fun _=>m⟩
      | succ j=>
       have e:i+(j+1)=i+1+j:=by omega
       rw[e]at f ⊢;exact k j q y (by simpa using a) (by rw[List.getElem?_set_ne (by omega)];exact f)
    ·cases h
   ·cases h
  ·rename_i hh;obtain⟨g,k⟩:=Ii d b c ps (i+1) _ _ r h;refine⟨fun j a=>g j (by omega),fun j q y a f=>?_⟩;cases j with
   | zero=>
    have a:p=q:=by simpa using a
    subst a;rw[Nat.add_zero]at f ⊢;rw[g i (by omega),f,if_neg hh];exact⟨rfl,fun h=>absurd h hh⟩
   | succ j=>
    have e:i+(j+1)=i+1+j:=by omega
    rw[e]at f ⊢;exact k j q y (by simpa using a) f
theorem A8{α:Type}{p:Nat->α->Bool}:∀ {xs:List α} {i:Nat},fK p i xs=true↔∀(j:Nat) (x:α),xs[j]?=some x->p (i+j) x=true
 | [],i=>by simp[fK]
 | y::r,i=>by
  show (p i y&&fK p (i+1) r)=true↔_
  rw[zI,A8];constructor
  ·intro h j x a;cases j with
   | zero=>
    have:y=x:=by simpa using a
    rw[<- this];exact h.1
   | succ j=>
    rw[show i+(j+1)=i+1+j by omega];exact h.2 j x (by simpa using a)
  ·intro h;refine⟨h 0 y rfl,fun j x a=>?_⟩;rw[show i+1+j=i+(j+1) by omega];exact h (j+1) x (by simpa using a)
theorem Xm(v:Int):∀(xs ys:List aj) (i:Nat),xs.map (·.id)=ys.map (·.id)->wu v i xs=wu v i ys
 | [],[],_,_=>rfl
 | [],y::r,_,h=>by simp at h
 | x::r,[],_,h=>by simp at h
 | x::r,y::s,i,h=>by
  simp only[List.map_cons,List.cons.injEq]at h;show (if (x.id==v)=true then (i:Int)else wu v (i+1) r)=(if (y.id==v)=true then (i:Int)else wu v (i+1) s)
  rw[h.1,Xm v r s (i+1) h.2]
theorem afn{cs out:List aj}(a:Vl cs out)(b:oC cs=true):oC out=true:=by
 have hlen:=a.len;unfold oC at b ⊢;rw[zI]at b ⊢;refine⟨A8.2 fun j x c=>?_,by rw[hlen];exact b.2⟩;have g:=(zC.1 c).1;obtain⟨y,d⟩:∃y,cs[j]?=some y:=⟨_,zF (by omega)⟩;have f:=A8.1 b.1 j y d;rw[zI]at f ⊢;refine⟨(a.val x (zG c)).2,?_⟩;have e:=congrArg (fun l=>l[j]?) a.ids;simp only[List.getElem?_map,c,d,Option.map_some,zD]at e;rw[Xm x.id out cs 0 a.ids,e];exact f.2
theorem SN{x:aj}{v:Int}{nm:Str}{p p':aO}(hv:dL x=some true)(f:dL ⟨x.id,v,x.kind,nm,x.code,x.n⟩=some true)(h:dh x=some p)(a:dh ⟨x.id,v,x.kind,nm,x.code,x.n⟩=some p') :
  p'.kind=p.kind/\p'.expr=p.expr/\(p.kind≠1->p.name=x.name/\p'.name=nm):=by
 unfold dh at h a;simp only[hv,f,zA,aM,aa]at h a;cases e:(x.kind==2)with
 | true=>
  rw[e]at h a;simp only[ac]at h a;obtain⟨r,b,h⟩:=zB.1 h;rw[b,zA]at a;cases c:decide (r.2>=0)with
  | true=>
   rw[c]at h a;simp only[ac]at h a;obtain⟨z,d,h⟩:=zB.1 h;rw[d,zA]at a;cases h;cases a
   exact⟨rfl,rfl,fun _=>⟨rfl,rfl⟩⟩
  | false=>
   rw[c]at h a;cases h;cases a
   exact⟨rfl,rfl,fun _=>⟨rfl,rfl⟩⟩
 | false=>
 cases g:(x.kind==3)with
 | true=>
  rw[e,g]at h a;simp only[ac,aa]at h a;obtain⟨r,b,h⟩:=zB.1 h;rw[b,zA]at a;cases h;cases a
  exact⟨rfl,rfl,fun _=>⟨rfl,rfl⟩⟩
 | false=>
 cases k4:(x.kind==4)with
 | true=>
  rw[e,g,k4]at h a;simp only[ac,aa]at h a;obtain⟨r,b,h⟩:=zB.1 h;rw[b,zA]at a;cases c:(!r.2)with
  | true=>
   rw[c]at h a;simp only[ac]at h a;obtain⟨z,d,h⟩:=zB.1 h;rw[d,zA]at a;obtain⟨w,i,h⟩:=zB.1 h;rw[i,zA]at a;cases h;cases a
   exact⟨rfl,rfl,fun _=>⟨rfl,rfl⟩⟩
  | false=>
   rw[c]at h a;simp only[aa]at h a;obtain⟨z,d,h⟩:=zB.1 h;rw[d,zA]at a;cases h;cases a
   exact⟨rfl,rfl,fun _=>⟨rfl,rfl⟩⟩
 | false=>
  rw[e,g,k4]at h a;cases h;cases a
  exact⟨rfl,rfl,fun h=>absurd rfl h⟩
theorem acD{x:aj}{p:aO}(hv:dL x=some true)(b:x.kind=2)(h:dh x=some p)(c:p.kind=2):fB x.code=some (p.expr,(-1))\/∃q,q<0/\fB x.code=some (p.expr,q):=by
 unfold dh at h;have d:(x.kind==2)=true:=by rw[b];rfl
 simp only[hv,zA,aM,aa,d,ac]at h;obtain⟨r,e,h⟩:=zB.1 h;cases a:decide (r.2>=0)with
 | true=>
  rw[a]at h;simp only[ac]at h;obtain⟨z,f,h⟩:=zB.1 h;cases h
  exact absurd (show (4:Int)=2 from c) (by decide)
 | false=>
  rw[a]at h;simp only[aa,aH]at h;cases h
  exact .inr ⟨r.2,by have:=of_decide_eq_false a;omega,e⟩
theorem ae0{x:aj}{e:af}{p:aO}(hv:dL x=some true)(a:x.kind=2)(b:fB x.code=some (e,-1))(h:dh x=some p):p.kind=2/\p.expr=e/\p.name=x.name:=by
 unfold dh at h;have c:(x.kind==2)=true:=by rw[a];rfl
 simp only[hv,zA,aM,aa,c,ac,b,show decide ((-1:Int)>=0)=false from rfl,aH]at h;cases h
 exact⟨rfl,rfl,rfl⟩
structure agN(b c:Str)(p p':aO):Prop where
 kind:p'.kind=p.kind
 expr:p'.expr=if tX p b=true then kG b c p.expr else p.expr
 name:p.kind≠1->p'.name=(if p.name=b then c else p.name)/\p.name≠c
 pp:lu p
 pp':lu p'
theorem Ep(b:Str):∀(ps:List aO) (j i:Nat),((j+i:Nat):Int)∈bP b j ps↔∃p,ps[i]?=some p/\p.kind≠1/\p.name=b
 | [],j,i=>by simp[bP]
 | p::r,j,i=>by
  have ih:=Ep b r (j+1);have lo:∀k:Int,k∈bP b (j+1) r->((j+1:Nat):Int)<=k:=fun k e=>(yC b r (j+1) k e).1
  have nx:∀i:Nat,((j+(i+1):Nat):Int)∈bP b (j+1) r↔∃p,r[i]?=some p/\p.kind≠1/\p.name=b:=fun i=>by rw[show j+(i+1)=j+1+i by omega];exact ih i
  unfold bP;have d:((p.kind != 1)&&(p.name==b))=true↔p.kind≠1/\p.name=b:=by simp
  cases i with
  | zero=>
   have no:¬((j+0:Nat):Int)∈bP b (j+1) r:=fun h=>by have:=lo _ h;omega
   split
   ·rename_i h;exact⟨fun _=>⟨p,rfl,d.1 h⟩,fun _=>aw⟩
   ·rename_i h;exact⟨fun f=>absurd f no,fun⟨q,a,c⟩=>by
     have a:p=q:=by simpa using a
     subst a;exact absurd (d.2 c) h⟩
  | succ i=>
   split
   ·rw[bc];constructor
    ·rintro (h | h)
     ·omega
     ·exact (nx i).1 h
    ·exact fun h=>.inr ((nx i).2 h)
   ·exact nx i
def sw(b c s:Str):Str:=if s=c then b else if s=b then c else s
theorem IK{b c:Str}(g:b≠c)(s:Str):∀(qs ps:List aO) (j:Nat),qs.length=ps.length->(∀(i:Nat) p p',ps[i]?=some p->qs[i]?=some p'->agN b c p p')->bP s j qs=bP (sw b c s) j ps
 | [],[],_,_,_=>rfl
 | [],p::r,_,h,_=>by simp at h
 | p::r,[],_,h,_=>by simp at h
 | p'::qs,p::ps,j,m,h=>by
  have ih:=IK g s qs ps (j+1) (by simpa using m) fun i u v n hv=>h (i+1) u v (by simpa using n) (by simpa using hv)
  have l:=h 0 p p' rfl rfl;unfold bP;rw[ih];have e:((p'.kind != 1)&&(p'.name==s))=((p.kind != 1)&&(p.name==sw b c s)):=by
   rw[l.kind];cases o:(p.kind != 1)with
   | false=>rfl
   | true=>
    obtain⟨q,k⟩:=l.name (by simpa using o);rw[q,Bool.true_and,Bool.true_and,Bool.eq_iff_iff,beq_iff_eq,beq_iff_eq];unfold sw;by_cases d:s=c
    ·subst d;rw[if_pos rfl];by_cases a:p.name=b
     ·simp[a]
     ·rw[if_neg a];exact⟨fun h=>absurd h k,fun h=>absurd h a⟩
    ·rw[if_neg d];by_cases f:s=b
     ·subst f;rw[if_pos rfl];by_cases a:p.name=s
      ·rw[if_pos a];exact⟨fun h=>absurd h.symm g,fun h=>absurd h k⟩
      ·rw[if_neg a];exact⟨fun h=>absurd h a,fun h=>absurd h k⟩
     ·rw[if_neg f];by_cases a:p.name=b
      ·rw[if_pos a];exact⟨fun h=>absurd h.symm d,fun h=>absurd (h.symm.trans a) f⟩
      ·rw[if_neg a]
  rw[e]
theorem EC{p:aO}(h:lu p)(s:Str):s∈dY p↔p.kind=2/\s∈(evE p.expr []).map (·.1):=by
 by_cases a:p.kind=2
 ·obtain⟨hv,d⟩:=h.expr a;obtain⟨ys,f,b,_,_,c⟩:=yR p.expr (by omega);have e:dY p=ys:=by
   unfold dY kL;have e:(p.kind != 2)=false:=by rw[a];rfl
   rw[e];simp only[aa,aH,b,zA];rfl
  rw[e,c];exact⟨fun h=>⟨a,h⟩,fun h=>h.2⟩
 ·have e:(p.kind != 2)=true:=by simpa using a
  have:dY p=[]:=by unfold dY kL;rw[e];rfl
  rw[this];exact⟨fun h=>(by cases h),fun h=>absurd h.1 a⟩
theorem KP(p:aO)(s:Str):tX p s=true↔s∈dY p:=by
 unfold tX;simp
theorem Z8{b c:Str}(q:b≠c){p p':aO}(f:agN b c p p')(n:tX p c=false)(hcap:p.kind=2->Ku p b c=false)(s:Str):s∈dY p'↔sw b c s∈dY p:=by
 have g:¬c∈dY p:=fun h=>by rw[(KP p c).2 h]at n;cases n
 by_cases hh:tX p b=true
 ·have i:=Au p b hh;have o:=(KP p b).1 hh;rw[EC f.pp',f.kind,f.expr,if_pos hh];have k:(evE p.expr []).any (IZ b c)=false:=by
   have l:=hcap i;unfold Ku at l;rw[aa0 p.expr b c (by have:=(f.pp.expr i).2;omega)]at l;exact l
  rw[abK k];have um:=fun s=>EC f.pp (p:=p) s
  have m:=((um b).1 o).2;unfold sw;by_cases a:s=c
  ·subst a;rw[if_pos rfl];exact⟨fun _=>o,fun _=>⟨i,.inl ⟨rfl,m⟩⟩⟩
  ·rw[if_neg a];by_cases d:s=b
   ·subst d;rw[if_pos rfl];exact⟨fun h=>(h.2.elim (fun h=>absurd h.1 a) fun h=>absurd rfl h.1),fun h=>absurd h g⟩
   ·rw[if_neg d];constructor
    ·rintro⟨_,h | h⟩
     ·exact absurd h.1 a
     ·exact (um s).2 ⟨i,h.2⟩
    ·exact fun h=>⟨i,.inr ⟨d,((um s).1 h).2⟩⟩
 ·have j:¬b∈dY p:=fun h=>hh ((KP p b).2 h)
  have e:s∈dY p'↔s∈dY p:=by rw[EC f.pp',EC f.pp,f.kind,f.expr,if_neg hh]
  rw[e];unfold sw;by_cases a:s=c
  ·subst a;rw[if_pos rfl];exact⟨fun h=>absurd h g,fun h=>absurd h j⟩
  ·rw[if_neg a];by_cases d:s=b
   ·subst d;rw[if_pos rfl];exact⟨fun h=>absurd h j,fun h=>absurd h g⟩
   ·rw[if_neg d]
theorem agQ{b c:Str}(a:b≠c)(s:Str):sw b c (sw b c s)=s:=by
 unfold sw;by_cases d:s=c
 ·subst d;simp[a]
 ·by_cases e:s=b
  ·subst e;simp[d]
  ·simp[d,e]
theorem aeU{b c:Str}(a:b≠c){ps qs:List aO}(l:qs.length=ps.length)(h:∀(i:Nat) p p',ps[i]?=some p->qs[i]?=some p'->agN b c p p')(m:∀p,p∈ps->tX p c=false)(n:∀p,p∈ps->p.kind=2->Ku p b c=false){i:Nat}{p p':aO}(e:ps[i]?=some p)(d:qs[i]?=some p'):QG qs (i:Int)=QG ps (i:Int):=by
 rw[KU qs i p' d,KU ps i p e];refine Zk (zq _) (zq _) fun x=>?_
 rw[LJ,LJ,List.mem_filterMap,List.mem_filterMap];have j:∀s,DL qs s=DL ps (sw b c s):=fun s=>by
  unfold DL;rw[IK a s qs ps 0 l h]
 have k:=zG e;have us:=Z8 a (h i p p' e d) (m p k) (n p k);constructor
 ·rintro⟨s,f,g⟩;exact⟨sw b c s,(us s).1 f,by rw[<- j];exact g⟩
 ·rintro⟨s,f,g⟩;refine⟨sw b c s,(us _).2 (by rw[agQ a];exact f),?_⟩;rw[j,agQ a];exact g
theorem abJ{cs:List aj}{b c:Str}{out:List aj}{k:Nat}(h:acP cs b c true out k)(I:cs.length<=1048576)(t:∀c,c∈cs->kJ c)(hb:b.length<=120)(X:c.length<=120) :
  Vl cs out/\oC out=true/\(partsOf out).length=(partsOf cs).length/\(partsOf cs).length=cs.length/\∀(i:Nat) p p',(partsOf cs)[i]?=some p->(partsOf out)[i]?=some p'->agN b c p p':=by
 have y:=h.vl I t (by omega) (by omega);have z:=afn y h.bk;have hlen:=y.len;have hLo:∀c,c∈out->kJ c:=fun x u=>(y.val x u).1
 obtain⟨_,_,p3,p4,_⟩:=qx cs I t;obtain⟨_,_,o3,o4,_⟩:=qx out (by omega) hLo;have l1:=p4 h.bk;have l2:=o4 z;obtain⟨_,M⟩:=tC t h.bk;refine⟨y,z,by omega,l1,fun i p p' j A=>?_⟩;have hi:=(zC.1 j).1;obtain⟨x,u⟩:∃x,cs[i]?=some x:=⟨_,zF (by omega)⟩;obtain⟨x',o⟩:∃x,out[i]?=some x:=⟨_,zF (by omega)⟩;obtain⟨J,c2,c3⟩:=BA cs I t i p x j u;obtain⟨c1',_,_⟩:=BA out (by omega) hLo i p' x' A o;have B:=zG u;have hv:dL x=some true:=by rw[KW x (t x B),(M x B).1]
 have l:=zG o;have r:dL x'=some true:=by rw[KW x' (hLo x' l),(y.val x' l).2]
 have pp:=p3 p (zG j);have pp':=o3 p' (zG A);obtain⟨xk,s,Y⟩:=h.cell I t;have hdef:bP b 0 (partsOf cs)=[(k:Int)]:=by
  have m:=h.res;generalize bP b 0 (partsOf cs)=L at m;match L,m with
  | [],m=>exact absurd m (by show ¬(-1:Int)=_;omega)
  | [a],m=>rw[show a=(k:Int)from m]
  | _::_::_,m=>exact absurd m (by show ¬(-2:Int)=_;omega)
 have C:p.kind≠1->(p.name=b↔i=k):=fun d=>by
  have q:=Ep b (partsOf cs) 0 i;rw[hdef,List.mem_singleton,Nat.zero_add]at q;constructor
  ·intro D;have:=q.2 ⟨p,j,d,D⟩;omega
  ·rintro rfl;obtain⟨p2,E,_,N⟩:=q.1 rfl;rw[j]at E;cases E
   exact N
 have F:p.kind≠1->p.name≠c:=fun d D=>by
  have q:=(Ep c (partsOf cs) 0 i).2 ⟨p,j,d,D⟩;rw[h.nd]at q;cases q
 have hN:(oH c cs k)[i]?=some ⟨x.id,x.version,x.kind,if i=k then c else x.name,x.code,x.n⟩:=by
  unfold oH;rw[s];by_cases f:i=k
  ·subst f;rw[u]at s;cases s
   rw[List.getElem?_set_self (by omega),if_pos rfl]
  ·rw[List.getElem?_set_ne (fun e=>f e.symm),u,if_neg f]
 obtain⟨_,K⟩:=Ii true b c (partsOf cs) 0 _ _ _ h.lp;have K:=K i p _ j (by rw[Nat.zero_add];exact hN);rw[Nat.zero_add,o]at K;obtain⟨g,O⟩:=K;have nm_of:p.kind≠1->p.name=x.name->∀nm,nm=(if i=k then c else x.name)->nm=(if p.name=b then c else p.name):=fun d D nm P=>by
  rw[P,<- D];by_cases f:i=k
  ·rw[if_pos f,if_pos ((C d).2 f)]
  ·rw[if_neg f,if_neg fun e=>f ((C d).1 e)]
 by_cases hh:tX p b=true
 ·rw[if_pos hh]at g;have w:=Au p b hh;have G:=c2 w;have hcode:∃q,q<0/\fB x.code=some (p.expr,q):=by
   rcases acD hv G J w with h | h
   ·exact⟨-1,by omega,h⟩
   ·exact h
  obtain⟨q,hq,Q⟩:=hcode;obtain⟨R,hval⟩:=abS Q hq;obtain⟨H,S⟩:=pp.expr w;obtain⟨r1,r2,r3⟩:=adE (b:=b) h.vc X H S hval;have Z:=ac3 pp w h.vb h.vc hb X (h.nc p (zG j) w) hval;have hback:=Zc r1 r2 r3 (by rw[<- Z];exact O hh) (by rw[(WA (siz p.expr+1) p.expr (Nat.lt_succ_self _) H).1];exact R);have hx'e:x'=TD true (textOf p b c) ⟨x.id,x.version,x.kind,if i=k then c else x.name,x.code,x.n⟩:=a6 g;obtain⟨T,U,V⟩:=ae0 (x:=x') (e:=kG b c p.expr) r (by rw[hx'e];exact G) (by rw[hx'e];show fB (textOf p b c)=_;rw[Z];exact hback) c1';refine⟨by rw[T,w],by rw[U,if_pos hh],fun d=>⟨?_,F d⟩,pp,pp'⟩;have W:p.name=x.name:=by
   have:=SN (v:=x.version) (nm:=x.name) hv (by show dL x=some true;exact hv) J (by show dh x=some p;exact J);exact (this.2.2 d).1
  rw[V];exact nm_of d W _ (by rw[hx'e];rfl)
 ·rw[if_neg hh]at g;have hx'e:x'=⟨x.id,x.version,x.kind,if i=k then c else x.name,x.code,x.n⟩:=a6 g;rw[hx'e]at r c1';obtain⟨T,U,V⟩:=SN hv r J c1';refine⟨T,by rw[U,if_neg hh],fun d=>⟨?_,F d⟩,pp,pp'⟩;obtain⟨m1,m2⟩:=V d;rw[m2];exact nm_of d m1 _ rfl
theorem Wn(xs:List Str)(s:Str)(d:xs.length<=1048576):Fp xs s=some (posOf s 0 xs):=by
 unfold Fp;have posD:∀(i:Nat) (x:Str),xs[i]?=some x->posOf s i (xs.drop i)=if (x==s)=true then (i:Int)else posOf s (i+1) (xs.drop (i+1)):=fun i x b=>by
  obtain⟨hi,rfl⟩:=zC.1 b;rw[List.drop_eq_getElem_cons hi];rfl
 refine nR (bU (fun (_:Unit) (i:Nat)=>((xs,s,(i:Int)):(List Str)×Str×Int)) xs (fun i _=>posOf s i (xs.drop i)=posOf s 0 xs) _ (fun i x u b a=>?_) (fun u a=>?_) () rfl)
 ·rw[posD i x b]at a;simp only[bW b,ac,au,b,zA,bT b (by omega)];cases c:(x==s)with
  | true=>
   rw[c,if_pos rfl]at a;exact .inr ⟨_,rfl,a⟩
  | false=>
   rw[c,if_neg (by decide)]at a;exact .inl ⟨(),rfl,a⟩
 ·rw[List.drop_length]at a;exact⟨_,by simp only[bG,aa];rfl,a⟩
theorem Ej(xs:List Str)(s:Str)(c:xs.length<=1048576):BR xs s=some (xs.contains s):=by
 unfold BR;rw[Wn xs s c,zA];have b:=pq s xs 0;congr 1;cases a:xs.contains s with
 | false=>exact ae (by have:=b.2 a;omega)
 | true=>
  have d:¬posOf s 0 xs<0:=fun hh=>by rw[b.1 hh]at a;cases a
  exact al (by omega)
theorem CS(xs:List Int)(b:xs.length<=1048576):zu xs xs=some true:=by
 unfold zu;have e:((xs.length:Int) != (xs.length:Int))=false:=by simp
 rw[e,aa];refine nR (bU (fun (_:Unit) (i:Nat)=>((xs,xs,(i:Int)):(List Int)×(List Int)×Int)) xs (fun _ _=>True) (fun r=>r=true) (fun i x u a _=>.inl ⟨(),?_,trivial⟩) (fun u _=>?_) () trivial)
 ·have e:(x != x)=false:=by simp
  simp only[bW a,ac,au,a,zA,e,aa,bT a (by omega)]
 ·exact⟨true,by simp only[bG,aa],rfl⟩
theorem acJ{c:bM}(h:dF c):Dr (EU c 7) (NbD 7):=by
 unfold EU;refine Dr.bind (SA h 7 (by omega) (by omega)) fun u nb v e=>?_
 obtain⟨e,_⟩:=e;have o:=e.len;have o:nb.cells.length<=7:=o;refine Dr.of (sZ (fun (z:bM×List aj) (i:Nat)=>((z.1.b,z.1.i,z.1.h,[],z.2,(i:Int)):(List Int)×Int×Int×(List aj)×(List aj)×Int)) nb.cells.length
  (fun i z=>dF z.1/\z.2.length=nb.cells.length/\∀x,x∈z.2->GV x) (fun (r:bM×aC)=>dF r.1/\NbD 7 r.2) (fun i z hi j=>?_) (fun z j=>?_) (u,nb.cells) ⟨v,rfl,e.fit⟩)
 ·obtain⟨g,a,d⟩:=j;obtain⟨x,p⟩:∃x,z.2[i]?=some x:=⟨_,zF (by omega)⟩;have fx:=d x (zG p);have k:decide ((i:Int)<(z.2.length:Int))=true:=by simp;omega
  have l:w64 ((i:Int)+1)=((i+1:Nat):Int):=Z7 (by omega);simp only[k,ac,au,p,aD,zA,l];cases (x.kind==2)with
  | false=>exact⟨z,rfl,g,a,d⟩
  | true=>
   obtain⟨w,A,B,q⟩:=BB (c:=bM.mk z.1.b z.1.i z.1.h) g 4;simp only[ac,B,zA];cases A with
   | false=>exact⟨(w,z.2),rfl,q,a,d⟩
   | true=>
    obtain⟨C,s,D,E,t⟩:=aaz q ([[99,108,111,99,107,40,41],[99,104,97,110,99,101,40,57,41],[102,105,108,101,40,34,102,34,41,32,43,32,97],[99,104,97,110,99,101,40,52,41,32,43,32,99,108,111,99,107,40,41],[97,32,43,32,98],[98,32,42,32,50],[91,97,44,32,98,93],[119,104,101,114,101,40,34,97,34,44,32,49,44,32,99,41]]:List Str) (by simp);have F:s.length<=30:=by
     simp only[bc,List.not_mem_nil,or_false]at t;rcases t with rfl | rfl | rfl | rfl | rfl | rfl | rfl | rfl<;>decide
    simp only[ac,D,zA];refine⟨(C,z.2.set i (aj.mk x.id x.version x.kind x.name s x.n)),rfl,E,by rw[List.length_set];exact a,fun y m=>?_⟩;rcases mem_set m with m | rfl
    ·exact d y m
    ·have f:=IW.1 fx;exact tq.2 ⟨f.1,f.2.1,f.2.2.1,f.2.2.2.1,abg (by omega),f.2.2.2.2.2⟩
 ·obtain⟨g,a,d⟩:=j;have k:decide ((nb.cells.length:Int)<(z.2.length:Int))=false:=by simp;omega
  simp only[k,aa];exact⟨(z.1,aC.mk z.2),rfl,g,by show z.2.length<=7;omega,d⟩
theorem NJ{c:bM}(h:dF c):Dr (vH c) fun p=>p.1.length<=10/\p.2.length<=10:=by
 unfold vH;refine Dr.bind (fJ h _ (by simp)) fun f s d a=>Dr.bind (fJ d _ (by simp)) fun g t e b=>.ret e ⟨?_,?_⟩
 ·show s.length<=10
  simp only[bc,List.not_mem_nil,or_false]at a;rcases a with rfl | rfl | rfl | rfl<;>decide
 ·show t.length<=10
  simp only[bc,List.not_mem_nil,or_false]at b;rcases b with rfl | rfl | rfl | rfl | rfl | rfl | rfl<;>decide
theorem ZN(a:List Int)(h:(a.length:Int)<=1048576):∃nb b c,jF a=some (nb,b,c)/\NbD 9 nb/\b.length<=10/\c.length<=10:=by
 obtain⟨s,i,k0⟩:=aiB a h;obtain⟨t,nb,j,k,f⟩:=acJ k0;obtain⟨u,l,m,g⟩:=BB k 16;unfold jF;simp only[i,j,m,zA];cases l with
 | true=>
  obtain⟨v,nb',o,p,q⟩:=acL g;obtain⟨r,n,e,k4,d⟩:=NJ p;simp only[ac,o,e,zA];exact⟨nb',n.1,n.2,rfl,q,d.1,d.2⟩
 | false=>
  obtain⟨r,n,e,k4,d⟩:=NJ g;simp only[aa,e,zA];exact⟨nb,n.1,n.2,rfl,⟨by have:=f.len;omega,f.fit⟩,d.1,d.2⟩
theorem FW(a:List Int)(J:fH B47 (.list (.base .u8) a)):FnRenamedUses a=some true:=by
 refine afa J fun K=>?_
 obtain⟨nb,b,c,L,C,hb,hc⟩:=ZN a K;have hfit:=C.nb (by omega);obtain⟨M,j⟩:=acF (cs:=nb.cells) hfit;have q:=ae4 M;obtain⟨cs⟩:=nb;obtain⟨N,O⟩:=Us cs b c j q (by omega) (by omega);have hlen:cs.length<=9:=C.len;simp only[L,N,O,zA];by_cases t:(tN cs b c true).2=0
 case neg=>
  have e:((tN cs b c true).2 != 0)=true:=by simpa using t
  simp only[e,ac,beq_self_eq_true]
 have e:((tN cs b c true).2 != 0)=false:=by rw[t];rfl
 obtain⟨out,k,h⟩:=afK t;obtain⟨D,P,ql,pl,v⟩:=abJ h j q (by omega) (by omega);have hLo:∀c,c∈out->kJ c:=fun x Q=>(D.val x Q).1
 have R:=D.len;obtain⟨_,S,T,_,p5⟩:=qx cs j q;obtain⟨_,U,V,_,o5⟩:=qx out (by omega) hLo;obtain⟨w,W,X,_⟩:=CO ⟨cs⟩ ⟨out⟩ (by show (cs.length:Int)<=1048576;omega) (by show (out.length:Int)<=1048576;omega);have eqn:(tN cs b c true).1.cells=out:=by rw[h.eq]
 simp only[e,aa,h.eq,S,U,zA];have l:=h.nu;have o:=h.nc;have hres:=h.res;have y:=h.nd;have d:=h.ne;have hdir:∀i:Nat,i<(partsOf cs).length->QG (partsOf out) (i:Int)=QG (partsOf cs) (i:Int):=fun i hi=>by
  obtain⟨p,f⟩:∃p,(partsOf cs)[i]?=some p:=⟨_,zF hi⟩;obtain⟨p',g⟩:∃p,(partsOf out)[i]?=some p:=⟨_,zF (by omega)⟩;exact aeU d ql v l o f g
 have hdsw:=fun s=>IK d s (partsOf out) (partsOf cs) 0 ql v
 have E:=Ul (partsOf out) b (by omega);have F:=EP (partsOf out) c (by omega);have Y:=EP (partsOf cs) b (by omega);rw[hdsw b,show sw b c b=c by unfold sw;rw[if_neg d,if_pos rfl],y]at E;rw[hdsw c,show sw b c c=b by unfold sw;rw[if_pos rfl]]at F;have z:=fun i=>MS (partsOf cs) (by omega) T i
 have A:=fun i=>MS (partsOf out) (by omega) V i
 generalize partsOf cs=ps at *;generalize partsOf out=qs at *;refine nR (bU (fun (_:Unit) (i:Nat)=>((cs,b,c,out,ps,qs,(i:Int)):(List aj)×Str×Str×(List aj)×(List aO)×(List aO)×Int)) ps (fun _ _=>True) (fun r=>r=true) (fun i p u f _=>.inl ⟨(),?_,trivial⟩) (fun u _=>⟨true,?_,rfl⟩) () trivial)
 ·have hi:=(zC.1 f).1;obtain⟨p',g⟩:∃p,qs[i]?=some p:=⟨_,zF (by omega)⟩;have B:=zG f;have m:=v i p p' f g;obtain⟨_,Z,ul⟩:=qM p m.pp;obtain⟨_,u2,ul'⟩:=qM p' m.pp';have us:=Z8 d m (l p B) (o p B);have t1:(dY p').contains b=false:=by
   cases hq:(dY p').contains b with
   | false=>rfl
   | true=>
    have n:=(us b).1 (by simpa using hq);rw[show sw b c b=c by unfold sw;rw[if_neg d,if_pos rfl]]at n;have:=l p B;rw[(KP p c).2 n]at this;cases this
  have t2:(dY p').contains c=(dY p).contains b:=by
   have n:=us c;rw[show sw b c c=b by unfold sw;rw[if_pos rfl]]at n;rw[Bool.eq_iff_iff];simpa using n
  have G:=Ej (dY p') b (by omega);have H:=Ej (dY p') c (by omega);have x3:=Ej (dY p) b (by omega);rw[t1]at G;rw[t2]at H;have hlen1:(QG ps (i:Int)).length<=1048576:=by
   rw[KU ps i p f];have n:=adf ((dY p).filterMap (DL ps));have h2:=List.length_filterMap_le (DL ps) (dY p);omega
  have y1:=z (i:Int);have I:=A (i:Int);rw[hdir i hi]at I;simp only[bW f,ac,au,f,g,aD,zA,nO,Z,u2,G,H,x3,aa,beq_self_eq_true,aM,y1,I,CS _ hlen1,bT f (by omega)]
 ·simp only[bG,aa,W,X,CS w (by omega),E,F,Y,zA,ac,List.length_nil,beq_self_eq_true];rfl
end Go.Proofs.YtkebfkahdmddpaaGreatDoor
/- Functions of the library, as the evaluator's contracts. -/
namespace Go.Abs
open Go.RowKit Go.Sort Go.Proofs Go.Shelf
theorem below_grow(w:World)(k:Nat)(os:Array Obj):Below w.heap.size w (grow (w.drewN k) os):=
 ⟨rfl,rfl,rfl,by simp[grow],fun i hi=>by
  show (w.heap++os)[i]?=_
  rw[Array.getElem?_append_left hi]⟩
theorem H6{B:Nat}{w':World}{S:Nat->Nat->Prop}(s:Str):Ba B w' S true [⟨false,.base .str⟩] s (.string ⟨s.toArray⟩):=
 ⟨[_],rfl,fun _ _=>False,⟨Ow.str (w:=w') (S:=fun _ _=>False) (deep:=true) ⟨s.toArray⟩ _,trivial⟩,fun _ _ h=>h.elim,fun _ _ _ h=>h.elim⟩
theorem abE{B:Nat}{w':World}{S:Nat->Nat->Prop}(n:Int):Ba B w' S true [⟨false,.base .int⟩] n (.int .i64 n):=
 ⟨[_],rfl,fun _ _=>False,⟨.int _ _ _,trivial⟩,fun _ _ h=>h.elim,fun _ _ _ h=>h.elim⟩
theorem Na{B:Nat}{w':World}{S:Nat->Nat->Prop}(b:Bool):Ba B w' S true [⟨false,.base .bool⟩] b (.bool b):=
 ⟨[_],rfl,fun _ _=>False,⟨.bool _ _,trivial⟩,fun _ _ h=>h.elim,fun _ _ _ h=>h.elim⟩
theorem PY{B:Nat}{w':World}{S:Nat->Nat->Prop}(n:Int)(b:Bool):Ba B w' S true [⟨false,.base .int⟩,⟨false,.base .bool⟩] (n,b) (.tuple #[.int .i64 n,.bool b]):=
 ⟨[.int .i64 n,.bool b],rfl,fun _ _=>False,⟨⟨.int _ _ _,trivial⟩,⟨.bool _ _,trivial⟩⟩,fun _ _ h=>h.elim,fun _ _ _ h=>h.elim⟩
theorem lJ{w:World}{S:Nat->Nat->Prop}{s:Str}{u:Value}(h:Rep w S (.str s) u):u=.string ⟨s.toArray⟩:=by
 generalize a:D.str s=d at h;cases h<;>cases a
 rfl
theorem uD{w:World}{S:Nat->Nat->Prop}{k:IntKind}{n:Int}{u:Value}(h:Rep w S (.int k n) u):u=.int k n:=by
 generalize a:D.int k n=d at h;cases h<;>cases a
 rfl
theorem Zu {P : Program} {ρ : Ren} (L : LaysM.n171 P ρ) (htab : ∀ w, amb w -> Go.Lib.TabIs P w "internal/strconv.uint64pow10" .u64 Go.Lib.pow10Tab) :
  Sound P { fid:=ρ.f 171,ps:=[⟨false,.base .int⟩],rs:=[⟨false,.base .str⟩],ex:=true,fn:=fun x=>BJ x }:=by
 intro w S args x y h ha hr hS;rcases args with _ | ⟨u,_ | ⟨u2,r⟩⟩
 ·exact hr.elim
 ·have hu:=uD (show Rep w S (.int .i64 x) u from hr.1);subst hu;have h:BJ x=some y:=h;unfold BJ at h;split at h
  case isFalse=>cases h
  rename_i hx;cases h
  refine (Any.strconv_Itoa L x hx.1 hx.2 w (htab w ha)).mono ?_;rintro e w' ⟨rfl,k,os,rfl⟩;exact⟨_,rfl,below_grow w k os,H6 _⟩
 ·exact hr.elim
theorem VE{P:Program}{ρ:Ren}(L:Lays.n146 P ρ)(q:(P.info? (ρ.t 9)).map (fun i=>(i.zero,i.size,i.bytes))=some (some (.string ByteArray.empty),1,16))(hmax:∀w,amb w->∃m,w.cell? ⟨(ρ.g 1),0,none⟩=some (.int .i64 m)) :
  Sound P { fid:=ρ.f 146,ps:=[⟨false,.base .str⟩,⟨false,.base .str⟩],rs:=[⟨false,.list (.base .str)⟩],ex:=true,fn:=fun x=>kH x.1 x.2 }:=by
 intro w S args x y h F b N;rcases args with _ | ⟨u,_ | ⟨G,_ | ⟨O,r⟩⟩⟩
 ·exact b.elim
 ·exact b.2.elim
 ·have H:=lJ (show Rep w S (.str x.1) u from b.1.1);have v:=lJ (show Rep w S (.str x.2) G from b.2.1);subst H;subst v;have h:kH x.1 x.2=some y:=h;unfold kH at h;split at h
  case isFalse=>cases h
  rename_i z;obtain⟨m,I⟩:=hmax w F;have C:(⟨x.1.toArray⟩:ByteArray).size=x.1.length:=by show x.1.toArray.size=_;simp
  have J:(⟨x.2.toArray⟩:ByteArray).size=x.2.length:=by show x.2.toArray.size=_;simp
  have k:1<=(⟨x.2.toArray⟩:ByteArray).size:=by rw[J];exact z.2
  have p:=Lib.splitB_all ⟨x.2.toArray⟩ k 0 _ ⟨x.1.toArray⟩ rfl;have l:=Lib.countB_le ⟨x.2.toArray⟩ k (⟨x.1.toArray⟩:ByteArray).size ⟨x.1.toArray⟩ (az _);have a:=Lib.splitB_data ⟨x.2.toArray⟩ 0 (Lib.countB ⟨x.1.toArray⟩ ⟨x.2.toArray⟩) ⟨x.1.toArray⟩;have D:(Lib.splitB ⟨x.2.toArray⟩ 0 (Lib.countB ⟨x.1.toArray⟩ ⟨x.2.toArray⟩) ⟨x.1.toArray⟩).map (·.data.toList)=y:=by
   cases h
   rw[a];rfl
  refine (Any.strings_Split L q ⟨x.1.toArray⟩ ⟨x.2.toArray⟩ m w (by rw[C];exact z.1) I k).mono ?_;generalize Lib.splitB ⟨x.2.toArray⟩ 0 (Lib.countB ⟨x.1.toArray⟩ ⟨x.2.toArray⟩) ⟨x.1.toArray⟩=bs at p D;generalize Lib.countB ⟨x.1.toArray⟩ ⟨x.2.toArray⟩=n at p l;subst D;rintro e w' ⟨rfl,rfl⟩;have A:(w.alloc (.cells (bs.map Value.string).toArray (ρ.t 9))).heap.size=w.heap.size+1:=Array.size_push _;refine⟨_,rfl,(Below.refl _ _).alloc (az _) _,[_],rfl,fun i c=>i=0/\c=w.heap.size,⟨?_,trivial⟩,fun i c K=>by rw[K.2,A];omega,fun i i' c k M=>k.1.trans M.1.symm⟩
  ·have E:(bs.map (·.data.toList)).length=n+1:=by rw[List.length_map,p]
   have key:=Ow.list (w:=w.alloc (.cells (bs.map Value.string).toArray (ρ.t 9))) (S:=fun _ _=>False) (deep:=true) (.base .str) (bs.map (·.data.toList)) w.heap.size (n+1) (bs.map Value.string).toArray (ρ.t 9) (fun i _=>.string (bs[i]!)) (fun _ _ _=>False) (fun c=>0=0/\c=w.heap.size)
    (Array.getElem?_push_size) (by rw[E];exact az _) (by rw[C]at l;have:=z.1;unfold maxLen;omega) (by show (bs.map Value.string).toArray.size=(n+1)*1;simp[p]) ⟨rfl,rfl⟩
    (fun i s j d o a=>?_) (fun i s j d o a=>?_) (fun _ _ _ h=>h.elim) (fun _ _ _ _ _ h=>h.elim)
   ·rw[E]at key;exact key
   ·cases j with
    | succ j=>simp[Ty.cells,Base.cells]at a
    | zero=>
     have e:i*(Ty.base .str).size+0=i:=by show i*1+0=i;omega
     have hi:i<bs.length:=by
      have:=(zC.1 o).1;simpa using this
     rw[e];simp[hi]
   ·cases j with
    | succ j=>simp[Ty.cells,Base.cells]at a
    | zero=>
     simp only[Ty.cells,Base.cells,List.getElem?_cons_zero,zD]at a;subst a;have hi:i<bs.length:=by
      have:=(zC.1 o).1;simpa using this
     have B:bs[i].data.toList=s:=by
      rw[List.getElem?_map,zF hi]at o;simpa using o
     rw[getElem!_pos bs i hi,<- B];exact Ow.str _ _
 ·exact b.2.elim
theorem Kq{P:Program}{ρ:Ren}(L:Lays.n99 P ρ) :
  Sound P { fid:=ρ.f 99,ps:=[⟨false,.base .str⟩,⟨false,.base .str⟩],rs:=[⟨false,.base .bool⟩],ex:=true,fn:=fun x=>jg x.1 x.2 }:=by
 intro w S args x y h g a i;rcases args with _ | ⟨u,_ | ⟨c,_ | ⟨j,r⟩⟩⟩
 ·exact a.elim
 ·exact a.2.elim
 ·have d:=lJ (show Rep w S (.str x.1) u from a.1.1);have b:=lJ (show Rep w S (.str x.2) c from a.2.1);subst d;subst b;have h:some (Go.Lib.hasPrefix x.1 x.2)=some y:=h;cases h
  refine (Any.strings_HasPrefix L ⟨x.1.toArray⟩ ⟨x.2.toArray⟩ w).mono ?_;rintro e w' ⟨rfl,rfl⟩;exact⟨_,rfl,Below.refl _ _,Na _⟩
 ·exact a.2.elim
theorem J3{P:Program}{ρ:Ren}(L:Lays.n137 P ρ) :
  Sound P { fid:=ρ.f 137,ps:=[⟨false,.base .str⟩,⟨false,.base .u8⟩],rs:=[⟨false,.base .int⟩],ex:=true,fn:=fun x=>dW x.1 x.2 }:=by
 intro w S args x y h g a i;rcases args with _ | ⟨u,_ | ⟨c,_ | ⟨j,r⟩⟩⟩
 ·exact a.elim
 ·exact a.2.elim
 ·have d:=lJ (show Rep w S (.str x.1) u from a.1.1);have b:=uD (show Rep w S (.int .u8 x.2) c from a.2.1);subst d;subst b;have h:some (Go.Lib.indexByte x.1 (Int.toNat x.2).toUInt8)=some y:=h;cases h
  refine (Any.strings_IndexByte L ⟨x.1.toArray⟩ x.2 w).mono ?_;rintro e w' ⟨rfl,rfl⟩;exact⟨_,rfl,Below.refl _ _,abE _⟩
 ·exact a.2.elim
theorem RD(xs:List Str):(xs.map fun s=>(⟨s.toArray⟩:ByteArray)).map (·.data.toList)=xs:=by
 induction xs with
 | nil=>rfl
 | cons x r ih=>simpa using ih
theorem Zt{P:Program}{ρ:Ren}(L:Lays.n156 P ρ)(X:Builder.Extra P ρ) :
  Sound P { fid:=ρ.f 156,ps:=[⟨false,.list (.base .str)⟩,⟨false,.base .str⟩],rs:=[⟨false,.base .str⟩],ex:=true,fn:=fun x=>BI x.1 x.2 }:=by
 intro w S args x y h J i A;rcases args with _ | ⟨u,_ | ⟨B,_ | ⟨K,r⟩⟩⟩
 ·exact i.elim
 ·exact i.2.elim
 ·have m:=lJ (show Rep w S (.str x.2) B from i.2.1);subst m;have k:Rep w S (.list (.base .str) x.1) u:=i.1.1;obtain⟨xs,sep⟩:=x;have k:Rep w S (.list (.base .str) xs) u:=k;have h:BI xs sep=some y:=h;unfold BI at h;obtain⟨_,C,h⟩:=zB.1 h;obtain⟨_,E,h⟩:=zB.1 h;cases h
  have M:=iP C;have N:=iP E;have none':∀(a:Option Addr) (c:Nat),xs=[]->Calls P (ρ.f 156) #[.slice a 0 c,.string ⟨sep.toArray⟩] w fun e w'=>∃v,e=.returned v/\Below w.heap.size w w'/\Ba w.heap.size w' S true [⟨false,.base .str⟩] (Go.Lib.join xs sep) v:=by
   rintro a c rfl;refine (Any.strings_Join_none L X a c ⟨sep.toArray⟩ w).mono ?_;rintro e w' ⟨rfl,rfl⟩;exact⟨_,rfl,Below.refl _ _,H6 _⟩
  generalize g:D.list (.base .str) xs=d at k;cases k with
  | int=>cases g
  | bool=>cases g
  | str=>cases g
  | nil=>cases g;exact none' _ _ rfl
  | emp=>cases g;exact none' _ _ rfl
  | list t xs' b off cap vs hcap F n=>
   cases g
   by_cases o:xs=[]
   ·subst o;exact none' _ _ rfl
   have hlen:(xs.map fun s=>(⟨s.toArray⟩:ByteArray)).length=xs.length:=by simp
   have hcell:∀(j:Nat) (z:ByteArray),(xs.map fun s=>(⟨s.toArray⟩:ByteArray))[j]?=some z->w.cell? ⟨b,off+j,none⟩=some (.string z)/\b<w.heap.size:=by
    intro j z l;rw[List.getElem?_map,Option.map_eq_some_iff]at l;obtain⟨s,p,rfl⟩:=l;have q:=F j s 0 (.str s) p rfl;have G:=lJ (n j s 0 (.str s) p rfl);rw[G]at q;have e:off+(j*(Ty.base .str).size+0)=off+j:=by show off+(j*1+0)=_;omega
    rw[e]at q;exact⟨q.1,A _ _ q.2⟩
   have H:b<w.heap.size:=by
    obtain⟨s,r,rfl⟩:=List.exists_cons_of_ne_nil o;exact (hcell 0 _ rfl).2
   have:=Any.strings_Join L X b off cap (xs.map fun s=>(⟨s.toArray⟩:ByteArray)) ⟨sep.toArray⟩ w (fun j z l=>(hcell j z l).1) H (by rw[hlen];omega) (by rw[hlen];exact hcap)
    (by rw[RD];show (Go.Lib.join xs sep).length<=_;omega)
   rw[hlen,RD]at this;refine this.mono ?_;rintro e w' ⟨rfl,I⟩;exact⟨_,rfl,I,H6 _⟩
 ·exact i.2.elim
theorem aiv{w:World}{S:Nat->Nat->Prop}{deep:Bool}{s:Str}{u:Value}{fp:Nat->Prop}(h:Ow w S deep (.str s) u fp):u=.string ⟨s.toArray⟩:=by
 generalize a:D.str s=d at h;cases h with
 | int=>cases a
 | bool=>cases a
 | str v=>cases a;rfl
 | nil=>cases a
 | ro d v fp _ b=>subst a;exact lJ b
 | list=>cases a
set_option maxHeartbeats 1000000 in
theorem He{P:Program}{ρ:Ren}(L:Lays.n192 P ρ)(w:World)(S:Nat->Nat->Prop)(deep:Bool)(u:Value)(xs ys:List Str)(fp:Nat->Prop)(h:iK xs=some ys)
  (O:OwT w S deep true (.base .str) xs u fp) (B:∀c,fp c->c<w.heap.size) (Y:∀b o,S b o->b<w.heap.size) :
  Calls P (ρ.f 192) #[u] w fun e w'=>e=.returned (.tuple #[])/\Off (fun c=>fp c/\∀o,¬S c o) w w'/\OwT w' S deep true (.base .str) ys u fp:=by
 unfold iK at h;obtain⟨_,Q,h⟩:=zB.1 h;have Z:=iP Q;have h:=(a6 h).symm;rcases O with ⟨rfl,R⟩ | ⟨b,cap,arr,E',vs,fps,rfl,C,hcap,hmax,r,g,K,T,hf,hdis,D⟩
 ·subst R;refine (Any.sort_Strings_none L none 0 w).mono ?_;rintro e w' ⟨rfl,rfl⟩;refine⟨rfl,⟨rfl,rfl,rfl,az _,fun c K _=>rfl⟩,.inl ⟨rfl,?_⟩⟩;rw[h];simp
 have t:∀o,¬S b o:=fun o v=>by cases (D o v).1
 have hblt:b<w.heap.size:=B b g;have M:arr.size=cap:=by rw[r];exact Nat.mul_one _
 have E:∀(i:Nat) (s:Str),xs[i]?=some s->arr[i]?=some (.string ⟨s.toArray⟩):=by
  intro i s a;have q:=K i s 0 (.str s) a rfl;have U:=T i s 0 (.str s) a rfl;have e:i*(Ty.base .str).size+0=i:=by show i*1+0=i;omega
  rw[e]at q;have V:vs i 0=.string ⟨s.toArray⟩:=aiv U;rw[q,V]
 have W:Holds encStr w b 0 xs.toArray:=by
  intro j N;have F:j<xs.length:=by simpa using N
  have e:w.cell? ⟨b,0+j,none⟩=arr[j]?:=by simp[World.cell?,C]
  refine⟨?_,?_⟩
  ·rw[e,E j _ (zF F)];rw[getElem!_pos _ j N];simp[encStr]
  ·unfold World.frozen?;simp only[C];simp
 refine (Any.sort_Strings L b 0 cap xs w W hblt (by omega)).mono ?_;rintro e w' ⟨rfl,n,os,rfl⟩;have k:ys=xs.mergeSort fun x y=>decide (x<=y):=h
 have z:ys.length=xs.length:=by rw[k];exact List.length_mergeSort _
 have hheap:∀c,c<w.heap.size->c≠b->(grow (putRow encStr (Sort.ahead w n) b 0 (xs.mergeSort fun x y=>decide (x<=y)).toArray) os).heap[c]?=w.heap[c]?:=by
  intro c l G;show ((putRow encStr (Sort.ahead w n) b 0 _).heap++os)[c]?=_
  rw[Array.getElem?_append_left (by rw[size_putRow];exact l)];show (w.heap.modify b _)[c]?=_
  rw[Array.getElem?_modify,if_neg (Ne.symm G)]
 have hheapb:(grow (putRow encStr (Sort.ahead w n) b 0 (xs.mergeSort fun x y=>decide (x<=y)).toArray) os).heap[b]?=some (.cells (putCells encStr 0 (xs.mergeSort fun x y=>decide (x<=y)).toArray arr) E' (0,0)):=by
  show ((putRow encStr (Sort.ahead w n) b 0 _).heap++os)[b]?=_
  rw[Array.getElem?_append_left (by rw[size_putRow];exact hblt)];show (w.heap.modify b _)[b]?=_
  rw[Array.getElem?_modify,if_pos rfl,C];rfl
 have hsize:w.heap.size<=(grow (putRow encStr (Sort.ahead w n) b 0 (xs.mergeSort fun x y=>decide (x<=y)).toArray) os).heap.size:=by
  show _<=((putRow encStr (Sort.ahead w n) b 0 _).heap++os).size
  rw[Array.size_append,size_putRow];exact Nat.le_add_right _ _
 have m:(grow (putRow encStr (Sort.ahead w n) b 0 (xs.mergeSort fun x y=>decide (x<=y)).toArray) os).os=w.os:=rfl;have p:(grow (putRow encStr (Sort.ahead w n) b 0 (xs.mergeSort fun x y=>decide (x<=y)).toArray) os).tape=w.tape:=rfl;have hout:(grow (putRow encStr (Sort.ahead w n) b 0 (xs.mergeSort fun x y=>decide (x<=y)).toArray) os).output=w.output:=rfl;rw[<- k]at hheap hheapb hsize m p hout;have H:grow (putRow encStr (Sort.ahead w n) b 0 (List.mergeSort xs fun x y=>decide (x<=y)).toArray) os=grow (putRow encStr (Sort.ahead w n) b 0 ys.toArray) os:=by rw[k]
 rw[H];generalize grow (putRow encStr (Sort.ahead w n) b 0 ys.toArray) os=w' at hheap hheapb hsize m p hout;have hget:∀(i:Nat) (s:Str),ys[i]?=some s->(putCells encStr 0 ys.toArray arr)[i]?=some (.string ⟨s.toArray⟩):=by
  intro i s a;have hi:i<ys.length:=(zC.1 a).1;have I:i<arr.size:=by
   have X:i<ys.length:=hi;omega
  unfold putCells;rw[Array.getElem?_mapIdx,Array.getElem?_eq_getElem I,Option.map_some,if_pos ⟨Nat.zero_le _,by simpa using hi⟩,Nat.sub_zero];rw[getElem!_pos _ i (by simpa using hi)];have:ys[i]=s:=(zC.1 a).2;simp only[List.getElem_toArray,this];try rfl
 refine⟨rfl,⟨m,p,hout,hsize,fun c l J=>hheap c l fun e=>J ⟨e▸g,fun o v=>t o (e▸v)⟩⟩,.inr ⟨b,cap,putCells encStr 0 ys.toArray arr,E',fun i _=>.string ⟨(ys[i]!).toArray⟩,fun _ _ _=>False,?_,hheapb,?_,hmax,?_,g,?_,?_,fun _ _ _ h=>h.elim,fun _ _ _ _ _ h=>h.elim,fun o v=>absurd v (t o)⟩⟩
 ·rw[z]
 ·rw[z];exact hcap
 ·show (putCells encStr 0 _ arr).size=_
  unfold putCells;rw[Array.size_mapIdx];exact r
 ·intro i s j d a A;cases j with
  | succ j=>simp[Ty.cells,Base.cells]at A
  | zero=>
   have e:i*(Ty.base .str).size+0=i:=by show i*1+0=i;omega
   rw[e,hget i s a];have hi:=(zC.1 a);show _=some (Value.string ⟨(ys[i]!).toArray⟩)
   rw[getElem!_pos ys i hi.1,hi.2]
 ·intro i s j d a A;cases j with
  | succ j=>simp[Ty.cells,Base.cells]at A
  | zero=>
   simp only[Ty.cells,Base.cells,List.getElem?_cons_zero,zD]at A;subst A;have hi:=(zC.1 a);show Ow _ _ _ _ (Value.string ⟨(ys[i]!).toArray⟩) _
   rw[getElem!_pos ys i hi.1,hi.2];exact Ow.str ⟨List.toArray s⟩ _
theorem EM{P:Program}{ρ:Ren}(L:Lays.n192 P ρ):I9 P { fid:=ρ.f 192,t:=.base .str,fn:=iK }:=
 fun w S deep u xs ys fp h _ b a c=>He L w S deep u xs ys fp h b a c
end Go.Abs
