import Derived.Test.YtkebfkahdmddpaaGreatDoorS4
import Derived.Test.YtkebfkahdmddpaaGreatDoorModels
import Derived.KernelRfl
import Derived.Test.YtkebfkahdmddpaaGreatDoorLink1
import Derived.Test.YtkebfkahdmddpaaGreatDoorRows
set_option linter.unusedSimpArgs false
set_option linter.unusedVariables false
/- Functions that write into the lists that they are given. -/
namespace Go.Abs
open Go.RowKit
inductive Rf where
 | tree
 | box (off:Nat)
 | sub (off n:Nat) (agg:Bool)
 | elt (i sz off:Nat)
 | inner (i sz off:Nat)
structure Ms where
 S:St
 R:List (Option Rf)
 ds:List D
def Ms.aeI(M:Ms)(i:Nat):Option Rf:=M.R.getD i none
def Ms.put(M:Ms)(d:Option Nat)(av:AV):Ms:=match d with
 | none=>M
 | some d=>{ M with S:=M.S.iY d av,R:=M.R.set d none }
def Ms.list(M:Ms):Option ((t:Ty)×List t.den):=match M.ds with
 | [.list t xs]=>some ⟨t,xs⟩
 | _=>none
structure LM where
 n:Nat
 ty:Ty
 si:Nat
 sk:Nat
def ah7(M:Ms)(i:Nat):Option Int:=match M.S.iG i with
 | .v (.one (.d (.int .i64 n)))=>some n
 | _=>none
def Rf.aiG:Option Rf->Bool
 | some .tree=>true
 | _=>false
def LM.get(la:LM)(M:Ms):Option (List la.ty.den×Int×Int):=
 if M.S.tmps.length=la.n/\Rf.aiG (M.aeI 0)=true/\la.si≠0/\la.sk≠0/\la.si≠la.sk then
  match M.ds with
  | [.list ty xs]=>if h:ty=la.ty then match ah7 M la.si,ah7 M la.sk with
   | some i,some k=>some (h▸xs,i,k)
   | _,_=>none
   else none
  | _=>none
 else none
def LM.put(la:LM)(x:List la.ty.den×Int×Int):Ms:=
 { S:={ tmps:=((List.replicate la.n AV.undef).set la.si (.v (.one (.d (.int .i64 x.2.1))))).set la.sk (.v (.one (.d (.int .i64 x.2.2)))),boxes:=List.replicate la.n none,owns:=List.replicate la.n [] },R:=(List.replicate la.n none).set 0 (some .tree),ds:=[.list la.ty x.1] }
section
variable {P:Program} {o:Oper} {a:Act} {w:World} {K:Act->World->Prop} {Q:Exit->Act->World->Prop}
end
def gK(K:Nat->Nat->Prop):Gh:={ bk:=fun _=>0,ov:=fun _ _=>undef,ow:=fun _=>none,S:=K,lk:=fun _=>False,lb:=fun _=>False }
theorem Inv.aiq{l:Bs}{G:Gh}{S:St}{a:Act}{w:World}(h:Inv l G S a w)(no:∀k,S.aI k=[]/\S.fE k=none){w':World}{K':Nat->Nat->Prop}(m:∀b o,G.S b o->K' b o/\w'.cell? ⟨b,o,none⟩=w.cell? ⟨b,o,none⟩)
  (d:∀b o,K' b o->b<w'.heap.size):Inv ⟨w',K',fun _=>False,none⟩ (gK K') S a w':=by
 have n:Mv G (gK K') w w':=⟨m,fun k f=>absurd (no k).1 (h.lk k f),fun i hi=>absurd (no i).2 (h.lb i hi)⟩;refine⟨qL.refl _ _ _,h.nodef,h.tsz,h.bsz,h.osz,fun i v hv=>(h.tmps i v hv).move n,fun b x p=>(by cases p),fun b o g=>⟨d b o g,fun i e=>(by cases e)⟩,fun i cs c=>?_,fun k j=>?_,fun k f=>f.elim,fun i hi=>hi.elim,fun b o g _=>g,fun b q=>by cases q⟩
 ·rw[(no i).2]at c;cases c
 ·rw[(no k).1];trivial
structure Gm where
 u:Value
 vs:List Value
 fps:Nat->Nat->Prop
def Gm.F(g:Gm)(c:Nat):Prop:=∃i,g.fps i c
def Kw(g:Gm)(w:World)(b _:Nat):Prop:=b<w.heap.size/\¬g.F b
def aeo:Value->Bool
 | .slice _ _ _=>true
 | _=>false
def agM(g:Gm)(agg:Bool)(w:World):Rf->Value->Prop
 | .tree,v=>v=g.u
 | .box off,v=>∃bb,v=.pointer (some ⟨bb,off,none⟩)/\¬g.F bb/\bb<w.heap.size/\∀j x,g.vs[j]?=some x->w.cell? ⟨bb,j,none⟩=some x
 | .sub off n ag,v=>(ag=true->v=.agg (seg g.vs off n).toArray)/\(ag=false->seg g.vs off n=[v])
 | .elt i sz off,v=>agg=false/\∃b len cap,g.u=.slice (some ⟨b,0,none⟩) len cap/\v=.pointer (some ⟨b,i*sz+off,none⟩)
 | .inner i sz off,v=>agg=false/\aeo v=true/\∃b len cap,g.u=.slice (some ⟨b,0,none⟩) len cap/\w.cell? ⟨b,i*sz+off,none⟩=some v
def OwD(w:World)(d:D)(v:Value)(fp:Nat->Prop):Prop:=Ow w (fun _ _=>False) true d v fp
structure O9(w0:World)(agg:Bool)(g:Gm)(M:Ms)(a:Act)(w:World):Prop where
 off:Off g.F w0 w
 inv:Inv ⟨w,Kw g w,fun _=>False,none⟩ (gK (Kw g w)) M.S a w
 no:∀k,M.S.aI k=[]/\M.S.fE k=none
 rsz:M.R.length=M.S.tmps.length
 tree:aW (fun i d v=>OwD w d v (g.fps i)) 0 M.ds g.vs
 uv:(agg=true->g.u=.agg g.vs.toArray)/\(agg=false->g.vs=[g.u])
 refs:∀i r v,M.aeI i=some r->a.tmps[i]?=some v->agM g agg w r v
 lt:∀i c,g.fps i c->c<w0.heap.size
 am:amb w0/\∀i c,g.fps i c->pM<=c
 dis:∀i i' c,g.fps i c->g.fps i' c->i=i'
theorem qL.step{F:Nat->Prop}{a b c:World}(h:Off F a b)(k:Off F b c):Off F a c:=
 ⟨k.os.trans h.os,k.tape.trans h.tape,k.output.trans h.output,Nat.le_trans h.size k.size,fun i hi d=>(k.block i (aE hi h.size) d).trans (h.block i hi d)⟩
theorem qL.mono{F F':Nat->Prop}{w w':World}(h:Off F w w')(a:∀c,F c->F' c):Off F' w w':=⟨h.os,h.tape,h.output,h.size,fun k b d=>h.block k b fun e=>d (a k e)⟩
section sound
variable {P:Program} {w0:World} {agg:Bool} {g:Gm} {M:Ms} {a:Act} {w:World} {o:Oper} {K:Act->World->Prop} {Q:Exit->Act->World->Prop} {E:Env}
theorem agM.move{w':World}{r:Rf}{v:Value}(h:agM g agg w r v)(k:w.heap.size<=w'.heap.size)(l:∀c,c<w.heap.size->¬g.F c->w'.heap[c]?=w.heap[c]?)
  (m:agg=false->∀b len cap,g.u=.slice (some ⟨b,0,none⟩) len cap->∀o u,aeo u=true->w.cell? ⟨b,o,none⟩=some u->w'.cell? ⟨b,o,none⟩=some u):agM g agg w' r v:=by
 cases r with
 | tree=>exact h
 | box off=>
  obtain⟨bb,d,a,e,f⟩:=h;exact⟨bb,d,a,by omega,fun j x p=>(World.cell?_of_block (w:=w) (l bb e a)).trans (f j x p)⟩
 | sub off n ag=>exact h
 | elt i sz off=>exact h
 | inner i sz off=>
  obtain⟨d,a,b,len,cap,e,f⟩:=h;exact⟨d,a,b,len,cap,e,m d b len cap e _ _ a f⟩
theorem aeH(R:List (Option Rf))(S S':St)(ds ds':List D)(d:Nat)(x:Option Rf)(i:Nat):Ms.aeI { S:=S,R:=R.set d x,ds:=ds } i=if d=i/\d<R.length then x else Ms.aeI { S:=S',R:=R,ds:=ds' } i:=by
 simp only[Ms.aeI,zE,List.getElem?_set];by_cases h:d=i
 ·subst h;by_cases a:d<R.length<;>simp[a]
 ·simp[h]
theorem O9.put(h:O9 w0 agg g M a w){d:Option Nat}{av:AV}{v:Value}(hv:jq (gK (Kw g w)) w av v):O9 w0 agg g (M.put d av) (a.put d v) w:=by
 cases d with
 | none=>exact h
 | some d=>
  refine⟨h.off,h.inv.iY d hv,h.no,by simp[Ms.put,St.iY,h.rsz],h.tree,h.uv,fun i r u c b=>?_,h.lt,h.am,h.dis⟩;simp only[Ms.put]at c;rw[aeH (S':=M.S) (ds':=M.ds)]at c;split at c
  ·cases c
  ·rename_i f;simp only[Act.put,Array.getElem?_setIfInBounds]at b;by_cases e:d=i
   ·subst e;have:¬d<M.R.length:=fun j=>f ⟨rfl,j⟩
    simp only[if_true]at b;rw[h.rsz,<- h.inv.tsz]at this;rw[if_neg this]at b;cases b
   ·rw[if_neg e]at b;exact h.refs i r u c b
theorem O9.turn(h:O9 w0 agg g M a w){w':World}{ds':List D}(hoff:Off g.F w w')(f:aW (fun i d v=>OwD w' d v (g.fps i)) 0 ds' g.vs)
  (j:agg=false->∀b len cap,g.u=.slice (some ⟨b,0,none⟩) len cap->∀o u,aeo u=true->w.cell? ⟨b,o,none⟩=some u->w'.cell? ⟨b,o,none⟩=some u):O9 w0 agg g { M with ds:=ds' } a w':=by
 refine⟨h.off.step hoff,h.inv.aiq h.no (fun b oo e=>⟨⟨aE e.1 hoff.size,e.2⟩,World.cell?_of_block (w:=w) (hoff.block b e.1 e.2)⟩) fun b oo e=>e.1,h.no,h.rsz,f,h.uv,fun i r v k hv=>?_,h.lt,h.am,h.dis⟩;exact (h.refs i r v k hv).move hoff.size (fun c l m=>hoff.block c l m) j
theorem O9.amb(h:O9 w0 agg g M a w):amb w:=
 h.am.1.keep h.off.size fun k b=>h.off.block k (aE b h.am.1.size) fun⟨i,c⟩=>by have:=h.am.2 i k c;omega
end sound
end Go.Abs
namespace Go.Abs
open Go.RowKit
theorem Yr{α:Type}{cs vs:List α}{off:Nat}(h:off+vs.length<=cs.length)(i:Nat):(dS cs off vs)[i]?=if off<=i/\i<off+vs.length then vs[i-off]? else cs[i]?:=by
 simp only[dS,List.getElem?_append,a7,ba,List.getElem?_take,List.getElem?_drop];have e:min off cs.length=off:=by omega
 rw[e];by_cases a:i<off
 ·rw[if_pos (by omega),if_pos a,if_pos a,if_neg (by omega)]
 ·by_cases b:i<off+vs.length
  ·rw[if_pos b,if_neg a,if_pos (by omega)]
  ·rw[if_neg b,if_neg (by omega)];congr 1;omega
theorem OwD.inv{w:World}{ty:Ty}{xs:List ty.den}{b len cap:Nat}{fp:Nat->Prop}(h:OwD w (.list ty xs) (.slice (some ⟨b,0,none⟩) len cap) fp) :
  ∃(arr:Array Value) (E:TypeId) (vs:Nat->Nat->Value) (fps:Nat->Nat->Nat->Prop),len=xs.length/\w.heap[b]?=some (.cells arr E (0,0))/\xs.length<=cap/\cap<=maxLen/\arr.size=cap*ty.size/\fp b /\
   (∀(i:Nat) (x:ty.den) (j:Nat) (d:D),xs[i]?=some x->(ty.cells x)[j]?=some d->arr[i*ty.size+j]?=some (vs i j)) /\
   (∀(i:Nat) (x:ty.den) (j:Nat) (d:D),xs[i]?=some x->(ty.cells x)[j]?=some d->OwD w d (vs i j) (fps i j)) /\
   (∀i j c,fps i j c->fp c/\c≠b)/\(∀i j i' j' c,fps i j c->fps i' j' c->i=i'/\j=j'):=by
 unfold OwD at h;generalize a:D.list ty xs=dd at h;generalize e:Value.slice (some ⟨b,0,none⟩) len cap=vv at h;cases h with
 | int=>cases a
 | bool=>cases a
 | str=>cases a
 | nil t'=>cases e
 | ro _ _ _ l=>cases l
 | list t' xs' b' cap' arr E vs fps _ m hcap hmax f g n o k hdis=>
  cases a
  cases e
  exact⟨arr,E,vs,fps,rfl,m,hcap,hmax,f,g,n,o,k,hdis⟩
theorem OwD.slice{w:World}{ty:Ty}{xs:List ty.den}{v:Value}{fp:Nat->Prop}(h:OwD w (.list ty xs) v fp):aeo v=true:=by
 unfold OwD at h;generalize a:D.list ty xs=dd at h;cases h with
 | int=>cases a
 | bool=>cases a
 | str=>cases a
 | nil t'=>rfl
 | ro _ _ _ b=>cases b
 | list=>rfl
theorem OwD.scalar{w:World}{d:D}{v:Value}{fp:Nat->Prop}(h:OwD w d v fp)(a:lZ d=none):aeo v=false:=by
 unfold OwD at h;cases h with
 | int=>rfl
 | bool=>rfl
 | str=>rfl
 | nil t'=>cases a
 | ro _ _ _ a=>cases a
 | list=>cases a
theorem OwD.turn{w w':World}{ty:Ty}{xs:List ty.den}{b cap:Nat}{fp:Nat->Prop}{arr arr':Array Value}{E:TypeId}{vs vs':Nat->Nat->Value}{fps:Nat->Nat->Nat->Prop}
  (hcap:xs.length<=cap) (hmax:cap<=maxLen) (s:arr.size=cap*ty.size) (t:fp b)
  (F:∀(i:Nat) (x:ty.den) (j:Nat) (d:D),xs[i]?=some x->(ty.cells x)[j]?=some d->arr[i*ty.size+j]?=some (vs i j))
  (G:∀(i:Nat) (x:ty.den) (j:Nat) (d:D),xs[i]?=some x->(ty.cells x)[j]?=some d->OwD w d (vs i j) (fps i j))
  (H:∀i j c,fps i j c->fp c/\c≠b) (hdis:∀i j i' j' c,fps i j c->fps i' j' c->i=i'/\j=j')
  (u:w'.heap[b]?=some (.cells arr' E (0,0))) (n:arr'.size=arr.size) {i off:Nat} {y y':ty.den} {d':D} (C:xs[i]?=some y) (v:ty.cells y'=dS (ty.cells y) off [d']) (hoff:off<ty.size)
  (hsame:∀i' j',¬(i'=i/\j'=off)->vs' i' j'=vs i' j') (harr:∀i' j',j'<ty.size->¬(i'=i/\j'=off)->arr'[i'*ty.size+j']?=arr[i'*ty.size+j']?)
  (harr0:arr'[i*ty.size+off]?=some (vs' i off)) (hnew:OwD w' d' (vs' i off) (fps i off)) (hrows:∀i' j' c,¬(i'=i/\j'=off)->fps i' j' c->w'.heap[c]?=w.heap[c]?) :
  OwD w' (.list ty (xs.set i y')) (.slice (some ⟨b,0,none⟩) xs.length cap) fp:=by
 have A:i<xs.length:=(zC.1 C).1;have o:∀z:ty.den,(ty.cells z).length=ty.size:=fun z=>Ty.bn ty z
 have old:∀(i':Nat) (x:ty.den) (j':Nat) (d:D),(xs.set i y')[i']?=some x->(ty.cells x)[j']?=some d->j'<ty.size/\((i'=i/\j'=off/\d=d')\/(¬(i'=i/\j'=off)/\∃m,xs[i']?=some m/\(ty.cells m)[j']?=some d)):=by
  intro i' x j' d f a;have r:j'<ty.size:=by have:=(zC.1 a).1;rwa [o]at this
  refine⟨r,?_⟩;rw[List.getElem?_set]at f;by_cases g:i=i'
  ·subst g;rw[if_pos rfl,if_pos A]at f;cases f
   rw[v,Yr (by rw[o];simp;omega)]at a;by_cases p:j'=off
   ·subst p;rw[if_pos ⟨az _,by simp⟩]at a;simp at a;exact .inl ⟨rfl,rfl,a.symm⟩
   ·rw[if_neg (by simp;omega)]at a;exact .inr ⟨fun e=>p e.2,y,C,a⟩
  ·rw[if_neg g]at f;exact .inr ⟨fun e=>g e.1.symm,x,f,a⟩
 have e:xs.length=(xs.set i y').length:=by simp
 rw[e];refine Ow.list ty (xs.set i y') b cap arr' E vs' fps fp u (by simpa using hcap) hmax (n.trans s) t (fun i' x j' d f a=>?_) (fun i' x j' d f a=>?_) H hdis
 ·obtain⟨r,h | ⟨q,m,k,l⟩⟩:=old i' x j' d f a
  ·obtain⟨rfl,rfl,_⟩:=h;exact harr0
  ·rw[harr i' j' r q,hsame i' j' q];exact F i' m j' d k l
 ·obtain⟨r,h | ⟨q,m,k,l⟩⟩:=old i' x j' d f a
  ·obtain⟨rfl,rfl,rfl⟩:=h;exact hnew
  ·rw[hsame i' j' q];exact Ow.move (G i' m j' d k l) (fun _ _ hh=>hh.elim) fun c B=>hrows i' j' c q B
section sound
variable {P:Program} {w0:World} {agg:Bool} {g:Gm} {M:Ms} {a:Act} {w:World} {o:Oper} {K:Act->World->Prop} {Q:Exit->Act->World->Prop} {E:Env}
theorem O9.grow(h:O9 w0 agg g M a w){w':World}(hbel:Below w.heap.size w w'):O9 w0 agg g M a w':=by
 have j:∀c,g.F c->c<w.heap.size:=fun c ⟨i,k⟩=>aE (h.lt i c k) h.off.size
 refine h.turn (ds':=M.ds) (.aaC hbel (az _)) (h.tree.imp fun i d v l=>Ow.move l (fun _ _ hh=>hh.elim) fun b e=>hbel.block b (j b ⟨i,e⟩)) fun _ b len cap m oo x _ f=>?_
 have e:b<w.heap.size:=by
  unfold World.cell? at f;cases hh:w.heap[b]? with
  | none=>simp[hh]at f
  | some _=>exact (aR.1 hh).1
 rw[World.cell?_of_block (w:=w) (hbel.block b e)];exact f
end sound
end Go.Abs
namespace Go.Abs
open Go.RowKit
section sound
variable {P:Program} {w0:World} {agg:Bool} {g:Gm} {M:Ms} {a:Act} {w:World} {o:Oper} {K:Act->World->Prop} {Q:Exit->Act->World->Prop} {E:Env}
end sound
end Go.Abs
namespace Go.Abs
open Go.RowKit
section sound
variable {P:Program} {w0:World} {agg:Bool} {g:Gm} {M:Ms} {a:Act} {w:World} {o:Oper} {K:Act->World->Prop} {Q:Exit->Act->World->Prop} {E:Env}
end sound
end Go.Abs
/- Environments, one contract after the other. -/
namespace Go.Abs
theorem iM.nil{P:Program}{tt:TT}{tr:Bool}(h:tt.ok P=true):iM P { tt:=tt,fs:=[],ms:=[],trees:=tr }:=⟨h,fun s a=>(by cases a),fun s a=>(by cases a),fun s a=>(by cases a),fun s a=>(by cases a),fun s a=>(by cases a),fun s a=>(by cases a),fun s a=>(by cases a)⟩
theorem iM.cons{P:Program}{tt:TT}{tr:Bool}{s:Fsp}{r bs ns ss:List Fsp}{ms:List Msp}(h:callable P s.fid=true)(c:Sound P s)(a:iM P { tt:=tt,fs:=r,ms:=ms,trees:=tr,bs:=bs,ns:=ns,ss:=ss }):iM P { tt:=tt,fs:=s::r,ms:=ms,trees:=tr,bs:=bs,ns:=ns,ss:=ss }:=
 ⟨a.1,fun x b=>(by
  rcases bc.1 b with rfl | b
  ·exact⟨h,c⟩
  ·exact a.2.1 x b),a.2.2⟩
theorem Ew.fuel{P:Program}{fid:Nat}{sh:Sh}{G:Nat->sh.t.den->Int->Option (sh.t.den×Int)}{f:sh.t.den->Int->Option (sh.t.den×Int)}(h:∀k,Ew P ⟨fid,sh,G k⟩)(sz:sh.t.den->Nat)(a:∀x n,f x n=G (sz x) x n):Ew P ⟨fid,sh,f⟩:=
 fun w u x n r fps b=>h (sz x) w u x n r fps ((a x n).symm.trans b)
theorem iM.sorts{P:Program}{E:Env}(l:List Srt)(a:∀s,s∈l->callable P s.fid=true/\GR P s/\∃d,P.underlying s.T=some d/\∀ms,d≠.interface ms)(h:iM P E):iM P { E with so:=l }:=
 ⟨h.1,h.2.1,h.2.2.1,h.2.2.2.1,h.2.2.2.2.1,h.2.2.2.2.2.1,a,h.2.2.2.2.2.2.2⟩
theorem iM.ins{P:Program}{E:Env}(l:List Isp)(a:∀s,s∈l->callable P s.fid=true/\I9 P s)(h:iM P E):iM P { E with is:=l }:=
 ⟨h.1,h.2.1,h.2.2.1,h.2.2.2.1,h.2.2.2.2.1,h.2.2.2.2.2.1,h.2.2.2.2.2.2.1,a⟩
theorem iM.abQ{P:Program}{E:Env}(l:List Nat)(h:iM P E):iM P { E with abQ:=l }:=h
theorem iM.cuts{P:Program}{E:Env}(l:List (Nat×Nat×Nat×Nat×Nat))(h:iM P E):iM P { E with cuts:=l }:=h
theorem iM.pre{P:Program}{E:Env}(l:List (Nat×List (Nat×Nat)))(h:iM P E):iM P { E with pre:=l }:=h
end Go.Abs
namespace Go.Proofs.YtkebfkahdmddpaaGreatDoor
noncomputable section
open Go.Abs Go.Proofs
set_option maxRecDepth 100000 in
theorem acZ:tt.ok Tryz.prog=true:=by kernel_rfl
theorem qB:Tryz.prog.follows .mixedOrders=true:=by kernel_rfl
abbrev Ek:Type _:={ E:Env // iM Tryz.prog E }
namespace Ek
theorem NM{α:Type _}{p:α->Prop}{l:List α}{x:α}(h:p x)(b:∀s,s∈l->p s):∀s,s∈x::l->p s:=fun s a=>by
 rcases bc.1 a with rfl | a
 ·exact h
 ·exact b s a
def f(k:Ek){s:Fsp}(h:Sound Tryz.prog s)(a:callable Tryz.prog s.fid=true:=by kernel_rfl):Ek:=⟨{ k.1 with fs:=s::k.1.fs },k.2.1,NM ⟨a,h⟩ k.2.2.1,k.2.2.2⟩
def m(k:Ek){s:Msp}(h:Ew Tryz.prog s)(a:callable Tryz.prog s.fid=true:=by kernel_rfl):Ek:=⟨{ k.1 with ms:=s::k.1.ms },k.2.1,k.2.2.1,NM ⟨a,h⟩ k.2.2.2.1,k.2.2.2.2⟩
def b(k:Ek){s:Fsp}(h:fF Tryz.prog s)(a:callable Tryz.prog s.fid=true:=by kernel_rfl):Ek:=⟨{ k.1 with bs:=s::k.1.bs },k.2.1,k.2.2.1,k.2.2.2.1,NM ⟨a,h⟩ k.2.2.2.2.1,k.2.2.2.2.2⟩
def n(k:Ek){s:Fsp}(h:O8 Tryz.prog s)(a:callable Tryz.prog s.fid=true:=by kernel_rfl):Ek:=⟨{ k.1 with ns:=s::k.1.ns },k.2.1,k.2.2.1,k.2.2.2.1,k.2.2.2.2.1,NM ⟨a,h⟩ k.2.2.2.2.2.1,k.2.2.2.2.2.2⟩
def s(k:Ek){s:Fsp}(h:O6 Tryz.prog s)(a:callable Tryz.prog s.fid=true:=by kernel_rfl):Ek:=⟨{ k.1 with ss:=s::k.1.ss },k.2.1,k.2.2.1,k.2.2.2.1,k.2.2.2.2.1,k.2.2.2.2.2.1,NM ⟨a,h⟩ k.2.2.2.2.2.2.1,k.2.2.2.2.2.2.2⟩
def tr(k:Ek):Ek:=⟨{ k.1 with trees:=true },k.2⟩
def so(k:Ek)(l:List Srt)(a:∀s,s∈l->callable Tryz.prog s.fid=true/\GR Tryz.prog s/\∃d,Tryz.prog.underlying s.T=some d/\∀ms,d≠.interface ms):Ek:=⟨{ k.1 with so:=l },iM.sorts l a k.2⟩
def ins(k:Ek)(l:List Isp)(a:∀s,s∈l->callable Tryz.prog s.fid=true/\I9 Tryz.prog s):Ek:=⟨{ k.1 with is:=l },iM.ins l a k.2⟩
def abQ(k:Ek)(l:List Nat):Ek:=⟨{ k.1 with abQ:=l },k.2⟩
def cuts(k:Ek)(l:List (Nat×Nat×Nat×Nat×Nat)):Ek:=⟨{ k.1 with cuts:=l },k.2⟩
def pre(k:Ek)(l:List (Nat×List (Nat×Nat))):Ek:=⟨{ k.1 with pre:=l },k.2⟩
end Ek
def kk0:Ek:=⟨{ tt:=tt,fs:=[] },.nil acZ⟩
theorem snd(k:Ek)(an:List (Nat×LA)){s:Fsp}(fn:Func)(a:Tryz.prog.funcs[s.fid]?=some fn:=by kernel_rfl)(b:∀x,ZO k.1 an fn s.ps s.rs s.ex x=s.fn x:=by (intro x;kernel_rfl)):Sound Tryz.prog s:=xw k.2 qB an a b
theorem bnd(k:Ek)(an:List (Nat×LA)){s:Fsp}(fn:Func)(a:Tryz.prog.funcs[s.fid]?=some fn:=by kernel_rfl)(b:∀x,aiO k.1 an fn s.ps s.rs s.ex s.sh x=s.fn x:=by (intro x;kernel_rfl)):fF Tryz.prog s:=QK k.2 qB an a b
theorem nnd(k:Ek)(an:List (Nat×LA)){s:Fsp}(fn:Func)(a:Tryz.prog.funcs[s.fid]?=some fn:=by kernel_rfl)(b:∀x,aiN k.1 an fn s.ps s.rs x=s.fn x:=by (intro x;kernel_rfl)):O8 Tryz.prog s:=Qa k.2 qB an a b
theorem ssd(k:Ek)(an:List (Nat×LA)){s:Fsp}(fn:Func)(a:Tryz.prog.funcs[s.fid]?=some fn:=by kernel_rfl)(b:∀x,aiM k.1 an fn s.ps s.rs x=s.fn x:=by (intro x;kernel_rfl)):O6 Tryz.prog s:=Pg k.2 qB an a b
abbrev roI:Sr:=.ro (.base .int)
abbrev roS:Sr:=.ro (.base .str)
abbrev roE(b:Base):Sr:=.ro (.base b)
abbrev roL(b:Base):Sr:=.ro (.list (.base b))
abbrev owE(b:Base)(k:Nat):Sr:=.own (.base b) true true k
abbrev _root_.Go.Abs.LA.c(n:Nat)(its:List It)(boxes:List (Nat×Nat))(ptrs:List (Nat×Nat×Nat)):LA:={ n:=n,its:=its,boxes:=boxes,ptrs:=ptrs }
end
end Go.Proofs.YtkebfkahdmddpaaGreatDoor
/- The frame of every law's proof: closed facts of this translation. -/
namespace Go.Proofs.YtkebfkahdmddpaaGreatDoor
open Go.Abs Go.Proofs Go.RowKit
theorem ku:wP Tryz.prog tt=true:=by kernel_rfl
theorem ait:ownKnob Tryz.prog.godebug=none:=by kernel_rfl
theorem aaJ:laidOutB Tryz.prog=true:=by kernel_rfl
end Go.Proofs.YtkebfkahdmddpaaGreatDoor
