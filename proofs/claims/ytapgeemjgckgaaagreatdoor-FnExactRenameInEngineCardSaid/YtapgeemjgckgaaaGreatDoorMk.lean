import Derived.Test.YtapgeemjgckgaaaGreatDoorS4
import Derived.Test.YtapgeemjgckgaaaGreatDoorModels
import Derived.KernelRfl
import Derived.Test.YtapgeemjgckgaaaGreatDoorLink1
import Derived.Test.YtapgeemjgckgaaaGreatDoorRows
set_option linter.unusedSimpArgs false
set_option linter.unusedVariables false
/- Functions that write into the lists that they are given. -/
namespace Go.Abs
open Go.RowKit
inductive Rf where
 | tree
 | box (off:Nat)
 | sub (off n:Nat) (agg:Bool)
 | elt (i sz off:Nat)
 | inner (i sz off:Nat)
structure Ms where
 S:St
 R:List (Option Rf)
 ds:List D
def Ms.UQ(M:Ms)(i:Nat):Option Rf:=M.R.getD i none
def Ms.rf(M:Ms):Operand->Option Rf
 | .tmp t=>M.UQ t
 | _=>none
def Ms.put(M:Ms)(d:Option Nat)(av:AV):Ms:=match d with
 | none=>M
 | some d=>{ M with S:=M.S.iR d av,R:=M.R.set d none }
def Ms.xR(M:Ms)(d:Option Nat)(r:Rf):Ms:=match d with
 | none=>M
 | some d=>{ M with S:=M.S.iR d .undef,R:=M.R.set d (some r) }
def Ms.list(M:Ms):Option ((t:Ty)×List t.den):=match M.ds with
 | [.list t xs]=>some ⟨t,xs⟩
 | _=>none
def abz{ρ:Type}(E:Env)(o:Oper)(M:Ms)(k:Ms->Option ρ):Option ρ:=
 (eff E o).runK M.S fun ws=>match ws with
  | [.t d v]=>if o.dst=some d then k (M.put o.dst v)else none
  | []=>if o.dst=none then k M else none
  | _=>none
def Ld{ρ:Type}(E:Env)(agg:Bool)(o:Oper)(M:Ms)(k:Ms->Option ρ):Option ρ:=
 match o.op with
 | .move x | .assign x=>match M.rf x with
  | some r=>k (M.xR o.dst r)
  | none=>abz E o M k
 | .box _ x=>match M.rf x with
  | some .tree=>if agg then k (M.xR o.dst (.box 0))else none
  | _=>none
 | .fieldAddr s p f=>match (lk E.tt.fields s).bind (·[f]?)with
  | none=>none
  | some (fo,_,_)=>match M.rf p with
   | some (.box off)=>k (M.xR o.dst (.box (off+fo)))
   | some (.elt i sz off)=>k (M.xR o.dst (.elt i sz (off+fo)))
   | _=>none
 | .load t p=>match lk E.tt.shape t with
  | none=>none
  | some (agg',n)=>match M.rf p with
   | some (.box off)=>if off+n<=M.ds.length/\(agg'=true\/n=1)then k (M.xR o.dst (.sub off n agg'))else none
   | some (.elt i sz off)=>match agg',n,M.ds with
    | false,1,[.list ty xs]=>if ty.size=sz then (xs[i]?).bind fun x=>match (ty.cells x)[off]? with
      | some (.list _ _)=>k (M.xR o.dst (.inner i sz off))
      | _=>none
     else none
    | _,_,_=>none
   | _=>none
 | .indexAddr T x i=>match lk E.tt.elem T,M.rf x,M.ds with
  | some t,some .tree,[.list ty xs]=>if agg=false/\t=ty then ((dR i).bind Jr).runK M.S fun n=>(idx xs n).bind fun _=>k (M.xR o.dst (.elt n.toNat ty.size 0))else none
  | _,_,_=>none
 | .store t p x=>match lk E.tt.shape t,M.rf p,M.ds with
  | some (false,1),some (.elt i sz off),[.list ty xs]=>if ty.size=sz/\off<ty.size then ((dR x).bind avD).runK M.S fun d=>(xs[i]?).bind fun y=>
    match (ty.cells y)[off]?,kU d with
    | some a,none=>if (kU a).isNone then (ty.fC (dw (ty.cells y) off [d])).bind fun y'=>k { M.put o.dst (.tup [])with ds:=[.list ty (xs.set i y')] } else none
    | _,_=>none
   else none
  | _,_,_=>none
 | .call c=>match c.callee with
  | .builtin .len=>match c.args.toList,c.argTypes.toList with
   | [x],[T]=>match M.rf x with
    | some .tree=>match M.ds,lk E.tt.elem T with
     | [.list _ xs],some _=>if agg=false then k (M.put o.dst (.v (.one (.d (.int .i64 xs.length)))))else none
     | _,_=>none
    | _=>abz E o M k
   | _,_=>none
  | .value (.func f)=>match E.ms.find? (fun m=>m.fid==f)with
   | some m=>match c.args.toList with
    | [x,y]=>((dR y).bind avD).runK M.S fun
     | .int .i64 n=>match M.rf x with
      | some (.sub off cnt agg')=>if agg=true/\m.sh.agg=agg'/\m.sh.t.size=cnt/\off+cnt<=M.ds.length then
        (m.sh.t.fC (seg M.ds off cnt)).bind fun z=>(m.fn z n).bind fun r=>k { M.put o.dst (.v (.one (.d (.int .i64 r.2))))with ds:=dw M.ds off (m.sh.t.cells r.1) }
       else none
      | some (.inner i sz off)=>match M.ds with
       | [.list ty xs]=>if ty.size=sz/\m.sh.agg=false/\m.sh.t.size=1/\off<ty.size then (xs[i]?).bind fun y=>
         (m.sh.t.fC (seg (ty.cells y) off 1)).bind fun z=>(m.fn z n).bind fun r=>
          (ty.fC (dw (ty.cells y) off (m.sh.t.cells r.1))).bind fun y'=>k { M.put o.dst (.v (.one (.d (.int .i64 r.2))))with ds:=[.list ty (xs.set i y')] }
        else none
       | _=>none
      | _=>none
     | _=>none
    | _=>none
   | none=>abz E o M k
  | _=>abz E o M k
 | _=>abz E o M k
def akO{ρ:Type}(E:Env)(agg:Bool):List Oper->Ms->(Ms->Option ρ)->Option ρ
 | [],M,k=>k M
 | o::r,M,k=>match o.guard with
  | none=>Ld E agg o M fun M=>akO E agg r M k
  | some _=>none
structure LM where
 n:Nat
 ty:Ty
 si:Nat
 sk:Nat
def afa(M:Ms)(i:Nat):Option Int:=match M.S.gZ i with
 | .v (.one (.d (.int .i64 n)))=>some n
 | _=>none
def Rf.ajm:Option Rf->Bool
 | some .tree=>true
 | _=>false
def LM.get(la:LM)(M:Ms):Option (List la.ty.den×Int×Int):=
 if M.S.tmps.length=la.n/\Rf.ajm (M.UQ 0)=true/\la.si≠0/\la.sk≠0/\la.si≠la.sk then
  match M.ds with
  | [.list ty xs]=>if h:ty=la.ty then match afa M la.si,afa M la.sk with
   | some i,some k=>some (h▸xs,i,k)
   | _,_=>none
   else none
  | _=>none
 else none
def LM.put(la:LM)(x:List la.ty.den×Int×Int):Ms:=
 { S:={ tmps:=((List.replicate la.n AV.undef).set la.si (.v (.one (.d (.int .i64 x.2.1))))).set la.sk (.v (.one (.d (.int .i64 x.2.2)))),boxes:=List.replicate la.n none,owns:=List.replicate la.n [] },R:=(List.replicate la.n none).set 0 (some .tree),ds:=[.list la.ty x.1] }
noncomputable def UZ(E:Env)(agg:Bool)(an:List (Nat×LM)):Code->{ρ:Type}->Ms->(Ex->Ms->Option ρ)->Option ρ
 | .skip,_,M,k=>k .normal M
 | .label _,_,M,k=>k .normal M
 | .region _ ops false,_,M,k=>akO E agg ops.toList M fun M=>k .normal M
 | .seq a b,_,M,k=>UZ E agg an a M fun e M=>match e with
  | .normal=>UZ E agg an b M k
  | e=>k e M
 | .cond c a b,_,M,k=>match c with
  | .tmp t=>match M.S.gZ t with
   | .v (.one (.d (.bool x)))=>cond x (UZ E agg an a M k) (UZ E agg an b M k)
   | _=>none
  | _=>none
 | .block id c,_,M,k=>UZ E agg an c M fun e M=>match e with
  | .exit i=>if i=id then k .normal M else k (.exit i) M
  | e=>k e M
 | .loop c,_,M,k=>if agg then none else match (mW c).bind (lk an)with
  | none=>none
  | some la=>(la.get M).bind fun f=>ak (fun x=>UZ E agg an c (la.put x) fun e M=>match e with
    | .normal=>(la.get M).bind fun y=>some (.inl y)
    | e=>(k e M).bind fun r=>some (.inr r)) f
 | .exit id,_,M,k=>k (.exit id) M
 | .ret,_,M,k=>k .ret M
 | _,_,_,_=>none
def aoM(fn:Func)(sh:Sh)(M:Ms):Option (sh.t.den×Int):=match fn.results.toList with
 | [.tmp t]=>match M.S.gZ t with
  | .v (.one (.d (.int .i64 n)))=>(sh.t.fC M.ds).bind fun y=>some (y,n)
  | _=>none
 | _=>none
noncomputable def ajV(E:Env)(an:List (Nat×LM))(fn:Func)(sh:Sh)(x:sh.t.den)(n:Int):Option (sh.t.den×Int):=
 match fn.body with
 | none=>none
 | some c=>UZ E sh.agg an c
  { S:={ tmps:=.undef :: .v (.one (.d (.int .i64 n)))::List.replicate (fn.ntmps-2) .undef,boxes:=List.replicate (2+(fn.ntmps-2)) none,owns:=List.replicate (2+(fn.ntmps-2)) [] },R:=some .tree::List.replicate (1+(fn.ntmps-2)) none,ds:=sh.t.cells x } fun e M=>match e with
  | .exit _=>none
  | _=>aoM fn sh M
section
variable {P:Program} {o:Oper} {a:Act} {w:World} {K:Act->World->Prop} {Q:Exit->Act->World->Prop}
theorem aoq(h:o.wp P a w K Q):o.wp P a w (fun a' w'=>K a' w'/\∃v,a'.tmps=(a.put o.dst v).tmps) Q:=by
 unfold Oper.wp at *;generalize (execOp a.eval o).run P w=r at *;cases r with
 | ok n w'=>
  cases n<;>simp only[Oper.upon]at h ⊢<;>
   first
    | exact⟨h,_,rfl⟩
    | exact⟨h,undef,by unfold Act.put;split<;>rfl⟩
    | exact Calls.mono h (fun e w'' b=>by cases e<;>first | exact⟨b,_,rfl⟩ | exact b)
    | exact Rows.mono h (fun _ _ b=>⟨b,_,rfl⟩)
 | halt x w'=>cases x<;>simp only[Oper.upon]at h ⊢<;>exact h
end
def gK(K:Nat->Nat->Prop):Gh:={ bk:=fun _=>0,ov:=fun _ _=>undef,ow:=fun _=>none,S:=K,lk:=fun _=>False,lb:=fun _=>False }
theorem Inv.aiC{l:Bs}{G:Gh}{S:St}{a:Act}{w:World}(h:Inv l G S a w)(no:∀k,S.aJ k=[]/\S.fP k=none){w':World}{K':Nat->Nat->Prop}(m:∀b o,G.S b o->K' b o/\w'.cell? ⟨b,o,none⟩=w.cell? ⟨b,o,none⟩)
  (d:∀b o,K' b o->b<w'.heap.size):Inv ⟨w',K',fun _=>False,none⟩ (gK K') S a w':=by
 have n:Mv G (gK K') w w':=⟨m,fun k f=>absurd (no k).1 (h.lk k f),fun i hi=>absurd (no i).2 (h.lb i hi)⟩;refine⟨pR.refl _ _ _,h.nodef,h.tsz,h.bsz,h.osz,fun i v hv=>(h.tmps i v hv).move n,fun b x p=>(by cases p),fun b o g=>⟨d b o g,fun i e=>(by cases e)⟩,fun i cs c=>?_,fun k j=>?_,fun k f=>f.elim,fun i hi=>hi.elim,fun b o g _=>g,fun b q=>by cases q⟩
 ·rw[(no i).2]at c;cases c
 ·rw[(no k).1];trivial
structure Gm where
 u:Value
 vs:List Value
 fps:Nat->Nat->Prop
def Gm.F(g:Gm)(c:Nat):Prop:=∃i,g.fps i c
def Kw(g:Gm)(w:World)(b _:Nat):Prop:=b<w.heap.size/\¬g.F b
def ajn:Value->Bool
 | .slice _ _ _=>true
 | _=>false
def aer(g:Gm)(agg:Bool)(w:World):Rf->Value->Prop
 | .tree,v=>v=g.u
 | .box off,v=>∃bb,v=.pointer (some ⟨bb,off,none⟩)/\¬g.F bb/\bb<w.heap.size/\∀j x,g.vs[j]?=some x->w.cell? ⟨bb,j,none⟩=some x
 | .sub off n ag,v=>(ag=true->v=.agg (seg g.vs off n).toArray)/\(ag=false->seg g.vs off n=[v])
 | .elt i sz off,v=>agg=false/\∃b len cap,g.u=.slice (some ⟨b,0,none⟩) len cap/\v=.pointer (some ⟨b,i*sz+off,none⟩)
 | .inner i sz off,v=>agg=false/\ajn v=true/\∃b len cap,g.u=.slice (some ⟨b,0,none⟩) len cap/\w.cell? ⟨b,i*sz+off,none⟩=some v
def OwD(w:World)(d:D)(v:Value)(fp:Nat->Prop):Prop:=Ow w (fun _ _=>False) true d v fp
structure jd(w0:World)(agg:Bool)(g:Gm)(M:Ms)(a:Act)(w:World):Prop where
 off:Off g.F w0 w
 inv:Inv ⟨w,Kw g w,fun _=>False,none⟩ (gK (Kw g w)) M.S a w
 no:∀k,M.S.aJ k=[]/\M.S.fP k=none
 rsz:M.R.length=M.S.tmps.length
 tree:aW (fun i d v=>OwD w d v (g.fps i)) 0 M.ds g.vs
 uv:(agg=true->g.u=.agg g.vs.toArray)/\(agg=false->g.vs=[g.u])
 refs:∀i r v,M.UQ i=some r->a.tmps[i]?=some v->aer g agg w r v
 lt:∀i c,g.fps i c->c<w0.heap.size
 am:amb w0/\∀i c,g.fps i c->pO<=c
 dis:∀i i' c,g.fps i c->g.fps i' c->i=i'
theorem pR.step{F:Nat->Prop}{a b c:World}(h:Off F a b)(k:Off F b c):Off F a c:=
 ⟨k.os.trans h.os,k.tape.trans h.tape,k.output.trans h.output,Nat.le_trans h.size k.size,fun i hi d=>(k.block i (aD hi h.size) d).trans (h.block i hi d)⟩
theorem pR.mono{F F':Nat->Prop}{w w':World}(h:Off F w w')(a:∀c,F c->F' c):Off F' w w':=⟨h.os,h.tape,h.output,h.size,fun k b d=>h.block k b fun e=>d (a k e)⟩
section sound
variable {P:Program} {w0:World} {agg:Bool} {g:Gm} {M:Ms} {a:Act} {w:World} {o:Oper} {K:Act->World->Prop} {Q:Exit->Act->World->Prop} {E:Env}
theorem aer.move{w':World}{r:Rf}{v:Value}(h:aer g agg w r v)(k:w.heap.size<=w'.heap.size)(l:∀c,c<w.heap.size->¬g.F c->w'.heap[c]?=w.heap[c]?)
  (m:agg=false->∀b len cap,g.u=.slice (some ⟨b,0,none⟩) len cap->∀o u,ajn u=true->w.cell? ⟨b,o,none⟩=some u->w'.cell? ⟨b,o,none⟩=some u):aer g agg w' r v:=by
 cases r with
 | tree=>exact h
 | box off=>
  obtain⟨bb,d,a,e,f⟩:=h;exact⟨bb,d,a,by omega,fun j x p=>(World.cell?_of_block (w:=w) (l bb e a)).trans (f j x p)⟩
 | sub off n ag=>exact h
 | elt i sz off=>exact h
 | inner i sz off=>
  obtain⟨d,a,b,len,cap,e,f⟩:=h;exact⟨d,a,b,len,cap,e,m d b len cap e _ _ a f⟩
theorem Ry(R:List (Option Rf))(S S':St)(ds ds':List D)(d:Nat)(x:Option Rf)(i:Nat):Ms.UQ { S:=S,R:=R.set d x,ds:=ds } i=if d=i/\d<R.length then x else Ms.UQ { S:=S',R:=R,ds:=ds' } i:=by
 simp only[Ms.UQ,zE,List.getElem?_set];by_cases h:d=i
 ·subst h;by_cases a:d<R.length<;>simp[a]
 ·simp[h]
theorem jd.put(h:jd w0 agg g M a w){d:Option Nat}{av:AV}{v:Value}(hv:jc (gK (Kw g w)) w av v):jd w0 agg g (M.put d av) (a.put d v) w:=by
 cases d with
 | none=>exact h
 | some d=>
  refine⟨h.off,h.inv.iR d hv,h.no,by simp[Ms.put,St.iR,h.rsz],h.tree,h.uv,fun i r u c b=>?_,h.lt,h.am,h.dis⟩;simp only[Ms.put]at c;rw[Ry (S':=M.S) (ds':=M.ds)]at c;split at c
  ·cases c
  ·rename_i hd;simp only[Act.put,Array.getElem?_setIfInBounds]at b;by_cases e:d=i
   ·subst e;have:¬d<M.R.length:=fun f=>hd ⟨rfl,f⟩
    simp only[if_true]at b;rw[h.rsz,<- h.inv.tsz]at this;rw[if_neg this]at b;cases b
   ·rw[if_neg e]at b;exact h.refs i r u c b
theorem jd.xR(h:jd w0 agg g M a w){d:Option Nat}{rr:Rf}{v:Value}(hv:aer g agg w rr v):jd w0 agg g (M.xR d rr) (a.put d v) w:=by
 cases d with
 | none=>exact h
 | some d=>
  refine⟨h.off,h.inv.iR d (av:=.undef) trivial,h.no,by simp[Ms.xR,St.iR,h.rsz],h.tree,h.uv,fun i r u c b=>?_,h.lt,h.am,h.dis⟩;simp only[Ms.xR]at c;rw[Ry (S':=M.S) (ds':=M.ds)]at c;simp only[Act.put,Array.getElem?_setIfInBounds]at b;split at c
  ·rename_i hd;cases c
   obtain⟨rfl,f⟩:=hd;rw[h.rsz,<- h.inv.tsz]at f;simp only[if_true,f]at b;cases b
   exact hv
  ·rename_i hd;by_cases e:d=i
   ·subst e;have:¬d<M.R.length:=fun f=>hd ⟨rfl,f⟩
    simp only[if_true]at b;rw[h.rsz,<- h.inv.tsz]at this;rw[if_neg this]at b;cases b
   ·rw[if_neg e]at b;exact h.refs i r u c b
theorem jd.turn(h:jd w0 agg g M a w){w':World}{ds':List D}(hoff:Off g.F w w')(f:aW (fun i d v=>OwD w' d v (g.fps i)) 0 ds' g.vs)
  (j:agg=false->∀b len cap,g.u=.slice (some ⟨b,0,none⟩) len cap->∀o u,ajn u=true->w.cell? ⟨b,o,none⟩=some u->w'.cell? ⟨b,o,none⟩=some u):jd w0 agg g { M with ds:=ds' } a w':=by
 refine⟨h.off.step hoff,h.inv.aiC h.no (fun b oo e=>⟨⟨aD e.1 hoff.size,e.2⟩,World.cell?_of_block (w:=w) (hoff.block b e.1 e.2)⟩) fun b oo e=>e.1,h.no,h.rsz,f,h.uv,fun i r v k hv=>?_,h.lt,h.am,h.dis⟩;exact (h.refs i r v k hv).move hoff.size (fun c l m=>hoff.block c l m) j
theorem jd.amb(h:jd w0 agg g M a w):amb w:=
 h.am.1.keep h.off.size fun k b=>h.off.block k (aD b h.am.1.size) fun⟨i,c⟩=>by have:=h.am.2 i k c;omega
theorem uY{ρ:Type}{r:ρ}(G:gq P E)(h:jd w0 agg g M a w){k:Ms->Option ρ}(hv:abz E o M k=some r)
  (A:∀M' a' w',k M'=some r->jd w0 agg g M' a' w'->K a' w'):o.wp P a w K Q:=by
 unfold abz at hv;rw[Rd.jH,zB]at hv;obtain⟨ws,H,f⟩:=hv;have key:∀a' w' G',Inv ⟨w,Kw g w,fun _=>False,none⟩ G' (M.S.puts ws) a' w'->(∃v,a'.tmps=(a.put o.dst v).tmps)->K a' w':=by
  intro a' w' G' l hput;obtain⟨u,q⟩:=hput;have hbel:=l.below.NU fun _ s=>s
  have B:∀c,g.F c->c<w.heap.size:=fun c ⟨i,t⟩=>aD (h.lt i c t) h.off.size
  have I:∀b oo,G'.S b oo->Kw g w' b oo/\w'.cell? ⟨b,oo,none⟩=w'.cell? ⟨b,oo,none⟩:=fun b oo C=>by
   refine⟨⟨(l.sok b oo C).1,fun s=>?_⟩,rfl⟩;exact (l.sfr b oo C (B b s)).2 s
  have no':∀k,(M.S.puts ws).aJ k=[]/\(M.S.puts ws).fP k=none:=by
   split at f
   ·exact h.no
   ·exact h.no
   ·cases f
  have D:=l.aiC no' I fun b oo m=>m.1
  have htree:aW (fun i d v=>OwD w' d v (g.fps i)) 0 M.ds g.vs:=h.tree.imp fun i d v J=>Ow.move J (fun _ _ hh=>hh.elim) fun b m=>hbel.block b (B b ⟨i,m⟩)
  have n:∀i rr v,M.UQ i=some rr->a.tmps[i]?=some v->aer g agg w' rr v:=fun i rr v j hv=>
   (h.refs i rr v j hv).move hbel.size (fun c t _=>hbel.block c t) fun _ b len cap L oo x _ y=>by
    have m:b<w.heap.size:=by
     unfold World.cell? at y;cases hh:w.heap[b]? with
     | none=>simp[hh]at y
     | some _=>exact (aM.1 hh).1
    rw[World.cell?_of_block (w:=w) (hbel.block b m)];exact y
  split at f
  ·rename_i d v;split at f
   case isFalse=>cases f
   rename_i hd;rw[hd]at f q;refine A _ a' w' f ⟨h.off.step (.Ob hbel (aw _)),D,h.no,by simp[Ms.put,St.iR,h.rsz],htree,h.uv,fun i rr v' j e=>?_,h.lt,h.am,h.dis⟩;simp only[Ms.put]at j;rw[Ry (S':=M.S) (ds':=M.ds)]at j;split at j
   ·cases j
   ·rename_i z;rw[q]at e;simp only[Act.put,Array.getElem?_setIfInBounds]at e;by_cases p:d=i
    ·subst p;have:¬d<M.R.length:=fun N=>z ⟨rfl,N⟩
     simp only[if_true]at e;rw[h.rsz,<- h.inv.tsz]at this;rw[if_neg this]at e;cases e
    ·rw[if_neg p]at e;exact n i rr v' j e
  ·split at f
   case isFalse=>cases f
   rename_i hd;rw[hd]at q;exact A _ a' w' f ⟨h.off.step (.Ob hbel (aw _)),D,h.no,h.rsz,htree,h.uv,fun i rr v' j e=>n i rr v' j (by rw[q]at e;exact e),h.lt,h.am,h.dis⟩
  ·cases f
 have:=aoq (VT (K:=fun a' w'=>∃G',Inv ⟨w,Kw g w,fun _=>False,none⟩ G' (M.S.puts ws) a' w') (Q:=Q) h.inv (G.at (.none h.amb)) H fun a' w' G' l=>⟨G',l⟩);exact Oper.wp_mono (fun a' w' ⟨⟨G',l⟩,O⟩=>key a' w' G' l O) this
end sound
end Go.Abs
namespace Go.Abs
open Go.RowKit
theorem aW.mk'{R:Nat->D->Value->Prop}:∀ {n:Nat} {ds:List D} {vs:List Value},ds.length=vs.length->(∀(i:Nat) (d:D) (v:Value),ds[i]?=some d->vs[i]?=some v->R (n+i) d v)->aW R n ds vs
 | n,[],[],_,_=>trivial
 | n,d::ds,v::vs,a,h=>⟨h 0 d v rfl rfl,aW.mk' (by simpa using a) fun i d' v' hd hv=>by
   have:=h (i+1) d' v' (by simpa using hd) (by simpa using hv);rw[show n+1+i=n+(i+1) by omega];exact this⟩
theorem N8{α:Type}{cs:List α}{off n j:Nat}{x:α}(h:(seg cs off n)[j]?=some x):j<n/\cs[off+j]?=some x:=by
 simp only[seg,List.getElem?_take,List.getElem?_drop]at h;split at h
 ·rename_i a;exact⟨a,h⟩
 ·cases h
theorem WX{α:Type}{cs:List α}{off n:Nat}(h:off+n<=cs.length):(seg cs off n).length=n:=by
 simp[seg];omega
theorem FY{α:Type}{cs vs:List α}{off:Nat}(h:off+vs.length<=cs.length)(i:Nat):(dw cs off vs)[i]?=if off<=i/\i<off+vs.length then vs[i-off]? else cs[i]?:=by
 simp only[dw,List.getElem?_append,a6,a8,List.getElem?_take,List.getElem?_drop];have e:min off cs.length=off:=by omega
 rw[e];by_cases a:i<off
 ·rw[if_pos (by omega),if_pos a,if_pos a,if_neg (by omega)]
 ·by_cases b:i<off+vs.length
  ·rw[if_pos b,if_neg a,if_pos (by omega)]
  ·rw[if_neg b,if_neg (by omega)];congr 1;omega
theorem OwD.inv{w:World}{ty:Ty}{xs:List ty.den}{b len cap:Nat}{fp:Nat->Prop}(h:OwD w (.list ty xs) (.slice (some ⟨b,0,none⟩) len cap) fp) :
  ∃(arr:Array Value) (E:TypeId) (vs:Nat->Nat->Value) (fps:Nat->Nat->Nat->Prop),len=xs.length/\w.heap[b]?=some (.cells arr E (0,0))/\xs.length<=cap/\cap<=maxLen/\arr.size=cap*ty.size/\fp b /\
   (∀(i:Nat) (x:ty.den) (j:Nat) (d:D),xs[i]?=some x->(ty.cells x)[j]?=some d->arr[i*ty.size+j]?=some (vs i j)) /\
   (∀(i:Nat) (x:ty.den) (j:Nat) (d:D),xs[i]?=some x->(ty.cells x)[j]?=some d->OwD w d (vs i j) (fps i j)) /\
   (∀i j c,fps i j c->fp c/\c≠b)/\(∀i j i' j' c,fps i j c->fps i' j' c->i=i'/\j=j'):=by
 unfold OwD at h;generalize a:D.list ty xs=dd at h;generalize e:Value.slice (some ⟨b,0,none⟩) len cap=vv at h;cases h with
 | int=>cases a
 | bool=>cases a
 | str=>cases a
 | nil t'=>cases e
 | ro _ _ _ hd=>cases hd
 | list t' xs' b' cap' arr E vs fps _ l hcap hmax f g m n k hdis=>
  cases a
  cases e
  exact⟨arr,E,vs,fps,rfl,l,hcap,hmax,f,g,m,n,k,hdis⟩
theorem OwD.slice{w:World}{ty:Ty}{xs:List ty.den}{v:Value}{fp:Nat->Prop}(h:OwD w (.list ty xs) v fp):ajn v=true:=by
 unfold OwD at h;generalize a:D.list ty xs=dd at h;cases h with
 | int=>cases a
 | bool=>cases a
 | str=>cases a
 | nil t'=>rfl
 | ro _ _ _ hd=>cases hd
 | list=>rfl
theorem OwD.scalar{w:World}{d:D}{v:Value}{fp:Nat->Prop}(h:OwD w d v fp)(hd:kU d=none):ajn v=false:=by
 unfold OwD at h;cases h with
 | int=>rfl
 | bool=>rfl
 | str=>rfl
 | nil t'=>cases hd
 | ro _ _ _ hd=>cases hd
 | list=>cases hd
theorem OwD.turn{w w':World}{ty:Ty}{xs:List ty.den}{b cap:Nat}{fp:Nat->Prop}{arr arr':Array Value}{E:TypeId}{vs vs':Nat->Nat->Value}{fps:Nat->Nat->Nat->Prop}
  (hcap:xs.length<=cap) (hmax:cap<=maxLen) (r:arr.size=cap*ty.size) (s:fp b)
  (C:∀(i:Nat) (x:ty.den) (j:Nat) (d:D),xs[i]?=some x->(ty.cells x)[j]?=some d->arr[i*ty.size+j]?=some (vs i j))
  (F:∀(i:Nat) (x:ty.den) (j:Nat) (d:D),xs[i]?=some x->(ty.cells x)[j]?=some d->OwD w d (vs i j) (fps i j))
  (G:∀i j c,fps i j c->fp c/\c≠b) (hdis:∀i j i' j' c,fps i j c->fps i' j' c->i=i'/\j=j')
  (t:w'.heap[b]?=some (.cells arr' E (0,0))) (m:arr'.size=arr.size) {i off:Nat} {y y':ty.den} {d':D} (B:xs[i]?=some y) (u:ty.cells y'=dw (ty.cells y) off [d']) (hoff:off<ty.size)
  (hsame:∀i' j',¬(i'=i/\j'=off)->vs' i' j'=vs i' j') (harr:∀i' j',j'<ty.size->¬(i'=i/\j'=off)->arr'[i'*ty.size+j']?=arr[i'*ty.size+j']?)
  (harr0:arr'[i*ty.size+off]?=some (vs' i off)) (hnew:OwD w' d' (vs' i off) (fps i off)) (hrows:∀i' j' c,¬(i'=i/\j'=off)->fps i' j' c->w'.heap[c]?=w.heap[c]?) :
  OwD w' (.list ty (xs.set i y')) (.slice (some ⟨b,0,none⟩) xs.length cap) fp:=by
 have v:i<xs.length:=(zC.1 B).1;have n:∀z:ty.den,(ty.cells z).length=ty.size:=fun z=>Ty.aZ ty z
 have old:∀(i':Nat) (x:ty.den) (j':Nat) (d:D),(xs.set i y')[i']?=some x->(ty.cells x)[j']?=some d->j'<ty.size/\((i'=i/\j'=off/\d=d')\/(¬(i'=i/\j'=off)/\∃l,xs[i']?=some l/\(ty.cells l)[j']?=some d)):=by
  intro i' x j' d a hd;have q:j'<ty.size:=by have:=(zC.1 hd).1;rwa [n]at this
  refine⟨q,?_⟩;rw[List.getElem?_set]at a;by_cases f:i=i'
  ·subst f;rw[if_pos rfl,if_pos v]at a;cases a
   rw[u,FY (by rw[n];simp;omega)]at hd;by_cases o:j'=off
   ·subst o;rw[if_pos ⟨aw _,by simp⟩]at hd;simp at hd;exact .inl ⟨rfl,rfl,hd.symm⟩
   ·rw[if_neg (by simp;omega)]at hd;exact .inr ⟨fun e=>o e.2,y,B,hd⟩
  ·rw[if_neg f]at a;exact .inr ⟨fun e=>f e.1.symm,x,a,hd⟩
 have e:xs.length=(xs.set i y').length:=by simp
 rw[e];refine Ow.list ty (xs.set i y') b cap arr' E vs' fps fp t (by simpa using hcap) hmax (m.trans r) s (fun i' x j' d a hd=>?_) (fun i' x j' d a hd=>?_) G hdis
 ·obtain⟨q,h | ⟨p,l,g,k⟩⟩:=old i' x j' d a hd
  ·obtain⟨rfl,rfl,_⟩:=h;exact harr0
  ·rw[harr i' j' q p,hsame i' j' p];exact C i' l j' d g k
 ·obtain⟨q,h | ⟨p,l,g,k⟩⟩:=old i' x j' d a hd
  ·obtain⟨rfl,rfl,rfl⟩:=h;exact hnew
  ·rw[hsame i' j' p];exact Ow.move (F i' l j' d g k) (fun _ _ hh=>hh.elim) fun c A=>hrows i' j' c p A
section sound
variable {P:Program} {w0:World} {agg:Bool} {g:Gm} {M:Ms} {a:Act} {w:World} {o:Oper} {K:Act->World->Prop} {Q:Exit->Act->World->Prop} {E:Env}
theorem jd.rf(h:jd w0 agg g M a w){x:Operand}{r:Rf}(b:M.rf x=some r):aer g agg w r (a.eval x):=by
 unfold Ms.rf at b;split at b
 ·rename_i t;have c:t<a.tmps.size:=by
   rw[h.inv.tsz,<- h.rsz];rcases Nat.lt_or_ge t M.R.length with c | c
   ·exact c
   ·simp[Ms.UQ,zE,zJ c]at b
  have:a.tmps[t]?=some (a.eval (.tmp t)):=by
   show a.tmps[t]?=some (a.tmps.getD t undef)
   simp[c]
  exact h.refs t r _ b this
 ·cases b
theorem jd.grow(h:jd w0 agg g M a w){w':World}(hbel:Below w.heap.size w w'):jd w0 agg g M a w':=by
 have j:∀c,g.F c->c<w.heap.size:=fun c ⟨i,k⟩=>aD (h.lt i c k) h.off.size
 refine h.turn (ds':=M.ds) (.Ob hbel (aw _)) (h.tree.imp fun i d v l=>Ow.move l (fun _ _ hh=>hh.elim) fun b e=>hbel.block b (j b ⟨i,e⟩)) fun _ b len cap m oo x _ f=>?_
 have e:b<w.heap.size:=by
  unfold World.cell? at f;cases hh:w.heap[b]? with
  | none=>simp[hh]at f
  | some _=>exact (aM.1 hh).1
 rw[World.cell?_of_block (w:=w) (hbel.block b e)];exact f
theorem jd.aaB(h:jd w0 agg g M a w)(b:agg=false){ty:Ty}{xs:List ty.den}(c:M.ds=[.list ty xs]):OwD w (.list ty xs) g.u (g.fps 0):=by
 have:=h.tree;rw[c,h.uv.2 b]at this;exact this.1
theorem jd.vlen(h:jd w0 agg g M a w):M.ds.length=g.vs.length:=h.tree.get.1
theorem L9{T:TT}(e:T.ok P=true){s:TypeId}{p:Operand}{f fo:Nat}{ag:Bool}{n:Nat}(g:o.op=.fieldAddr s p f)(h:(lk T.fields s).bind (·[f]?)=some (fo,ag,n)){b off:Nat}(j:a.eval p=.pointer (some ⟨b,off,none⟩)) :
  (execOp a.eval o).run P w=.ok (.value (.pointer (some ⟨b,off+fo,none⟩))) w:=by
 obtain⟨F,fd,d,i,k,l,hoff,m,hi,_,q,hpos⟩:=TT.RJ e h;have c:i.size≠0:=by omega
 unfold execOp;simp only[g,j,Instr.fieldAt,Sem.run_bind,run_underlying k,Result.andThen_ok,l,Instr.sureAddr,Sem.run_pure,fieldPlace,sizeOf,typeInfo,run_program,hi];simp[c,hoff,addr_add]
theorem P7{T:TT}(k:T.ok P=true){t:TypeId}{p:Operand}(c:o.op=.load t p){ag:Bool}{n:Nat}(l:lk T.shape t=some (ag,n)){b off:Nat}(f:a.eval p=.pointer (some ⟨b,off,none⟩)){ls:List Value}(q:ls.length=n)
  (g:∀j v,ls[j]?=some v->w.cell? ⟨b,off+j,none⟩=some v):(ag=true->(execOp a.eval o).run P w=.ok (.value (.agg ls.toArray)) w)/\(ag=false->∀v,ls=[v]->(execOp a.eval o).run P w=.ok (.value v) w):=by
 obtain⟨d,i,h,hi,m,hd⟩:=TT.xA k l;refine⟨fun e=>?_,fun e v hv=>?_⟩
 ·have:=ni (w:=w) t b off d i h hi (by rw[hd];exact e) ls (by omega) g;unfold execOp;simp only[c,f,Instr.loadAt,Instr.sureAddr,Sem.run_bind,Sem.run_pure,Result.andThen_ok,this]
 ·subst hv;have:=qL (w:=w) t b off d h (by rw[hd];exact e) v (g 0 v rfl);unfold execOp;simp only[c,f,Instr.loadAt,Instr.sureAddr,Sem.run_bind,Sem.run_pure,Result.andThen_ok,this]
theorem aho{ρ:Type}{r:ρ}(C:gq P E)(h:jd w0 agg g M a w){t:TypeId}{p:Operand}(m:o.op=.load t p){k:Ms->Option ρ}(hv:Ld E agg o M k=some r)
  (q:∀M' a' w',k M'=some r->jd w0 agg g M' a' w'->K a' w'):o.wp P a w K Q:=by
 unfold Ld at hv;rw[m]at hv;simp only at hv;split at hv
 ·cases hv
 rename_i ag n D;split at hv
 ·rename_i off s;split at hv
  case isFalse=>cases hv
  rename_i J;obtain⟨bb,u,L,N,hcell⟩:=h.rf s;have O:=h.vlen;have c:(seg g.vs off n).length=n:=WX (by omega);obtain⟨F,y⟩:=P7 C.1 m D u (ls:=seg g.vs off n) c (fun j v d=>hcell _ _ (N8 d).2);cases ag with
  | true=>exact aS (F rfl) (q _ _ _ hv (h.xR ⟨fun _=>rfl,fun e=>by cases e⟩))
  | false=>
   have R:n=1:=by rcases J.2 with e | e;cases e;exact e
   subst R;obtain⟨v,f⟩:=List.length_eq_one_iff.1 c;exact aS (y rfl v f) (q _ _ _ hv (h.xR ⟨fun e=>(by cases e),fun _=>f⟩))
 ·rename_i i sz off s;split at hv
  case h_2=>cases hv
  rename_i ag' n' ty xs z;split at hv
  case isFalse=>cases hv
  rename_i A;rw[zB]at hv;obtain⟨x,G,hv⟩:=hv;split at hv
  case h_2=>cases hv
  rename_i t' xs' hd;obtain⟨l,b,len,cap,H,u⟩:=h.rf s;have I:=h.aaB l z;rw[H]at I;obtain⟨arr,Et,vs,fps,rfl,S,hcap,hmax,hasz,T,U,B,V,hdis⟩:=I.inv;have hcell:w.cell? ⟨b,i*sz+off,none⟩=some (vs i off):=by
   rw[cell_of_row w _ _ _ _ _ S,<- A];exact U i x off _ G hd
  obtain⟨F,y⟩:=P7 C.1 m D u (ls:=[vs i off]) rfl (fun j v d=>by
   cases j with
   | zero=>simp at d;subst d;exact hcell
   | succ j=>simp at d)
  exact aS (y rfl _ rfl) (q _ _ _ hv (h.xR ⟨l,(B i x off _ G hd).slice,b,_,cap,H,hcell⟩))
 ·cases hv
theorem aec{ρ:Type}{r:ρ}(hE:gq P E)(h:jd w0 agg g M a w){t:TypeId}{p x:Operand}(ho:o.op=.store t p x){k:Ms->Option ρ}(hv:Ld E agg o M k=some r)
  (hK:∀M' a' w',k M'=some r->jd w0 agg g M' a' w'->K a' w'):o.wp P a w K Q:=by
 unfold Ld at hv;rw[ho]at hv;simp only at hv;split at hv
 case h_2=>cases hv
 rename_i i sz off ty xs hs hr T;split at hv
 case isFalse=>cases hv
 rename_i hg;obtain⟨j,hoff⟩:=hg;rw[Rd.jH,zB]at hv;obtain⟨d,L,hv⟩:=hv;rw[Rd.aF,zB]at L;obtain⟨av,L,h2⟩:=L;rw[zB]at hv;obtain⟨y,N,hv⟩:=hv;split at hv
 case h_2=>cases hv
 rename_i d0 A l;split at hv
 case isFalse=>cases hv
 rename_i hd0t;rw[zB]at hv;obtain⟨y',U,hv⟩:=hv;obtain⟨B,b,len,cap,z,hp⟩:=h.rf hr;have hO:=h.aaB B T;rw[z]at hO;obtain⟨arr,Et,vs,fps,rfl,V,hcap,hmax,hasz,C,hc,D,hf,hdis⟩:=hO.inv;obtain⟨dd,ti,htu,W,htsz,htd⟩:=TT.xA hE.1 hs;have m:=nD h2 (bg h.inv L);generalize X:a.eval x=xv at m;have hone:=m.one;have hil:i<xs.length:=(zC.1 N).1;have hcl:(ty.cells y).length=ty.size:=Ty.aZ ty y;have hidx:i*ty.size+off<arr.size:=by
  rw[hasz];have:(i+1)*ty.size<=cap*ty.size:=Nat.mul_le_mul_right _ (by omega);rw[Nat.succ_mul]at this;omega
 let arr':Array Value:=(dw arr.toList (i*sz+off) [xv]).toArray;have hlen':i*sz+off+[xv].length<=arr.toList.length:=by simp;rw[<- j];omega
 have harr:∀q,arr'[q]?=if q=i*ty.size+off then some xv else arr[q]?:=by
  intro q;simp only[arr',List.getElem?_toArray];rw[FY hlen',<- j];by_cases O:q=i*ty.size+off
  ·subst O;simp
  ·rw[if_neg (by simp;omega),if_neg O];simp
 have G:=setRow_heap w b arr arr' Et (0,0) V;have hoth:∀c,c≠b->(w.setRow b arr').heap[c]?=w.heap[c]?:=fun c Y=>setRow_other w b c _ Y
 have Z:g.F b:=⟨0,C⟩;have hOff:Off g.F w (w.setRow b arr'):=⟨rfl,rfl,rfl,by simp,fun c _ hnf=>hoth c fun e=>hnf (e▸Z)⟩;have hnew:OwD (w.setRow b arr') d xv (fps i off):=by
  have H:Rep w (gK (Kw g w)).S d xv:=m;cases H with
  | int kk n=>exact .int kk n _
  | bool bb=>exact .bool bb _
  | str s=>exact .str s _
  | nil=>cases l
  | emp=>cases l
  | list=>cases l
 have hcy:ty.cells y'=dw (ty.cells y) off [d]:=Ty.dA U;have hT':OwD (w.setRow b arr') (.list ty (xs.set i y')) (.slice (some ⟨b,0,none⟩) xs.length cap) (g.fps 0):=
  OwD.turn (w:=w) (vs:=vs) (vs':=fun i' j'=>if i'=i/\j'=off then xv else vs i' j') hcap hmax hasz C hc D hf hdis G (by simp[arr'];rw[wU _ _ _ hlen'];simp) N hcy hoff
   (fun i' j' R=>if_neg R) (fun i' j' hj R=>by
    rw[harr,if_neg];intro e;exact R (U9 hj hoff e))
   (by rw[harr,if_pos rfl];simp) (by simpa using hnew) (fun i' j' c R hcc=>hoth c (hf i' j' c hcc).2)
 have hrun:(storeVar t ⟨b,i*sz+off,none⟩ (a.eval x)).run P w=.ok () (w.setRow b arr'):=by
  rw[X];exact zK W V (vs:=[xv]) (Jm hone) (by simp[htsz]) (by simp;rw[<- j];omega) (fun u z=>by simp at z;rw[z];exact hone)
 refine FT (zQ ho hp hrun) (hK _ _ _ hv ?_);have h3:jd w0 agg g { M with ds:=[.list ty (xs.set i y')] } a (w.setRow b arr'):=by
  refine h.turn hOff ?_ fun _ b' len cap' I oo v J f=>?_
  ·rw[h.uv.2 B,z];exact⟨hT',trivial⟩
  ·rw[z]at I;cases I
   rw[cell_of_row w _ _ _ _ _ V]at f;rw[cell_of_row _ _ _ _ _ _ G,harr];split
   ·rename_i O;subst O;rw[hc i y off d0 N A]at f;cases f
    have:=(D i y off d0 N A).scalar (by simpa using hd0t);rw[this]at J;cases J
   ·exact f
 have h4:=h3.put (d:=o.dst) (av:=.tup []) (v:=undef) DF;have e:{ M.put o.dst (.tup [])with ds:=[.list ty (xs.set i y')] }=Ms.put { M with ds:=[.list ty (xs.set i y')] } o.dst (.tup []):=by
  cases o.dst<;>rfl
 rw[e];exact h4
end sound
end Go.Abs
namespace Go.Abs
open Go.RowKit
section sound
variable {P:Program} {w0:World} {agg:Bool} {g:Gm} {M:Ms} {a:Act} {w:World} {o:Oper} {K:Act->World->Prop} {Q:Exit->Act->World->Prop} {E:Env}
theorem alj{ρ:Type}{r:ρ}(hE:gq P E)(h:jd w0 agg g M a w){c:Call}{f:FuncId}(ho:o.op=.call c)(j:c.callee=.value (.func f)){m:Msp}(hm:E.ms.find? (fun m=>m.fid==f)=some m){x y:Operand}(hxy:c.args.toList=[x,y])
  {k:Ms->Option ρ} (hv:(((dR y).bind avD).runK M.S fun
        | .int .i64 n=>match M.rf x with
         | some (.sub off cnt agg')=>if agg=true/\m.sh.agg=agg'/\m.sh.t.size=cnt/\off+cnt<=M.ds.length then
           (m.sh.t.fC (seg M.ds off cnt)).bind fun z=>(m.fn z n).bind fun r=>k { M.put o.dst (.v (.one (.d (.int .i64 r.2))))with ds:=dw M.ds off (m.sh.t.cells r.1) }
          else none
         | some (.inner i sz off)=>match M.ds with
          | [.list ty xs]=>if ty.size=sz/\m.sh.agg=false/\m.sh.t.size=1/\off<ty.size then (xs[i]?).bind fun y=>
            (m.sh.t.fC (seg (ty.cells y) off 1)).bind fun z=>(m.fn z n).bind fun r=>
             (ty.fC (dw (ty.cells y) off (m.sh.t.cells r.1))).bind fun y'=>k { M.put o.dst (.v (.one (.d (.int .i64 r.2))))with ds:=[.list ty (xs.set i y')] }
           else none
          | _=>none
         | _=>none
        | _=>none)=some r)
  (hK:∀M' a' w',k M'=some r->jd w0 agg g M' a' w'->K a' w'):o.wp P a w K Q:=by
 obtain⟨hcall,hM⟩:=hE.2.2.1 m (List.mem_of_find?_eq_some hm);have hfid:m.fid=f:=by have:=List.find?_some hm;simpa using this
 rw[Rd.jH,zB]at hv;obtain⟨d,G,hv⟩:=hv;rw[Rd.aF,zB]at G;obtain⟨av,G,T⟩:=G;have U:=nD T (bg h.inv G);split at hv
 case h_2=>cases hv
 rename_i n;have hyv:a.eval y=.int .i64 n:=by
  generalize a.eval y=yv at U;cases U;rfl
 have hargs:c.args.map a.eval = #[a.eval x,.int .i64 n]:=by
  rw[nI hxy];simp[hyv]
 have V:∀c,g.F c->c<w.heap.size:=fun c ⟨i,j⟩=>aD (h.lt i c j) h.off.size
 have fin:∀ {n':Int} {ds':List D} {w':World},jd w0 agg g { M with ds:=ds' } a w'->k { M.put o.dst (.v (.one (.d (.int .i64 n'))))with ds:=ds' }=some r->K (a.put o.dst (.int .i64 n')) w':=by
  intro n' ds' w' h3 h4;have h5:=h3.put (d:=o.dst) (av:=.v (.one (.d (.int .i64 n')))) (v:=.int .i64 n') (Rep.int _ _);refine hK _ _ _ h4 ?_;have e:{ M.put o.dst (.v (.one (.d (.int .i64 n'))))with ds:=ds' }=Ms.put { M with ds:=ds' } o.dst (.v (.one (.d (.int .i64 n')))):=by
   cases o.dst<;>rfl
  rw[e];exact h5
 unfold Oper.wp;rw[lC ho j (hfid▸hcall),hargs];subst hfid;split at hv
 ·rename_i off cnt agg' hr;split at hv
  case isFalse=>cases hv
  rename_i hg;obtain⟨s,p,H,W⟩:=hg;rw[zB]at hv;obtain⟨z,hz,hv⟩:=hv;rw[zB]at hv;obtain⟨rr,I,hv⟩:=hv;obtain⟨s1,s2⟩:=h.rf hr;have u:m.sh.t.cells z=seg M.ds off cnt:=Ty.dA hz;obtain⟨tl,tg⟩:=h.tree.get;let fps':Nat->Nat->Prop:=fun i c=>i<cnt/\g.fps (off+i) c
  have hsegR:aW (fun i d v=>OwD w d v (fps' i)) 0 (seg M.ds off cnt) (seg g.vs off cnt):=by
   refine aW.mk' (by rw[WX W,WX (by omega)]) fun i d v hd hv=>?_
   have:=tg _ d v (N8 hd).2 (N8 hv).2;rw[Nat.zero_add]at this ⊢;exact Ow.sub this (fun c j=>⟨(N8 hd).1,j⟩) fun e=>e
  have hT:wM w m.sh z (a.eval x) fps':=by
   unfold wM ShR;cases J:m.sh.agg with
   | true=>exact⟨_,s1 (by rw[<- p,J]),by rw[u];exact hsegR⟩
   | false=>
    have:=s2 (by rw[<- p,J]);rw[<- this,u];exact hsegR
  refine Calls.mono (hM w (a.eval x) z n rr fps' I h.amb hT (fun i c j=>⟨h.am.2 _ c j.2,V c ⟨_,j.2⟩⟩) fun i i' c G T=>by have:=h.dis _ _ c G.2 T.2;omega) fun e w' he=>?_
  obtain⟨rfl,hoff,l⟩:=he;refine fin ?_ hv;have hsegR':aW (fun i d v=>OwD w' d v (fps' i)) 0 (m.sh.t.cells rr.1) (seg g.vs off cnt):=by
   unfold wM ShR at l;cases J:m.sh.agg with
   | true=>
    rw[J]at l;obtain⟨vs',e1,e2⟩:=l;rw[s1 (by rw[<- p,J])]at e1;have:vs'=seg g.vs off cnt:=by
     injection e1 with e1;have:=congrArg Array.toList e1;simpa using this.symm
    rw[<- this];exact e2
   | false=>
    rw[J]at l;rw[s2 (by rw[<- p,J])];exact l
  obtain⟨sl,sg⟩:=hsegR'.get;have A:(m.sh.t.cells rr.1).length=cnt:=by rw[Ty.aZ,H]
  refine h.turn (hoff.mono fun c ⟨i,j⟩=>⟨_,j.2⟩) ?_ fun e=>by rw[s]at e;cases e
  refine aW.mk' (by simp only[dw,a6,a8,List.length_drop,A];omega) fun i d v hd hv=>?_
  rw[FY (by rw[A];exact W),A]at hd;split at hd
  ·rename_i hin;have hv':(seg g.vs off cnt)[i-off]?=some v:=by
    simp only[seg,List.getElem?_take,List.getElem?_drop];rw[if_pos (by omega),show off+(i-off)=i by omega];exact hv
   have:=sg _ d v hd hv';rw[Nat.zero_add]at this ⊢;refine Ow.sub this (fun c j=>?_) fun e=>e
   have:=j.2;rw[show off+(i-off)=i by omega]at this;exact this
  ·rename_i hin;have:=tg i d v hd hv;rw[Nat.zero_add]at this ⊢;refine Ow.move this (fun _ _ hh=>hh.elim) fun b X=>hoff.block b (V b ⟨i,X⟩) ?_
   rintro⟨i',Y⟩;have e:=h.dis _ _ b X Y.2;have:=Y.1;omega
 ·rename_i i sz off hr;split at hv
  case h_2=>cases hv
  rename_i ty xs hds;split at hv
  case isFalse=>cases hv
  rename_i hg;obtain⟨H,p,hs1,hoffl⟩:=hg;rw[zB]at hv;obtain⟨N,B,hv⟩:=hv;rw[zB]at hv;obtain⟨z,hz,hv⟩:=hv;rw[zB]at hv;obtain⟨rr,I,hv⟩:=hv;rw[zB]at hv;obtain⟨y',hy',hv⟩:=hv;obtain⟨s,hsl,b,len,cap,hu,hcell⟩:=h.rf hr;have hO:=h.aaB s hds;rw[hu]at hO;obtain⟨arr,Et,vs,fps,rfl,X,hcap,hmax,hasz,Z,L,hr',O,hdis⟩:=hO.inv;have A:(ty.cells N).length=ty.size:=Ty.aZ ty N;obtain⟨R,C⟩:∃R,(ty.cells N)[off]?=some R:=⟨_,zF (by omega)⟩;have hval:a.eval x=vs i off:=by
   rw[cell_of_row w _ _ _ _ _ X,<- H,L i N off R B C]at hcell;exact (aR hcell).symm
  have u:m.sh.t.cells z=[R]:=by
   rw[Ty.dA hz];apply List.ext_getElem?;intro q;simp only[seg,List.getElem?_take,List.getElem?_drop];cases q with
   | zero=>simpa using C
   | succ q=>simp
  obtain⟨d1,hd1⟩:∃d1,m.sh.t.cells rr.1=[d1]:=List.length_eq_one_iff.1 (by rw[Ty.aZ,hs1]);let fps':Nat->Nat->Prop:=fun q c=>q=0/\fps i off c
  have hT:wM w m.sh z (a.eval x) fps':=by
   unfold wM ShR;rw[p,u,hval];exact⟨Ow.sub (hr' i N off R B C) (fun c j=>⟨rfl,j⟩) fun e=>e,trivial⟩
  refine Calls.mono (hM w (a.eval x) z n rr fps' I h.amb hT (fun q c j=>⟨h.am.2 _ c (O _ _ _ j.2).1,V c ⟨0,(O _ _ _ j.2).1⟩⟩) fun q q' c G T=>by rw[G.1,T.1]) fun e w' he=>?_
  obtain⟨rfl,hoff,l⟩:=he;refine fin ?_ hv;have hnew:OwD w' d1 (vs i off) (fps i off):=by
   unfold wM ShR at l;rw[p,hd1,hval]at l;exact Ow.sub l.1 (fun c j=>j.2) fun e=>e
  have hbl:b<w.heap.size:=V b ⟨0,Z⟩;have hb':w'.heap[b]?=w.heap[b]?:=hoff.block b hbl fun⟨q,hq⟩=>(O _ _ _ hq.2).2 rfl
  have hOff:Off g.F w w':=hoff.mono fun c ⟨q,hq⟩=>⟨0,(O _ _ _ hq.2).1⟩
  refine h.turn hOff ?_ fun _ b' len cap' hu' oo v hsl' hcv=>?_
  ·rw[h.uv.2 s,hu];refine⟨OwD.turn (w:=w) (vs:=vs) (vs':=vs) hcap hmax hasz Z L hr' O hdis (hb'.trans X) rfl B (by rw[Ty.dA hy',hd1]) hoffl (fun _ _ _=>rfl) (fun _ _ _ _=>rfl) (L i N off R B C) hnew
    (fun i' j' c hn hcc=>hoff.block c (V c ⟨0,(O _ _ _ hcc).1⟩) fun⟨q,hq⟩=>?_),trivial⟩
   have:=hdis _ _ _ _ _ hcc hq.2;exact hn this
  ·rw[hu]at hu';cases hu'
   rw[World.cell?_of_block (w:=w) hb'];exact hcv
 ·cases hv
end sound
end Go.Abs
namespace Go.Abs
open Go.RowKit
section sound
variable {P:Program} {w0:World} {agg:Bool} {g:Gm} {M:Ms} {a:Act} {w:World} {o:Oper} {K:Act->World->Prop} {Q:Exit->Act->World->Prop} {E:Env}
theorem aed{ρ:Type}{r:ρ}(C:gq P E)(h:jd w0 agg g M a w){k:Ms->Option ρ}(hv:Ld E agg o M k=some r)
  (B:∀M' a' w',k M'=some r->jd w0 agg g M' a' w'->K a' w'):o.wp P a w K Q:=by
 have mv:∀x,(o.op=.move x\/o.op=.assign x)->(match M.rf x with | some r=>k (M.xR o.dst r) | none=>abz E o M k)=some r->o.wp P a w K Q:=by
  intro x q hv;split at hv
  ·rename_i rr G;refine aS (v:=a.eval x) (w':=w) ?_ (B _ _ _ hv (h.xR (h.rf G)));rcases q with q | q<;>(unfold execOp;simp only[q];rfl)
  ·exact uY C h hv B
 cases q:o.op with
 | move x=>unfold Ld at hv;rw[q]at hv;exact mv x (.inl q) hv
 | assign x=>unfold Ld at hv;rw[q]at hv;exact mv x (.inr q) hv
 | box e x=>
  unfold Ld at hv;rw[q]at hv;simp only at hv;split at hv
  case h_2=>cases hv
  rename_i G;split at hv
  case isFalse=>cases hv
  rename_i A;have R:a.eval x=g.u:=h.rf G;have J:=h.uv.1 A;have hbel:Below w.heap.size w (w.alloc (.cells g.vs.toArray e)):=(Below.refl _ _).alloc (aw _) _;have hnew:=heap_alloc_new w (.cells g.vs.toArray e);have hF:∀c,g.F c->c<w.heap.size:=fun c ⟨i,hc⟩=>aD (h.lt i c hc) h.off.size
  refine aS (v:=.pointer (some ⟨w.heap.size,0,none⟩)) (w':=w.alloc (.cells g.vs.toArray e)) ?_ (B _ _ _ hv ((h.grow hbel).xR ⟨w.heap.size,rfl,fun U=>absurd (hF _ U) (Nat.lt_irrefl _),by simp,fun j x hj=>?_⟩))
  ·unfold execOp;simp[q,Instr.box,newVar,newRow,R,J,Value.cells]
  ·rw[cell_of_row _ _ _ _ _ _ hnew];simpa using hj
 | fieldAddr s p f=>
  unfold Ld at hv;rw[q]at hv;simp only at hv;split at hv
  ·cases hv
  rename_i fo ag n U;split at hv
  ·rename_i off G;obtain⟨bb,W,X,h3,h4⟩:=h.rf G;exact aS (L9 C.1 q U W) (B _ _ _ hv (h.xR ⟨bb,rfl,X,h3,h4⟩))
  ·rename_i i sz off G;obtain⟨A,b,len,cap,J,W⟩:=h.rf G;exact aS (L9 C.1 q U W) (B _ _ _ hv (h.xR ⟨A,b,len,cap,J,by rw[Nat.add_assoc]⟩))
  ·cases hv
 | load t p=>exact aho C h q hv B
 | store t p x=>exact aec C h q hv B
 | indexAddr T x i=>
  unfold Ld at hv;rw[q]at hv;simp only at hv;split at hv
  case h_2=>cases hv
  rename_i t ty xs Y G L;split at hv
  case isFalse=>cases hv
  rename_i hg;obtain⟨A,rfl⟩:=hg;rw[Rd.jH,zB]at hv;obtain⟨n,V,hv⟩:=hv;rw[Rd.aF,zB]at V;obtain⟨av,V,X⟩:=V;rw[zB]at hv;obtain⟨y,hy,hv⟩:=hv;obtain⟨h0,hl,S⟩:=yu hy;obtain⟨e,inf,z,J,hi,Z,_⟩:=TT.jw C.1 Y;obtain⟨kk,hn⟩:=tJ X (bg h.inv V);have R:a.eval x=g.u:=h.rf G;have H:=h.aaB A L;have N:∃b cap,g.u=.slice (some ⟨b,0,none⟩) xs.length cap:=by
   unfold OwD at H;generalize g.u=uu at H ⊢;generalize l:D.list t xs=dd at H;cases H with
   | int=>cases l
   | bool=>cases l
   | str=>cases l
   | nil t'=>cases l;simp at hl;omega
   | ro _ _ _ hd=>cases hd
   | list t' xs' b' cap'=>cases l;exact⟨b',cap',rfl⟩
  obtain⟨b,cap,I⟩:=N;have hrun:=run_indexAt (w:=w) T e inf J hi b 0 xs.length cap kk n h0 hl;rw[Z,Nat.zero_add]at hrun;refine aS (v:=.pointer (some ⟨b,n.toNat*t.size,none⟩)) (w':=w) ?_ (B _ _ _ hv (h.xR ⟨A,b,_,cap,I,by simp⟩));unfold execOp;simp[q,R,I,hn,hrun]
 | call c=>
  unfold Ld at hv;rw[q]at hv;simp only at hv;split at hv
  ·rename_i O;split at hv
   case h_2=>cases hv
   rename_i x T R hT';split at hv
   ·rename_i G;split at hv
    case h_2=>cases hv
    rename_i ty xs t L Y;split at hv
    case isFalse=>cases hv
    rename_i A;have hargs:=oV R;have htys:=oV hT';obtain⟨e,_,_,J,_⟩:=TT.jw C.1 Y;have hxu:a.eval x=g.u:=h.rf G;have H:=h.aaB A L;have N:∃ad cap,g.u=.slice ad xs.length cap:=by
     unfold OwD at H;generalize g.u=uu at H ⊢;generalize l:D.list ty xs=dd at H;cases H with
     | int=>cases l
     | bool=>cases l
     | str=>cases l
     | nil t'=>cases l;exact⟨_,_,rfl⟩
     | ro _ _ _ hd=>cases hd
     | list t' xs' b' cap'=>cases l;exact⟨_,_,rfl⟩
    obtain⟨ad,cap,I⟩:=N;refine aS (v:=.int .i64 xs.length) (w':=w) ?_ (B _ _ _ hv (h.put (av:=.v (.one (.d (.int .i64 xs.length)))) (Rep.int _ _)));refine jP q O ?_;simp[builtin,hargs,htys,hxu,I,Builtin.len_,run_underlying J,goInt]
   ·exact uY C h hv B
  ·rename_i f O;split at hv
   ·rename_i m hm;split at hv
    case h_2=>cases hv
    rename_i x y S;exact alj C h q O hm S hv B
   ·exact uY C h hv B
  ·exact uY C h hv B
 | _=>(unfold Ld at hv;rw[q]at hv;exact uY C h hv B)
theorem Qo{ρ:Type}{r:ρ}{ops:Array Oper}(d:gq P E){k:Ms->Option ρ}(e:∀M' a' w',k M'=some r->jd w0 agg g M' a' w'->Q .normal a' w') :
  ∀ {l:List Oper} {i:Nat} {M:Ms} {a:Act} {w:World},ops.toList.drop i=l->akO E agg l M k=some r->jd w0 agg g M a w->wpOps P ops Q (List.range' i l.length) a w
 | [],i,M,a,w,_,hv,h=>e M a w hv h
 | o::l,i,M,a,w,hd,hv,h=>by
  have hi:ops[i]?=some o:=by
   have:(ops.toList.drop i)[0]?=some o:=by rw[hd];rfl
   rw[List.getElem?_drop]at this;simpa using this
  have b:ops.toList.drop (i+1)=l:=by
   have:=congrArg (List.drop 1) hd;rw[List.drop_drop]at this;simpa using this
  simp only[akO]at hv;split at hv
  case h_2=>cases hv
  rename_i f;show wpOps P ops Q (i::List.range' (i+1) l.length) a w
  rw[wpOps_cons];unfold wpOp;rw[hi];have j:Region.wanted o (yielded ops a.tmps)=true:=by unfold Region.wanted;rw[f]
  simp only[j];exact .inl (aed d h hv fun M' a' w' c m=>Qo d e b c m)
theorem LM.VJ(h:jd w0 agg g M a w){la:LM}{x:List la.ty.den×Int×Int}(c:la.get M=some x):jd w0 agg g (la.put x) a w:=by
 unfold LM.get at c;split at c
 case isFalse=>cases c
 rename_i B;obtain⟨D,l,E,F,G⟩:=B;split at c
 case h_2=>cases c
 rename_i ty xs r;split at c
 case isFalse=>cases c
 rename_i s;subst s;split at c
 case h_2=>cases c
 rename_i i kk hi t;simp only[zD]at c;subst c;have QR:∀ {j:Nat} {n:Int},afa M j=some n->M.S.gZ j=.v (.one (.d (.int .i64 n))):=by
  intro j n f;unfold afa at f;split at f
  ·rename_i n' hh;cases f;exact hh
  ·cases f
 have u:=QR hi;have y:=QR t;have gO:∀k,((LM.put la (xs,i,kk)).S).aJ k=[]:=by
  intro k;show (List.replicate _ ([]:List O)).getD k []=[]
  rw[zE,List.getElem?_replicate];split<;>rfl
 have gB:∀k,((LM.put la (xs,i,kk)).S).fP k=none:=by
  intro k;show (List.replicate _ (none:Option (List C))).getD k none=none
  rw[zE,List.getElem?_replicate];split<;>rfl
 have gT:∀j,((LM.put la (xs,i,kk)).S).gZ j=if la.sk=j then (if j<la.n then .v (.one (.d (.int .i64 kk)))else .undef)else if la.si=j then (if j<la.n then .v (.one (.d (.int .i64 i)))else .undef)else .undef:=by
  intro j;show (((List.replicate la.n AV.undef).set la.si (.v (.one (.d (.int .i64 i))))).set la.sk (.v (.one (.d (.int .i64 kk))))).getD j .undef=_
  simp only[zE,List.getElem?_set,List.length_set,List.length_replicate,List.getElem?_replicate];by_cases z:la.sk=j
  ·subst z;by_cases p:la.sk<la.n<;>simp[p]
  ·by_cases p:la.si=j
   ·subst p;by_cases H:la.si<la.n<;>simp[z,H]
   ·simp[z,p];split<;>rfl
 refine⟨h.off,⟨pR.refl _ _ _,h.inv.nodef,?_,?_,?_,fun j v hv=>?_,fun b x c=>(by cases c),fun b oo A=>⟨A.1,fun i e=>(by cases e)⟩,fun j cs m=>?_,fun k j=>?_,fun k t=>t.elim,fun i hi=>hi.elim,fun b o A _=>A,fun b I=>by cases I⟩,fun k=>⟨gO k,gB k⟩,?_,?_,h.uv,fun j rr v q hv=>?_,h.lt,h.am,h.dis⟩
 ·rw[h.inv.tsz,D];simp[LM.put]
 ·simp[LM.put]
 ·simp[LM.put]
 ·rw[gT];split
  ·rename_i f;subst f;split
   ·have:=h.inv.tmps _ v hv;rw[y]at this;exact this
   ·trivial
  ·split
   ·rename_i f;subst f;split
    ·have:=h.inv.tmps _ v hv;rw[u]at this;exact this
    ·trivial
   ·trivial
 ·rw[gB]at m;cases m
 ·rw[gO];trivial
 ·simp[LM.put]
 ·have:=h.tree;rw[r]at this;exact this
 ·have e:(LM.put la (xs,i,kk)).UQ j=if 0=j/\0<la.n then some .tree else none:=by
   simp only[LM.put,Ms.UQ,zE,List.getElem?_set,List.length_replicate,List.getElem?_replicate];by_cases f:0=j
   ·subst f;by_cases J:0<la.n<;>simp[J]
   ·simp[f];split<;>rfl
  rw[e]at q;split at q
  ·rename_i f;cases q
   obtain⟨rfl,_⟩:=f;unfold Rf.ajm at l;split at l
   ·rename_i hh;exact h.refs 0 .tree v hh hv
   ·cases l
  ·cases q
theorem aaA{c:Code}{ρ:Type}{r:ρ}{la:LM}{f:List la.ty.den×Int×Int->Option ((List la.ty.den×Int×Int)⊕ρ)}{C:Nat}{o:List la.ty.den×Int×Int}(p:iter f C o=some r){a:Act}{w:World}(K:jd w0 agg g (la.put o) a w)
  {k:Ex->Ms->Option ρ} {Q:Exit->Act->World->Prop}
  (hround:∀(x:List la.ty.den×Int×Int) (res:(List la.ty.den×Int×Int)⊕ρ) (a:Act) (w:World),f x=some res->jd w0 agg g (la.put x) a w->∀Q':Exit->Act->World->Prop,(∀y a' w',res=.inl y->jd w0 agg g (la.put y) a' w'->Q' .normal a' w') ->
   (∀(r:ρ) (e:Ex) M' a' w',res=.inr r->e≠.normal->k e M'=some r->jd w0 agg g M' a' w'->Q' e.up a' w')->c.wp P Q' a w)
  (D:∀e M' a' w',k e M'=some r->jd w0 agg g M' a' w'->Q e.up a' w'):(Code.loop c).wp P Q a w:=by
 let J:Nat->Act->World->Prop:=fun n a w=>∃(x:List la.ty.den×Int×Int),iter f n x=some r/\jd w0 agg g (la.put x) a w
 classical
 have least:∀ {a:Act} {w:World},(∃n,J n a w)->∃n,J n a w/\∀m,J m a w->n<=m:=by
  intro a w ⟨n,q⟩;have key:∀n,J n a w->∃n,J n a w/\∀m,J m a w->n<=m:=by
   intro n;induction n using Nat.strongRecOn with
   | _ n ih=>
    intro q;by_cases l:∃m,m<n/\J m a w
    ·obtain⟨m,s,d⟩:=l;exact ih m s d
    ·refine⟨n,q,fun m d=>?_⟩;rcases Nat.lt_or_ge m n with t | t
     ·exact absurd ⟨m,t,d⟩ l
     ·exact t
  exact key n q
 refine wp_loop (fun a w=>∃n,J n a w) (fun a w=>if hh:∃n,J n a w then (least hh).choose else 0) ⟨C,o,p,K⟩ ?_;intro E F u;obtain⟨G,hmin⟩:=(least u).choose_spec;rw[dif_pos u];generalize (least u).choose=n at G hmin;obtain⟨x,b,H⟩:=G;cases n with
 | zero=>cases b
 | succ n=>
  simp only[iter]at b;split at b
  ·cases b
  ·rename_i y v;refine hround x _ E F v H _ (fun z a' w' A j=>?_) (fun r' e S' a' w' h _ _ _=>by cases h);cases A
   have i:∃n,J n a' w':=⟨n,y,b,j⟩;show (∃n,J n a' w')/\_
   refine⟨i,?_⟩;rw[dif_pos i];have:=(least i).choose_spec.2 n ⟨y,b,j⟩;omega
  ·rename_i L v;simp only[zD]at b;subst b;refine hround x _ E F v H _ (fun z a' w' A j=>by cases A) (fun r' e S' a' w' h B I j=>?_);cases h
   cases e with
   | normal=>exact absurd rfl B
   | exit id=>exact D (.exit id) S' a' w' I j
   | ret=>exact D .ret S' a' w' I j
theorem nT{an:List (Nat×LM)}(n:gq P E):∀(c:Code) {ρ:Type} {r:ρ} {M:Ms} {a:Act} {w:World} {k:Ex->Ms->Option ρ} {Q:Exit->Act->World->Prop},
  UZ E agg an c M k=some r->jd w0 agg g M a w->(∀e M' a' w',k e M'=some r->jd w0 agg g M' a' w'->Q e.up a' w')->c.wp P Q a w
 | .skip,ρ,r,M,a,w,k,Q,hv,h,f=>wp_skip (f .normal M a w hv h)
 | .label l,ρ,r,M,a,w,k,Q,hv,h,f=>wp_label (f .normal M a w hv h)
 | .region id ops false,ρ,r,M,a,w,k,Q,hv,h,f=>by
  refine wp_region ?_;have:=Qo (P:=P) (w0:=w0) (E:=E) (ops:=ops) (Q:=Q) n (k:=fun M=>k .normal M) (fun M' a' w' d j=>f .normal M' a' w' d j) (l:=ops.toList) (i:=0) (by simp) hv h;rw[List.range_eq_range'];simpa using this
 | .region id ops true,ρ,r,M,a,w,k,Q,hv,h,f=>by cases hv
 | .seq x y,ρ,r,M,a,w,k,Q,hv,h,f=>by
  refine wp_seq (nT n x (Q:=Exit.then (y.wp P Q) Q) hv h fun e M' a' w' d j=>?_);cases e with
  | normal=>exact nT n y d j f
  | exit id=>exact f (.exit id) M' a' w' d j
  | ret=>exact f .ret M' a' w' d j
 | .cond c x y,ρ,r,M,a,w,k,Q,hv,h,f=>by
  simp only[UZ]at hv;split at hv
  ·rename_i t;have v:=h.inv.gZ t;split at hv
   ·rename_i b B;rw[B]at v;have m:Rep w (gK (Kw g w)).S (.bool b) (a.eval (.tmp t)):=v;generalize o:a.eval (.tmp t)=vv at m;cases m
    cases b with
    | true=>exact wp_cond_true o (nT n x hv h f)
    | false=>exact wp_cond_false o (nT n y hv h f)
   ·cases hv
  ·cases hv
 | .block id c,ρ,r,M,a,w,k,Q,hv,h,f=>by
  refine wp_block (nT n c (Q:=Exit.inBlock id Q) hv h fun e M' a' w' d j=>?_);cases e with
  | normal=>exact f .normal M' a' w' d j
  | exit i=>
   simp only at d;show (if i=id then Q .normal a' w' else Q (.exit i) a' w')
   by_cases hi:i=id
   ·rw[if_pos hi]at d ⊢;exact f .normal M' a' w' d j
   ·rw[if_neg hi]at d ⊢;exact f (.exit i) M' a' w' d j
  | ret=>exact f .ret M' a' w' d j
 | .loop c,ρ,r,M,a,w,k,Q,hv,h,f=>by
  simp only[UZ]at hv;split at hv
  ·cases hv
  rename_i C;split at hv
  ·cases hv
  rename_i la D;rw[zB]at hv;obtain⟨J,p,F⟩:=hv;obtain⟨K,q⟩:=uI F;refine aaA q (LM.VJ h p) (fun x res L N u G Q' H A=>nT n c u G fun e M' a' w' d j=>?_) (fun e M' a' w' d j=>f e M' a' w' d j);cases e with
  | normal=>
   simp only at d;rw[zB]at d;obtain⟨z,I,d⟩:=d;exact H z a' w' (aR d).symm (LM.VJ j I)
  | exit id=>
   simp only at d;rw[zB]at d;obtain⟨r',d,m⟩:=d;exact A r' (.exit id) M' a' w' (aR m).symm (by simp) d j
  | ret=>
   simp only at d;rw[zB]at d;obtain⟨r',d,m⟩:=d;exact A r' .ret M' a' w' (aR m).symm (by simp) d j
 | .exit id,ρ,r,M,a,w,k,Q,hv,h,f=>wp_exit (f (.exit id) M a w hv h)
 | .ret,ρ,r,M,a,w,k,Q,hv,h,f=>wp_ret (f .ret M a w hv h)
 | .scope c,ρ,r,M,a,w,k,Q,hv,h,f=>by cases hv
 | .goto l,ρ,r,M,a,w,k,Q,hv,h,f=>by cases hv
 | .rangeFunc ..,ρ,r,M,a,w,k,Q,hv,h,f=>by cases hv
 | .refuse s,ρ,r,M,a,w,k,Q,hv,h,f=>by cases hv
end sound
theorem Uf{P:Program}{E:Env}(M:gq P E)(an:List (Nat×LM)){m:Msp}{fn:Func}(N:P.funcs[m.fid]?=some fn)
  (hden:∀x n,ajV E an fn m.sh x n=m.fn x n):iM P m:=by
 intro w u x n r fps l H s z hdis;rw[<- hden x n]at l;unfold ajV at l;split at l
 ·cases l
 rename_i c I;obtain⟨vs,A,B,htree⟩:∃vs:List Value,(m.sh.agg=true->u=.agg vs.toArray)/\(m.sh.agg=false->vs=[u])/\aW (fun i d v=>OwD w d v (fps i)) 0 (m.sh.t.cells x) vs:=by
  unfold wM ShR at s;cases f:m.sh.agg with
  | true=>
   rw[f]at s;obtain⟨vs,Q,T⟩:=s;exact⟨vs,fun _=>Q,fun e=>(by cases e),T⟩
  | false=>
   rw[f]at s;exact⟨[u],fun e=>(by cases e),fun _=>rfl,s⟩
 let g:Gm:=⟨u,vs,fps⟩;have U:jd w m.sh.agg g
  { S:={ tmps:=.undef :: .v (.one (.d (.int .i64 n)))::List.replicate (fn.ntmps-2) .undef,boxes:=List.replicate (2+(fn.ntmps-2)) none,owns:=List.replicate (2+(fn.ntmps-2)) [] },R:=some .tree::List.replicate (1+(fn.ntmps-2)) none,ds:=m.sh.t.cells x } { tmps:=#[u,.int .i64 n]++Array.replicate (fn.ntmps-(#[u,.int .i64 n]:Array Value).size) undef,defers:=[] } w:=by
  refine⟨⟨rfl,rfl,rfl,aw _,fun _ _ _=>rfl⟩,⟨pR.refl _ _ _,rfl,?_,?_,?_,fun j v hv=>?_,fun b x V=>(by cases V),fun b oo f=>⟨f.1,fun i e=>(by cases e)⟩,fun j cs J=>?_,fun k j=>?_,fun k D=>D.elim,fun i hi=>hi.elim,fun b o f _=>f,fun b I=>by cases I⟩,fun k=>⟨?_,?_⟩,?_,htree,⟨A,B⟩,fun j rr v l hv=>?_,fun i c K=>(z i c K).2,⟨H,fun i c K=>(z i c K).1⟩,hdis⟩
  ·simp;omega
  ·simp;omega
  ·simp;omega
  ·cases j with
   | zero=>trivial
   | succ j=>
    cases j with
    | zero=>
     simp only[Array.getElem?_append]at hv;simp at hv;subst hv;exact Rep.int _ _
    | succ j=>
     show jc _ _ ((AV.undef :: .v (.one (.d (.int .i64 n)))::List.replicate (fn.ntmps-2) .undef).getD (j+2) .undef) v
     simp only[zE,List.getElem?_cons_succ,List.getElem?_replicate];split<;>trivial
  ·have:(List.replicate (2+(fn.ntmps-2)) (none:Option (List C))).getD j none=none:=by
    rw[zE,List.getElem?_replicate];split<;>rfl
   have p:(List.replicate (2+(fn.ntmps-2)) (none:Option (List C))).getD j none=some cs:=J;rw[this]at p;cases p
  ·have:(List.replicate (2+(fn.ntmps-2)) ([]:List O)).getD k []=[]:=by
    rw[zE,List.getElem?_replicate];split<;>rfl
   show wO _ _ _ _ (bC ((List.replicate (2+(fn.ntmps-2)) ([]:List O)).getD k []) j)
   rw[this];trivial
  ·show (List.replicate (2+(fn.ntmps-2)) ([]:List O)).getD k []=[]
   rw[zE,List.getElem?_replicate];split<;>rfl
  ·show (List.replicate (2+(fn.ntmps-2)) (none:Option (List C))).getD k none=none
   rw[zE,List.getElem?_replicate];split<;>rfl
  ·simp;omega
  ·cases j with
   | zero=>
    have:rr=.tree:=by
     have a:some Rf.tree=some rr:=l;cases a;rfl
    subst this;simp only[Array.getElem?_append]at hv;simp at hv;exact hv.symm
   | succ j=>
    have a:(List.replicate (1+(fn.ntmps-2)) (none:Option Rf)).getD j none=some rr:=l;rw[zE,List.getElem?_replicate]at a;split at a<;>cases a
 refine calls_of_wp N I (nT M c l U fun e M' a' w' D G=>?_);have key:aoM fn m.sh M'=some r->bodyPost P fn (fun e w'=>e=.returned (.int .i64 r.2)/\Off (fun c=>∃i,fps i c) w w'/\wM w' m.sh r.1 u fps) .ret a' w':=by
  intro hv;unfold aoM at hv;split at hv
  case h_2=>cases hv
  rename_i t hres;split at hv
  case h_2=>cases hv
  rename_i n' L;rw[zB]at hv;obtain⟨y,W,hv⟩:=hv;simp only[zD]at hv;subst hv;have F:=G.inv.gZ t;rw[L]at F;have q:Rep w' (gK (Kw g w')).S (.int .i64 n') (a'.tmps.getD t undef):=F;have hval:a'.tmps.getD t undef=.int .i64 n':=by
   generalize a'.tmps.getD t undef=vv at q;cases q;rfl
  have hone:fn.results = #[.tmp t]:=oV hres;refine⟨G.inv.nodef,.int .i64 n',?_,rfl,G.off,?_⟩
  ·change ((fn.results.mapM (zL a'.tmps)) >>= fun vs=>pure (if h:vs.size=1 then vs[0]else .tuple vs)).run P w'=_;rw[hone];simp only[Array.mapM_eq_mapM_toList,List.mapM_cons,List.mapM_nil,zL,Sem.run_bind,Sem.run_map,Sem.run_pure,Result.andThen_ok,hval];simp
  ·have:=G.tree;rw[<- Ty.dA W]at this;unfold wM ShR;cases f:m.sh.agg with
   | true=>exact⟨vs,A f,this⟩
   | false=>
    have e:=B f;have this':aW (fun i d v=>OwD w' d v (fps i)) 0 (m.sh.t.cells y) vs:=this;rw[e]at this';exact this'
 cases e with
 | normal=>exact key D
 | exit id=>cases D
 | ret=>exact key D
end Go.Abs
/- Environments, one contract after the other. -/
namespace Go.Abs
theorem gq.nil{P:Program}{tt:TT}{tr:Bool}(h:tt.ok P=true):gq P { tt:=tt,fs:=[],ms:=[],trees:=tr }:=⟨h,fun s a=>(by cases a),fun s a=>(by cases a),fun s a=>(by cases a),fun s a=>(by cases a),fun s a=>(by cases a),fun s a=>(by cases a),fun s a=>(by cases a)⟩
theorem gq.cons{P:Program}{tt:TT}{tr:Bool}{s:Fsp}{r bs ns ss:List Fsp}{ms:List Msp}(h:callable P s.fid=true)(c:Sound P s)(a:gq P { tt:=tt,fs:=r,ms:=ms,trees:=tr,bs:=bs,ns:=ns,ss:=ss }):gq P { tt:=tt,fs:=s::r,ms:=ms,trees:=tr,bs:=bs,ns:=ns,ss:=ss }:=
 ⟨a.1,fun x b=>(by
  rcases ba.1 b with rfl | b
  ·exact⟨h,c⟩
  ·exact a.2.1 x b),a.2.2⟩
theorem iM.fuel{P:Program}{fid:Nat}{sh:Sh}{G:Nat->sh.t.den->Int->Option (sh.t.den×Int)}{f:sh.t.den->Int->Option (sh.t.den×Int)}(h:∀k,iM P ⟨fid,sh,G k⟩)(sz:sh.t.den->Nat)(a:∀x n,f x n=G (sz x) x n):iM P ⟨fid,sh,f⟩:=
 fun w u x n r fps b=>h (sz x) w u x n r fps ((a x n).symm.trans b)
theorem gq.sorts{P:Program}{E:Env}(l:List Srt)(a:∀s,s∈l->callable P s.fid=true/\Js P s/\∃d,P.underlying s.T=some d/\∀ms,d≠.interface ms)(h:gq P E):gq P { E with so:=l }:=
 ⟨h.1,h.2.1,h.2.2.1,h.2.2.2.1,h.2.2.2.2.1,h.2.2.2.2.2.1,a,h.2.2.2.2.2.2.2⟩
theorem gq.ins{P:Program}{E:Env}(l:List Isp)(a:∀s,s∈l->callable P s.fid=true/\Ls P s)(h:gq P E):gq P { E with is:=l }:=
 ⟨h.1,h.2.1,h.2.2.1,h.2.2.2.1,h.2.2.2.2.1,h.2.2.2.2.2.1,h.2.2.2.2.2.2.1,a⟩
theorem gq.agv{P:Program}{E:Env}(l:List Nat)(h:gq P E):gq P { E with agv:=l }:=h
theorem gq.cuts{P:Program}{E:Env}(l:List (Nat×Nat×Nat×Nat×Nat))(h:gq P E):gq P { E with cuts:=l }:=h
theorem gq.pre{P:Program}{E:Env}(l:List (Nat×List (Nat×Nat)))(h:gq P E):gq P { E with pre:=l }:=h
end Go.Abs
namespace Go.Proofs.YtapgeemjgckgaaaGreatDoor
noncomputable section
open Go.Abs Go.Proofs
set_option maxRecDepth 100000 in
theorem ahG:tt.ok Tryz.prog=true:=by kernel_rfl
theorem uw:Tryz.prog.follows .mixedOrders=true:=by kernel_rfl
abbrev Ek:Type _:={ E:Env // gq Tryz.prog E }
namespace Ek
theorem Qz{α:Type _}{p:α->Prop}{l:List α}{x:α}(h:p x)(b:∀s,s∈l->p s):∀s,s∈x::l->p s:=fun s a=>by
 rcases ba.1 a with rfl | a
 ·exact h
 ·exact b s a
def f(k:Ek){s:Fsp}(h:Sound Tryz.prog s)(a:callable Tryz.prog s.fid=true:=by kernel_rfl):Ek:=⟨{ k.1 with fs:=s::k.1.fs },k.2.1,Qz ⟨a,h⟩ k.2.2.1,k.2.2.2⟩
def m(k:Ek){s:Msp}(h:iM Tryz.prog s)(a:callable Tryz.prog s.fid=true:=by kernel_rfl):Ek:=⟨{ k.1 with ms:=s::k.1.ms },k.2.1,k.2.2.1,Qz ⟨a,h⟩ k.2.2.2.1,k.2.2.2.2⟩
def b(k:Ek){s:Fsp}(h:gQ Tryz.prog s)(a:callable Tryz.prog s.fid=true:=by kernel_rfl):Ek:=⟨{ k.1 with bs:=s::k.1.bs },k.2.1,k.2.2.1,k.2.2.2.1,Qz ⟨a,h⟩ k.2.2.2.2.1,k.2.2.2.2.2⟩
def n(k:Ek){s:Fsp}(h:aes Tryz.prog s)(a:callable Tryz.prog s.fid=true:=by kernel_rfl):Ek:=⟨{ k.1 with ns:=s::k.1.ns },k.2.1,k.2.2.1,k.2.2.2.1,k.2.2.2.2.1,Qz ⟨a,h⟩ k.2.2.2.2.2.1,k.2.2.2.2.2.2⟩
def s(k:Ek){s:Fsp}(h:SV Tryz.prog s)(a:callable Tryz.prog s.fid=true:=by kernel_rfl):Ek:=⟨{ k.1 with ss:=s::k.1.ss },k.2.1,k.2.2.1,k.2.2.2.1,k.2.2.2.2.1,k.2.2.2.2.2.1,Qz ⟨a,h⟩ k.2.2.2.2.2.2.1,k.2.2.2.2.2.2.2⟩
def tr(k:Ek):Ek:=⟨{ k.1 with trees:=true },k.2⟩
def so(k:Ek)(l:List Srt)(a:∀s,s∈l->callable Tryz.prog s.fid=true/\Js Tryz.prog s/\∃d,Tryz.prog.underlying s.T=some d/\∀ms,d≠.interface ms):Ek:=⟨{ k.1 with so:=l },gq.sorts l a k.2⟩
def ins(k:Ek)(l:List Isp)(a:∀s,s∈l->callable Tryz.prog s.fid=true/\Ls Tryz.prog s):Ek:=⟨{ k.1 with is:=l },gq.ins l a k.2⟩
def agv(k:Ek)(l:List Nat):Ek:=⟨{ k.1 with agv:=l },k.2⟩
def cuts(k:Ek)(l:List (Nat×Nat×Nat×Nat×Nat)):Ek:=⟨{ k.1 with cuts:=l },k.2⟩
def pre(k:Ek)(l:List (Nat×List (Nat×Nat))):Ek:=⟨{ k.1 with pre:=l },k.2⟩
end Ek
def kk0:Ek:=⟨{ tt:=tt,fs:=[] },.nil ahG⟩
theorem snd(k:Ek)(an:List (Nat×LA)){s:Fsp}(fn:Func)(a:Tryz.prog.funcs[s.fid]?=some fn:=by kernel_rfl)(hd:∀x,aef k.1 an fn s.ps s.rs s.ex x=s.fn x:=by (intro x;kernel_rfl)):Sound Tryz.prog s:=zi k.2 uw an a hd
theorem bnd(k:Ek)(an:List (Nat×LA)){s:Fsp}(fn:Func)(a:Tryz.prog.funcs[s.fid]?=some fn:=by kernel_rfl)(hd:∀x,aoT k.1 an fn s.ps s.rs s.ex s.sh x=s.fn x:=by (intro x;kernel_rfl)):gQ Tryz.prog s:=U4 k.2 uw an a hd
theorem ssd(k:Ek)(an:List (Nat×LA)){s:Fsp}(fn:Func)(a:Tryz.prog.funcs[s.fid]?=some fn:=by kernel_rfl)(hd:∀x,aoS k.1 an fn s.ps s.rs x=s.fn x:=by (intro x;kernel_rfl)):SV Tryz.prog s:=Tm k.2 uw an a hd
theorem mnd(k:Ek)(an:List (Nat×LM)){m:Msp}(fn:Func)(a:Tryz.prog.funcs[m.fid]?=some fn:=by kernel_rfl)(hd:∀x n,ajV k.1 an fn m.sh x n=m.fn x n:=by (intro x n;kernel_rfl)):iM Tryz.prog m:=Uf k.2 an a hd
abbrev roI:Sr:=.ro (.base .int)
abbrev roS:Sr:=.ro (.base .str)
abbrev roE(b:Base):Sr:=.ro (.base b)
abbrev roL(b:Base):Sr:=.ro (.list (.base b))
abbrev owE(b:Base)(k:Nat):Sr:=.own (.base b) true true k
abbrev _root_.Go.Abs.LA.c(n:Nat)(its:List It)(boxes:List (Nat×Nat))(ptrs:List (Nat×Nat×Nat)):LA:={ n:=n,its:=its,boxes:=boxes,ptrs:=ptrs }
end
end Go.Proofs.YtapgeemjgckgaaaGreatDoor
/- The frame of every law's proof: closed facts of this translation. -/
namespace Go.Proofs.YtapgeemjgckgaaaGreatDoor
open Go.Abs Go.Proofs Go.RowKit
theorem jw:yN Tryz.prog tt=true:=by kernel_rfl
theorem aoA:ownKnob Tryz.prog.godebug=none:=by kernel_rfl
theorem ae5:laidOutB Tryz.prog=true:=by kernel_rfl
end Go.Proofs.YtapgeemjgckgaaaGreatDoor
