import Derived.Test.YtkebfkahdmddpaaGreatDoorKinds
import Derived.Test.YtkebfkahdmddpaaGreatDoorS4
import Derived.ProofKit
import Derived.SizedLaws
import Derived.ChangeOld
import Derived.Test.YtkebfkahdmddpaaGreatDoorTypes
import Derived.Test.YtkebfkahdmddpaaGreatDoorProg
import Derived.Lib.ItoaNum
import Derived.Lib.AtoiAll
import Derived.Lib.Join
import Derived.Lib.Bytealg
import Derived.Lib.Strings
import Derived.Lib.Split
set_option linter.unusedSimpArgs false
set_option linter.unusedVariables false
/- What the handed arguments read as: data. -/
namespace Go.Abs
open Go.RowKit
inductive fH(L:Nat):D->Prop
 | int (k:IntKind) (n:Int) (h:(Lit.int k n).wf=true):fH L (.int k n)
 | bool (b:Bool):fH L (.bool b)
 | str (s:Str) (h:s.length<=L):fH L (.str s)
 | list (t:Ty) (xs:List t.den) (h:xs.length<=L) (hx:∀(i:Nat) (x:t.den) (j:Nat) (d:D),xs[i]?=some x->(t.cells x)[j]?=some d->fH L d):fH L (.list t xs)
def FX(P:Program)(k:TypeId->Option (List Kd)):Nat->List Field->Option (List Kd)
 | _,[]=>some []
 | off,f::r=>if f.offset=off then (k f.type).bind fun ks=>if ks.length=P.cellsOf f.type then (FX P k (off+ks.length) r).map (ks ++ ·)else none else none
def qZ(P:Program)(T:TT):Nat->TypeId->Option (List Kd)
 | 0,_=>none
 | n+1,t=>match P.underlying t with
  | some .bool=>some [.bool]
  | some (.int k)=>some [.int k]
  | some .string=>some [.str]
  | some (.slice _)=>(lk T.elem t).map fun τ=>[.list τ]
  | some (.struct fs)=>(FX P (qZ P T n) 0 fs.toList).bind fun ks=>if ks.length=P.cellsOf t then some ks else none
  | _=>none
def wP(P:Program)(T:TT):Bool:=T.elem.all fun x=>match P.underlying x.1 with
 | some (.slice e)=>decide (qZ P T 9 e=some x.2.kinds)&&decide (P.cellsOf e=x.2.size)&&decide (0<P.bytesOf e)
 | _=>false
theorem JJ{α:Type}{Q:Nat->α->Prop}:∀(n:Nat),(∀i,i<n->∃x,Q i x)->∃xs:List α,xs.length=n/\∀i x,xs[i]?=some x->Q i x
 | 0,_=>⟨[],rfl,fun i x h=>(by simp at h)⟩
 | n+1,h=>by
  obtain⟨xs,b,c⟩:=JJ n fun i hi=>h i (by omega)
  obtain⟨x,d⟩:=h n (by omega);refine⟨xs++[x],by simp[b],fun i y a=>?_⟩;rw[List.getElem?_append]at a;split at a
  ·exact c i y a
  ·rename_i hi;have:i=n:=by
    have:=(zC.1 a).1;simp at this;omega
   subst this;simp[b]at a;subst a;exact d
theorem NP{α β:Type}{f:α->Option β}:∀ {xs:List α} {ys:List β},xs.mapM f=some ys->ys.length=xs.length/\∀(i:Nat) (x:α),xs[i]?=some x->∃y,ys[i]?=some y/\f x=some y
 | [],ys,h=>by
  simp only[List.mapM_nil]at h;cases h
  exact⟨rfl,fun i x h=>by simp at h⟩
 | a::xs,ys,h=>by
  simp only[List.mapM_cons,Option.bind_eq_bind,zB,Option.pure_def,zD]at h;obtain⟨y,c,zs,d,rfl⟩:=h;obtain⟨e,g⟩:=NP d;refine⟨by simp[e],fun i x b=>?_⟩;cases i with
  | zero=>simp at b;subst b;exact⟨y,rfl,c⟩
  | succ i=>simp at b;simpa using g i x b
section
variable {H:Type} {enc:TypeId×Value->H} {P:Program} {T:TT} {w:World}
theorem weightsAll_mem{t:TypeId}{d:DataW H}{n:Nat}:∀ {ds:List (DataW H)},d∈ds->n∈d.weights P t->n∈DataW.weightsAll P t ds
 | d'::ds,a,b=>by
  simp only[DataW.weightsAll,List.mem_append];rcases bc.1 a with rfl | a
  ·exact .inl b
  ·exact .inr (weightsAll_mem a b)
def RF(w:World)(_:Nat)(d:D)(v:Value):Prop:=Rep w (fun b _=>b<w.heap.size) d v/\fH reachBytes d
theorem aW.cat{R:D->Value->Prop}:∀ {n m k:Nat} {ds ds':List D} {vs vs':List Value},aW (fun _=>R) n ds vs->aW (fun _=>R) m ds' vs'->aW (fun _=>R) k (ds++ds') (vs++vs')
 | n,m,k,[],ds',[],vs',_,h=>by
  have:∀ {m k:Nat} {ds:List D} {vs:List Value},aW (fun _=>R) m ds vs->aW (fun _=>R) k ds vs:=by
   intro m k ds;induction ds generalizing m k with
   | nil=>intro vs h;cases vs with
    | nil=>trivial
    | cons=>exact h.elim
   | cons d ds ih=>intro vs h;cases vs with
    | nil=>exact h.elim
    | cons v vs=>exact⟨h.1,ih h.2⟩
  exact this h
 | n,m,k,d::ds,ds',v::vs,vs',h,a=>⟨h.1,aW.cat (n:=n+1) h.2 a⟩
theorem trod_bool{fuel:Nat}{t:TypeId}(a:P.underlying t=some .bool){cs:List Value}{d:DataW H}{ps:List MemPlace}
  (h:DataW.trod enc P w 0 (fun _=>true) true (fuel+1) t cs=some (d,ps)):∃b,cs=[.bool b]:=by
 simp only[DataW.trod,a]at h;split at h<;>first | exact⟨_,rfl⟩ | (rename_i e;cases e;done) | (rename_i e _;cases e;done) | cases h
theorem trod_int{fuel:Nat}{t:TypeId}{k:IntKind}(a:P.underlying t=some (.int k)){cs:List Value}{d:DataW H}{ps:List MemPlace}
  (h:DataW.trod enc P w 0 (fun _=>true) true (fuel+1) t cs=some (d,ps)):∃n,cs=[.int k n]/\(Lit.int k n).wf=true:=by
 simp only[DataW.trod,a]at h;split at h<;>first | (rename_i e;cases e;done) | (rename_i e _;cases e;done) | skip
 ·rename_i e;cases e
  split at h
  ·rename_i hh;exact⟨_,by rw[hh.1],hh.2⟩
  ·cases h
 all_goals cases h
theorem trod_string{fuel:Nat}{t:TypeId}(a:P.underlying t=some .string){cs:List Value}{d:DataW H}{ps:List MemPlace}
  (h:DataW.trod enc P w 0 (fun _=>true) true (fuel+1) t cs=some (d,ps)):∃s,cs=[.string s]/\d=.lit (.string s.data.toList):=by
 simp only[DataW.trod,a]at h;split at h<;>first | (rename_i e;cases e;done) | (rename_i e _;cases e;done) | skip
 ·split at h
  ·cases h;exact⟨_,rfl,rfl⟩
  ·cases h
 all_goals cases h
theorem trod_slice{fuel:Nat}{t e:TypeId}(c:P.underlying t=some (.slice e)){cs:List Value}{d:DataW H}{ps:List MemPlace}
  (h:DataW.trod enc P w 0 (fun _=>true) true (fuel+1) t cs=some (d,ps)):cs=[.slice none 0 0]\/∃a len cap elems rest,cs=[.slice (some a) len cap]/\len<=cap /\
   (List.range len).mapM (fun i=>(w.cells? 0 (a.add (i*P.cellsOf e)) (P.cellsOf e)).bind (DataW.trod enc P w 0 (fun _=>true) true fuel e))=some elems/\d=.slice (elems.map (·.1)) rest:=by
 simp only[DataW.trod,c]at h;split at h<;>first | (rename_i e;cases e;done) | (rename_i e _;cases e;done) | skip
 ·exact .inl rfl
 ·rename_i e' a len cap b;cases b
  split at h
  case isFalse=>cases h
  rename_i f;simp only[zB,Option.map_eq_some_iff]at h;obtain⟨elems,g,rest,k,j⟩:=h;cases j
  exact .inr ⟨a,len,cap,elems,_,rfl,f.2.1,g,rfl⟩
 all_goals cases h
theorem trod_struct{fuel:Nat}{t:TypeId}{fs:Array Field}(a:P.underlying t=some (.struct fs)){cs:List Value}{d:DataW H}{ps:List MemPlace}
  (h:DataW.trod enc P w 0 (fun _=>true) true (fuel+1) t cs=some (d,ps)):∃xs,cs.length=P.cellsOf t/\fs.toList.mapM (fun f=>DataW.trod enc P w 0 (fun _=>true) true fuel f.type ((cs.drop f.offset).take (P.cellsOf f.type)))=some xs/\d=.agg (xs.map (·.1)):=by
 simp only[DataW.trod,a]at h;split at h
 ·rename_i b;rw[Option.map_eq_some_iff]at h;obtain⟨xs,c,e⟩:=h;cases e
  exact⟨xs,b,c,rfl⟩
 ·cases h
theorem acE{a:Addr}{n:Nat}{vs:List Value}(h:w.cells? 0 a n=some vs):vs.length=n/\∀j v,vs[j]?=some v->w.cell? (a.add j)=some v:=by
 unfold World.cells? at h;rw[if_pos (Nat.zero_le _)]at h;obtain⟨b,d⟩:=NP h;refine⟨by simpa using b,fun j v hv=>?_⟩;have e:j<n:=by have:=(zC.1 hv).1;rw[b]at this;simpa using this
 obtain⟨y,c,f⟩:=d j j (by simp[e]);rw[hv]at c;cases c
 exact f
theorem OX{a:Addr}{v:Value}(h:w.cell? a=some v):a.block<w.heap.size/\a.spot=none:=by
 unfold World.cell? at h;split at h
 ·rename_i hh;refine⟨(aR.1 hh).1,?_⟩;split at h
  ·cases h
  ·rename_i b;simpa using b
 ·cases h
theorem aeK{fuel n:Nat}{cs:List Value}
  (ih:∀(t:TypeId) (cs:List Value) (d:DataW H) (ps:List MemPlace) (ks:List Kd),qZ P T n t=some ks ->
   DataW.trod enc P w 0 (fun _=>true) true fuel t cs=some (d,ps)->(∀m,m∈d.weights P t->m<=reachBytes)->∃ds:List D,ds.map kd=ks/\aW (RF w) 0 ds cs) :
  ∀(fs:List Field) (off:Nat) (ks:List Kd) (xs:List (DataW H×List MemPlace)),FX P (qZ P T n) off fs=some ks ->
   fs.mapM (fun f=>DataW.trod enc P w 0 (fun _=>true) true fuel f.type ((cs.drop f.offset).take (P.cellsOf f.type)))=some xs ->
   (∀m,m∈DataW.weightsEach P (fs.map (·.type)) (xs.map (·.1))->m<=reachBytes) ->
   ∃ds:List D,ds.map kd=ks/\aW (RF w) 0 ds ((cs.drop off).take ks.length)
 | [],off,ks,xs,a,_,_=>by
  simp only[FX,zD]at a;subst a;exact⟨[],rfl,by simp;trivial⟩
 | f::fs,off,ks,xs,a,h,c=>by
  simp only[FX]at a;split at a
  case isFalse=>cases a
  rename_i l;simp only[zB]at a;obtain⟨b,g,a⟩:=a;split at a
  case isFalse=>cases a
  rename_i o;rw[Option.map_eq_some_iff]at a;obtain⟨i,j,rfl⟩:=a;simp only[List.mapM_cons,Option.bind_eq_bind,zB,Option.pure_def,zD]at h;obtain⟨x,p,ys,q,rfl⟩:=h;simp only[List.map_cons,DataW.weightsEach,List.mem_append]at c;obtain⟨r,s,u⟩:=ih f.type _ x.1 x.2 b g p fun m k=>c m (.inl k)
  obtain⟨v,y,z⟩:=aeK ih fs (off+b.length) i ys j q fun m k=>c m (.inr k)
  refine⟨r++v,by simp[s,y],?_⟩;have e:(cs.drop off).take (b++i).length=(cs.drop f.offset).take (P.cellsOf f.type)++(cs.drop (off+b.length)).take i.length:=by
   rw[l,<- o,a7,List.take_add,List.drop_drop]
  rw[e];exact aW.cat u z
theorem Lm(F:wP P T=true):∀(fuel n:Nat) (t:TypeId) (cs:List Value) (d:DataW H) (ps:List MemPlace) (ks:List Kd),qZ P T n t=some ks ->
  DataW.trod enc P w 0 (fun _=>true) true fuel t cs=some (d,ps)->(∀m,m∈d.weights P t->m<=reachBytes)->∃ds:List D,ds.map kd=ks/\aW (RF w) 0 ds cs
 | 0,n,t,cs,d,ps,ks,_,h,_=>by simp[DataW.trod]at h
 | fuel+1,0,t,cs,d,ps,ks,c,_,_=>by simp[qZ]at c
 | fuel+1,n+1,t,cs,d,ps,ks,c,h,o=>by
  rw[qZ]at c;split at c
  ·rename_i f;cases c
   obtain⟨b,rfl⟩:=trod_bool f h;exact⟨[.bool b],rfl,⟨.bool b,.bool b⟩,trivial⟩
  ·rename_i k f;cases c
   obtain⟨m,rfl,z⟩:=trod_int f h;exact⟨[.int k m],rfl,⟨.int k m,.int k m z⟩,trivial⟩
  ·rename_i f;cases c
   obtain⟨s,rfl,rfl⟩:=trod_string f h;exact⟨[.str s.data.toList],rfl,⟨.str s,.str _ (o _ (by simp[DataW.weights]))⟩,trivial⟩
  ·rename_i e f;rw[Option.map_eq_some_iff]at c;obtain⟨τ,hτ,rfl⟩:=c;have A:=List.all_eq_true.1 F _ (xW hτ);simp only[f,zI,decide_eq_true_eq]at A;obtain⟨⟨G,I⟩,J⟩:=A;rcases trod_slice f h with rfl | ⟨a,len,cap,elems,rest,rfl,V,z,rfl⟩
   ·exact⟨[.list τ []],rfl,⟨.nil τ,.list τ [] (Nat.zero_le _) (fun i x j d l=>by simp at l)⟩,trivial⟩
   obtain⟨K,L⟩:=NP z;have W:elems.length=len:=by simpa using K
   simp only[DataW.weights,f,bc,List.mem_append]at o;have key:∀i,i<len->∃x:τ.den,∃vs:List Value,aW (RF w) 0 (τ.cells x) vs/\∀j v,vs[j]?=some v->w.cell? (Addr.add (a.add (i*τ.size)) j)=some v:=by
    intro i hi;obtain⟨y,X,u⟩:=L i i (by simp[hi]);rw[zB]at u;obtain⟨vs,M,u⟩:=u;obtain⟨E,N⟩:=acE M;obtain⟨ds,g,p⟩:=Lm F fuel 9 e vs y.1 y.2 _ G u fun m O=>o m (.inr (.inl (weightsAll_mem (List.mem_map_of_mem (zG X)) O)))
    obtain⟨x,l⟩:=CZ g;exact⟨x,vs,by rw[Ty.eG l];exact p,fun j v hv=>by rw[<- I];exact N j v hv⟩
   obtain⟨xs,q,Q⟩:=JJ len key;have hlen:xs.length<=reachBytes:=by
    have Y:=o _ (.inl rfl);have h2:len*1<=(elems.length+rest.length)*P.bytesOf e:=Nat.mul_le_mul (by omega) J;rw[List.length_map]at Y;omega
   have hcell:∀(i:Nat) (x:τ.den) (j:Nat) (d:D),xs[i]?=some x->(τ.cells x)[j]?=some d->∃v,w.cell? (Addr.add (a.add (i*τ.size)) j)=some v/\RF w 0 d v:=by
    intro i x j d l g;obtain⟨vs,p,N⟩:=Q i x l;obtain⟨E,R⟩:=p.get;have U:j<vs.length:=by rw[<- E];exact (zC.1 g).1
    have:=R j d vs[j] g (by simp[U]);exact⟨vs[j],N j _ (by simp[U]),this⟩
   refine⟨[.list τ xs],rfl,⟨?_,.list τ xs hlen fun i x j d l g=>?_⟩,trivial⟩
   ·cases B:len with
    | zero=>
     rw[B]at q;obtain rfl:=List.eq_nil_of_length_eq_zero q;exact .emp τ a cap
    | succ m=>
     rw[<- B];have C:a.spot=none:=by
      have Z:0<xs.length:=by omega
      have S:0<(τ.cells xs[0]).length:=by rw[Ty.bn];exact τ.size_pos
      obtain⟨v,hv,_⟩:=hcell 0 xs[0] 0 (τ.cells xs[0])[0] (by simp[Z]) (by simp[S]);have:=(OX hv).2;simpa [Addr.add] using this
     obtain⟨b,off,sp⟩:=a;simp only at C;subst C;rw[<- q];refine .list τ xs b off cap (fun i j=>(w.cell? ⟨b,off+(i*τ.size+j),none⟩).getD undef) (by omega) ?_ ?_
     ·intro i x j d l g;obtain⟨v,hv,_⟩:=hcell i x j d l g;rw[addr_add,addr_add,Nat.add_assoc]at hv;rw[hv];exact⟨rfl,(OX hv).1⟩
     ·intro i x j d l g;obtain⟨v,hv,p,_⟩:=hcell i x j d l g;rw[addr_add,addr_add,Nat.add_assoc]at hv;rw[hv];exact p
   ·obtain⟨v,_,_,u⟩:=hcell i x j d l g;exact u
  ·rename_i fs f;simp only[zB]at c;obtain⟨k,c,r⟩:=c;split at r
   case isFalse=>cases r
   rename_i E;cases r
   obtain⟨xs,R,z,rfl⟩:=trod_struct f h;simp only[DataW.weights,f]at o;obtain⟨ds,g,p⟩:=aeK (cs:=cs) (fun t cs d ps ks c h o=>Lm F fuel n t cs d ps ks c h o) fs.toList 0 ks xs c z o;refine⟨ds,g,?_⟩;rw[E,<- R]at p;simpa using p
  ·cases c
termination_by fuel=>fuel
end
end Go.Abs
/- A law's statement out of its contract and its plain law. -/
namespace Go.Abs
open Go.RowKit Go.ChangeShapes
def ail(P:Program)(T:TT)(t:TypeId)(s:Sh):Bool:=
 (match P.underlying t with
  | some d=>I8 d==s.agg
  | none=>false)&&decide (qZ P T 9 t=some s.t.kinds)&&(s.agg||decide (s.t.size=1))
def LH(P:Program)(T:TT):List TypeId->List Sh->Bool
 | [],[]=>true
 | t::ts,s::ss=>ail P T t s&&LH P T ts ss
 | _,_=>false
def FitT(L:Nat)(ss:List Sh)(x:Tup ss):Prop:=∀d,d∈dn ss x->fH L d
section
variable {H:Type} {enc:TypeId×Value->H} {P:Program} {T:TT} {w:World}
theorem aW.split{n:Nat}{ds:List D}{vs:List Value}(h:aW (RF w) n ds vs) :
  aW (fun _ d u=>Rep w (fun b _=>b<w.heap.size) d u) n ds vs/\∀d,d∈ds->fH reachBytes d:=by
 induction ds generalizing n vs with
 | nil=>cases vs with
  | nil=>exact⟨trivial,fun d h=>by cases h⟩
  | cons=>exact h.elim
 | cons d ds ih=>cases vs with
  | nil=>exact h.elim
  | cons v vs=>
   obtain⟨c,e⟩:=ih h.2
   refine⟨⟨h.1.1,c⟩,fun d' a=>?_⟩
   rcases bc.1 a with rfl | a
   ·exact h.1.2
   ·exact e d' a
theorem agL(y:wP P T=true){t:TypeId}{s:Sh}(q:ail P T t s=true){v:Value}{d:DataW H}{ps:List MemPlace}(a:Value.okWide P w .any 0 t v\/∃base,Value.okWide P w .any base t v)
  (h:DataW.Trod enc P w 0 (fun _=>true) true t v d ps) (z:∀m,m∈d.weights P t->m<=reachBytes) (n:Nat) :
  ∃x:s.t.den,ShR (fun _ d u=>Rep w (fun b _=>b<w.heap.size) d u) n s x v/\∀d,d∈s.t.cells x->fH reachBytes d:=by
 obtain⟨base,a⟩:∃base,Value.okWide P w .any base t v:=a.elim (fun h=>⟨_,h⟩) id;obtain⟨fuel,h⟩:=h;simp only[ail,zI,Bool.or_eq_true,decide_eq_true_eq]at q;obtain⟨⟨c,f⟩,l⟩:=q;obtain⟨ds,i,A⟩:=Lm y fuel 9 t _ d ps _ f h z;obtain⟨x,B⟩:=CZ i;obtain⟨g,r⟩:=A.split;rw[<- Ty.eG B]at g r;refine⟨x,?_,r⟩;have key:∀ {m k:Nat} {ds:List D} {vs:List Value},aW (fun _ d u=>Rep w (fun b _=>b<w.heap.size) d u) m ds vs->aW (fun _ d u=>Rep w (fun b _=>b<w.heap.size) d u) k ds vs:=by
  intro m k ds;induction ds generalizing m k with
  | nil=>intro vs h;cases vs with
   | nil=>trivial
   | cons=>exact h.elim
  | cons d ds ih=>intro vs h;cases vs with
   | nil=>exact h.elim
   | cons v vs=>exact⟨h.1,ih h.2⟩
 unfold Value.okWide at a;split at c
 case h_2=>cases c
 rename_i dd j;rw[j]at a;unfold ShR;cases o:s.agg with
 | true=>
  rw[o,beq_iff_eq]at c;have:∃cs,v=.agg cs:=by
   cases dd<;>simp[I8]at c
   ·obtain⟨cs,e,_⟩:=a;exact⟨cs,e⟩
   ·obtain⟨cs,e,_⟩:=a;exact⟨cs,e⟩
  obtain⟨cs,rfl⟩:=this;exact⟨cs.toList,by simp,key g⟩
 | false=>
  have C:=g.get.1;rw[Ty.bn,l.resolve_left (by rw[o];simp)]at C;have E:v.cells.toList=[v]:=by
   have i:dd=.bool\/(∃k,dd=.int k)\/dd=.string\/∃e,dd=.slice e:=by
    rw[o,beq_iff_eq]at c;rw[qZ,j]at f;cases dd<;>simp[I8]at c<;>simp at f<;>simp
   have p:Cell.ok P w .any base t v:=by
    rcases i with rfl | ⟨k,rfl⟩ | rfl | ⟨e,rfl⟩<;>simpa [Cell.okWide,j] using a
   unfold Cell.ok at p;rw[j]at p;rcases i with rfl | ⟨k,rfl⟩ | rfl | ⟨e,rfl⟩<;>cases v<;>first | rfl | exact p.elim
  rw[E]at g;exact key g
theorem Yd(i:wP P T=true){base:Nat}:∀ {ts:List TypeId} {ss:List Sh} {vs:List Value} {ds:List (DataW H)} {ps:List MemPlace} (n:Nat),LH P T ts ss=true ->
  (∀(j:Nat) t v,ts[j]?=some t->vs[j]?=some v->Value.okWide P w .any base t v)->DataW.TrodAll enc P w 0 (fun _=>true) true ts vs ds ps ->
  (∀m,m∈DataW.weightsEach P ts ds->m<=reachBytes)->∃x:Tup ss,kz (fun _ d u=>Rep w (fun b _=>b<w.heap.size) d u) n ss x vs/\FitT reachBytes ss x
 | [],[],[],[],ps,n,_,_,_,_=>⟨(),trivial,fun d c=>by cases c⟩
 | [],[],_::_,_,ps,n,_,_,h,_=>by simp[DataW.TrodAll]at h
 | [],[],[],_::_,ps,n,_,_,h,_=>by simp[DataW.TrodAll]at h
 | t::ts,s::ss,[],ds,ps,n,_,_,h,_=>by simp[DataW.TrodAll]at h
 | t::ts,s::ss,v::vs,[],ps,n,_,_,h,_=>by simp[DataW.TrodAll]at h
 | [],_::_,vs,ds,ps,n,a,_,_,_=>by simp[LH]at a
 | _::_,[],vs,ds,ps,n,a,_,_,_=>by simp[LH]at a
 | t::ts,s::ss,v::vs,d::ds,ps,n,a,e,h,f=>by
  simp only[LH,zI]at a;obtain⟨p,q,r,k,rfl⟩:=h;simp only[DataW.weightsEach,List.mem_append]at f;obtain⟨x,l,fx⟩:=agL i a.1 (.inr ⟨base,e 0 t v rfl rfl⟩) r (fun m g=>f m (.inl g)) n;obtain⟨y,o,fy⟩:=Yd i (n+s.t.size) a.2 (fun j t v z hv=>e (j+1) t v (by simpa using z) (by simpa using hv)) k (fun m g=>f m (.inr g));cases ss with
  | nil=>
   cases vs with
   | nil=>exact⟨x,l,fun d c=>fx d c⟩
   | cons=>cases ts<;>simp[LH]at a;cases ds<;>simp[DataW.TrodAll]at k
  | cons s' ss=>
   refine⟨(x,y),?_,fun d c=>?_⟩
   ·cases vs with
    | nil=>cases ss<;>exact False.elim o
    | cons u us=>exact⟨l,o⟩
   ·simp only[dn,List.mem_append]at c;exact c.elim (fx d) (fy d)
theorem O3(c:laidOutB P=true){w':World}(e:Below w.heap.size w w'):∀ {ts:List TypeId} {vs:List Value} {ds:List (DataW H)} {ps:List MemPlace},ts.all (fun t=>P.readableRec t&&decide (t<P.types.size))=true ->
  DataW.TrodAll enc P w 0 (fun _=>true) true ts vs ds ps->DataW.TrodAll enc P w' 0 (fun b=>decide (b<w.heap.size)) true ts vs ds ps
 | [],[],[],_,_,h=>h
 | [],_::_,_,_,_,h=>by simp[DataW.TrodAll]at h
 | [],[],_::_,_,_,h=>by simp[DataW.TrodAll]at h
 | _::_,[],_,_,_,h=>by simp[DataW.TrodAll]at h
 | _::_,_::_,[],_,_,h=>by simp[DataW.TrodAll]at h
 | t::ts,v::vs,d::ds,ps,a,h=>by
  obtain⟨p,q,f,g,rfl⟩:=h;simp only[List.all_cons,zI,decide_eq_true_eq]at a;exact⟨p,q,Below.trod c a.1.1 a.1.2 f e (fun x i=>(by obtain⟨n,j⟩:=f;exact DataW.trod_lt n _ _ _ j x i)),O3 c e a.2 g,rfl⟩
theorem aeg(B:wP P T=true)(C:laidOutB P=true){fn:Func}{f:Nat}{ss:List Sh}{ex:Bool}{F:Tup ss->Option Bool}(D:Sound P { fid:=f,ps:=ss,rs:=[⟨false,.base .bool⟩],ex:=ex,fn:=F })(g:LH P T fn.params.toList ss=true)
  (E:fn.params.toList.all (fun t=>P.readableRec t&&decide (t<P.types.size))=true) {tb:TypeId} (hres:fn.resultTypes = #[tb]) (i:P.underlying tb=some .bool) {sp:ChangeSpec} (hvars:sp.vars=[])
  (k:∀ds:List (DataW H),ds.length=fn.params.toList.length->sp.fn H (ds++[])={ results:=[.lit (.bool true)],args:=ds })
  (law:∀x,FitT reachBytes ss x->F x=some true)
  {W:World} {base:Nat} {args:Array Value} {ds gs:List (DataW H)} {before:List MemPlace}
  (hval:∀(j:Nat) t v,fn.params[j]?=some t->args[j]?=some v->Value.okWide P W .any base t v)
  (G:DataW.Whole enc P fn.params.toList sp.vars false W args.toList ds gs before)
  (a:(DataW.weightsEach P (fn.params.toList++sp.plain.varTypes P) (ds++gs)).all (·<=reachBytes)=true) (l:amb W) :
  Calls P f args W fun e W'=>∃v,e=.returned v/\sp.post enc P fn false true false false W args v W':=by
 obtain⟨p,q,d,n,r,s,w⟩:=G;rw[hvars]at n;have y:gs=[]/\q=[]:=by
  cases gs with
  | nil=>exact⟨rfl,n⟩
  | cons=>exact n.elim
 obtain⟨rfl,rfl⟩:=y;have hlen:ds.length=fn.params.toList.length:=by
  have:∀ {ts:List TypeId} {vs:List Value} {ds:List (DataW H)} {ps:List MemPlace},DataW.TrodAll enc P W 0 (fun _=>true) true ts vs ds ps->ds.length=ts.length:=by
   intro ts;induction ts with
   | nil=>intro vs ds ps h;cases vs<;>cases ds<;>simp[DataW.TrodAll]at h ⊢
   | cons t ts ih=>
    intro vs ds ps h;cases vs<;>cases ds<;>simp only[DataW.TrodAll]at h
    obtain⟨_,_,_,I,_⟩:=h;simp[ih I]
  exact this d
 have z:sp.plain.varTypes P=[]:=by
  simp[DataSpec.varTypes,ChangeSpec.plain,hvars]
 rw[z,List.append_nil,List.append_nil]at a;obtain⟨x,J,fx⟩:=Yd B (base:=base) 0 g (fun j t v K hv=>hval j t v (by simpa using K) (by simpa using hv)) d (fun m L=>by simpa using List.all_eq_true.1 a m L);have:=D W _ args.toList x _ (law x fx) l J (fun b o h=>h);rw[Array.toArray_toList]at this;refine this.mono fun e W' c=>?_
 obtain⟨v,rfl,hbel,us,rfl,hres'⟩:=c;have M:us=[.bool true]:=by
  have ow:∀ {w' S fp u},Ow w' S true (.bool true) u fp->u=.bool true:=by
   intro w' S fp u h;cases h with
   | bool=>rfl
   | ro _ _ _ h=>cases h
  cases us with
  | nil=>cases ex<;>simp only at hres'<;>obtain⟨_,h,_⟩:=hres'<;>exact False.elim h
  | cons u us=>
   cases us with
   | cons=>cases ex<;>simp only at hres'<;>obtain⟨_,h,_⟩:=hres'<;>exact False.elim h
   | nil=>
    cases ex with
    | true=>
     obtain⟨fps,h,_⟩:=hres';have A:Ow W' (fun _ _=>False) true (.bool true) u (fps 0):=h.1;rw[ow A]
    | false=>
     obtain⟨S',h,_⟩:=hres';have A:Rep W' S' (.bool true) u:=h.1;cases A
     rfl
 subst M;have hWW:DataW.Whole enc P fn.params.toList sp.vars false W args.toList ds [] before:=⟨p,[],d,by rw[hvars];rfl,r,s,w⟩;have c:=k ds hlen;refine⟨_,rfl,ds,[],before,[],p,[],hWW,?_,?_,?_,hbel.frame _,fun h=>by cases h⟩
 ·rw[c,hres];exact trodAll_mk1 ⟨1,by simp[DataW.trod,i,pack,Value.cells]⟩
 ·rw[c];exact O3 C hbel E d
 ·rw[c,hvars];rfl
end
end Go.Abs
/- The tables of types of this translation, by gentabs.py. -/
namespace Go.Proofs.YtkebfkahdmddpaaGreatDoor
open Go.Abs
def tt:TT where
 shape:=[(2,false,1),(3,false,1),(4,false,1),(5,false,1),(6,false,1),(7,true,4),(8,true,4),(9,false,1),(10,false,1),(11,false,1),(12,false,1),(13,true,2),(14,true,2),(15,false,1),(16,false,1),(17,false,1),(18,true,1),(19,true,1),(21,false,1),(22,false,1),(24,false,1),(25,true,1),(26,true,1),(31,false,1),(33,false,1),(35,false,1),(36,true,4),(37,true,4),(38,false,1),(39,false,1),(40,true,7),(41,true,7),(42,true,14),(43,true,14),(46,false,1),(51,false,1),(63,true,6),(64,true,6),(74,true,3),(75,true,3),(96,false,1),(99,true,2),(100,true,2),(110,false,1),(113,false,1),(114,true,4),(115,true,4),(121,false,1),(122,true,2),(123,true,2),(127,true,2),(128,true,2),(129,false,1),(134,true,4),(135,true,4),(151,false,1),(152,true,3),(153,true,3),(183,false,1),(184,true,2),(185,true,2),(191,false,1),(198,false,1),(200,false,1),(205,false,1),(209,false,1),(212,false,1),(215,false,1),(219,false,1),(228,true,2),(229,true,2),(236,true,3),(237,true,3),(239,false,1),(243,false,1),(244,true,1),(245,true,1),(248,false,1),(249,false,1),(250,true,4),(251,true,4),(256,false,1),(257,false,1),(259,false,1),(260,false,1),(261,true,11),(262,true,11),(263,true,2),(264,true,2),(265,false,1),(266,true,2),(267,true,2)]
 zero:=[(2,[.d (.int .i64 0)]),
  (3,[.d (.int .i64 0)]),
  (4,[.d (.bool false)]),
  (5,[.d (.int .u8 0)]),
  (6,[.d (.int .u8 0)]),
  (7,[.d (.int .i64 0),.d (.int .i64 0),.d (.bool false),.d (.int .u8 0)]),
  (8,[.d (.int .i64 0),.d (.int .i64 0),.d (.bool false),.d (.int .u8 0)]),
  (9,[.d (.str [])]),
  (10,[.d (.str [])]),
  (11,[.d (.str [])]),
  (12,[.d (.int .u64 0)]),
  (13,[.d (.str []),.d (.int .u64 0)]),
  (14,[.d (.str []),.d (.int .u64 0)]),
  (21,[.d (.int .i32 0)]),
  (22,[.nil]),
  (24,[.nil]),
  (25,[.nil]),
  (26,[.nil]),
  (31,[.nil]),
  (33,[.nil]),
  (35,[.nil]),
  (36,[.d (.int .i64 0),.d (.int .i64 0),.d (.str []),.nil]),
  (37,[.d (.int .i64 0),.d (.int .i64 0),.d (.str []),.nil]),
  (38,[.nil]),
  (39,[.nil]),
  (40,[.d (.int .i64 0),.d (.int .i64 0),.d (.int .i64 0),.d (.str []),.nil,.nil,.nil]),
  (41,[.d (.int .i64 0),.d (.int .i64 0),.d (.int .i64 0),.d (.str []),.nil,.nil,.nil]),
  (42,[.d (.int .i64 0),.d (.str []),.d (.int .i64 0),.d (.int .i64 0),.d (.str []),.nil,.d (.int .i64 0),.d (.int .i64 0),.d (.int .i64 0),.d (.str []),.nil,.nil,.nil,.d (.int .i64 0)]),
  (43,[.d (.int .i64 0),.d (.str []),.d (.int .i64 0),.d (.int .i64 0),.d (.str []),.nil,.d (.int .i64 0),.d (.int .i64 0),.d (.int .i64 0),.d (.str []),.nil,.nil,.nil,.d (.int .i64 0)]),
  (46,[.nil]),
  (63,[.d (.int .i64 0),.d (.int .i64 0),.d (.int .i64 0),.d (.str []),.d (.str []),.d (.int .i64 0)]),
  (64,[.d (.int .i64 0),.d (.int .i64 0),.d (.int .i64 0),.d (.str []),.d (.str []),.d (.int .i64 0)]),
  (74,[.nil,.d (.int .i64 0),.d (.int .i64 0)]),
  (75,[.nil,.d (.int .i64 0),.d (.int .i64 0)]),
  (110,[.nil]),
  (114,[.nil,.d (.int .i64 0),.d (.int .i64 0),.d (.int .i64 0)]),
  (115,[.nil,.d (.int .i64 0),.d (.int .i64 0),.d (.int .i64 0)]),
  (121,[.nil]),
  (122,[.nil,.nil]),
  (123,[.nil,.nil]),
  (127,[.d (.int .i64 0),.d (.int .i64 0)]),
  (128,[.d (.int .i64 0),.d (.int .i64 0)]),
  (129,[.d (.int .u64 0)]),
  (134,[.d (.int .i64 0),.d (.int .i64 0),.d (.int .i64 0),.d (.str [])]),
  (135,[.d (.int .i64 0),.d (.int .i64 0),.d (.int .i64 0),.d (.str [])]),
  (152,[.nil,.d (.int .i64 0),.d (.int .i64 0)]),
  (153,[.nil,.d (.int .i64 0),.d (.int .i64 0)]),
  (191,[.d (.int .i64 0)]),
  (198,[.d (.int .u32 0)]),
  (200,[.d (.int .u64 0)]),
  (209,[.d (.int .i64 0)]),
  (215,[.d (.int .u64 0)]),
  (228,[.d (.int .u8 0),.d (.int .u8 0)]),
  (229,[.d (.int .u8 0),.d (.int .u8 0)]),
  (244,[.d (.str [])]),
  (245,[.d (.str [])]),
  (256,[.d (.int .u8 0)]),
  (257,[.d (.int .u8 0)]),
  (259,[.d (.int .i32 0)]),
  (260,[.d (.int .i32 0)]),
  (265,[.nil]),
  (266,[.d (.str []),.nil]),
  (267,[.d (.str []),.nil])]
 fields:=[(7,[(0,false,1),(1,false,1),(2,false,1),(3,false,1)]),
  (8,[(0,false,1),(1,false,1),(2,false,1),(3,false,1)]),
  (13,[(0,false,1),(1,false,1)]),
  (14,[(0,false,1),(1,false,1)]),
  (18,[(0,false,1)]),
  (19,[(0,false,1)]),
  (25,[(0,false,1)]),
  (26,[(0,false,1)]),
  (36,[(0,false,1),(1,false,1),(2,false,1),(3,false,1)]),
  (37,[(0,false,1),(1,false,1),(2,false,1),(3,false,1)]),
  (40,[(0,false,1),(1,false,1),(2,false,1),(3,false,1),(4,false,1),(5,false,1),(6,false,1)]),
  (41,[(0,false,1),(1,false,1),(2,false,1),(3,false,1),(4,false,1),(5,false,1),(6,false,1)]),
  (42,[(0,false,1),(1,false,1),(2,true,4),(6,true,7),(13,false,1)]),
  (43,[(0,false,1),(1,false,1),(2,true,4),(6,true,7),(13,false,1)]),
  (63,[(0,false,1),(1,false,1),(2,false,1),(3,false,1),(4,false,1),(5,false,1)]),
  (64,[(0,false,1),(1,false,1),(2,false,1),(3,false,1),(4,false,1),(5,false,1)]),
  (74,[(0,false,1),(1,false,1),(2,false,1)]),
  (75,[(0,false,1),(1,false,1),(2,false,1)]),
  (99,[(0,false,1),(1,false,1)]),
  (100,[(0,false,1),(1,false,1)]),
  (114,[(0,false,1),(1,false,1),(2,false,1),(3,false,1)]),
  (115,[(0,false,1),(1,false,1),(2,false,1),(3,false,1)]),
  (122,[(0,false,1),(1,false,1)]),
  (123,[(0,false,1),(1,false,1)]),
  (127,[(0,false,1),(1,false,1)]),
  (128,[(0,false,1),(1,false,1)]),
  (134,[(0,false,1),(1,false,1),(2,false,1),(3,false,1)]),
  (135,[(0,false,1),(1,false,1),(2,false,1),(3,false,1)]),
  (152,[(0,false,1),(1,false,1),(2,false,1)]),
  (153,[(0,false,1),(1,false,1),(2,false,1)]),
  (184,[(0,false,1),(1,false,1)]),
  (185,[(0,false,1),(1,false,1)]),
  (228,[(0,false,1),(1,false,1)]),
  (229,[(0,false,1),(1,false,1)]),
  (236,[(0,false,1),(1,false,1),(2,false,1)]),
  (237,[(0,false,1),(1,false,1),(2,false,1)]),
  (244,[(0,false,1)]),
  (245,[(0,false,1)]),
  (250,[(0,false,1),(1,false,1),(2,false,1),(3,false,1)]),
  (251,[(0,false,1),(1,false,1),(2,false,1),(3,false,1)]),
  (261,[(0,false,1),(1,false,1),(2,false,1),(3,false,1),(4,false,1),(5,false,1),(6,false,1),(7,false,1),(8,false,1),(9,false,1),(10,false,1)]),
  (262,[(0,false,1),(1,false,1),(2,false,1),(3,false,1),(4,false,1),(5,false,1),(6,false,1),(7,false,1),(8,false,1),(9,false,1),(10,false,1)]),
  (263,[(0,false,1),(1,false,1)]),
  (264,[(0,false,1),(1,false,1)]),
  (266,[(0,false,1),(1,false,1)]),
  (267,[(0,false,1),(1,false,1)])]
 elem:=[(22,.base .u8),(24,.base .cell),(31,.base .part),(33,.base .str),(35,.base .expr),(38,.base .val),(39,.base .row),(46,.base .int),(110,.base .token),(121,.base .origin)]
 ints:=[(2,.i64),(3,.i64),(5,.u8),(6,.u8),(12,.u64),(21,.i32),(129,.u64),(191,.i64),(198,.u32),(200,.u64),(209,.i64),(215,.u64),(256,.u8),(257,.u8),(259,.i32),(260,.i32)]
 strs:=[9,10,11]
 bools:=[4]
 eqs:=[(64,[.int .i64,.int .i64,.int .i64,.str,.str,.int .i64]),(64,[.int .i64,.int .i64,.int .i64,.str,.str,.int .i64]),(135,[.int .i64,.int .i64,.int .i64,.str]),(128,[.int .i64,.int .i64]),(128,[.int .i64,.int .i64]),(135,[.int .i64,.int .i64,.int .i64,.str])]
end Go.Proofs.YtkebfkahdmddpaaGreatDoor
/- A list that is put in strict order: there is at most one such order. -/
namespace Go.Abs
end Go.Abs
/- What the library's functions compute, by their plain meaning. -/
namespace Go.Abs
def BJ(n:Int):Option Str:=if -9223372036854775808<=n/\n<=9223372036854775807 then some (Go.Lib.itoa n)else none
def BI(xs:List Str)(sep:Str):Option Str:=(gd xs.length).bind fun _=>(gd (Go.Lib.join xs sep).length).bind fun _=>some (Go.Lib.join xs sep)
def dW(s:Str)(c:Int):Option Int:=some (Go.Lib.indexByte s c.toNat.toUInt8)
def jg(s p:Str):Option Bool:=some (Go.Lib.hasPrefix s p)
def kH(s sep:Str):Option (List Str):=if s.length<4294967281/\1<=sep.length then some (Go.Lib.split s sep)else none
noncomputable def iK(xs:List Str):Option (List Str):=(gd xs.length).bind fun _=>some (xs.mergeSort fun x y=>decide (x<=y))
def addN(out:List Int)(n:Int):List Int:=if out.contains n=true then out else out++[n]
def aeV(xs:List Int):List Int:=xs.foldl addN []
noncomputable def JW(xs:List Int):List Int:=(aeV xs).mergeSort fun x y=>decide (x<=y)
def qC(s:Str)(low high:Int):Option (Int×Bool):=(gd s.length).bind fun _=>some (match Go.Lib.atoiAll s with
 | .ok v=>if v<low\/high<v\/Go.Lib.itoa v≠s then (0,false)else (v,true)
 | _=>(0,false))
def dH(rec:af->List Str->Option (List (Str×List Str)))(binds:Bool)(x:Str)(bound:List Str):Nat->List af->Option (List (Str×List Str))
 | _,[]=>some []
 | i,a::r=>(if binds&&decide (0<i)then (gd (bound.length+1)).bind fun _=>rec a (bound++[x])else rec a bound).bind fun u=>(dH rec binds x bound (i+1) r).bind fun v=>some (u++v)
def jC:Nat->af->List Str->Option (List (Str×List Str))
 | 0,_,_=>none
 | n+1,e,bound=>(gd bound.length).bind fun _=>(gd e.args.length).bind fun _=>
  if e.kind=3/\bound.contains e.text=false then some [(e.text,bound)]else dH (jC n) (decide (e.kind=7)||decide (e.kind=9)) e.text bound 0 e.args
end Go.Abs
