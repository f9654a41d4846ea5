import Derived.Test.YtapgeemjgckgaaaGreatDoorAbs
import Derived.Test.YtapgeemjgckgaaaGreatDoorS4
import Derived.ProofKit
import Derived.SizedLaws
import Derived.ChangeOld
import Derived.Test.YtapgeemjgckgaaaGreatDoorProg
import Derived.Lib.ItoaNum
import Derived.Lib.AtoiAll
import Derived.Lib.Join
import Derived.Lib.Bytealg
import Derived.Lib.Strings
import Derived.Lib.Split
set_option linter.unusedSimpArgs false
set_option linter.unusedVariables false
/- What the handed arguments read as: data. -/
namespace Go.Abs
open Go.RowKit
inductive aT(L:Nat):D->Prop
 | int (k:IntKind) (n:Int) (h:(Lit.int k n).wf=true):aT L (.int k n)
 | bool (b:Bool):aT L (.bool b)
 | str (s:Str) (h:s.length<=L):aT L (.str s)
 | list (t:Ty) (xs:List t.den) (h:xs.length<=L) (hx:∀(i:Nat) (x:t.den) (j:Nat) (d:D),xs[i]?=some x->(t.cells x)[j]?=some d->aT L d):aT L (.list t xs)
def IW(P:Program)(k:TypeId->Option (List Kd)):Nat->List Field->Option (List Kd)
 | _,[]=>some []
 | off,f::r=>if f.offset=off then (k f.type).bind fun ks=>if ks.length=P.cellsOf f.type then (IW P k (off+ks.length) r).map (ks ++ ·)else none else none
def rJ(P:Program)(T:TT):Nat->TypeId->Option (List Kd)
 | 0,_=>none
 | n+1,t=>match P.underlying t with
  | some .bool=>some [.bool]
  | some (.int k)=>some [.int k]
  | some .string=>some [.str]
  | some (.slice _)=>(lk T.elem t).map fun τ=>[.list τ]
  | some (.struct fs)=>(IW P (rJ P T n) 0 fs.toList).bind fun ks=>if ks.length=P.cellsOf t then some ks else none
  | _=>none
def yN(P:Program)(T:TT):Bool:=T.elem.all fun x=>match P.underlying x.1 with
 | some (.slice e)=>decide (rJ P T 9 e=some x.2.kinds)&&decide (P.cellsOf e=x.2.size)&&decide (0<P.bytesOf e)
 | _=>false
theorem MX{α:Type}{Q:Nat->α->Prop}:∀(n:Nat),(∀i,i<n->∃x,Q i x)->∃xs:List α,xs.length=n/\∀i x,xs[i]?=some x->Q i x
 | 0,_=>⟨[],rfl,fun i x h=>(by simp at h)⟩
 | n+1,h=>by
  obtain⟨xs,b,c⟩:=MX n fun i hi=>h i (by omega)
  obtain⟨x,d⟩:=h n (by omega);refine⟨xs++[x],by simp[b],fun i y a=>?_⟩;rw[List.getElem?_append]at a;split at a
  ·exact c i y a
  ·rename_i hi;have:i=n:=by
    have:=(zC.1 a).1;simp at this;omega
   subst this;simp[b]at a;subst a;exact d
theorem QC{α β:Type}{f:α->Option β}:∀ {xs:List α} {ys:List β},xs.mapM f=some ys->ys.length=xs.length/\∀(i:Nat) (x:α),xs[i]?=some x->∃y,ys[i]?=some y/\f x=some y
 | [],ys,h=>by
  simp only[List.mapM_nil]at h;cases h
  exact⟨rfl,fun i x h=>by simp at h⟩
 | a::xs,ys,h=>by
  simp only[List.mapM_cons,Option.bind_eq_bind,zB,Option.pure_def,zD]at h;obtain⟨y,c,zs,d,rfl⟩:=h;obtain⟨e,g⟩:=QC d;refine⟨by simp[e],fun i x b=>?_⟩;cases i with
  | zero=>simp at b;subst b;exact⟨y,rfl,c⟩
  | succ i=>simp at b;simpa using g i x b
section
variable {H:Type} {enc:TypeId×Value->H} {P:Program} {T:TT} {w:World}
theorem weightsAll_mem{t:TypeId}{d:DataW H}{n:Nat}:∀ {ds:List (DataW H)},d∈ds->n∈d.weights P t->n∈DataW.weightsAll P t ds
 | d'::ds,hd,a=>by
  simp only[DataW.weightsAll,List.mem_append];rcases ba.1 hd with rfl | hd
  ·exact .inl a
  ·exact .inr (weightsAll_mem hd a)
def RF(w:World)(_:Nat)(d:D)(v:Value):Prop:=Rep w (fun b _=>b<w.heap.size) d v/\aT reachBytes d
theorem aW.cat{R:D->Value->Prop}:∀ {n m k:Nat} {ds ds':List D} {vs vs':List Value},aW (fun _=>R) n ds vs->aW (fun _=>R) m ds' vs'->aW (fun _=>R) k (ds++ds') (vs++vs')
 | n,m,k,[],ds',[],vs',_,h=>by
  have:∀ {m k:Nat} {ds:List D} {vs:List Value},aW (fun _=>R) m ds vs->aW (fun _=>R) k ds vs:=by
   intro m k ds;induction ds generalizing m k with
   | nil=>intro vs h;cases vs with
    | nil=>trivial
    | cons=>exact h.elim
   | cons d ds ih=>intro vs h;cases vs with
    | nil=>exact h.elim
    | cons v vs=>exact⟨h.1,ih h.2⟩
  exact this h
 | n,m,k,d::ds,ds',v::vs,vs',h,a=>⟨h.1,aW.cat (n:=n+1) h.2 a⟩
theorem trod_bool{fuel:Nat}{t:TypeId}(a:P.underlying t=some .bool){cs:List Value}{d:DataW H}{ps:List MemPlace}
  (h:DataW.trod enc P w 0 (fun _=>true) true (fuel+1) t cs=some (d,ps)):∃b,cs=[.bool b]:=by
 simp only[DataW.trod,a]at h;split at h<;>first | exact⟨_,rfl⟩ | (rename_i e;cases e;done) | (rename_i e _;cases e;done) | cases h
theorem trod_int{fuel:Nat}{t:TypeId}{k:IntKind}(a:P.underlying t=some (.int k)){cs:List Value}{d:DataW H}{ps:List MemPlace}
  (h:DataW.trod enc P w 0 (fun _=>true) true (fuel+1) t cs=some (d,ps)):∃n,cs=[.int k n]/\(Lit.int k n).wf=true:=by
 simp only[DataW.trod,a]at h;split at h<;>first | (rename_i e;cases e;done) | (rename_i e _;cases e;done) | skip
 ·rename_i e;cases e
  split at h
  ·rename_i hh;exact⟨_,by rw[hh.1],hh.2⟩
  ·cases h
 all_goals cases h
theorem trod_string{fuel:Nat}{t:TypeId}(a:P.underlying t=some .string){cs:List Value}{d:DataW H}{ps:List MemPlace}
  (h:DataW.trod enc P w 0 (fun _=>true) true (fuel+1) t cs=some (d,ps)):∃s,cs=[.string s]/\d=.lit (.string s.data.toList):=by
 simp only[DataW.trod,a]at h;split at h<;>first | (rename_i e;cases e;done) | (rename_i e _;cases e;done) | skip
 ·split at h
  ·cases h;exact⟨_,rfl,rfl⟩
  ·cases h
 all_goals cases h
theorem trod_slice{fuel:Nat}{t e:TypeId}(c:P.underlying t=some (.slice e)){cs:List Value}{d:DataW H}{ps:List MemPlace}
  (h:DataW.trod enc P w 0 (fun _=>true) true (fuel+1) t cs=some (d,ps)):cs=[.slice none 0 0]\/∃a len cap elems rest,cs=[.slice (some a) len cap]/\len<=cap /\
   (List.range len).mapM (fun i=>(w.cells? 0 (a.add (i*P.cellsOf e)) (P.cellsOf e)).bind (DataW.trod enc P w 0 (fun _=>true) true fuel e))=some elems/\d=.slice (elems.map (·.1)) rest:=by
 simp only[DataW.trod,c]at h;split at h<;>first | (rename_i e;cases e;done) | (rename_i e _;cases e;done) | skip
 ·exact .inl rfl
 ·rename_i e' a len cap b;cases b
  split at h
  case isFalse=>cases h
  rename_i f;simp only[zB,Option.map_eq_some_iff]at h;obtain⟨elems,g,rest,k,j⟩:=h;cases j
  exact .inr ⟨a,len,cap,elems,_,rfl,f.2.1,g,rfl⟩
 all_goals cases h
theorem trod_struct{fuel:Nat}{t:TypeId}{fs:Array Field}(a:P.underlying t=some (.struct fs)){cs:List Value}{d:DataW H}{ps:List MemPlace}
  (h:DataW.trod enc P w 0 (fun _=>true) true (fuel+1) t cs=some (d,ps)):∃xs,cs.length=P.cellsOf t/\fs.toList.mapM (fun f=>DataW.trod enc P w 0 (fun _=>true) true fuel f.type ((cs.drop f.offset).take (P.cellsOf f.type)))=some xs/\d=.agg (xs.map (·.1)):=by
 simp only[DataW.trod,a]at h;split at h
 ·rename_i b;rw[Option.map_eq_some_iff]at h;obtain⟨xs,c,e⟩:=h;cases e
  exact⟨xs,b,c,rfl⟩
 ·cases h
theorem ahr{a:Addr}{n:Nat}{vs:List Value}(h:w.cells? 0 a n=some vs):vs.length=n/\∀j v,vs[j]?=some v->w.cell? (a.add j)=some v:=by
 unfold World.cells? at h;rw[if_pos (Nat.zero_le _)]at h;obtain⟨b,d⟩:=QC h;refine⟨by simpa using b,fun j v hv=>?_⟩;have e:j<n:=by have:=(zC.1 hv).1;rw[b]at this;simpa using this
 obtain⟨y,c,f⟩:=d j j (by simp[e]);rw[hv]at c;cases c
 exact f
theorem SC{a:Addr}{v:Value}(h:w.cell? a=some v):a.block<w.heap.size/\a.spot=none:=by
 unfold World.cell? at h;split at h
 ·rename_i hh;refine⟨(aM.1 hh).1,?_⟩;split at h
  ·cases h
  ·rename_i b;simpa using b
 ·cases h
theorem ajE{fuel n:Nat}{cs:List Value}
  (ih:∀(t:TypeId) (cs:List Value) (d:DataW H) (ps:List MemPlace) (ks:List Kd),rJ P T n t=some ks ->
   DataW.trod enc P w 0 (fun _=>true) true fuel t cs=some (d,ps)->(∀m,m∈d.weights P t->m<=reachBytes)->∃ds:List D,ds.map kd=ks/\aW (RF w) 0 ds cs) :
  ∀(fs:List Field) (off:Nat) (ks:List Kd) (xs:List (DataW H×List MemPlace)),IW P (rJ P T n) off fs=some ks ->
   fs.mapM (fun f=>DataW.trod enc P w 0 (fun _=>true) true fuel f.type ((cs.drop f.offset).take (P.cellsOf f.type)))=some xs ->
   (∀m,m∈DataW.weightsEach P (fs.map (·.type)) (xs.map (·.1))->m<=reachBytes) ->
   ∃ds:List D,ds.map kd=ks/\aW (RF w) 0 ds ((cs.drop off).take ks.length)
 | [],off,ks,xs,a,_,_=>by
  simp only[IW,zD]at a;subst a;exact⟨[],rfl,by simp;trivial⟩
 | f::fs,off,ks,xs,a,h,c=>by
  simp only[IW]at a;split at a
  case isFalse=>cases a
  rename_i l;simp only[zB]at a;obtain⟨b,g,a⟩:=a;split at a
  case isFalse=>cases a
  rename_i o;rw[Option.map_eq_some_iff]at a;obtain⟨i,j,rfl⟩:=a;simp only[List.mapM_cons,Option.bind_eq_bind,zB,Option.pure_def,zD]at h;obtain⟨x,p,ys,q,rfl⟩:=h;simp only[List.map_cons,DataW.weightsEach,List.mem_append]at c;obtain⟨r,s,u⟩:=ih f.type _ x.1 x.2 b g p fun m k=>c m (.inl k)
  obtain⟨v,y,z⟩:=ajE ih fs (off+b.length) i ys j q fun m k=>c m (.inr k)
  refine⟨r++v,by simp[s,y],?_⟩;have e:(cs.drop off).take (b++i).length=(cs.drop f.offset).take (P.cellsOf f.type)++(cs.drop (off+b.length)).take i.length:=by
   rw[l,<- o,a6,List.take_add,List.drop_drop]
  rw[e];exact aW.cat u z
theorem OB(E:yN P T=true):∀(fuel n:Nat) (t:TypeId) (cs:List Value) (d:DataW H) (ps:List MemPlace) (ks:List Kd),rJ P T n t=some ks ->
  DataW.trod enc P w 0 (fun _=>true) true fuel t cs=some (d,ps)->(∀m,m∈d.weights P t->m<=reachBytes)->∃ds:List D,ds.map kd=ks/\aW (RF w) 0 ds cs
 | 0,n,t,cs,d,ps,ks,_,h,_=>by simp[DataW.trod]at h
 | fuel+1,0,t,cs,d,ps,ks,c,_,_=>by simp[rJ]at c
 | fuel+1,n+1,t,cs,d,ps,ks,c,h,l=>by
  rw[rJ]at c;split at c
  ·rename_i f;cases c
   obtain⟨b,rfl⟩:=trod_bool f h;exact⟨[.bool b],rfl,⟨.bool b,.bool b⟩,trivial⟩
  ·rename_i k f;cases c
   obtain⟨m,rfl,u⟩:=trod_int f h;exact⟨[.int k m],rfl,⟨.int k m,.int k m u⟩,trivial⟩
  ·rename_i f;cases c
   obtain⟨s,rfl,rfl⟩:=trod_string f h;exact⟨[.str s.data.toList],rfl,⟨.str s,.str _ (l _ (by simp[DataW.weights]))⟩,trivial⟩
  ·rename_i e f;rw[Option.map_eq_some_iff]at c;obtain⟨τ,hτ,rfl⟩:=c;have z:=List.all_eq_true.1 E _ (zW hτ);simp only[f,zI,decide_eq_true_eq]at z;obtain⟨⟨F,G⟩,I⟩:=z;rcases trod_slice f h with rfl | ⟨a,len,cap,elems,rest,rfl,U,u,rfl⟩
   ·exact⟨[.list τ []],rfl,⟨.nil τ,.list τ [] (Nat.zero_le _) (fun i x j d g=>by simp at g)⟩,trivial⟩
   obtain⟨J,K⟩:=QC u;have V:elems.length=len:=by simpa using J
   simp only[DataW.weights,f,ba,List.mem_append]at l;have key:∀i,i<len->∃x:τ.den,∃vs:List Value,aW (RF w) 0 (τ.cells x) vs/\∀j v,vs[j]?=some v->w.cell? (Addr.add (a.add (i*τ.size)) j)=some v:=by
    intro i hi;obtain⟨y,W,r⟩:=K i i (by simp[hi]);rw[zB]at r;obtain⟨vs,L,r⟩:=r;obtain⟨C,M⟩:=ahr L;obtain⟨ds,hd,o⟩:=OB E fuel 9 e vs y.1 y.2 _ F r fun m N=>l m (.inr (.inl (weightsAll_mem (List.mem_map_of_mem (zG W)) N)))
    obtain⟨x,g⟩:=Fe hd;exact⟨x,vs,by rw[Ty.dA g];exact o,fun j v hv=>by rw[<- G];exact M j v hv⟩
   obtain⟨xs,p,O⟩:=MX len key;have hlen:xs.length<=reachBytes:=by
    have X:=l _ (.inl rfl);have Z:len*1<=(elems.length+rest.length)*P.bytesOf e:=Nat.mul_le_mul (by omega) I;rw[List.length_map]at X;omega
   have hcell:∀(i:Nat) (x:τ.den) (j:Nat) (d:D),xs[i]?=some x->(τ.cells x)[j]?=some d->∃v,w.cell? (Addr.add (a.add (i*τ.size)) j)=some v/\RF w 0 d v:=by
    intro i x j d g hd;obtain⟨vs,o,M⟩:=O i x g;obtain⟨C,Q⟩:=o.get;have S:j<vs.length:=by rw[<- C];exact (zC.1 hd).1
    have:=Q j d vs[j] hd (by simp[S]);exact⟨vs[j],M j _ (by simp[S]),this⟩
   refine⟨[.list τ xs],rfl,⟨?_,.list τ xs hlen fun i x j d g hd=>?_⟩,trivial⟩
   ·cases A:len with
    | zero=>
     rw[A]at p;obtain rfl:=List.eq_nil_of_length_eq_zero p;exact .emp τ a cap
    | succ m=>
     rw[<- A];have B:a.spot=none:=by
      have Y:0<xs.length:=by omega
      have R:0<(τ.cells xs[0]).length:=by rw[Ty.aZ];exact τ.size_pos
      obtain⟨v,hv,_⟩:=hcell 0 xs[0] 0 (τ.cells xs[0])[0] (by simp[Y]) (by simp[R]);have:=(SC hv).2;simpa [Addr.add] using this
     obtain⟨b,off,sp⟩:=a;simp only at B;subst B;rw[<- p];refine .list τ xs b off cap (fun i j=>(w.cell? ⟨b,off+(i*τ.size+j),none⟩).getD undef) (by omega) ?_ ?_
     ·intro i x j d g hd;obtain⟨v,hv,_⟩:=hcell i x j d g hd;rw[addr_add,addr_add,Nat.add_assoc]at hv;rw[hv];exact⟨rfl,(SC hv).1⟩
     ·intro i x j d g hd;obtain⟨v,hv,o,_⟩:=hcell i x j d g hd;rw[addr_add,addr_add,Nat.add_assoc]at hv;rw[hv];exact o
   ·obtain⟨v,_,_,r⟩:=hcell i x j d g hd;exact r
  ·rename_i fs f;simp only[zB]at c;obtain⟨k,c,q⟩:=c;split at q
   case isFalse=>cases q
   rename_i C;cases q
   obtain⟨xs,Q,u,rfl⟩:=trod_struct f h;simp only[DataW.weights,f]at l;obtain⟨ds,hd,o⟩:=ajE (cs:=cs) (fun t cs d ps ks c h l=>OB E fuel n t cs d ps ks c h l) fs.toList 0 ks xs c u l;refine⟨ds,hd,?_⟩;rw[C,<- Q]at o;simpa using o
  ·cases c
termination_by fuel=>fuel
end
end Go.Abs
/- A law's statement out of its contract and its plain law. -/
namespace Go.Abs
open Go.RowKit Go.ChangeShapes
def aov(P:Program)(T:TT)(t:TypeId)(s:Sh):Bool:=
 (match P.underlying t with
  | some d=>Lm d==s.agg
  | none=>false)&&decide (rJ P T 9 t=some s.t.kinds)&&(s.agg||decide (s.t.size=1))
def O5(P:Program)(T:TT):List TypeId->List Sh->Bool
 | [],[]=>true
 | t::ts,s::ss=>aov P T t s&&O5 P T ts ss
 | _,_=>false
def FitT(L:Nat)(ss:List Sh)(x:Tup ss):Prop:=∀d,d∈dP ss x->aT L d
section
variable {H:Type} {enc:TypeId×Value->H} {P:Program} {T:TT} {w:World}
theorem aW.split{n:Nat}{ds:List D}{vs:List Value}(h:aW (RF w) n ds vs) :
  aW (fun _ d u=>Rep w (fun b _=>b<w.heap.size) d u) n ds vs/\∀d,d∈ds->aT reachBytes d:=by
 induction ds generalizing n vs with
 | nil=>cases vs with
  | nil=>exact⟨trivial,fun d h=>by cases h⟩
  | cons=>exact h.elim
 | cons d ds ih=>cases vs with
  | nil=>exact h.elim
  | cons v vs=>
   obtain⟨a,c⟩:=ih h.2
   refine⟨⟨h.1.1,a⟩,fun d' hd=>?_⟩
   rcases ba.1 hd with rfl | hd
   ·exact h.1.2
   ·exact c d' hd
theorem alB(r:yN P T=true){t:TypeId}{s:Sh}(p:aov P T t s=true){v:Value}{d:DataW H}{ps:List MemPlace}(a:Value.okWide P w .any 0 t v\/∃base,Value.okWide P w .any base t v)
  (h:DataW.Trod enc P w 0 (fun _=>true) true t v d ps) (y:∀m,m∈d.weights P t->m<=reachBytes) (n:Nat) :
  ∃x:s.t.den,ShR (fun _ d u=>Rep w (fun b _=>b<w.heap.size) d u) n s x v/\∀d,d∈s.t.cells x->aT reachBytes d:=by
 obtain⟨base,a⟩:∃base,Value.okWide P w .any base t v:=a.elim (fun h=>⟨_,h⟩) id;obtain⟨fuel,h⟩:=h;simp only[aov,zI,Bool.or_eq_true,decide_eq_true_eq]at p;obtain⟨⟨c,f⟩,j⟩:=p;obtain⟨ds,hd,z⟩:=OB r fuel 9 t _ d ps _ f h y;obtain⟨x,A⟩:=Fe hd;obtain⟨g,q⟩:=z.split;rw[<- Ty.dA A]at g q;refine⟨x,?_,q⟩;have key:∀ {m k:Nat} {ds:List D} {vs:List Value},aW (fun _ d u=>Rep w (fun b _=>b<w.heap.size) d u) m ds vs->aW (fun _ d u=>Rep w (fun b _=>b<w.heap.size) d u) k ds vs:=by
  intro m k ds;induction ds generalizing m k with
  | nil=>intro vs h;cases vs with
   | nil=>trivial
   | cons=>exact h.elim
  | cons d ds ih=>intro vs h;cases vs with
   | nil=>exact h.elim
   | cons v vs=>exact⟨h.1,ih h.2⟩
 unfold Value.okWide at a;split at c
 case h_2=>cases c
 rename_i dd i;rw[i]at a;unfold ShR;cases l:s.agg with
 | true=>
  rw[l,beq_iff_eq]at c;have:∃cs,v=.agg cs:=by
   cases dd<;>simp[Lm]at c
   ·obtain⟨cs,e,_⟩:=a;exact⟨cs,e⟩
   ·obtain⟨cs,e,_⟩:=a;exact⟨cs,e⟩
  obtain⟨cs,rfl⟩:=this;exact⟨cs.toList,by simp,key g⟩
 | false=>
  have B:=g.get.1;rw[Ty.aZ,j.resolve_left (by rw[l];simp)]at B;have C:v.cells.toList=[v]:=by
   have hd:dd=.bool\/(∃k,dd=.int k)\/dd=.string\/∃e,dd=.slice e:=by
    rw[l,beq_iff_eq]at c;rw[rJ,i]at f;cases dd<;>simp[Lm]at c<;>simp at f<;>simp
   have o:Cell.ok P w .any base t v:=by
    rcases hd with rfl | ⟨k,rfl⟩ | rfl | ⟨e,rfl⟩<;>simpa [Cell.okWide,i] using a
   unfold Cell.ok at o;rw[i]at o;rcases hd with rfl | ⟨k,rfl⟩ | rfl | ⟨e,rfl⟩<;>cases v<;>first | rfl | exact o.elim
  rw[C]at g;exact key g
theorem abX(g:yN P T=true){base:Nat}:∀ {ts:List TypeId} {ss:List Sh} {vs:List Value} {ds:List (DataW H)} {ps:List MemPlace} (n:Nat),O5 P T ts ss=true ->
  (∀(j:Nat) t v,ts[j]?=some t->vs[j]?=some v->Value.okWide P w .any base t v)->DataW.TrodAll enc P w 0 (fun _=>true) true ts vs ds ps ->
  (∀m,m∈DataW.weightsEach P ts ds->m<=reachBytes)->∃x:Tup ss,kH (fun _ d u=>Rep w (fun b _=>b<w.heap.size) d u) n ss x vs/\FitT reachBytes ss x
 | [],[],[],[],ps,n,_,_,_,_=>⟨(),trivial,fun d hd=>by cases hd⟩
 | [],[],_::_,_,ps,n,_,_,h,_=>by simp[DataW.TrodAll]at h
 | [],[],[],_::_,ps,n,_,_,h,_=>by simp[DataW.TrodAll]at h
 | t::ts,s::ss,[],ds,ps,n,_,_,h,_=>by simp[DataW.TrodAll]at h
 | t::ts,s::ss,v::vs,[],ps,n,_,_,h,_=>by simp[DataW.TrodAll]at h
 | [],_::_,vs,ds,ps,n,a,_,_,_=>by simp[O5]at a
 | _::_,[],vs,ds,ps,n,a,_,_,_=>by simp[O5]at a
 | t::ts,s::ss,v::vs,d::ds,ps,n,a,c,h,e=>by
  simp only[O5,zI]at a;obtain⟨p,q,o,i,rfl⟩:=h;simp only[DataW.weightsEach,List.mem_append]at e;obtain⟨x,k,fx⟩:=alB g a.1 (.inr ⟨base,c 0 t v rfl rfl⟩) o (fun m f=>e m (.inl f)) n;obtain⟨y,l,fy⟩:=abX g (n+s.t.size) a.2 (fun j t v r hv=>c (j+1) t v (by simpa using r) (by simpa using hv)) i (fun m f=>e m (.inr f));cases ss with
  | nil=>
   cases vs with
   | nil=>exact⟨x,k,fun d hd=>fx d hd⟩
   | cons=>cases ts<;>simp[O5]at a;cases ds<;>simp[DataW.TrodAll]at i
  | cons s' ss=>
   refine⟨(x,y),?_,fun d hd=>?_⟩
   ·cases vs with
    | nil=>cases ss<;>exact False.elim l
    | cons u us=>exact⟨k,l⟩
   ·simp only[dP,List.mem_append]at hd;exact hd.elim (fx d) (fy d)
theorem SN(c:laidOutB P=true){w':World}(e:Below w.heap.size w w'):∀ {ts:List TypeId} {vs:List Value} {ds:List (DataW H)} {ps:List MemPlace},ts.all (fun t=>P.readableRec t&&decide (t<P.types.size))=true ->
  DataW.TrodAll enc P w 0 (fun _=>true) true ts vs ds ps->DataW.TrodAll enc P w' 0 (fun b=>decide (b<w.heap.size)) true ts vs ds ps
 | [],[],[],_,_,h=>h
 | [],_::_,_,_,_,h=>by simp[DataW.TrodAll]at h
 | [],[],_::_,_,_,h=>by simp[DataW.TrodAll]at h
 | _::_,[],_,_,_,h=>by simp[DataW.TrodAll]at h
 | _::_,_::_,[],_,_,h=>by simp[DataW.TrodAll]at h
 | t::ts,v::vs,d::ds,ps,a,h=>by
  obtain⟨p,q,f,g,rfl⟩:=h;simp only[List.all_cons,zI,decide_eq_true_eq]at a;exact⟨p,q,Below.trod c a.1.1 a.1.2 f e (fun x i=>(by obtain⟨n,j⟩:=f;exact DataW.trod_lt n _ _ _ j x i)),SN c e a.2 g,rfl⟩
theorem ajd(B:yN P T=true)(C:laidOutB P=true){fn:Func}{f:Nat}{ss:List Sh}{ex:Bool}{F:Tup ss->Option Bool}(D:Sound P { fid:=f,ps:=ss,rs:=[⟨false,.base .bool⟩],ex:=ex,fn:=F })(g:O5 P T fn.params.toList ss=true)
  (E:fn.params.toList.all (fun t=>P.readableRec t&&decide (t<P.types.size))=true) {tb:TypeId} (hres:fn.resultTypes = #[tb]) (i:P.underlying tb=some .bool) {sp:ChangeSpec} (hvars:sp.vars=[])
  (k:∀ds:List (DataW H),ds.length=fn.params.toList.length->sp.fn H (ds++[])={ results:=[.lit (.bool true)],args:=ds })
  (law:∀x,FitT reachBytes ss x->F x=some true)
  {W:World} {base:Nat} {args:Array Value} {ds gs:List (DataW H)} {before:List MemPlace}
  (hval:∀(j:Nat) t v,fn.params[j]?=some t->args[j]?=some v->Value.okWide P W .any base t v)
  (G:DataW.Whole enc P fn.params.toList sp.vars false W args.toList ds gs before)
  (a:(DataW.weightsEach P (fn.params.toList++sp.plain.varTypes P) (ds++gs)).all (·<=reachBytes)=true) (l:amb W) :
  Calls P f args W fun e W'=>∃v,e=.returned v/\sp.post enc P fn false true false false W args v W':=by
 obtain⟨p,q,d,n,r,s,w⟩:=G;rw[hvars]at n;have y:gs=[]/\q=[]:=by
  cases gs with
  | nil=>exact⟨rfl,n⟩
  | cons=>exact n.elim
 obtain⟨rfl,rfl⟩:=y;have hlen:ds.length=fn.params.toList.length:=by
  have:∀ {ts:List TypeId} {vs:List Value} {ds:List (DataW H)} {ps:List MemPlace},DataW.TrodAll enc P W 0 (fun _=>true) true ts vs ds ps->ds.length=ts.length:=by
   intro ts;induction ts with
   | nil=>intro vs ds ps h;cases vs<;>cases ds<;>simp[DataW.TrodAll]at h ⊢
   | cons t ts ih=>
    intro vs ds ps h;cases vs<;>cases ds<;>simp only[DataW.TrodAll]at h
    obtain⟨_,_,_,I,_⟩:=h;simp[ih I]
  exact this d
 have z:sp.plain.varTypes P=[]:=by
  simp[DataSpec.varTypes,ChangeSpec.plain,hvars]
 rw[z,List.append_nil,List.append_nil]at a;obtain⟨x,J,fx⟩:=abX B (base:=base) 0 g (fun j t v K hv=>hval j t v (by simpa using K) (by simpa using hv)) d (fun m L=>by simpa using List.all_eq_true.1 a m L);have:=D W _ args.toList x _ (law x fx) l J (fun b o h=>h);rw[Array.toArray_toList]at this;refine this.mono fun e W' c=>?_
 obtain⟨v,rfl,hbel,us,rfl,hres'⟩:=c;have M:us=[.bool true]:=by
  have ow:∀ {w' S fp u},Ow w' S true (.bool true) u fp->u=.bool true:=by
   intro w' S fp u h;cases h with
   | bool=>rfl
   | ro _ _ _ h=>cases h
  cases us with
  | nil=>cases ex<;>simp only at hres'<;>obtain⟨_,h,_⟩:=hres'<;>exact False.elim h
  | cons u us=>
   cases us with
   | cons=>cases ex<;>simp only at hres'<;>obtain⟨_,h,_⟩:=hres'<;>exact False.elim h
   | nil=>
    cases ex with
    | true=>
     obtain⟨fps,h,_⟩:=hres';have A:Ow W' (fun _ _=>False) true (.bool true) u (fps 0):=h.1;rw[ow A]
    | false=>
     obtain⟨S',h,_⟩:=hres';have A:Rep W' S' (.bool true) u:=h.1;cases A
     rfl
 subst M;have hWW:DataW.Whole enc P fn.params.toList sp.vars false W args.toList ds [] before:=⟨p,[],d,by rw[hvars];rfl,r,s,w⟩;have c:=k ds hlen;refine⟨_,rfl,ds,[],before,[],p,[],hWW,?_,?_,?_,hbel.frame _,fun h=>by cases h⟩
 ·rw[c,hres];exact trodAll_mk1 ⟨1,by simp[DataW.trod,i,pack,Value.cells]⟩
 ·rw[c];exact SN C hbel E d
 ·rw[c,hvars];rfl
end
end Go.Abs
/- The tables of types of this translation, by gentabs.py. -/
namespace Go.Proofs.YtapgeemjgckgaaaGreatDoor
open Go.Abs
def tt:TT where
 shape:=[(2,false,1),(3,false,1),(4,false,1),(5,false,1),(6,false,1),(7,true,4),(8,true,4),(9,false,1),(10,false,1),(11,false,1),(12,false,1),(13,true,2),(14,true,2),(15,false,1),(16,false,1),(17,false,1),(18,true,1),(19,true,1),(21,false,1),(22,false,1),(23,true,1),(24,true,1),(25,false,1),(26,true,3),(27,true,3),(28,false,1),(29,false,1),(30,true,9),(31,true,9),(33,false,1),(34,true,1),(35,true,1),(36,false,1),(37,true,3),(38,true,3),(39,false,1),(40,false,1),(41,true,9),(42,true,9),(57,false,1),(59,false,1),(60,false,1),(61,false,1),(62,true,7),(63,true,7),(64,true,12),(65,true,12),(81,false,1),(82,true,3),(83,true,3),(85,false,1),(86,false,1),(87,true,7),(88,true,7),(89,true,12),(90,true,12),(97,false,1),(100,true,6),(101,true,6),(105,false,1),(106,true,4),(107,true,4),(108,true,14),(109,true,14),(113,false,1),(119,true,3),(120,true,3),(138,true,6),(140,true,2),(141,true,2),(155,true,2),(161,false,1),(162,true,2),(163,true,2),(171,true,11),(172,true,11),(173,false,1),(176,true,11),(177,true,11),(202,false,1),(205,true,2),(206,true,2),(212,true,2),(213,true,2),(215,false,1),(216,true,2),(217,true,2),(218,false,1),(221,false,1),(222,true,4),(223,true,4),(236,true,4),(237,true,4),(247,false,1),(248,true,3),(249,true,3),(262,true,2),(280,false,1),(282,false,1),(283,true,2),(284,true,2),(290,false,1),(297,false,1),(299,false,1),(304,false,1),(310,false,1),(313,false,1),(316,false,1),(320,false,1),(329,true,2),(330,true,2),(337,true,3),(338,true,3),(340,false,1),(344,false,1),(345,true,1),(346,true,1),(349,false,1),(350,false,1),(351,true,4),(352,true,4),(357,false,1),(358,false,1),(360,false,1),(361,false,1),(362,true,11),(363,true,11),(364,true,2),(365,true,2),(366,false,1),(367,true,2),(368,true,2)]
 zero:=[(2,[.d (.int .i64 0)]),
  (3,[.d (.int .i64 0)]),
  (4,[.d (.bool false)]),
  (5,[.d (.int .u8 0)]),
  (6,[.d (.int .u8 0)]),
  (7,[.d (.int .i64 0),.d (.int .i64 0),.d (.bool false),.d (.int .u8 0)]),
  (8,[.d (.int .i64 0),.d (.int .i64 0),.d (.bool false),.d (.int .u8 0)]),
  (9,[.d (.str [])]),
  (10,[.d (.str [])]),
  (11,[.d (.str [])]),
  (12,[.d (.int .u64 0)]),
  (13,[.d (.str []),.d (.int .u64 0)]),
  (14,[.d (.str []),.d (.int .u64 0)]),
  (21,[.d (.int .i32 0)]),
  (22,[.nil]),
  (23,[.nil]),
  (24,[.nil]),
  (25,[.nil]),
  (26,[.d (.int .i64 0),.d (.int .i64 0),.nil]),
  (27,[.d (.int .i64 0),.d (.int .i64 0),.nil]),
  (28,[.nil]),
  (29,[.nil]),
  (30,[.nil,.d (.int .i64 0),.d (.int .i64 0),.nil,.nil,.nil,.d (.int .i64 0),.d (.int .i64 0),.d (.int .i64 0)]),
  (31,[.nil,.d (.int .i64 0),.d (.int .i64 0),.nil,.nil,.nil,.d (.int .i64 0),.d (.int .i64 0),.d (.int .i64 0)]),
  (33,[.nil]),
  (34,[.nil]),
  (35,[.nil]),
  (36,[.nil]),
  (37,[.d (.int .i64 0),.d (.int .i64 0),.nil]),
  (38,[.d (.int .i64 0),.d (.int .i64 0),.nil]),
  (39,[.nil]),
  (40,[.nil]),
  (41,[.nil,.d (.int .i64 0),.d (.int .i64 0),.nil,.nil,.nil,.d (.int .i64 0),.d (.int .i64 0),.d (.int .i64 0)]),
  (42,[.nil,.d (.int .i64 0),.d (.int .i64 0),.nil,.nil,.nil,.d (.int .i64 0),.d (.int .i64 0),.d (.int .i64 0)]),
  (57,[.nil]),
  (59,[.nil]),
  (60,[.nil]),
  (61,[.nil]),
  (62,[.d (.int .i64 0),.d (.int .i64 0),.d (.int .i64 0),.d (.str []),.nil,.nil,.nil]),
  (63,[.d (.int .i64 0),.d (.int .i64 0),.d (.int .i64 0),.d (.str []),.nil,.nil,.nil]),
  (64,[.d (.int .i64 0),.d (.int .i64 0),.d (.int .i64 0),.nil,.d (.int .i64 0),.d (.int .i64 0),.d (.int .i64 0),.d (.str []),.nil,.nil,.nil,.d (.bool false)]),
  (65,[.d (.int .i64 0),.d (.int .i64 0),.d (.int .i64 0),.nil,.d (.int .i64 0),.d (.int .i64 0),.d (.int .i64 0),.d (.str []),.nil,.nil,.nil,.d (.bool false)]),
  (81,[.nil]),
  (82,[.d (.int .i64 0),.d (.int .i64 0),.nil]),
  (83,[.d (.int .i64 0),.d (.int .i64 0),.nil]),
  (85,[.nil]),
  (86,[.nil]),
  (87,[.d (.int .i64 0),.d (.int .i64 0),.d (.int .i64 0),.d (.str []),.nil,.nil,.nil]),
  (88,[.d (.int .i64 0),.d (.int .i64 0),.d (.int .i64 0),.d (.str []),.nil,.nil,.nil]),
  (89,[.d (.int .i64 0),.d (.int .i64 0),.d (.int .i64 0),.nil,.d (.int .i64 0),.d (.int .i64 0),.d (.int .i64 0),.d (.str []),.nil,.nil,.nil,.d (.bool false)]),
  (90,[.d (.int .i64 0),.d (.int .i64 0),.d (.int .i64 0),.nil,.d (.int .i64 0),.d (.int .i64 0),.d (.int .i64 0),.d (.str []),.nil,.nil,.nil,.d (.bool false)]),
  (97,[.nil]),
  (100,[.d (.int .i64 0),.d (.int .i64 0),.d (.int .i64 0),.d (.str []),.d (.str []),.d (.int .i64 0)]),
  (101,[.d (.int .i64 0),.d (.int .i64 0),.d (.int .i64 0),.d (.str []),.d (.str []),.d (.int .i64 0)]),
  (105,[.nil]),
  (106,[.d (.int .i64 0),.d (.int .i64 0),.d (.str []),.nil]),
  (107,[.d (.int .i64 0),.d (.int .i64 0),.d (.str []),.nil]),
  (108,[.d (.int .i64 0),.d (.str []),.d (.int .i64 0),.d (.int .i64 0),.d (.str []),.nil,.d (.int .i64 0),.d (.int .i64 0),.d (.int .i64 0),.d (.str []),.nil,.nil,.nil,.d (.int .i64 0)]),
  (109,[.d (.int .i64 0),.d (.str []),.d (.int .i64 0),.d (.int .i64 0),.d (.str []),.nil,.d (.int .i64 0),.d (.int .i64 0),.d (.int .i64 0),.d (.str []),.nil,.nil,.nil,.d (.int .i64 0)]),
  (113,[.nil]),
  (119,[.d (.int .i64 0),.d (.int .i64 0),.nil]),
  (120,[.d (.int .i64 0),.d (.int .i64 0),.nil]),
  (138,[.d (.int .i64 0),.d (.int .i64 0),.d (.int .i64 0),.d (.str []),.d (.str []),.d (.int .i64 0)]),
  (140,[.d (.str []),.d (.int .i64 0)]),
  (141,[.d (.str []),.d (.int .i64 0)]),
  (155,[.d (.str []),.d (.int .i64 0)]),
  (161,[.nil]),
  (162,[.nil,.nil]),
  (163,[.nil,.nil]),
  (171,[.d (.int .i64 0),.d (.int .i64 0),.d (.int .i64 0),.d (.str []),.d (.int .i64 0),.d (.int .i64 0),.d (.int .i64 0),.d (.str []),.nil,.nil,.nil]),
  (172,[.d (.int .i64 0),.d (.int .i64 0),.d (.int .i64 0),.d (.str []),.d (.int .i64 0),.d (.int .i64 0),.d (.int .i64 0),.d (.str []),.nil,.nil,.nil]),
  (173,[.nil]),
  (176,[.d (.int .i64 0),.d (.int .i64 0),.d (.int .i64 0),.d (.str []),.d (.int .i64 0),.d (.int .i64 0),.d (.int .i64 0),.d (.str []),.nil,.nil,.nil]),
  (177,[.d (.int .i64 0),.d (.int .i64 0),.d (.int .i64 0),.d (.str []),.d (.int .i64 0),.d (.int .i64 0),.d (.int .i64 0),.d (.str []),.nil,.nil,.nil]),
  (212,[.d (.int .i64 0),.d (.int .i64 0)]),
  (213,[.d (.int .i64 0),.d (.int .i64 0)]),
  (215,[.nil]),
  (216,[.nil,.nil]),
  (217,[.nil,.nil]),
  (218,[.nil]),
  (222,[.nil,.d (.int .i64 0),.d (.int .i64 0),.d (.int .i64 0)]),
  (223,[.nil,.d (.int .i64 0),.d (.int .i64 0),.d (.int .i64 0)]),
  (236,[.d (.int .i64 0),.d (.int .i64 0),.d (.int .i64 0),.d (.str [])]),
  (237,[.d (.int .i64 0),.d (.int .i64 0),.d (.int .i64 0),.d (.str [])]),
  (248,[.nil,.d (.int .i64 0),.d (.int .i64 0)]),
  (249,[.nil,.d (.int .i64 0),.d (.int .i64 0)]),
  (262,[.d (.int .i64 0),.d (.int .i64 0)]),
  (280,[.d (.int .u64 0)]),
  (290,[.d (.int .i64 0)]),
  (297,[.d (.int .u32 0)]),
  (299,[.d (.int .u64 0)]),
  (310,[.d (.int .i64 0)]),
  (316,[.d (.int .u64 0)]),
  (329,[.d (.int .u8 0),.d (.int .u8 0)]),
  (330,[.d (.int .u8 0),.d (.int .u8 0)]),
  (345,[.d (.str [])]),
  (346,[.d (.str [])]),
  (357,[.d (.int .u8 0)]),
  (358,[.d (.int .u8 0)]),
  (360,[.d (.int .i32 0)]),
  (361,[.d (.int .i32 0)]),
  (366,[.nil]),
  (367,[.d (.str []),.nil]),
  (368,[.d (.str []),.nil])]
 fields:=[(7,[(0,false,1),(1,false,1),(2,false,1),(3,false,1)]),
  (8,[(0,false,1),(1,false,1),(2,false,1),(3,false,1)]),
  (13,[(0,false,1),(1,false,1)]),
  (14,[(0,false,1),(1,false,1)]),
  (18,[(0,false,1)]),
  (19,[(0,false,1)]),
  (23,[(0,false,1)]),
  (24,[(0,false,1)]),
  (26,[(0,false,1),(1,false,1),(2,false,1)]),
  (27,[(0,false,1),(1,false,1),(2,false,1)]),
  (30,[(0,true,1),(1,true,3),(4,false,1),(5,false,1),(6,false,1),(7,false,1),(8,false,1)]),
  (31,[(0,true,1),(1,true,3),(4,false,1),(5,false,1),(6,false,1),(7,false,1),(8,false,1)]),
  (34,[(0,false,1)]),
  (35,[(0,false,1)]),
  (37,[(0,false,1),(1,false,1),(2,false,1)]),
  (38,[(0,false,1),(1,false,1),(2,false,1)]),
  (41,[(0,true,1),(1,true,3),(4,false,1),(5,false,1),(6,false,1),(7,false,1),(8,false,1)]),
  (42,[(0,true,1),(1,true,3),(4,false,1),(5,false,1),(6,false,1),(7,false,1),(8,false,1)]),
  (62,[(0,false,1),(1,false,1),(2,false,1),(3,false,1),(4,false,1),(5,false,1),(6,false,1)]),
  (63,[(0,false,1),(1,false,1),(2,false,1),(3,false,1),(4,false,1),(5,false,1),(6,false,1)]),
  (64,[(0,false,1),(1,false,1),(2,false,1),(3,false,1),(4,true,7),(11,false,1)]),
  (65,[(0,false,1),(1,false,1),(2,false,1),(3,false,1),(4,true,7),(11,false,1)]),
  (82,[(0,false,1),(1,false,1),(2,false,1)]),
  (83,[(0,false,1),(1,false,1),(2,false,1)]),
  (87,[(0,false,1),(1,false,1),(2,false,1),(3,false,1),(4,false,1),(5,false,1),(6,false,1)]),
  (88,[(0,false,1),(1,false,1),(2,false,1),(3,false,1),(4,false,1),(5,false,1),(6,false,1)]),
  (89,[(0,false,1),(1,false,1),(2,false,1),(3,false,1),(4,true,7),(11,false,1)]),
  (90,[(0,false,1),(1,false,1),(2,false,1),(3,false,1),(4,true,7),(11,false,1)]),
  (100,[(0,false,1),(1,false,1),(2,false,1),(3,false,1),(4,false,1),(5,false,1)]),
  (101,[(0,false,1),(1,false,1),(2,false,1),(3,false,1),(4,false,1),(5,false,1)]),
  (106,[(0,false,1),(1,false,1),(2,false,1),(3,false,1)]),
  (107,[(0,false,1),(1,false,1),(2,false,1),(3,false,1)]),
  (108,[(0,false,1),(1,false,1),(2,true,4),(6,true,7),(13,false,1)]),
  (109,[(0,false,1),(1,false,1),(2,true,4),(6,true,7),(13,false,1)]),
  (119,[(0,false,1),(1,false,1),(2,false,1)]),
  (120,[(0,false,1),(1,false,1),(2,false,1)]),
  (138,[(0,false,1),(1,false,1),(2,false,1),(3,false,1),(4,false,1),(5,false,1)]),
  (140,[(0,false,1),(1,false,1)]),
  (141,[(0,false,1),(1,false,1)]),
  (155,[(0,false,1),(1,false,1)]),
  (162,[(0,false,1),(1,false,1)]),
  (163,[(0,false,1),(1,false,1)]),
  (171,[(0,false,1),(1,false,1),(2,false,1),(3,false,1),(4,true,7)]),
  (172,[(0,false,1),(1,false,1),(2,false,1),(3,false,1),(4,true,7)]),
  (176,[(0,false,1),(1,false,1),(2,false,1),(3,false,1),(4,true,7)]),
  (177,[(0,false,1),(1,false,1),(2,false,1),(3,false,1),(4,true,7)]),
  (205,[(0,false,1),(1,false,1)]),
  (206,[(0,false,1),(1,false,1)]),
  (212,[(0,false,1),(1,false,1)]),
  (213,[(0,false,1),(1,false,1)]),
  (216,[(0,false,1),(1,false,1)]),
  (217,[(0,false,1),(1,false,1)]),
  (222,[(0,false,1),(1,false,1),(2,false,1),(3,false,1)]),
  (223,[(0,false,1),(1,false,1),(2,false,1),(3,false,1)]),
  (236,[(0,false,1),(1,false,1),(2,false,1),(3,false,1)]),
  (237,[(0,false,1),(1,false,1),(2,false,1),(3,false,1)]),
  (248,[(0,false,1),(1,false,1),(2,false,1)]),
  (249,[(0,false,1),(1,false,1),(2,false,1)]),
  (262,[(0,false,1),(1,false,1)]),
  (283,[(0,false,1),(1,false,1)]),
  (284,[(0,false,1),(1,false,1)]),
  (329,[(0,false,1),(1,false,1)]),
  (330,[(0,false,1),(1,false,1)]),
  (337,[(0,false,1),(1,false,1),(2,false,1)]),
  (338,[(0,false,1),(1,false,1),(2,false,1)]),
  (345,[(0,false,1)]),
  (346,[(0,false,1)]),
  (351,[(0,false,1),(1,false,1),(2,false,1),(3,false,1)]),
  (352,[(0,false,1),(1,false,1),(2,false,1),(3,false,1)]),
  (362,[(0,false,1),(1,false,1),(2,false,1),(3,false,1),(4,false,1),(5,false,1),(6,false,1),(7,false,1),(8,false,1),(9,false,1),(10,false,1)]),
  (363,[(0,false,1),(1,false,1),(2,false,1),(3,false,1),(4,false,1),(5,false,1),(6,false,1),(7,false,1),(8,false,1),(9,false,1),(10,false,1)]),
  (364,[(0,false,1),(1,false,1)]),
  (365,[(0,false,1),(1,false,1)]),
  (367,[(0,false,1),(1,false,1)]),
  (368,[(0,false,1),(1,false,1)])]
 elem:=[(22,.base .cell),(25,.base .file),(28,.base .tape),(29,.base .entry),(33,.base .cell),(36,.base .file),(39,.base .tape),(40,.base .entry),(57,.base .int),(59,.base .val),(60,.base .str),(61,.base .row),(81,.base .read),(85,.base .val),(86,.base .row),(97,.base .part),(105,.base .expr),(113,.base .read),(161,.base .origin),(173,.base .u8),(215,.base .origin),(218,.base .token)]
 ints:=[(2,.i64),(3,.i64),(5,.u8),(6,.u8),(12,.u64),(21,.i32),(280,.u64),(290,.i64),(297,.u32),(299,.u64),(310,.i64),(316,.u64),(357,.u8),(358,.u8),(360,.i32),(361,.i32)]
 strs:=[9,10,11]
 bools:=[4]
 eqs:=[(138,[.int .i64,.int .i64,.int .i64,.str,.str,.int .i64]),(141,[.str,.int .i64]),(101,[.int .i64,.int .i64,.int .i64,.str,.str,.int .i64]),(155,[.str,.int .i64]),(101,[.int .i64,.int .i64,.int .i64,.str,.str,.int .i64]),(138,[.int .i64,.int .i64,.int .i64,.str,.str,.int .i64]),(141,[.str,.int .i64]),(155,[.str,.int .i64]),(213,[.int .i64,.int .i64]),(213,[.int .i64,.int .i64]),(262,[.int .i64,.int .i64]),(237,[.int .i64,.int .i64,.int .i64,.str]),(237,[.int .i64,.int .i64,.int .i64,.str]),(262,[.int .i64,.int .i64])]
end Go.Proofs.YtapgeemjgckgaaaGreatDoor
/- A list that is put in strict order: there is at most one such order. -/
namespace Go.Abs
end Go.Abs
/- What the library's functions compute, by their plain meaning. -/
namespace Go.Abs
def Eg(n:Int):Option Str:=if -9223372036854775808<=n/\n<=9223372036854775807 then some (Go.Lib.itoa n)else none
def Ef(xs:List Str)(sep:Str):Option Str:=(gd xs.length).bind fun _=>(gd (Go.Lib.join xs sep).length).bind fun _=>some (Go.Lib.join xs sep)
def eu(s:Str)(c:Int):Option Int:=some (Go.Lib.indexByte s c.toNat.toUInt8)
def jl(s p:Str):Option Bool:=some (Go.Lib.hasPrefix s p)
def kK(s sep:Str):Option (List Str):=if s.length<4294967281/\1<=sep.length then some (Go.Lib.split s sep)else none
noncomputable def iV(xs:List Str):Option (List Str):=(gd xs.length).bind fun _=>some (xs.mergeSort fun x y=>decide (x<=y))
def addN(out:List Int)(n:Int):List Int:=if out.contains n=true then out else out++[n]
def qC(s:Str)(low high:Int):Option (Int×Bool):=(gd s.length).bind fun _=>some (match Go.Lib.atoiAll s with
 | .ok v=>if v<low\/high<v\/Go.Lib.itoa v≠s then (0,false)else (v,true)
 | _=>(0,false))
def dO(rec:af->List Str->Option (List (Str×List Str)))(binds:Bool)(x:Str)(bound:List Str):Nat->List af->Option (List (Str×List Str))
 | _,[]=>some []
 | i,a::r=>(if binds&&decide (0<i)then (gd (bound.length+1)).bind fun _=>rec a (bound++[x])else rec a bound).bind fun u=>(dO rec binds x bound (i+1) r).bind fun v=>some (u++v)
def jG:Nat->af->List Str->Option (List (Str×List Str))
 | 0,_,_=>none
 | n+1,e,bound=>(gd bound.length).bind fun _=>(gd e.args.length).bind fun _=>
  if e.kind=3/\bound.contains e.text=false then some [(e.text,bound)]else dO (jG n) (decide (e.kind=7)||decide (e.kind=9)) e.text bound 0 e.args
end Go.Abs
