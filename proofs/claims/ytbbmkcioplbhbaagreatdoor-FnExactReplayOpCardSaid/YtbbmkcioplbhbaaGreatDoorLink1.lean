import Derived.Test.YtbbmkcioplbhbaaGreatDoorAbs
import Derived.Test.YtbbmkcioplbhbaaGreatDoorS4
import Derived.ProofKit
import Derived.SizedLaws
import Derived.ChangeOld
import Derived.Test.YtbbmkcioplbhbaaGreatDoorProg
import Derived.Lib.ItoaNum
import Derived.Lib.AtoiAll
import Derived.Lib.Join
import Derived.Lib.Bytealg
import Derived.Lib.Strings
import Derived.Lib.Split
set_option linter.unusedSimpArgs false
set_option linter.unusedVariables false
/- What the handed arguments read as: data. -/
namespace Go.Abs
open Go.RowKit
inductive aV(L:Nat):D->Prop
 | int (k:IntKind) (n:Int) (h:(Lit.int k n).wf=true):aV L (.int k n)
 | bool (b:Bool):aV L (.bool b)
 | str (s:Str) (h:s.length<=L):aV L (.str s)
 | list (t:Ty) (xs:List t.den) (h:xs.length<=L) (hx:∀(i:Nat) (x:t.den) (j:Nat) (d:D),xs[i]?=some x->(t.cells x)[j]?=some d->aV L d):aV L (.list t xs)
def IK(P:Program)(k:TypeId->Option (List Kd)):Nat->List Field->Option (List Kd)
 | _,[]=>some []
 | off,f::r=>if f.offset=off then (k f.type).bind fun ks=>if ks.length=P.cellsOf f.type then (IK P k (off+ks.length) r).map (ks ++ ·)else none else none
def rY(P:Program)(T:TT):Nat->TypeId->Option (List Kd)
 | 0,_=>none
 | n+1,t=>match P.underlying t with
  | some .bool=>some [.bool]
  | some (.int k)=>some [.int k]
  | some .string=>some [.str]
  | some (.slice _)=>(lk T.elem t).map fun τ=>[.list τ]
  | some (.struct fs)=>(IK P (rY P T n) 0 fs.toList).bind fun ks=>if ks.length=P.cellsOf t then some ks else none
  | _=>none
def yF(P:Program)(T:TT):Bool:=T.elem.all fun x=>match P.underlying x.1 with
 | some (.slice e)=>decide (rY P T 9 e=some x.2.kinds)&&decide (P.cellsOf e=x.2.size)&&decide (0<P.bytesOf e)
 | _=>false
theorem Np{α:Type}{Q:Nat->α->Prop}:∀(n:Nat),(∀i,i<n->∃x,Q i x)->∃xs:List α,xs.length=n/\∀i x,xs[i]?=some x->Q i x
 | 0,_=>⟨[],rfl,fun i x h=>(by simp at h)⟩
 | n+1,h=>by
  obtain⟨xs,b,c⟩:=Np n fun i hi=>h i (by omega)
  obtain⟨x,d⟩:=h n (by omega);refine⟨xs++[x],by simp[b],fun i y a=>?_⟩;rw[List.getElem?_append]at a;split at a
  ·exact c i y a
  ·rename_i hi;have:i=n:=by
    have:=(zC.1 a).1;simp at this;omega
   subst this;simp[b]at a;subst a;exact d
theorem QM{α β:Type}{f:α->Option β}:∀ {xs:List α} {ys:List β},xs.mapM f=some ys->ys.length=xs.length/\∀(i:Nat) (x:α),xs[i]?=some x->∃y,ys[i]?=some y/\f x=some y
 | [],ys,h=>by
  simp only[List.mapM_nil]at h;cases h
  exact⟨rfl,fun i x h=>by simp at h⟩
 | a::xs,ys,h=>by
  simp only[List.mapM_cons,Option.bind_eq_bind,zB,Option.pure_def,zD]at h;obtain⟨y,c,zs,d,rfl⟩:=h;obtain⟨e,g⟩:=QM d;refine⟨by simp[e],fun i x b=>?_⟩;cases i with
  | zero=>simp at b;subst b;exact⟨y,rfl,c⟩
  | succ i=>simp at b;simpa using g i x b
section
variable {H:Type} {enc:TypeId×Value->H} {P:Program} {T:TT} {w:World}
theorem weightsAll_mem{t:TypeId}{d:DataW H}{n:Nat}:∀ {ds:List (DataW H)},d∈ds->n∈d.weights P t->n∈DataW.weightsAll P t ds
 | d'::ds,hd,a=>by
  simp only[DataW.weightsAll,List.mem_append];rcases ba.1 hd with rfl | hd
  ·exact .inl a
  ·exact .inr (weightsAll_mem hd a)
def RF(w:World)(_:Nat)(d:D)(v:Value):Prop:=Rep w (fun b _=>b<w.heap.size) d v/\aV reachBytes d
theorem aX.cat{R:D->Value->Prop}:∀ {n m k:Nat} {ds ds':List D} {vs vs':List Value},aX (fun _=>R) n ds vs->aX (fun _=>R) m ds' vs'->aX (fun _=>R) k (ds++ds') (vs++vs')
 | n,m,k,[],ds',[],vs',_,h=>by
  have:∀ {m k:Nat} {ds:List D} {vs:List Value},aX (fun _=>R) m ds vs->aX (fun _=>R) k ds vs:=by
   intro m k ds;induction ds generalizing m k with
   | nil=>intro vs h;cases vs with
    | nil=>trivial
    | cons=>exact h.elim
   | cons d ds ih=>intro vs h;cases vs with
    | nil=>exact h.elim
    | cons v vs=>exact⟨h.1,ih h.2⟩
  exact this h
 | n,m,k,d::ds,ds',v::vs,vs',h,a=>⟨h.1,aX.cat (n:=n+1) h.2 a⟩
theorem trod_bool{fuel:Nat}{t:TypeId}(a:P.underlying t=some .bool){cs:List Value}{d:DataW H}{ps:List MemPlace}
  (h:DataW.trod enc P w 0 (fun _=>true) true (fuel+1) t cs=some (d,ps)):∃b,cs=[.bool b]:=by
 simp only[DataW.trod,a]at h;split at h<;>first | exact⟨_,rfl⟩ | (rename_i e;cases e;done) | (rename_i e _;cases e;done) | cases h
theorem trod_int{fuel:Nat}{t:TypeId}{k:IntKind}(a:P.underlying t=some (.int k)){cs:List Value}{d:DataW H}{ps:List MemPlace}
  (h:DataW.trod enc P w 0 (fun _=>true) true (fuel+1) t cs=some (d,ps)):∃n,cs=[.int k n]/\(Lit.int k n).wf=true:=by
 simp only[DataW.trod,a]at h;split at h<;>first | (rename_i e;cases e;done) | (rename_i e _;cases e;done) | skip
 ·rename_i e;cases e
  split at h
  ·rename_i hh;exact⟨_,by rw[hh.1],hh.2⟩
  ·cases h
 all_goals cases h
theorem trod_string{fuel:Nat}{t:TypeId}(a:P.underlying t=some .string){cs:List Value}{d:DataW H}{ps:List MemPlace}
  (h:DataW.trod enc P w 0 (fun _=>true) true (fuel+1) t cs=some (d,ps)):∃s,cs=[.string s]/\d=.lit (.string s.data.toList):=by
 simp only[DataW.trod,a]at h;split at h<;>first | (rename_i e;cases e;done) | (rename_i e _;cases e;done) | skip
 ·split at h
  ·cases h;exact⟨_,rfl,rfl⟩
  ·cases h
 all_goals cases h
theorem trod_slice{fuel:Nat}{t e:TypeId}(c:P.underlying t=some (.slice e)){cs:List Value}{d:DataW H}{ps:List MemPlace}
  (h:DataW.trod enc P w 0 (fun _=>true) true (fuel+1) t cs=some (d,ps)):cs=[.slice none 0 0]\/∃a len cap elems rest,cs=[.slice (some a) len cap]/\len<=cap /\
   (List.range len).mapM (fun i=>(w.cells? 0 (a.add (i*P.cellsOf e)) (P.cellsOf e)).bind (DataW.trod enc P w 0 (fun _=>true) true fuel e))=some elems/\d=.slice (elems.map (·.1)) rest:=by
 simp only[DataW.trod,c]at h;split at h<;>first | (rename_i e;cases e;done) | (rename_i e _;cases e;done) | skip
 ·exact .inl rfl
 ·rename_i e' a len cap b;cases b
  split at h
  case isFalse=>cases h
  rename_i f;simp only[zB,Option.map_eq_some_iff]at h;obtain⟨elems,h1,rest,h2,g⟩:=h;cases g
  exact .inr ⟨a,len,cap,elems,_,rfl,f.2.1,h1,rfl⟩
 all_goals cases h
theorem trod_struct{fuel:Nat}{t:TypeId}{fs:Array Field}(a:P.underlying t=some (.struct fs)){cs:List Value}{d:DataW H}{ps:List MemPlace}
  (h:DataW.trod enc P w 0 (fun _=>true) true (fuel+1) t cs=some (d,ps)):∃xs,cs.length=P.cellsOf t/\fs.toList.mapM (fun f=>DataW.trod enc P w 0 (fun _=>true) true fuel f.type ((cs.drop f.offset).take (P.cellsOf f.type)))=some xs/\d=.agg (xs.map (·.1)):=by
 simp only[DataW.trod,a]at h;split at h
 ·rename_i b;rw[Option.map_eq_some_iff]at h;obtain⟨xs,h1,h2⟩:=h;cases h2
  exact⟨xs,b,h1,rfl⟩
 ·cases h
theorem ahq{a:Addr}{n:Nat}{vs:List Value}(h:w.cells? 0 a n=some vs):vs.length=n/\∀j v,vs[j]?=some v->w.cell? (a.add j)=some v:=by
 unfold World.cells? at h;rw[if_pos (Nat.zero_le _)]at h;obtain⟨b,d⟩:=QM h;refine⟨by simpa using b,fun j v hv=>?_⟩;have e:j<n:=by have:=(zC.1 hv).1;rw[b]at this;simpa using this
 obtain⟨y,c,f⟩:=d j j (by simp[e]);rw[hv]at c;cases c
 exact f
theorem SS{a:Addr}{v:Value}(h:w.cell? a=some v):a.block<w.heap.size/\a.spot=none:=by
 unfold World.cell? at h;split at h
 ·rename_i hh;refine⟨(aM.1 hh).1,?_⟩;split at h
  ·cases h
  ·rename_i b;simpa using b
 ·cases h
theorem ajG{fuel n:Nat}{cs:List Value}
  (ih:∀(t:TypeId) (cs:List Value) (d:DataW H) (ps:List MemPlace) (ks:List Kd),rY P T n t=some ks ->
   DataW.trod enc P w 0 (fun _=>true) true fuel t cs=some (d,ps)->(∀m,m∈d.weights P t->m<=reachBytes)->∃ds:List D,ds.map kd=ks/\aX (RF w) 0 ds cs) :
  ∀(fs:List Field) (off:Nat) (ks:List Kd) (xs:List (DataW H×List MemPlace)),IK P (rY P T n) off fs=some ks ->
   fs.mapM (fun f=>DataW.trod enc P w 0 (fun _=>true) true fuel f.type ((cs.drop f.offset).take (P.cellsOf f.type)))=some xs ->
   (∀m,m∈DataW.weightsEach P (fs.map (·.type)) (xs.map (·.1))->m<=reachBytes) ->
   ∃ds:List D,ds.map kd=ks/\aX (RF w) 0 ds ((cs.drop off).take ks.length)
 | [],off,ks,xs,a,_,_=>by
  simp only[IK,zD]at a;subst a;exact⟨[],rfl,by simp;trivial⟩
 | f::fs,off,ks,xs,a,h,c=>by
  simp only[IK]at a;split at a
  case isFalse=>cases a
  rename_i l;simp only[zB]at a;obtain⟨b,g,a⟩:=a;split at a
  case isFalse=>cases a
  rename_i o;rw[Option.map_eq_some_iff]at a;obtain⟨i,j,rfl⟩:=a;simp only[List.mapM_cons,Option.bind_eq_bind,zB,Option.pure_def,zD]at h;obtain⟨x,p,ys,q,rfl⟩:=h;simp only[List.map_cons,DataW.weightsEach,List.mem_append]at c;obtain⟨r,s,u⟩:=ih f.type _ x.1 x.2 b g p fun m k=>c m (.inl k)
  obtain⟨v,y,z⟩:=ajG ih fs (off+b.length) i ys j q fun m k=>c m (.inr k)
  refine⟨r++v,by simp[s,y],?_⟩;have e:(cs.drop off).take (b++i).length=(cs.drop f.offset).take (P.cellsOf f.type)++(cs.drop (off+b.length)).take i.length:=by
   rw[l,<- o,a6,List.take_add,List.drop_drop]
  rw[e];exact aX.cat u z
theorem OJ(E:yF P T=true):∀(fuel n:Nat) (t:TypeId) (cs:List Value) (d:DataW H) (ps:List MemPlace) (ks:List Kd),rY P T n t=some ks ->
  DataW.trod enc P w 0 (fun _=>true) true fuel t cs=some (d,ps)->(∀m,m∈d.weights P t->m<=reachBytes)->∃ds:List D,ds.map kd=ks/\aX (RF w) 0 ds cs
 | 0,n,t,cs,d,ps,ks,_,h,_=>by simp[DataW.trod]at h
 | fuel+1,0,t,cs,d,ps,ks,c,_,_=>by simp[rY]at c
 | fuel+1,n+1,t,cs,d,ps,ks,c,h,l=>by
  rw[rY]at c;split at c
  ·rename_i f;cases c
   obtain⟨b,rfl⟩:=trod_bool f h;exact⟨[.bool b],rfl,⟨.bool b,.bool b⟩,trivial⟩
  ·rename_i k f;cases c
   obtain⟨m,rfl,u⟩:=trod_int f h;exact⟨[.int k m],rfl,⟨.int k m,.int k m u⟩,trivial⟩
  ·rename_i f;cases c
   obtain⟨s,rfl,rfl⟩:=trod_string f h;exact⟨[.str s.data.toList],rfl,⟨.str s,.str _ (l _ (by simp[DataW.weights]))⟩,trivial⟩
  ·rename_i e f;rw[Option.map_eq_some_iff]at c;obtain⟨τ,hτ,rfl⟩:=c;have z:=List.all_eq_true.1 E _ (zK hτ);simp only[f,zI,decide_eq_true_eq]at z;obtain⟨⟨F,G⟩,I⟩:=z;rcases trod_slice f h with rfl | ⟨a,len,cap,elems,rest,rfl,U,u,rfl⟩
   ·exact⟨[.list τ []],rfl,⟨.nil τ,.list τ [] (Nat.zero_le _) (fun i x j d g=>by simp at g)⟩,trivial⟩
   obtain⟨J,K⟩:=QM u;have V:elems.length=len:=by simpa using J
   simp only[DataW.weights,f,ba,List.mem_append]at l;have key:∀i,i<len->∃x:τ.den,∃vs:List Value,aX (RF w) 0 (τ.cells x) vs/\∀j v,vs[j]?=some v->w.cell? (Addr.add (a.add (i*τ.size)) j)=some v:=by
    intro i hi;obtain⟨y,W,r⟩:=K i i (by simp[hi]);rw[zB]at r;obtain⟨vs,L,r⟩:=r;obtain⟨C,M⟩:=ahq L;obtain⟨ds,hd,o⟩:=OJ E fuel 9 e vs y.1 y.2 _ F r fun m N=>l m (.inr (.inl (weightsAll_mem (List.mem_map_of_mem (zG W)) N)))
    obtain⟨x,g⟩:=Fb hd;exact⟨x,vs,by rw[Ty.dD g];exact o,fun j v hv=>by rw[<- G];exact M j v hv⟩
   obtain⟨xs,p,O⟩:=Np len key;have hlen:xs.length<=reachBytes:=by
    have h1:=l _ (.inl rfl);have h2:len*1<=(elems.length+rest.length)*P.bytesOf e:=Nat.mul_le_mul (by omega) I;rw[List.length_map]at h1;omega
   have hcell:∀(i:Nat) (x:τ.den) (j:Nat) (d:D),xs[i]?=some x->(τ.cells x)[j]?=some d->∃v,w.cell? (Addr.add (a.add (i*τ.size)) j)=some v/\RF w 0 d v:=by
    intro i x j d g hd;obtain⟨vs,o,M⟩:=O i x g;obtain⟨C,Q⟩:=o.get;have S:j<vs.length:=by rw[<- C];exact (zC.1 hd).1
    have:=Q j d vs[j] hd (by simp[S]);exact⟨vs[j],M j _ (by simp[S]),this⟩
   refine⟨[.list τ xs],rfl,⟨?_,.list τ xs hlen fun i x j d g hd=>?_⟩,trivial⟩
   ·cases A:len with
    | zero=>
     rw[A]at p;obtain rfl:=List.eq_nil_of_length_eq_zero p;exact .emp τ a cap
    | succ m=>
     rw[<- A];have B:a.spot=none:=by
      have X:0<xs.length:=by omega
      have R:0<(τ.cells xs[0]).length:=by rw[Ty.aZ];exact τ.size_pos
      obtain⟨v,hv,_⟩:=hcell 0 xs[0] 0 (τ.cells xs[0])[0] (by simp[X]) (by simp[R]);have:=(SS hv).2;simpa [Addr.add] using this
     obtain⟨b,off,sp⟩:=a;simp only at B;subst B;rw[<- p];refine .list τ xs b off cap (fun i j=>(w.cell? ⟨b,off+(i*τ.size+j),none⟩).getD undef) (by omega) ?_ ?_
     ·intro i x j d g hd;obtain⟨v,hv,_⟩:=hcell i x j d g hd;rw[addr_add,addr_add,Nat.add_assoc]at hv;rw[hv];exact⟨rfl,(SS hv).1⟩
     ·intro i x j d g hd;obtain⟨v,hv,o,_⟩:=hcell i x j d g hd;rw[addr_add,addr_add,Nat.add_assoc]at hv;rw[hv];exact o
   ·obtain⟨v,_,_,r⟩:=hcell i x j d g hd;exact r
  ·rename_i fs f;simp only[zB]at c;obtain⟨k,c,q⟩:=c;split at q
   case isFalse=>cases q
   rename_i C;cases q
   obtain⟨xs,Q,u,rfl⟩:=trod_struct f h;simp only[DataW.weights,f]at l;obtain⟨ds,hd,o⟩:=ajG (cs:=cs) (fun t cs d ps ks c h l=>OJ E fuel n t cs d ps ks c h l) fs.toList 0 ks xs c u l;refine⟨ds,hd,?_⟩;rw[C,<- Q]at o;simpa using o
  ·cases c
termination_by fuel=>fuel
end
end Go.Abs
/- A law's statement out of its contract and its plain law. -/
namespace Go.Abs
open Go.RowKit Go.ChangeShapes
def aoL(P:Program)(T:TT)(t:TypeId)(s:Sh):Bool:=
 (match P.underlying t with
  | some d=>Ls d==s.agg
  | none=>false)&&decide (rY P T 9 t=some s.t.kinds)&&(s.agg||decide (s.t.size=1))
def Ph(P:Program)(T:TT):List TypeId->List Sh->Bool
 | [],[]=>true
 | t::ts,s::ss=>aoL P T t s&&Ph P T ts ss
 | _,_=>false
def FitT(L:Nat)(ss:List Sh)(x:Tup ss):Prop:=∀d,d∈dL ss x->aV L d
section
variable {H:Type} {enc:TypeId×Value->H} {P:Program} {T:TT} {w:World}
theorem aX.split{n:Nat}{ds:List D}{vs:List Value}(h:aX (RF w) n ds vs) :
  aX (fun _ d u=>Rep w (fun b _=>b<w.heap.size) d u) n ds vs/\∀d,d∈ds->aV reachBytes d:=by
 induction ds generalizing n vs with
 | nil=>cases vs with
  | nil=>exact⟨trivial,fun d h=>by cases h⟩
  | cons=>exact h.elim
 | cons d ds ih=>cases vs with
  | nil=>exact h.elim
  | cons v vs=>
   obtain⟨h1,h2⟩:=ih h.2
   refine⟨⟨h.1.1,h1⟩,fun d' hd=>?_⟩
   rcases ba.1 hd with rfl | hd
   ·exact h.1.2
   ·exact h2 d' hd
theorem alU(p:yF P T=true){t:TypeId}{s:Sh}(o:aoL P T t s=true){v:Value}{d:DataW H}{ps:List MemPlace}(a:Value.okWide P w .any 0 t v\/∃base,Value.okWide P w .any base t v)
  (h:DataW.Trod enc P w 0 (fun _=>true) true t v d ps) (q:∀m,m∈d.weights P t->m<=reachBytes) (n:Nat) :
  ∃x:s.t.den,ShR (fun _ d u=>Rep w (fun b _=>b<w.heap.size) d u) n s x v/\∀d,d∈s.t.cells x->aV reachBytes d:=by
 obtain⟨base,a⟩:∃base,Value.okWide P w .any base t v:=a.elim (fun h=>⟨_,h⟩) id;obtain⟨fuel,h⟩:=h;simp only[aoL,zI,Bool.or_eq_true,decide_eq_true_eq]at o;obtain⟨⟨c,f⟩,i⟩:=o;obtain⟨ds,hd,r⟩:=OJ p fuel 9 t _ d ps _ f h q;obtain⟨x,y⟩:=Fb hd;obtain⟨h1,h2⟩:=r.split;rw[<- Ty.dD y]at h1 h2;refine⟨x,?_,h2⟩;have key:∀ {m k:Nat} {ds:List D} {vs:List Value},aX (fun _ d u=>Rep w (fun b _=>b<w.heap.size) d u) m ds vs->aX (fun _ d u=>Rep w (fun b _=>b<w.heap.size) d u) k ds vs:=by
  intro m k ds;induction ds generalizing m k with
  | nil=>intro vs h;cases vs with
   | nil=>trivial
   | cons=>exact h.elim
  | cons d ds ih=>intro vs h;cases vs with
   | nil=>exact h.elim
   | cons v vs=>exact⟨h.1,ih h.2⟩
 unfold Value.okWide at a;split at c
 case h_2=>cases c
 rename_i dd g;rw[g]at a;unfold ShR;cases j:s.agg with
 | true=>
  rw[j,beq_iff_eq]at c;have:∃cs,v=.agg cs:=by
   cases dd<;>simp[Ls]at c
   ·obtain⟨cs,e,_⟩:=a;exact⟨cs,e⟩
   ·obtain⟨cs,e,_⟩:=a;exact⟨cs,e⟩
  obtain⟨cs,rfl⟩:=this;exact⟨cs.toList,by simp,key h1⟩
 | false=>
  have z:=h1.get.1;rw[Ty.aZ,i.resolve_left (by rw[j];simp)]at z;have A:v.cells.toList=[v]:=by
   have hd:dd=.bool\/(∃k,dd=.int k)\/dd=.string\/∃e,dd=.slice e:=by
    rw[j,beq_iff_eq]at c;rw[rY,g]at f;cases dd<;>simp[Ls]at c<;>simp at f<;>simp
   have l:Cell.ok P w .any base t v:=by
    rcases hd with rfl | ⟨k,rfl⟩ | rfl | ⟨e,rfl⟩<;>simpa [Cell.okWide,g] using a
   unfold Cell.ok at l;rw[g]at l;rcases hd with rfl | ⟨k,rfl⟩ | rfl | ⟨e,rfl⟩<;>cases v<;>first | rfl | exact l.elim
  rw[A]at h1;exact key h1
theorem ab9(g:yF P T=true){base:Nat}:∀ {ts:List TypeId} {ss:List Sh} {vs:List Value} {ds:List (DataW H)} {ps:List MemPlace} (n:Nat),Ph P T ts ss=true ->
  (∀(j:Nat) t v,ts[j]?=some t->vs[j]?=some v->Value.okWide P w .any base t v)->DataW.TrodAll enc P w 0 (fun _=>true) true ts vs ds ps ->
  (∀m,m∈DataW.weightsEach P ts ds->m<=reachBytes)->∃x:Tup ss,kM (fun _ d u=>Rep w (fun b _=>b<w.heap.size) d u) n ss x vs/\FitT reachBytes ss x
 | [],[],[],[],ps,n,_,_,_,_=>⟨(),trivial,fun d hd=>by cases hd⟩
 | [],[],_::_,_,ps,n,_,_,h,_=>by simp[DataW.TrodAll]at h
 | [],[],[],_::_,ps,n,_,_,h,_=>by simp[DataW.TrodAll]at h
 | t::ts,s::ss,[],ds,ps,n,_,_,h,_=>by simp[DataW.TrodAll]at h
 | t::ts,s::ss,v::vs,[],ps,n,_,_,h,_=>by simp[DataW.TrodAll]at h
 | [],_::_,vs,ds,ps,n,a,_,_,_=>by simp[Ph]at a
 | _::_,[],vs,ds,ps,n,a,_,_,_=>by simp[Ph]at a
 | t::ts,s::ss,v::vs,d::ds,ps,n,a,c,h,e=>by
  simp only[Ph,zI]at a;obtain⟨p,q,h1,h2,rfl⟩:=h;simp only[DataW.weightsEach,List.mem_append]at e;obtain⟨x,i,fx⟩:=alU g a.1 (.inr ⟨base,c 0 t v rfl rfl⟩) h1 (fun m f=>e m (.inl f)) n;obtain⟨y,k,fy⟩:=ab9 g (n+s.t.size) a.2 (fun j t v l hv=>c (j+1) t v (by simpa using l) (by simpa using hv)) h2 (fun m f=>e m (.inr f));cases ss with
  | nil=>
   cases vs with
   | nil=>exact⟨x,i,fun d hd=>fx d hd⟩
   | cons=>cases ts<;>simp[Ph]at a;cases ds<;>simp[DataW.TrodAll]at h2
  | cons s' ss=>
   refine⟨(x,y),?_,fun d hd=>?_⟩
   ·cases vs with
    | nil=>cases ss<;>exact False.elim k
    | cons u us=>exact⟨i,k⟩
   ·simp only[dL,List.mem_append]at hd;exact hd.elim (fx d) (fy d)
theorem Ti(c:laidOutB P=true){w':World}(e:Below w.heap.size w w'):∀ {ts:List TypeId} {vs:List Value} {ds:List (DataW H)} {ps:List MemPlace},ts.all (fun t=>P.readableRec t&&decide (t<P.types.size))=true ->
  DataW.TrodAll enc P w 0 (fun _=>true) true ts vs ds ps->DataW.TrodAll enc P w' 0 (fun b=>decide (b<w.heap.size)) true ts vs ds ps
 | [],[],[],_,_,h=>h
 | [],_::_,_,_,_,h=>by simp[DataW.TrodAll]at h
 | [],[],_::_,_,_,h=>by simp[DataW.TrodAll]at h
 | _::_,[],_,_,_,h=>by simp[DataW.TrodAll]at h
 | _::_,_::_,[],_,_,h=>by simp[DataW.TrodAll]at h
 | t::ts,v::vs,d::ds,ps,a,h=>by
  obtain⟨p,q,h1,h2,rfl⟩:=h;simp only[List.all_cons,zI,decide_eq_true_eq]at a;exact⟨p,q,Below.trod c a.1.1 a.1.2 h1 e (fun x f=>(by obtain⟨n,g⟩:=h1;exact DataW.trod_lt n _ _ _ g x f)),Ti c e a.2 h2,rfl⟩
theorem ajc(A:yF P T=true)(B:laidOutB P=true){fn:Func}{f:Nat}{ss:List Sh}{ex:Bool}{F:Tup ss->Option Bool}(C:Sound P { fid:=f,ps:=ss,rs:=[⟨false,.base .bool⟩],ex:=ex,fn:=F })(g:Ph P T fn.params.toList ss=true)
  (D:fn.params.toList.all (fun t=>P.readableRec t&&decide (t<P.types.size))=true) {tb:TypeId} (hres:fn.resultTypes = #[tb]) (i:P.underlying tb=some .bool) {sp:ChangeSpec} (hvars:sp.vars=[])
  (k:∀ds:List (DataW H),ds.length=fn.params.toList.length->sp.fn H (ds++[])={ results:=[.lit (.bool true)],args:=ds })
  (law:∀x,FitT reachBytes ss x->F x=some true)
  {W:World} {base:Nat} {args:Array Value} {ds gs:List (DataW H)} {before:List MemPlace}
  (hval:∀(j:Nat) t v,fn.params[j]?=some t->args[j]?=some v->Value.okWide P W .any base t v)
  (E:DataW.Whole enc P fn.params.toList sp.vars false W args.toList ds gs before)
  (a:(DataW.weightsEach P (fn.params.toList++sp.plain.varTypes P) (ds++gs)).all (·<=reachBytes)=true) (l:amb W) :
  Calls P f args W fun e W'=>∃v,e=.returned v/\sp.post enc P fn false true false false W args v W':=by
 obtain⟨p,q,d,n,r,s,w⟩:=E;rw[hvars]at n;have y:gs=[]/\q=[]:=by
  cases gs with
  | nil=>exact⟨rfl,n⟩
  | cons=>exact n.elim
 obtain⟨rfl,rfl⟩:=y;have hlen:ds.length=fn.params.toList.length:=by
  have:∀ {ts:List TypeId} {vs:List Value} {ds:List (DataW H)} {ps:List MemPlace},DataW.TrodAll enc P W 0 (fun _=>true) true ts vs ds ps->ds.length=ts.length:=by
   intro ts;induction ts with
   | nil=>intro vs ds ps h;cases vs<;>cases ds<;>simp[DataW.TrodAll]at h ⊢
   | cons t ts ih=>
    intro vs ds ps h;cases vs<;>cases ds<;>simp only[DataW.TrodAll]at h
    obtain⟨_,_,_,h2,_⟩:=h;simp[ih h2]
  exact this d
 have z:sp.plain.varTypes P=[]:=by
  simp[DataSpec.varTypes,ChangeSpec.plain,hvars]
 rw[z,List.append_nil,List.append_nil]at a;obtain⟨x,G,fx⟩:=ab9 A (base:=base) 0 g (fun j t v I hv=>hval j t v (by simpa using I) (by simpa using hv)) d (fun m J=>by simpa using List.all_eq_true.1 a m J);have:=C W _ args.toList x _ (law x fx) l G (fun b o h=>h);rw[Array.toArray_toList]at this;refine this.mono fun e W' c=>?_
 obtain⟨v,rfl,hbel,us,rfl,hres'⟩:=c;have K:us=[.bool true]:=by
  have ow:∀ {w' S fp u},Ow w' S true (.bool true) u fp->u=.bool true:=by
   intro w' S fp u h;cases h with
   | bool=>rfl
   | ro _ _ _ h=>cases h
  cases us with
  | nil=>cases ex<;>simp only at hres'<;>obtain⟨_,h,_⟩:=hres'<;>exact False.elim h
  | cons u us=>
   cases us with
   | cons=>cases ex<;>simp only at hres'<;>obtain⟨_,h,_⟩:=hres'<;>exact False.elim h
   | nil=>
    cases ex with
    | true=>
     obtain⟨fps,h,_⟩:=hres';have h1:Ow W' (fun _ _=>False) true (.bool true) u (fps 0):=h.1;rw[ow h1]
    | false=>
     obtain⟨S',h,_⟩:=hres';have h1:Rep W' S' (.bool true) u:=h.1;cases h1
     rfl
 subst K;have hWW:DataW.Whole enc P fn.params.toList sp.vars false W args.toList ds [] before:=⟨p,[],d,by rw[hvars];rfl,r,s,w⟩;have c:=k ds hlen;refine⟨_,rfl,ds,[],before,[],p,[],hWW,?_,?_,?_,hbel.frame _,fun h=>by cases h⟩
 ·rw[c,hres];exact trodAll_mk1 ⟨1,by simp[DataW.trod,i,pack,Value.cells]⟩
 ·rw[c];exact Ti B hbel D d
 ·rw[c,hvars];rfl
end
end Go.Abs
/- The tables of types of this translation, by gentabs.py. -/
namespace Go.Proofs.YtbbmkcioplbhbaaGreatDoor
open Go.Abs
def tt:TT where
 shape:=[(2,false,1),(3,false,1),(4,false,1),(5,false,1),(6,false,1),(7,true,4),(8,true,4),(9,false,1),(10,false,1),(11,false,1),(12,false,1),(13,true,2),(14,true,2),(15,false,1),(16,false,1),(17,false,1),(18,true,1),(19,true,1),(21,false,1),(22,false,1),(23,true,1),(24,true,1),(25,false,1),(26,false,1),(27,true,3),(28,true,3),(29,false,1),(30,true,6),(31,true,6),(32,true,8),(33,true,8),(34,false,1),(35,true,17),(36,true,17),(40,false,1),(41,true,1),(42,true,1),(43,false,1),(44,false,1),(45,true,3),(46,true,3),(49,true,6),(50,true,8),(51,true,8),(52,false,1),(53,true,17),(54,true,17),(99,true,3),(100,true,3),(103,false,1),(104,false,1),(105,false,1),(106,true,7),(107,true,7),(108,true,11),(109,true,11),(125,true,3),(126,true,3),(131,false,1),(132,false,1),(133,true,7),(134,true,7),(135,true,11),(136,true,11),(146,false,1),(149,false,1),(150,true,4),(151,true,4),(161,false,1),(166,true,14),(167,true,14),(177,false,1),(178,true,2),(179,true,2),(184,false,1),(187,false,1),(188,true,4),(189,true,4),(198,false,1),(199,true,3),(200,true,3),(202,true,4),(203,true,4),(204,false,1),(207,true,2),(208,true,2),(215,true,2),(216,true,2),(218,false,1),(219,true,2),(220,true,2),(267,true,2),(274,false,1),(282,false,1),(289,false,1),(291,false,1),(293,false,1),(294,true,2),(295,true,2),(302,false,1),(305,false,1),(308,false,1),(312,false,1),(318,false,1),(324,true,3),(325,true,3),(327,false,1),(338,false,1),(339,true,1),(340,true,1),(342,true,2),(343,true,2),(349,false,1),(350,false,1),(351,true,4),(352,true,4),(357,false,1),(358,false,1),(360,false,1),(361,false,1),(362,true,11),(363,true,11),(364,true,2),(365,true,2),(366,false,1),(367,true,2),(368,true,2)]
 zero:=[(2,[.d (.int .i64 0)]),
  (3,[.d (.int .i64 0)]),
  (4,[.d (.bool false)]),
  (5,[.d (.int .u8 0)]),
  (6,[.d (.int .u8 0)]),
  (7,[.d (.int .i64 0),.d (.int .i64 0),.d (.bool false),.d (.int .u8 0)]),
  (8,[.d (.int .i64 0),.d (.int .i64 0),.d (.bool false),.d (.int .u8 0)]),
  (9,[.d (.str [])]),
  (10,[.d (.str [])]),
  (11,[.d (.str [])]),
  (12,[.d (.int .u64 0)]),
  (13,[.d (.str []),.d (.int .u64 0)]),
  (14,[.d (.str []),.d (.int .u64 0)]),
  (21,[.d (.int .i32 0)]),
  (22,[.nil]),
  (23,[.nil]),
  (24,[.nil]),
  (25,[.nil]),
  (26,[.nil]),
  (27,[.nil,.nil,.nil]),
  (28,[.nil,.nil,.nil]),
  (29,[.nil]),
  (30,[.d (.int .i64 0),.d (.int .i64 0),.d (.int .i64 0),.d (.str []),.d (.str []),.d (.int .i64 0)]),
  (31,[.d (.int .i64 0),.d (.int .i64 0),.d (.int .i64 0),.d (.str []),.d (.str []),.d (.int .i64 0)]),
  (32,[.d (.int .i64 0),.d (.int .i64 0),.d (.int .i64 0),.d (.int .i64 0),.d (.int .i64 0),.d (.str []),.d (.str []),.d (.int .i64 0)]),
  (33,[.d (.int .i64 0),.d (.int .i64 0),.d (.int .i64 0),.d (.int .i64 0),.d (.int .i64 0),.d (.str []),.d (.str []),.d (.int .i64 0)]),
  (34,[.nil]),
  (35,[.d (.int .i64 0),.d (.int .i64 0),.d (.int .i64 0),.nil,.d (.int .i64 0),.d (.int .i64 0),.d (.int .i64 0),.d (.int .i64 0),.d (.int .i64 0),.d (.str []),.d (.str []),.d (.int .i64 0),.d (.str []),.d (.str []),.d (.int .i64 0),.d (.int .i64 0),.nil]),
  (36,[.d (.int .i64 0),.d (.int .i64 0),.d (.int .i64 0),.nil,.d (.int .i64 0),.d (.int .i64 0),.d (.int .i64 0),.d (.int .i64 0),.d (.int .i64 0),.d (.str []),.d (.str []),.d (.int .i64 0),.d (.str []),.d (.str []),.d (.int .i64 0),.d (.int .i64 0),.nil]),
  (40,[.nil]),
  (41,[.nil]),
  (42,[.nil]),
  (43,[.nil]),
  (44,[.nil]),
  (45,[.nil,.nil,.nil]),
  (46,[.nil,.nil,.nil]),
  (49,[.d (.int .i64 0),.d (.int .i64 0),.d (.int .i64 0),.d (.str []),.d (.str []),.d (.int .i64 0)]),
  (50,[.d (.int .i64 0),.d (.int .i64 0),.d (.int .i64 0),.d (.int .i64 0),.d (.int .i64 0),.d (.str []),.d (.str []),.d (.int .i64 0)]),
  (51,[.d (.int .i64 0),.d (.int .i64 0),.d (.int .i64 0),.d (.int .i64 0),.d (.int .i64 0),.d (.str []),.d (.str []),.d (.int .i64 0)]),
  (52,[.nil]),
  (53,[.d (.int .i64 0),.d (.int .i64 0),.d (.int .i64 0),.nil,.d (.int .i64 0),.d (.int .i64 0),.d (.int .i64 0),.d (.int .i64 0),.d (.int .i64 0),.d (.str []),.d (.str []),.d (.int .i64 0),.d (.str []),.d (.str []),.d (.int .i64 0),.d (.int .i64 0),.nil]),
  (54,[.d (.int .i64 0),.d (.int .i64 0),.d (.int .i64 0),.nil,.d (.int .i64 0),.d (.int .i64 0),.d (.int .i64 0),.d (.int .i64 0),.d (.int .i64 0),.d (.str []),.d (.str []),.d (.int .i64 0),.d (.str []),.d (.str []),.d (.int .i64 0),.d (.int .i64 0),.nil]),
  (99,[.d (.int .i64 0),.d (.int .i64 0),.nil]),
  (100,[.d (.int .i64 0),.d (.int .i64 0),.nil]),
  (103,[.nil]),
  (104,[.nil]),
  (105,[.nil]),
  (106,[.d (.int .i64 0),.d (.int .i64 0),.d (.int .i64 0),.d (.str []),.nil,.nil,.nil]),
  (107,[.d (.int .i64 0),.d (.int .i64 0),.d (.int .i64 0),.d (.str []),.nil,.nil,.nil]),
  (108,[.d (.int .i64 0),.d (.int .i64 0),.d (.int .i64 0),.d (.str []),.d (.int .i64 0),.d (.int .i64 0),.d (.int .i64 0),.d (.str []),.nil,.nil,.nil]),
  (109,[.d (.int .i64 0),.d (.int .i64 0),.d (.int .i64 0),.d (.str []),.d (.int .i64 0),.d (.int .i64 0),.d (.int .i64 0),.d (.str []),.nil,.nil,.nil]),
  (125,[.d (.int .i64 0),.d (.int .i64 0),.nil]),
  (126,[.d (.int .i64 0),.d (.int .i64 0),.nil]),
  (131,[.nil]),
  (132,[.nil]),
  (133,[.d (.int .i64 0),.d (.int .i64 0),.d (.int .i64 0),.d (.str []),.nil,.nil,.nil]),
  (134,[.d (.int .i64 0),.d (.int .i64 0),.d (.int .i64 0),.d (.str []),.nil,.nil,.nil]),
  (135,[.d (.int .i64 0),.d (.int .i64 0),.d (.int .i64 0),.d (.str []),.d (.int .i64 0),.d (.int .i64 0),.d (.int .i64 0),.d (.str []),.nil,.nil,.nil]),
  (136,[.d (.int .i64 0),.d (.int .i64 0),.d (.int .i64 0),.d (.str []),.d (.int .i64 0),.d (.int .i64 0),.d (.int .i64 0),.d (.str []),.nil,.nil,.nil]),
  (146,[.nil]),
  (149,[.nil]),
  (150,[.d (.int .i64 0),.d (.int .i64 0),.d (.str []),.nil]),
  (151,[.d (.int .i64 0),.d (.int .i64 0),.d (.str []),.nil]),
  (161,[.nil]),
  (166,[.d (.int .i64 0),.d (.str []),.d (.int .i64 0),.d (.int .i64 0),.d (.str []),.nil,.d (.int .i64 0),.d (.int .i64 0),.d (.int .i64 0),.d (.str []),.nil,.nil,.nil,.d (.int .i64 0)]),
  (167,[.d (.int .i64 0),.d (.str []),.d (.int .i64 0),.d (.int .i64 0),.d (.str []),.nil,.d (.int .i64 0),.d (.int .i64 0),.d (.int .i64 0),.d (.str []),.nil,.nil,.nil,.d (.int .i64 0)]),
  (177,[.nil]),
  (178,[.nil,.nil]),
  (179,[.nil,.nil]),
  (184,[.nil]),
  (188,[.nil,.d (.int .i64 0),.d (.int .i64 0),.d (.int .i64 0)]),
  (189,[.nil,.d (.int .i64 0),.d (.int .i64 0),.d (.int .i64 0)]),
  (199,[.nil,.d (.int .i64 0),.d (.int .i64 0)]),
  (200,[.nil,.d (.int .i64 0),.d (.int .i64 0)]),
  (202,[.d (.int .i64 0),.d (.int .i64 0),.d (.int .i64 0),.d (.str [])]),
  (203,[.d (.int .i64 0),.d (.int .i64 0),.d (.int .i64 0),.d (.str [])]),
  (215,[.d (.int .i64 0),.d (.int .i64 0)]),
  (216,[.d (.int .i64 0),.d (.int .i64 0)]),
  (218,[.nil]),
  (219,[.nil,.nil]),
  (220,[.nil,.nil]),
  (267,[.d (.int .i64 0),.d (.int .i64 0)]),
  (274,[.d (.int .u64 0)]),
  (282,[.d (.int .i64 0)]),
  (289,[.d (.int .u32 0)]),
  (291,[.d (.int .u64 0)]),
  (302,[.d (.int .i64 0)]),
  (308,[.d (.int .u64 0)]),
  (339,[.d (.str [])]),
  (340,[.d (.str [])]),
  (342,[.d (.int .u8 0),.d (.int .u8 0)]),
  (343,[.d (.int .u8 0),.d (.int .u8 0)]),
  (357,[.d (.int .u8 0)]),
  (358,[.d (.int .u8 0)]),
  (360,[.d (.int .i32 0)]),
  (361,[.d (.int .i32 0)]),
  (366,[.nil]),
  (367,[.d (.str []),.nil]),
  (368,[.d (.str []),.nil])]
 fields:=[(7,[(0,false,1),(1,false,1),(2,false,1),(3,false,1)]),
  (8,[(0,false,1),(1,false,1),(2,false,1),(3,false,1)]),
  (13,[(0,false,1),(1,false,1)]),
  (14,[(0,false,1),(1,false,1)]),
  (18,[(0,false,1)]),
  (19,[(0,false,1)]),
  (23,[(0,false,1)]),
  (24,[(0,false,1)]),
  (27,[(0,true,1),(1,false,1),(2,false,1)]),
  (28,[(0,true,1),(1,false,1),(2,false,1)]),
  (30,[(0,false,1),(1,false,1),(2,false,1),(3,false,1),(4,false,1),(5,false,1)]),
  (31,[(0,false,1),(1,false,1),(2,false,1),(3,false,1),(4,false,1),(5,false,1)]),
  (32,[(0,false,1),(1,false,1),(2,true,6)]),
  (33,[(0,false,1),(1,false,1),(2,true,6)]),
  (35,[(0,false,1),(1,false,1),(2,false,1),(3,false,1),(4,true,8),(12,false,1),(13,false,1),(14,false,1),(15,false,1),(16,false,1)]),
  (36,[(0,false,1),(1,false,1),(2,false,1),(3,false,1),(4,true,8),(12,false,1),(13,false,1),(14,false,1),(15,false,1),(16,false,1)]),
  (41,[(0,false,1)]),
  (42,[(0,false,1)]),
  (45,[(0,true,1),(1,false,1),(2,false,1)]),
  (46,[(0,true,1),(1,false,1),(2,false,1)]),
  (49,[(0,false,1),(1,false,1),(2,false,1),(3,false,1),(4,false,1),(5,false,1)]),
  (50,[(0,false,1),(1,false,1),(2,true,6)]),
  (51,[(0,false,1),(1,false,1),(2,true,6)]),
  (53,[(0,false,1),(1,false,1),(2,false,1),(3,false,1),(4,true,8),(12,false,1),(13,false,1),(14,false,1),(15,false,1),(16,false,1)]),
  (54,[(0,false,1),(1,false,1),(2,false,1),(3,false,1),(4,true,8),(12,false,1),(13,false,1),(14,false,1),(15,false,1),(16,false,1)]),
  (99,[(0,false,1),(1,false,1),(2,false,1)]),
  (100,[(0,false,1),(1,false,1),(2,false,1)]),
  (106,[(0,false,1),(1,false,1),(2,false,1),(3,false,1),(4,false,1),(5,false,1),(6,false,1)]),
  (107,[(0,false,1),(1,false,1),(2,false,1),(3,false,1),(4,false,1),(5,false,1),(6,false,1)]),
  (108,[(0,false,1),(1,false,1),(2,false,1),(3,false,1),(4,true,7)]),
  (109,[(0,false,1),(1,false,1),(2,false,1),(3,false,1),(4,true,7)]),
  (125,[(0,false,1),(1,false,1),(2,false,1)]),
  (126,[(0,false,1),(1,false,1),(2,false,1)]),
  (133,[(0,false,1),(1,false,1),(2,false,1),(3,false,1),(4,false,1),(5,false,1),(6,false,1)]),
  (134,[(0,false,1),(1,false,1),(2,false,1),(3,false,1),(4,false,1),(5,false,1),(6,false,1)]),
  (135,[(0,false,1),(1,false,1),(2,false,1),(3,false,1),(4,true,7)]),
  (136,[(0,false,1),(1,false,1),(2,false,1),(3,false,1),(4,true,7)]),
  (150,[(0,false,1),(1,false,1),(2,false,1),(3,false,1)]),
  (151,[(0,false,1),(1,false,1),(2,false,1),(3,false,1)]),
  (166,[(0,false,1),(1,false,1),(2,true,4),(6,true,7),(13,false,1)]),
  (167,[(0,false,1),(1,false,1),(2,true,4),(6,true,7),(13,false,1)]),
  (178,[(0,false,1),(1,false,1)]),
  (179,[(0,false,1),(1,false,1)]),
  (188,[(0,false,1),(1,false,1),(2,false,1),(3,false,1)]),
  (189,[(0,false,1),(1,false,1),(2,false,1),(3,false,1)]),
  (199,[(0,false,1),(1,false,1),(2,false,1)]),
  (200,[(0,false,1),(1,false,1),(2,false,1)]),
  (202,[(0,false,1),(1,false,1),(2,false,1),(3,false,1)]),
  (203,[(0,false,1),(1,false,1),(2,false,1),(3,false,1)]),
  (207,[(0,false,1),(1,false,1)]),
  (208,[(0,false,1),(1,false,1)]),
  (215,[(0,false,1),(1,false,1)]),
  (216,[(0,false,1),(1,false,1)]),
  (219,[(0,false,1),(1,false,1)]),
  (220,[(0,false,1),(1,false,1)]),
  (267,[(0,false,1),(1,false,1)]),
  (294,[(0,false,1),(1,false,1)]),
  (295,[(0,false,1),(1,false,1)]),
  (324,[(0,false,1),(1,false,1),(2,false,1)]),
  (325,[(0,false,1),(1,false,1),(2,false,1)]),
  (339,[(0,false,1)]),
  (340,[(0,false,1)]),
  (342,[(0,false,1),(1,false,1)]),
  (343,[(0,false,1),(1,false,1)]),
  (351,[(0,false,1),(1,false,1),(2,false,1),(3,false,1)]),
  (352,[(0,false,1),(1,false,1),(2,false,1),(3,false,1)]),
  (362,[(0,false,1),(1,false,1),(2,false,1),(3,false,1),(4,false,1),(5,false,1),(6,false,1),(7,false,1),(8,false,1),(9,false,1),(10,false,1)]),
  (363,[(0,false,1),(1,false,1),(2,false,1),(3,false,1),(4,false,1),(5,false,1),(6,false,1),(7,false,1),(8,false,1),(9,false,1),(10,false,1)]),
  (364,[(0,false,1),(1,false,1)]),
  (365,[(0,false,1),(1,false,1)]),
  (367,[(0,false,1),(1,false,1)]),
  (368,[(0,false,1),(1,false,1)])]
 elem:=[(22,.base .cell),(25,.base .tape),(26,.base .op),(29,.base .int),(34,.base .read),(40,.base .cell),(43,.base .tape),(44,.base .op),(52,.base .read),(103,.base .val),(104,.base .str),(105,.base .row),(131,.base .val),(132,.base .row),(146,.base .u8),(149,.base .expr),(161,.base .part),(177,.base .origin),(184,.base .token),(218,.base .origin)]
 ints:=[(2,.i64),(3,.i64),(5,.u8),(6,.u8),(12,.u64),(21,.i32),(274,.u64),(282,.i64),(289,.u32),(291,.u64),(302,.i64),(308,.u64),(357,.u8),(358,.u8),(360,.i32),(361,.i32)]
 strs:=[9,10,11]
 bools:=[4]
 eqs:=[(31,[.int .i64,.int .i64,.int .i64,.str,.str,.int .i64]),(31,[.int .i64,.int .i64,.int .i64,.str,.str,.int .i64]),(33,[.int .i64,.int .i64,.int .i64,.int .i64,.int .i64,.str,.str,.int .i64]),(49,[.int .i64,.int .i64,.int .i64,.str,.str,.int .i64]),(49,[.int .i64,.int .i64,.int .i64,.str,.str,.int .i64]),(51,[.int .i64,.int .i64,.int .i64,.int .i64,.int .i64,.str,.str,.int .i64]),(216,[.int .i64,.int .i64]),(203,[.int .i64,.int .i64,.int .i64,.str]),(203,[.int .i64,.int .i64,.int .i64,.str]),(216,[.int .i64,.int .i64]),(267,[.int .i64,.int .i64]),(267,[.int .i64,.int .i64])]
end Go.Proofs.YtbbmkcioplbhbaaGreatDoor
/- A list that is put in strict order: there is at most one such order. -/
namespace Go.Abs
end Go.Abs
/- What the library's functions compute, by their plain meaning. -/
namespace Go.Abs
def Ej(n:Int):Option Str:=if -9223372036854775808<=n/\n<=9223372036854775807 then some (Go.Lib.itoa n)else none
def Ei(xs:List Str)(sep:Str):Option Str:=(gd xs.length).bind fun _=>(gd (Go.Lib.join xs sep).length).bind fun _=>some (Go.Lib.join xs sep)
def dX(s:Str)(c:Int):Option Int:=some (Go.Lib.indexByte s c.toNat.toUInt8)
def jo(s p:Str):Option Bool:=some (Go.Lib.hasPrefix s p)
def kN(s sep:Str):Option (List Str):=if s.length<4294967281/\1<=sep.length then some (Go.Lib.split s sep)else none
noncomputable def iZ(xs:List Str):Option (List Str):=(gd xs.length).bind fun _=>some (xs.mergeSort fun x y=>decide (x<=y))
def addN(out:List Int)(n:Int):List Int:=if out.contains n=true then out else out++[n]
def qP(s:Str)(low high:Int):Option (Int×Bool):=(gd s.length).bind fun _=>some (match Go.Lib.atoiAll s with
 | .ok v=>if v<low\/high<v\/Go.Lib.itoa v≠s then (0,false)else (v,true)
 | _=>(0,false))
def dK(rec:af->List Str->Option (List (Str×List Str)))(binds:Bool)(x:Str)(bound:List Str):Nat->List af->Option (List (Str×List Str))
 | _,[]=>some []
 | i,a::r=>(if binds&&decide (0<i)then (gd (bound.length+1)).bind fun _=>rec a (bound++[x])else rec a bound).bind fun u=>(dK rec binds x bound (i+1) r).bind fun v=>some (u++v)
def jG:Nat->af->List Str->Option (List (Str×List Str))
 | 0,_,_=>none
 | n+1,e,bound=>(gd bound.length).bind fun _=>(gd e.args.length).bind fun _=>
  if e.kind=3/\bound.contains e.text=false then some [(e.text,bound)]else dK (jG n) (decide (e.kind=7)||decide (e.kind=9)) e.text bound 0 e.args
end Go.Abs
