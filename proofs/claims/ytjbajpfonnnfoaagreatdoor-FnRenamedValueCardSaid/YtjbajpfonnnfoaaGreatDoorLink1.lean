import Derived.Test.YtjbajpfonnnfoaaGreatDoorAbs
import Derived.Test.YtjbajpfonnnfoaaGreatDoorS4
import Derived.ProofKit
import Derived.SizedLaws
import Derived.ChangeOld
import Derived.Test.YtjbajpfonnnfoaaGreatDoorProg
import Derived.Test.YtjbajpfonnnfoaaGreatDoorTypes
import Derived.Lib.ItoaNum
import Derived.Lib.AtoiAll
import Derived.Lib.Join
import Derived.Lib.Bytealg
import Derived.Lib.Strings
import Derived.Lib.Split
set_option linter.unusedSimpArgs false
set_option linter.unusedVariables false
/- What the handed arguments read as: data. -/
namespace Go.Abs
open Go.RowKit
inductive cu(L:Nat):D->Prop
 | int (k:IntKind) (n:Int) (h:(Lit.int k n).wf=true):cu L (.int k n)
 | bool (b:Bool):cu L (.bool b)
 | str (s:Str) (h:s.length<=L):cu L (.str s)
 | list (t:Ty) (xs:List t.den) (h:xs.length<=L) (hx:∀(i:Nat) (x:t.den) (j:Nat) (d:D),xs[i]?=some x->(t.cells x)[j]?=some d->cu L d):cu L (.list t xs)
def F7(P:Program)(k:TypeId->Option (List Kd)):Nat->List Field->Option (List Kd)
 | _,[]=>some []
 | off,f::r=>if f.offset=off then (k f.type).bind λks=>if ks.length=P.cellsOf f.type then (F7 P k (off+ks.length) r).map (ks ++ ·)else none else none
def qI(P:Program)(T:TT):Nat->TypeId->Option (List Kd)
 | 0,_=>none
 | n+1,t=>match P.underlying t with
  | some .bool=>some [.bool]
  | some (.int k)=>some [.int k]
  | some .string=>some [.str]
  | some (.slice _)=>(lk T.elem t).map λτ=>[.list τ]
  | some (.struct fs)=>(F7 P (qI P T n) 0 fs.toList).bind λks=>if ks.length=P.cellsOf t then some ks else none
  | _=>none
def xA(P:Program)(T:TT):Bool:=T.elem.all λx=>match P.underlying x.1 with
 | some (.slice e)=>decide (qI P T 9 e=some x.2.kinds)&&decide (P.cellsOf e=x.2.size)&&decide (0<P.bytesOf e)
 | _=>false
theorem JD{α:Type}{Q:Nat->α->Prop}:∀(n:Nat),(∀i,i<n->∃x,Q i x)->∃xs:List α,xs.length=n/\∀i x,xs[i]?=some x->Q i x
 | 0,_=>⟨[],rfl,λi x h=>(by simp at h)⟩
 | n+1,h=>by
  obtain⟨xs,b,c⟩:=JD n λi hi=>h i (by omega)
  obtain⟨x,d⟩:=h n (by omega);refine⟨xs++[x],by simp[b],λi y a=>?_⟩;rw[List.getElem?_append]at a;split at a
  ·exact c i y a
  ·rename_i hi;have:i=n:=by
    have:=(zC.1 a).1;simp at this;omega
   subst this;simp[b]at a;subst a;exact d
theorem N8{α β:Type}{f:α->Option β}:∀ {xs:List α} {ys:List β},xs.mapM f=some ys->ys.length=xs.length/\∀(i:Nat) (x:α),xs[i]?=some x->∃y,ys[i]?=some y/\f x=some y
 | [],ys,h=>by
  simp only[List.mapM_nil]at h;cases h
  exact⟨rfl,λi x h=>by simp at h⟩
 | a::xs,ys,h=>by
  simp only[List.mapM_cons,Option.bind_eq_bind,zB,Option.pure_def,zD]at h;obtain⟨y,c,zs,d,rfl⟩:=h;obtain⟨e,g⟩:=N8 d;refine⟨by simp[e],λi x b=>?_⟩;cases i with
  | zero=>simp at b;subst b;exact⟨y,rfl,c⟩
  | succ i=>simp at b;simpa using g i x b
section
variable {H:Type} {enc:TypeId×Value->H} {P:Program} {T:TT} {w:World}
theorem weightsAll_mem{t:TypeId}{d:DataW H}{n:Nat}:∀ {ds:List (DataW H)},d∈ds->n∈d.weights P t->n∈DataW.weightsAll P t ds
 | d'::ds,a,b=>by
  simp only[DataW.weightsAll,List.mem_append];rcases bh.1 a with rfl | a
  ·exact .inl b
  ·exact .inr (weightsAll_mem a b)
def RF(w:World)(_:Nat)(d:D)(v:Value):Prop:=Rep w (λb _=>b<w.heap.size) d v/\cu reachBytes d
theorem aV.cat{R:D->Value->Prop}:∀ {n m k:Nat} {ds ds':List D} {vs vs':List Value},aV (λ_=>R) n ds vs->aV (λ_=>R) m ds' vs'->aV (λ_=>R) k (ds++ds') (vs++vs')
 | n,m,k,[],ds',[],vs',_,h=>by
  have:∀ {m k:Nat} {ds:List D} {vs:List Value},aV (λ_=>R) m ds vs->aV (λ_=>R) k ds vs:=by
   intro m k ds;induction ds generalizing m k with
   | nil=>intro vs h;cases vs with
    | nil=>trivial
    | cons=>exact h.elim
   | cons d ds ih=>intro vs h;cases vs with
    | nil=>exact h.elim
    | cons v vs=>exact⟨h.1,ih h.2⟩
  exact this h
 | n,m,k,d::ds,ds',v::vs,vs',h,a=>⟨h.1,aV.cat (n:=n+1) h.2 a⟩
theorem trod_bool{fuel:Nat}{t:TypeId}(a:P.underlying t=some .bool){cs:List Value}{d:DataW H}{ps:List MemPlace}
  (h:DataW.trod enc P w 0 (λ_=>true) true (fuel+1) t cs=some (d,ps)):∃b,cs=[.bool b]:=by
 simp only[DataW.trod,a]at h;split at h<;>first | exact⟨_,rfl⟩ | (rename_i e;cases e;done) | (rename_i e _;cases e;done) | cases h
theorem trod_int{fuel:Nat}{t:TypeId}{k:IntKind}(a:P.underlying t=some (.int k)){cs:List Value}{d:DataW H}{ps:List MemPlace}
  (h:DataW.trod enc P w 0 (λ_=>true) true (fuel+1) t cs=some (d,ps)):∃n,cs=[.int k n]/\(Lit.int k n).wf=true:=by
 simp only[DataW.trod,a]at h;split at h<;>first | (rename_i e;cases e;done) | (rename_i e _;cases e;done) | skip
 ·rename_i e;cases e
  split at h
  ·rename_i hh;exact⟨_,by rw[hh.1],hh.2⟩
  ·cases h
 all_goals cases h
theorem trod_string{fuel:Nat}{t:TypeId}(a:P.underlying t=some .string){cs:List Value}{d:DataW H}{ps:List MemPlace}
  (h:DataW.trod enc P w 0 (λ_=>true) true (fuel+1) t cs=some (d,ps)):∃s,cs=[.string s]/\d=.lit (.string s.data.toList):=by
 simp only[DataW.trod,a]at h;split at h<;>first | (rename_i e;cases e;done) | (rename_i e _;cases e;done) | skip
 ·split at h
  ·cases h;exact⟨_,rfl,rfl⟩
  ·cases h
 all_goals cases h
theorem trod_slice{fuel:Nat}{t e:TypeId}(c:P.underlying t=some (.slice e)){cs:List Value}{d:DataW H}{ps:List MemPlace}
  (h:DataW.trod enc P w 0 (λ_=>true) true (fuel+1) t cs=some (d,ps)):cs=[.slice none 0 0]\/∃a len cap elems rest,cs=[.slice (some a) len cap]/\len<=cap /\
   (List.range len).mapM (λi=>(w.cells? 0 (a.add (i*P.cellsOf e)) (P.cellsOf e)).bind (DataW.trod enc P w 0 (λ_=>true) true fuel e))=some elems/\d=.slice (elems.map (·.1)) rest:=by
 simp only[DataW.trod,c]at h;split at h<;>first | (rename_i e;cases e;done) | (rename_i e _;cases e;done) | skip
 ·exact .inl rfl
 ·rename_i e' a len cap b;cases b
  split at h
  case isFalse=>cases h
  rename_i hc;simp only[zB,ami]at h;obtain⟨elems,f,rest,j,g⟩:=h;cases g
  exact .inr ⟨a,len,cap,elems,_,rfl,hc.2.1,f,rfl⟩
 all_goals cases h
theorem trod_struct{fuel:Nat}{t:TypeId}{fs:Array Field}(a:P.underlying t=some (.struct fs)){cs:List Value}{d:DataW H}{ps:List MemPlace}
  (h:DataW.trod enc P w 0 (λ_=>true) true (fuel+1) t cs=some (d,ps)):∃xs,cs.length=P.cellsOf t/\fs.toList.mapM (λf=>DataW.trod enc P w 0 (λ_=>true) true fuel f.type ((cs.drop f.offset).take (P.cellsOf f.type)))=some xs/\d=.agg (xs.map (·.1)):=by
 simp only[DataW.trod,a]at h;split at h
 ·rename_i hc;rw[ami]at h;obtain⟨xs,b,c⟩:=h;cases c
  exact⟨xs,hc,b,rfl⟩
 ·cases h
theorem adm{a:Addr}{n:Nat}{vs:List Value}(h:w.cells? 0 a n=some vs):vs.length=n/\∀j v,vs[j]?=some v->w.cell? (a.add j)=some v:=by
 unfold World.cells? at h;rw[if_pos (Nat.zero_le _)]at h;obtain⟨b,d⟩:=N8 h;refine⟨by simpa using b,λj v hv=>?_⟩;have e:j<n:=by have:=(zC.1 hv).1;rw[b]at this;simpa using this
 obtain⟨y,c,f⟩:=d j j (by simp[e]);rw[hv]at c;cases c
 exact f
theorem Pz{a:Addr}{v:Value}(h:w.cell? a=some v):a.block<w.heap.size/\a.spot=none:=by
 unfold World.cell? at h;split at h
 ·rename_i hh;refine⟨(a6.1 hh).1,?_⟩;split at h
  ·cases h
  ·rename_i b;simpa using b
 ·cases h
theorem afW{fuel n:Nat}{cs:List Value}
  (ih:∀(t:TypeId) (cs:List Value) (d:DataW H) (ps:List MemPlace) (ks:List Kd),qI P T n t=some ks ->
   DataW.trod enc P w 0 (λ_=>true) true fuel t cs=some (d,ps)->(∀m,m∈d.weights P t->m<=reachBytes)->∃ds:List D,ds.map kd=ks/\aV (RF w) 0 ds cs) :
  ∀(fs:List Field) (off:Nat) (ks:List Kd) (xs:List (DataW H×List MemPlace)),F7 P (qI P T n) off fs=some ks ->
   fs.mapM (λf=>DataW.trod enc P w 0 (λ_=>true) true fuel f.type ((cs.drop f.offset).take (P.cellsOf f.type)))=some xs ->
   (∀m,m∈DataW.weightsEach P (fs.map (·.type)) (xs.map (·.1))->m<=reachBytes) ->
   ∃ds:List D,ds.map kd=ks/\aV (RF w) 0 ds ((cs.drop off).take ks.length)
 | [],off,ks,xs,hk,_,_=>by
  simp only[F7,zD]at hk;subst hk;exact⟨[],rfl,by simp;trivial⟩
 | f::fs,off,ks,xs,hk,h,b=>by
  simp only[F7]at hk;split at hk
  case isFalse=>cases hk
  rename_i k;simp only[zB]at hk;obtain⟨a,c,hk⟩:=hk;split at hk
  case isFalse=>cases hk
  rename_i l;rw[ami]at hk;obtain⟨g,i,rfl⟩:=hk;simp only[List.mapM_cons,Option.bind_eq_bind,zB,Option.pure_def,zD]at h;obtain⟨x,o,ys,p,rfl⟩:=h;simp only[List.map_cons,DataW.weightsEach,List.mem_append]at b;obtain⟨q,r,s⟩:=ih f.type _ x.1 x.2 a c o λm j=>b m (.inl j)
  obtain⟨u,v,y⟩:=afW ih fs (off+a.length) g ys i p λm j=>b m (.inr j)
  refine⟨q++u,by simp[r,v],?_⟩;have e:(cs.drop off).take (a++g).length=(cs.drop f.offset).take (P.cellsOf f.type)++(cs.drop (off+a.length)).take g.length:=by
   rw[k,<- l,a8,List.take_add,List.drop_drop]
  rw[e];exact aV.cat s y
theorem LK(C:xA P T=true):∀(fuel n:Nat) (t:TypeId) (cs:List Value) (d:DataW H) (ps:List MemPlace) (ks:List Kd),qI P T n t=some ks ->
  DataW.trod enc P w 0 (λ_=>true) true fuel t cs=some (d,ps)->(∀m,m∈d.weights P t->m<=reachBytes)->∃ds:List D,ds.map kd=ks/\aV (RF w) 0 ds cs
 | 0,n,t,cs,d,ps,ks,_,h,_=>by simp[DataW.trod]at h
 | fuel+1,0,t,cs,d,ps,ks,hk,_,_=>by simp[qI]at hk
 | fuel+1,n+1,t,cs,d,ps,ks,hk,h,l=>by
  rw[qI]at hk;split at hk
  ·rename_i c;cases hk
   obtain⟨b,rfl⟩:=trod_bool c h;exact⟨[.bool b],rfl,⟨.bool b,.bool b⟩,trivial⟩
  ·rename_i k c;cases hk
   obtain⟨m,rfl,r⟩:=trod_int c h;exact⟨[.int k m],rfl,⟨.int k m,.int k m r⟩,trivial⟩
  ·rename_i c;cases hk
   obtain⟨s,rfl,rfl⟩:=trod_string c h;exact⟨[.str s.data.toList],rfl,⟨.str s,.str _ (l _ (by simp[DataW.weights]))⟩,trivial⟩
  ·rename_i e c;rw[ami]at hk;obtain⟨τ,hτ,rfl⟩:=hk;have u:=List.all_eq_true.1 C _ (yC hτ);simp only[c,zI,decide_eq_true_eq]at u;obtain⟨⟨E,F⟩,G⟩:=u;rcases trod_slice c h with rfl | ⟨a,len,cap,elems,rest,rfl,R,r,rfl⟩
   ·exact⟨[.list τ []],rfl,⟨.nil τ,.list τ [] (Nat.zero_le _) (λi x j d g=>by simp at g)⟩,trivial⟩
   obtain⟨I,J⟩:=N8 r;have S:elems.length=len:=by simpa using I
   simp only[DataW.weights,c,bh,List.mem_append]at l;have key:∀i,i<len->∃x:τ.den,∃vs:List Value,aV (RF w) 0 (τ.cells x) vs/\∀j v,vs[j]?=some v->w.cell? (Addr.add (a.add (i*τ.size)) j)=some v:=by
    intro i hi;obtain⟨y,U,hf⟩:=J i i (by simp[hi]);rw[zB]at hf;obtain⟨vs,K,hf⟩:=hf;obtain⟨B,L⟩:=adm K;obtain⟨ds,f,o⟩:=LK C fuel 9 e vs y.1 y.2 _ E hf λm M=>l m (.inr (.inl (weightsAll_mem (List.mem_map_of_mem (zG U)) M)))
    obtain⟨x,g⟩:=Dn f;exact⟨x,vs,by rw[Ty.eH g];exact o,λj v hv=>by rw[<- F];exact L j v hv⟩
   obtain⟨xs,p,N⟩:=JD len key;have hlen:xs.length<=reachBytes:=by
    have V:=l _ (.inl rfl);have X:len*1<=(elems.length+rest.length)*P.bytesOf e:=Nat.mul_le_mul (by omega) G;rw[amv]at V;omega
   have hcell:∀(i:Nat) (x:τ.den) (j:Nat) (d:D),xs[i]?=some x->(τ.cells x)[j]?=some d->∃v,w.cell? (Addr.add (a.add (i*τ.size)) j)=some v/\RF w 0 d v:=by
    intro i x j d g f;obtain⟨vs,o,L⟩:=N i x g;obtain⟨B,hc⟩:=o.get;have Q:j<vs.length:=by rw[<- B];exact (zC.1 f).1
    have:=hc j d vs[j] f (by simp[Q]);exact⟨vs[j],L j _ (by simp[Q]),this⟩
   refine⟨[.list τ xs],rfl,⟨?_,.list τ xs hlen λi x j d g f=>?_⟩,trivial⟩
   ·cases z:len with
    | zero=>
     rw[z]at p;obtain rfl:=amB p;exact .emp τ a cap
    | succ m=>
     rw[<- z];have A:a.spot=none:=by
      have W:0<xs.length:=by omega
      have O:0<(τ.cells xs[0]).length:=by rw[Ty.bn];exact τ.size_pos
      obtain⟨v,hv,_⟩:=hcell 0 xs[0] 0 (τ.cells xs[0])[0] (by simp[W]) (by simp[O]);have:=(Pz hv).2;simpa [Addr.add] using this
     obtain⟨b,off,sp⟩:=a;simp only at A;subst A;rw[<- p];refine .list τ xs b off cap (λi j=>(w.cell? ⟨b,off+(i*τ.size+j),none⟩).getD undef) (by omega) ?_ ?_
     ·intro i x j d g f;obtain⟨v,hv,_⟩:=hcell i x j d g f;rw[addr_add,addr_add,Nat.add_assoc]at hv;rw[hv];exact⟨rfl,(Pz hv).1⟩
     ·intro i x j d g f;obtain⟨v,hv,o,_⟩:=hcell i x j d g f;rw[addr_add,addr_add,Nat.add_assoc]at hv;rw[hv];exact o
   ·obtain⟨v,_,_,hf⟩:=hcell i x j d g f;exact hf
  ·rename_i fs c;simp only[zB]at hk;obtain⟨k,hk,q⟩:=hk;split at q
   case isFalse=>cases q
   rename_i B;cases q
   obtain⟨xs,hc,r,rfl⟩:=trod_struct c h;simp only[DataW.weights,c]at l;obtain⟨ds,f,o⟩:=afW (cs:=cs) (λt cs d ps ks hk h l=>LK C fuel n t cs d ps ks hk h l) fs.toList 0 ks xs hk r l;refine⟨ds,f,?_⟩;rw[B,<- hc]at o;simpa using o
  ·cases hk
termination_by fuel=>fuel
end
end Go.Abs
/- A law's statement out of its contract and its plain law. -/
namespace Go.Abs
open Go.RowKit Go.ChangeShapes
def aku(P:Program)(T:TT)(t:TypeId)(s:Sh):Bool:=
 (match P.underlying t with
  | some d=>Jh d==s.agg
  | none=>false)&&decide (qI P T 9 t=some s.t.kinds)&&(s.agg||decide (s.t.size=1))
def L6(P:Program)(T:TT):List TypeId->List Sh->Bool
 | [],[]=>true
 | t::ts,s::ss=>aku P T t s&&L6 P T ts ss
 | _,_=>false
def FitT(L:Nat)(ss:List Sh)(x:Tup ss):Prop:=∀d,d∈dI ss x->cu L d
section
variable {H:Type} {enc:TypeId×Value->H} {P:Program} {T:TT} {w:World}
theorem aV.split{n:Nat}{ds:List D}{vs:List Value}(h:aV (RF w) n ds vs) :
  aV (λ_ d u=>Rep w (λb _=>b<w.heap.size) d u) n ds vs/\∀d,d∈ds->cu reachBytes d:=by
 induction ds generalizing n vs with
 | nil=>cases vs with
  | nil=>exact⟨trivial,λd h=>by cases h⟩
  | cons=>exact h.elim
 | cons d ds ih=>cases vs with
  | nil=>exact h.elim
  | cons v vs=>
   obtain⟨c,e⟩:=ih h.2
   refine⟨⟨h.1.1,c⟩,λd' a=>?_⟩
   rcases bh.1 a with rfl | a
   ·exact h.1.2
   ·exact e d' a
theorem aim(r:xA P T=true){t:TypeId}{s:Sh}(p:aku P T t s=true){v:Value}{d:DataW H}{ps:List MemPlace}(a:Value.okWide P w .any 0 t v\/∃base,Value.okWide P w .any base t v)
  (h:DataW.Trod enc P w 0 (λ_=>true) true t v d ps) (y:∀m,m∈d.weights P t->m<=reachBytes) (n:Nat) :
  ∃x:s.t.den,ShR (λ_ d u=>Rep w (λb _=>b<w.heap.size) d u) n s x v/\∀d,d∈s.t.cells x->cu reachBytes d:=by
 obtain⟨base,a⟩:∃base,Value.okWide P w .any base t v:=a.elim (λh=>⟨_,h⟩) id;obtain⟨fuel,h⟩:=h;simp only[aku,zI,Bool.or_eq_true,decide_eq_true_eq]at p;obtain⟨⟨c,f⟩,l⟩:=p;obtain⟨ds,i,z⟩:=LK r fuel 9 t _ d ps _ f h y;obtain⟨x,A⟩:=Dn i;obtain⟨g,q⟩:=z.split;rw[<- Ty.eH A]at g q;refine⟨x,?_,q⟩;have key:∀ {m k:Nat} {ds:List D} {vs:List Value},aV (λ_ d u=>Rep w (λb _=>b<w.heap.size) d u) m ds vs->aV (λ_ d u=>Rep w (λb _=>b<w.heap.size) d u) k ds vs:=by
  intro m k ds;induction ds generalizing m k with
  | nil=>intro vs h;cases vs with
   | nil=>trivial
   | cons=>exact h.elim
  | cons d ds ih=>intro vs h;cases vs with
   | nil=>exact h.elim
   | cons v vs=>exact⟨h.1,ih h.2⟩
 unfold Value.okWide at a;split at c
 case h_2=>cases c
 rename_i dd j;rw[j]at a;unfold ShR;cases o:s.agg with
 | true=>
  rw[o,beq_iff_eq]at c;have:∃cs,v=.agg cs:=by
   cases dd<;>simp[Jh]at c
   ·obtain⟨cs,e,_⟩:=a;exact⟨cs,e⟩
   ·obtain⟨cs,e,_⟩:=a;exact⟨cs,e⟩
  obtain⟨cs,rfl⟩:=this;exact⟨cs.toList,by simp,key g⟩
 | false=>
  have B:=g.get.1;rw[Ty.bn,l.resolve_left (by rw[o];simp)]at B;have C:v.cells.toList=[v]:=by
   have i:dd=.bool\/(∃k,dd=.int k)\/dd=.string\/∃e,dd=.slice e:=by
    rw[o,beq_iff_eq]at c;rw[qI,j]at f;cases dd<;>simp[Jh]at c<;>simp at f<;>simp
   have hc:Cell.ok P w .any base t v:=by
    rcases i with rfl | ⟨k,rfl⟩ | rfl | ⟨e,rfl⟩<;>simpa [Cell.okWide,j] using a
   unfold Cell.ok at hc;rw[j]at hc;rcases i with rfl | ⟨k,rfl⟩ | rfl | ⟨e,rfl⟩<;>cases v<;>first | rfl | exact hc.elim
  rw[C]at g;exact key g
theorem Yz(i:xA P T=true){base:Nat}:∀ {ts:List TypeId} {ss:List Sh} {vs:List Value} {ds:List (DataW H)} {ps:List MemPlace} (n:Nat),L6 P T ts ss=true ->
  (∀(j:Nat) t v,ts[j]?=some t->vs[j]?=some v->Value.okWide P w .any base t v)->DataW.TrodAll enc P w 0 (λ_=>true) true ts vs ds ps ->
  (∀m,m∈DataW.weightsEach P ts ds->m<=reachBytes)->∃x:Tup ss,jI (λ_ d u=>Rep w (λb _=>b<w.heap.size) d u) n ss x vs/\FitT reachBytes ss x
 | [],[],[],[],ps,n,_,_,_,_=>⟨(),trivial,λd c=>by cases c⟩
 | [],[],_::_,_,ps,n,_,_,h,_=>by simp[DataW.TrodAll]at h
 | [],[],[],_::_,ps,n,_,_,h,_=>by simp[DataW.TrodAll]at h
 | t::ts,s::ss,[],ds,ps,n,_,_,h,_=>by simp[DataW.TrodAll]at h
 | t::ts,s::ss,v::vs,[],ps,n,_,_,h,_=>by simp[DataW.TrodAll]at h
 | [],_::_,vs,ds,ps,n,a,_,_,_=>by simp[L6]at a
 | _::_,[],vs,ds,ps,n,a,_,_,_=>by simp[L6]at a
 | t::ts,s::ss,v::vs,d::ds,ps,n,a,e,h,f=>by
  simp only[L6,zI]at a;obtain⟨p,q,r,k,rfl⟩:=h;simp only[DataW.weightsEach,List.mem_append]at f;obtain⟨x,l,fx⟩:=aim i a.1 (.inr ⟨base,e 0 t v rfl rfl⟩) r (λm g=>f m (.inl g)) n;obtain⟨y,o,fy⟩:=Yz i (n+s.t.size) a.2 (λj t v z hv=>e (j+1) t v (by simpa using z) (by simpa using hv)) k (λm g=>f m (.inr g));cases ss with
  | nil=>
   cases vs with
   | nil=>exact⟨x,l,λd c=>fx d c⟩
   | cons=>cases ts<;>simp[L6]at a;cases ds<;>simp[DataW.TrodAll]at k
  | cons s' ss=>
   refine⟨(x,y),?_,λd c=>?_⟩
   ·cases vs with
    | nil=>cases ss<;>exact False.elim o
    | cons u us=>exact⟨l,o⟩
   ·simp only[dI,List.mem_append]at c;exact c.elim (fx d) (fy d)
theorem PL(c:laidOutB P=true){w':World}(e:Below w.heap.size w w'):∀ {ts:List TypeId} {vs:List Value} {ds:List (DataW H)} {ps:List MemPlace},ts.all (λt=>P.readableRec t&&decide (t<P.types.size))=true ->
  DataW.TrodAll enc P w 0 (λ_=>true) true ts vs ds ps->DataW.TrodAll enc P w' 0 (λb=>decide (b<w.heap.size)) true ts vs ds ps
 | [],[],[],_,_,h=>h
 | [],_::_,_,_,_,h=>by simp[DataW.TrodAll]at h
 | [],[],_::_,_,_,h=>by simp[DataW.TrodAll]at h
 | _::_,[],_,_,_,h=>by simp[DataW.TrodAll]at h
 | _::_,_::_,[],_,_,h=>by simp[DataW.TrodAll]at h
 | t::ts,v::vs,d::ds,ps,a,h=>by
  obtain⟨p,q,f,g,rfl⟩:=h;simp only[List.all_cons,zI,decide_eq_true_eq]at a;exact⟨p,q,Below.trod c a.1.1 a.1.2 f e (λx i=>(by obtain⟨n,j⟩:=f;exact DataW.trod_lt n _ _ _ j x i)),PL c e a.2 g,rfl⟩
theorem afv(B:xA P T=true)(C:laidOutB P=true){fn:Func}{f:Nat}{ss:List Sh}{ex:Bool}{F:Tup ss->Option Bool}(D:Sound P { fid:=f,ps:=ss,rs:=[⟨false,.base .bool⟩],ex:=ex,fn:=F })(g:L6 P T fn.params.toList ss=true)
  (E:fn.params.toList.all (λt=>P.readableRec t&&decide (t<P.types.size))=true) {tb:TypeId} (hres:fn.resultTypes = #[tb]) (i:P.underlying tb=some .bool) {sp:ChangeSpec} (hvars:sp.vars=[])
  (k:∀ds:List (DataW H),ds.length=fn.params.toList.length->sp.fn H (ds++[])={ results:=[.lit (.bool true)],args:=ds })
  (law:∀x,FitT reachBytes ss x->F x=some true)
  {W:World} {base:Nat} {args:Array Value} {ds gs:List (DataW H)} {before:List MemPlace}
  (hval:∀(j:Nat) t v,fn.params[j]?=some t->args[j]?=some v->Value.okWide P W .any base t v)
  (G:DataW.Whole enc P fn.params.toList sp.vars false W args.toList ds gs before)
  (a:(DataW.weightsEach P (fn.params.toList++sp.plain.varTypes P) (ds++gs)).all (·<=reachBytes)=true) (l:amb W) :
  Calls P f args W λe W'=>∃v,e=.returned v/\sp.post enc P fn false true false false W args v W':=by
 obtain⟨p,q,d,n,r,s,w⟩:=G;rw[hvars]at n;have y:gs=[]/\q=[]:=by
  cases gs with
  | nil=>exact⟨rfl,n⟩
  | cons=>exact n.elim
 obtain⟨rfl,rfl⟩:=y;have hlen:ds.length=fn.params.toList.length:=by
  have:∀ {ts:List TypeId} {vs:List Value} {ds:List (DataW H)} {ps:List MemPlace},DataW.TrodAll enc P W 0 (λ_=>true) true ts vs ds ps->ds.length=ts.length:=by
   intro ts;induction ts with
   | nil=>intro vs ds ps h;cases vs<;>cases ds<;>simp[DataW.TrodAll]at h ⊢
   | cons t ts ih=>
    intro vs ds ps h;cases vs<;>cases ds<;>simp only[DataW.TrodAll]at h
    obtain⟨_,_,_,I,_⟩:=h;simp[ih I]
  exact this d
 have z:sp.plain.varTypes P=[]:=by
  simp[DataSpec.varTypes,ChangeSpec.plain,hvars]
 rw[z,amA,amA]at a;obtain⟨x,J,fx⟩:=Yz B (base:=base) 0 g (λj t v K hv=>hval j t v (by simpa using K) (by simpa using hv)) d (λm L=>by simpa using List.all_eq_true.1 a m L);have:=D W _ args.toList x _ (law x fx) l J (λb o h=>h);rw[Array.toArray_toList]at this;refine this.mono λe W' c=>?_
 obtain⟨v,rfl,hbel,us,rfl,hres'⟩:=c;have M:us=[.bool true]:=by
  have ow:∀ {w' S fp u},Ow w' S true (.bool true) u fp->u=.bool true:=by
   intro w' S fp u h;cases h with
   | bool=>rfl
   | ro _ _ _ h=>cases h
  cases us with
  | nil=>cases ex<;>simp only at hres'<;>obtain⟨_,h,_⟩:=hres'<;>exact False.elim h
  | cons u us=>
   cases us with
   | cons=>cases ex<;>simp only at hres'<;>obtain⟨_,h,_⟩:=hres'<;>exact False.elim h
   | nil=>
    cases ex with
    | true=>
     obtain⟨fps,h,_⟩:=hres';have A:Ow W' (λ_ _=>False) true (.bool true) u (fps 0):=h.1;rw[ow A]
    | false=>
     obtain⟨S',h,_⟩:=hres';have A:Rep W' S' (.bool true) u:=h.1;cases A
     rfl
 subst M;have hWW:DataW.Whole enc P fn.params.toList sp.vars false W args.toList ds [] before:=⟨p,[],d,by rw[hvars];rfl,r,s,w⟩;have c:=k ds hlen;refine⟨_,rfl,ds,[],before,[],p,[],hWW,?_,?_,?_,hbel.frame _,λh=>by cases h⟩
 ·rw[c,hres];exact trodAll_mk1 ⟨1,by simp[DataW.trod,i,pack,Value.cells]⟩
 ·rw[c];exact PL C hbel E d
 ·rw[c,hvars];rfl
end
end Go.Abs
/- The tables of types of this translation, by gentabs.py. -/
namespace Go.Proofs.YtjbajpfonnnfoaaGreatDoor
open Go.Abs
def tt:TT where
 shape:=[(2,false,1),(3,false,1),(4,false,1),(5,false,1),(6,false,1),(7,true,4),(8,true,4),(9,false,1),(10,false,1),(11,false,1),(12,false,1),(13,true,2),(14,true,2),(15,false,1),(16,false,1),(17,false,1),(18,true,1),(19,true,1),(21,false,1),(22,false,1),(24,false,1),(25,true,4),(26,true,4),(27,false,1),(28,false,1),(29,false,1),(30,true,3),(31,true,3),(34,false,1),(35,false,1),(36,false,1),(37,true,7),(38,true,7),(39,true,9),(40,true,9),(47,true,8),(48,true,8),(54,false,1),(63,false,1),(64,true,9),(65,true,9),(69,true,11),(70,true,11),(74,false,1),(75,true,9),(76,true,9),(79,true,3),(80,true,3),(81,false,1),(92,true,3),(93,true,3),(101,false,1),(105,true,2),(106,true,2),(115,false,1),(116,true,2),(117,true,2),(124,false,1),(125,true,1),(126,true,1),(127,false,1),(128,true,3),(129,true,3),(134,false,1),(137,true,2),(138,true,2),(145,false,1),(157,true,2),(158,true,2),(167,true,6),(168,true,6),(173,false,1),(193,false,1),(194,true,3),(195,true,3),(202,true,2),(203,true,2),(207,true,1),(208,true,1),(209,false,1),(211,false,1),(213,false,1),(215,false,1),(222,false,1),(231,false,1),(235,false,1),(237,false,1),(240,false,1),(243,false,1),(246,true,2),(247,true,2),(252,true,4),(253,true,4),(257,false,1),(258,false,1),(260,false,1),(261,false,1),(262,false,1),(263,true,11),(264,true,11),(265,true,8),(266,true,8),(267,true,17),(268,true,17),(269,true,2),(270,true,2)]
 zero:=[(2,[.d (.int .i64 0)]),
  (3,[.d (.int .i64 0)]),
  (4,[.d (.bool false)]),
  (5,[.d (.int .u8 0)]),
  (6,[.d (.int .u8 0)]),
  (7,[.d (.int .i64 0),.d (.int .i64 0),.d (.bool false),.d (.int .u8 0)]),
  (8,[.d (.int .i64 0),.d (.int .i64 0),.d (.bool false),.d (.int .u8 0)]),
  (9,[.d (.str [])]),
  (10,[.d (.str [])]),
  (11,[.d (.str [])]),
  (12,[.d (.int .u64 0)]),
  (13,[.d (.str []),.d (.int .u64 0)]),
  (14,[.d (.str []),.d (.int .u64 0)]),
  (21,[.d (.int .i32 0)]),
  (22,[.nil]),
  (24,[.nil]),
  (25,[.d (.int .i64 0),.d (.int .i64 0),.d (.str []),.nil]),
  (26,[.d (.int .i64 0),.d (.int .i64 0),.d (.str []),.nil]),
  (27,[.nil]),
  (28,[.nil]),
  (29,[.nil]),
  (30,[.d (.int .i64 0),.d (.int .i64 0),.nil]),
  (31,[.d (.int .i64 0),.d (.int .i64 0),.nil]),
  (34,[.nil]),
  (35,[.nil]),
  (36,[.nil]),
  (37,[.d (.int .i64 0),.d (.int .i64 0),.d (.int .i64 0),.d (.str []),.nil,.nil,.nil]),
  (38,[.d (.int .i64 0),.d (.int .i64 0),.d (.int .i64 0),.d (.str []),.nil,.nil,.nil]),
  (39,[.d (.int .i64 0),.d (.int .i64 0),.d (.int .i64 0),.d (.str []),.nil,.nil,.nil,.nil,.d (.int .i64 0)]),
  (40,[.d (.int .i64 0),.d (.int .i64 0),.d (.int .i64 0),.d (.str []),.nil,.nil,.nil,.nil,.d (.int .i64 0)]),
  (47,[.d (.str []),.d (.int .i64 0),.d (.int .i64 0),.d (.int .i64 0),.d (.str []),.nil,.nil,.nil]),
  (48,[.d (.str []),.d (.int .i64 0),.d (.int .i64 0),.d (.int .i64 0),.d (.str []),.nil,.nil,.nil]),
  (64,[.nil,.d (.int .i64 0),.d (.int .i64 0),.nil,.d (.int .i64 0),.d (.int .i64 0),.nil,.d (.int .i64 0),.d (.bool false)]),
  (65,[.nil,.d (.int .i64 0),.d (.int .i64 0),.nil,.d (.int .i64 0),.d (.int .i64 0),.nil,.d (.int .i64 0),.d (.bool false)]),
  (69,[.d (.int .i64 0),.d (.int .i64 0),.d (.int .i64 0),.d (.str []),.d (.int .i64 0),.d (.int .i64 0),.d (.int .i64 0),.d (.str []),.nil,.nil,.nil]),
  (70,[.d (.int .i64 0),.d (.int .i64 0),.d (.int .i64 0),.d (.str []),.d (.int .i64 0),.d (.int .i64 0),.d (.int .i64 0),.d (.str []),.nil,.nil,.nil]),
  (75,[.nil,.d (.int .i64 0),.d (.int .i64 0),.nil,.d (.int .i64 0),.d (.int .i64 0),.nil,.d (.int .i64 0),.d (.bool false)]),
  (76,[.nil,.d (.int .i64 0),.d (.int .i64 0),.nil,.d (.int .i64 0),.d (.int .i64 0),.nil,.d (.int .i64 0),.d (.bool false)]),
  (79,[.d (.int .i64 0),.d (.int .i64 0),.nil]),
  (80,[.d (.int .i64 0),.d (.int .i64 0),.nil]),
  (81,[.nil]),
  (92,[.nil,.d (.int .i64 0),.d (.int .i64 0)]),
  (93,[.nil,.d (.int .i64 0),.d (.int .i64 0)]),
  (101,[.nil]),
  (105,[.d (.str []),.d (.int .i64 0)]),
  (106,[.d (.str []),.d (.int .i64 0)]),
  (115,[.nil]),
  (116,[.nil,.nil]),
  (117,[.nil,.nil]),
  (124,[.nil]),
  (125,[.nil]),
  (126,[.nil]),
  (127,[.nil]),
  (128,[.nil,.nil,.nil]),
  (129,[.nil,.nil,.nil]),
  (145,[.d (.int .u64 0)]),
  (157,[.d (.int .i64 0),.d (.int .i64 0)]),
  (158,[.d (.int .i64 0),.d (.int .i64 0)]),
  (167,[.d (.int .i64 0),.d (.int .i64 0),.d (.int .i64 0),.d (.str []),.d (.str []),.d (.int .i64 0)]),
  (168,[.d (.int .i64 0),.d (.int .i64 0),.d (.int .i64 0),.d (.str []),.d (.str []),.d (.int .i64 0)]),
  (193,[.d (.int .u64 0)]),
  (211,[.d (.int .u32 0)]),
  (213,[.d (.int .u64 0)]),
  (215,[.d (.int .i64 0)]),
  (222,[.d (.int .i64 0)]),
  (231,[.d (.int .u64 0)]),
  (237,[.d (.int .u64 0)]),
  (246,[.d (.int .u8 0),.d (.int .u8 0)]),
  (247,[.d (.int .u8 0),.d (.int .u8 0)]),
  (257,[.d (.int .u8 0)]),
  (258,[.d (.int .u8 0)]),
  (261,[.d (.int .i32 0)]),
  (262,[.d (.int .i32 0)]),
  (265,[.d (.int .i64 0),.d (.int .i64 0),.d (.int .i64 0),.d (.int .i64 0),.d (.int .i64 0),.d (.str []),.d (.str []),.d (.int .i64 0)]),
  (266,[.d (.int .i64 0),.d (.int .i64 0),.d (.int .i64 0),.d (.int .i64 0),.d (.int .i64 0),.d (.str []),.d (.str []),.d (.int .i64 0)]),
  (267,[.d (.int .i64 0),.d (.int .i64 0),.d (.int .i64 0),.nil,.d (.int .i64 0),.d (.int .i64 0),.d (.int .i64 0),.d (.int .i64 0),.d (.int .i64 0),.d (.str []),.d (.str []),.d (.int .i64 0),.d (.str []),.d (.str []),.d (.int .i64 0),.d (.int .i64 0),.nil]),
  (268,[.d (.int .i64 0),.d (.int .i64 0),.d (.int .i64 0),.nil,.d (.int .i64 0),.d (.int .i64 0),.d (.int .i64 0),.d (.int .i64 0),.d (.int .i64 0),.d (.str []),.d (.str []),.d (.int .i64 0),.d (.str []),.d (.str []),.d (.int .i64 0),.d (.int .i64 0),.nil]),
  (269,[.d (.str []),.d (.int .u8 0)]),
  (270,[.d (.str []),.d (.int .u8 0)])]
 fields:=[(7,[(0,false,1),(1,false,1),(2,false,1),(3,false,1)]),
  (8,[(0,false,1),(1,false,1),(2,false,1),(3,false,1)]),
  (13,[(0,false,1),(1,false,1)]),
  (14,[(0,false,1),(1,false,1)]),
  (18,[(0,false,1)]),
  (19,[(0,false,1)]),
  (25,[(0,false,1),(1,false,1),(2,false,1),(3,false,1)]),
  (26,[(0,false,1),(1,false,1),(2,false,1),(3,false,1)]),
  (30,[(0,false,1),(1,false,1),(2,false,1)]),
  (31,[(0,false,1),(1,false,1),(2,false,1)]),
  (37,[(0,false,1),(1,false,1),(2,false,1),(3,false,1),(4,false,1),(5,false,1),(6,false,1)]),
  (38,[(0,false,1),(1,false,1),(2,false,1),(3,false,1),(4,false,1),(5,false,1),(6,false,1)]),
  (39,[(0,true,7),(7,false,1),(8,false,1)]),
  (40,[(0,true,7),(7,false,1),(8,false,1)]),
  (47,[(0,false,1),(1,true,7)]),
  (48,[(0,false,1),(1,true,7)]),
  (64,[(0,false,1),(1,true,3),(4,false,1),(5,false,1),(6,false,1),(7,false,1),(8,false,1)]),
  (65,[(0,false,1),(1,true,3),(4,false,1),(5,false,1),(6,false,1),(7,false,1),(8,false,1)]),
  (69,[(0,false,1),(1,false,1),(2,false,1),(3,false,1),(4,true,7)]),
  (70,[(0,false,1),(1,false,1),(2,false,1),(3,false,1),(4,true,7)]),
  (75,[(0,false,1),(1,true,3),(4,false,1),(5,false,1),(6,false,1),(7,false,1),(8,false,1)]),
  (76,[(0,false,1),(1,true,3),(4,false,1),(5,false,1),(6,false,1),(7,false,1),(8,false,1)]),
  (79,[(0,false,1),(1,false,1),(2,false,1)]),
  (80,[(0,false,1),(1,false,1),(2,false,1)]),
  (92,[(0,false,1),(1,false,1),(2,false,1)]),
  (93,[(0,false,1),(1,false,1),(2,false,1)]),
  (105,[(0,false,1),(1,false,1)]),
  (106,[(0,false,1),(1,false,1)]),
  (116,[(0,false,1),(1,false,1)]),
  (117,[(0,false,1),(1,false,1)]),
  (125,[(0,false,1)]),
  (126,[(0,false,1)]),
  (128,[(0,true,1),(1,false,1),(2,false,1)]),
  (129,[(0,true,1),(1,false,1),(2,false,1)]),
  (137,[(0,false,1),(1,false,1)]),
  (138,[(0,false,1),(1,false,1)]),
  (157,[(0,false,1),(1,false,1)]),
  (158,[(0,false,1),(1,false,1)]),
  (167,[(0,false,1),(1,false,1),(2,false,1),(3,false,1),(4,false,1),(5,false,1)]),
  (168,[(0,false,1),(1,false,1),(2,false,1),(3,false,1),(4,false,1),(5,false,1)]),
  (194,[(0,false,1),(1,false,1),(2,false,1)]),
  (195,[(0,false,1),(1,false,1),(2,false,1)]),
  (202,[(0,false,1),(1,false,1)]),
  (203,[(0,false,1),(1,false,1)]),
  (207,[(0,false,1)]),
  (208,[(0,false,1)]),
  (246,[(0,false,1),(1,false,1)]),
  (247,[(0,false,1),(1,false,1)]),
  (252,[(0,false,1),(1,false,1),(2,false,1),(3,false,1)]),
  (253,[(0,false,1),(1,false,1),(2,false,1),(3,false,1)]),
  (263,[(0,false,1),(1,false,1),(2,false,1),(3,false,1),(4,false,1),(5,false,1),(6,false,1),(7,false,1),(8,false,1),(9,false,1),(10,false,1)]),
  (264,[(0,false,1),(1,false,1),(2,false,1),(3,false,1),(4,false,1),(5,false,1),(6,false,1),(7,false,1),(8,false,1),(9,false,1),(10,false,1)]),
  (265,[(0,false,1),(1,false,1),(2,true,6)]),
  (266,[(0,false,1),(1,false,1),(2,true,6)]),
  (267,[(0,false,1),(1,false,1),(2,false,1),(3,false,1),(4,true,8),(12,false,1),(13,false,1),(14,false,1),(15,false,1),(16,false,1)]),
  (268,[(0,false,1),(1,false,1),(2,false,1),(3,false,1),(4,true,8),(12,false,1),(13,false,1),(14,false,1),(15,false,1),(16,false,1)]),
  (269,[(0,false,1),(1,false,1)]),
  (270,[(0,false,1),(1,false,1)])]
 elem:=[(22,.base .u8),(24,.base .expr),(27,.base .binding),(28,.base .read),(29,.base .file),(34,.base .val),(35,.base .str),(36,.base .row),(81,.base .tape),(101,.base .int),(115,.base .origin),(124,.base .cell),(127,.base .op)]
 ints:=[(2,.i64),(3,.i64),(5,.u8),(6,.u8),(12,.u64),(21,.i32),(145,.u64),(193,.u64),(211,.u32),(213,.u64),(215,.i64),(222,.i64),(231,.u64),(237,.u64),(257,.u8),(258,.u8),(261,.i32),(262,.i32)]
 strs:=[9,10,11]
 bools:=[4]
 eqs:=[(106,[.str,.int .i64]),(106,[.str,.int .i64]),(158,[.int .i64,.int .i64]),(168,[.int .i64,.int .i64,.int .i64,.str,.str,.int .i64]),(158,[.int .i64,.int .i64]),(168,[.int .i64,.int .i64,.int .i64,.str,.str,.int .i64]),(266,[.int .i64,.int .i64,.int .i64,.int .i64,.int .i64,.str,.str,.int .i64])]
end Go.Proofs.YtjbajpfonnnfoaaGreatDoor
/- A list that is put in strict order: there is at most one such order. -/
namespace Go.Abs
end Go.Abs
/- Sets of origins: ascending lists. -/
namespace Go.Proofs.YtjbajpfonnnfoaaGreatDoor
open Go.Abs
def eqO(a b:aj):Bool:=a.cell==b.cell&&a.row==b.row
theorem uM{a b:aj}:eqO a b=true↔a=b:=by
 cases a;cases b
 simp[eqO]
theorem Pn(a:aj):eqO a a=true:=uM.2 rfl
def orB(a b:aj):Bool:=decide (a.cell<b.cell)||(a.cell==b.cell&&decide (a.row<b.row))
theorem yj{a b:aj}:orB a b=true↔a.cell<b.cell\/(a.cell=b.cell/\a.row<b.row):=by
 simp[orB]
theorem KR(a:aj):orB a a=false:=by
 cases h:orB a a with
 | false=>rfl
 | true=>rw[yj]at h;omega
theorem wI{a b c:aj}(h:orB a b=true)(k:orB b c=true):orB a c=true:=by
 rw[yj]at *;omega
theorem ae2{a b:aj}(h:orB a b=true):orB b a=false:=by
 cases k:orB b a with
 | false=>rfl
 | true=>rw[yj]at h k;omega
theorem KQ{a b:aj}(h:eqO a b=false)(k:orB a b=false):orB b a=true:=by
 have c:¬(a.cell=b.cell/\a.row=b.row):=λe=>by
  rw[show eqO a b=true from by simp[eqO,e.1,e.2]]at h;cases h
 have d:¬(a.cell<b.cell\/(a.cell=b.cell/\a.row<b.row)):=λe=>by
  rw[yj.2 e]at k;cases k
 rw[yj];omega
def Asc(xs:List aj):Prop:=xs.Pairwise λa b=>orB a b=true
theorem Asc.nil:Asc []:=List.Pairwise.nil
theorem Lh:∀ {xs ys:List aj},Asc xs->Asc ys->(∀o,o∈xs↔o∈ys)->xs=ys
 | [],[],_,_,_=>rfl
 | [],y::r,_,_,h=>absurd ((h y).2 aw) (by simp)
 | x::r,[],_,_,h=>absurd ((h x).1 aw) (by simp)
 | x::r,y::s,g,i,h=>by
  have a:=List.pairwise_cons.1 g;have b:=List.pairwise_cons.1 i;have e:x=y:=by
   rcases bh.1 ((h x).1 aw)with e | e
   ·exact e
   ·rcases bh.1 ((h y).2 aw)with d | d
    ·exact d.symm
    ·have j:=b.1 x e;have f:=a.1 y d;rw[ae2 j]at f;cases f
  subst e;congr 1;refine Lh a.2 b.2 λo=>⟨λc=>?_,λc=>?_⟩
  ·rcases bh.1 ((h o).1 (ar _ c))with e | e
   ·subst e;have:=a.1 o c;rw[KR]at this;cases this
   ·exact e
  ·rcases bh.1 ((h o).2 (ar _ c))with e | e
   ·subst e;have:=b.1 o c;rw[KR]at this;cases this
   ·exact e
def XC(o:aj):List aj->List aj
 | []=>[o]
 | x::r=>if eqO x o=true then x::r else if orB o x=true then o::x::r else x::XC o r
theorem NZ{y o:aj}:∀ {xs:List aj},y∈XC o xs↔y=o\/y∈xs
 | []=>by simp[XC]
 | x::r=>by
  unfold XC;split
  ·rename_i h;have:=uM.1 h;subst this;simp
  ·split
   ·simp
   ·rw[bh,NZ,bh];constructor
    ·rintro (h | h | h)
     ·exact .inr (.inl h)
     ·exact .inl h
     ·exact .inr (.inr h)
    ·rintro (h | h | h)
     ·exact .inr (.inl h)
     ·exact .inl h
     ·exact .inr (.inr h)
theorem Yx{o:aj}:∀ {xs:List aj},Asc xs->Asc (XC o xs)
 | [],_=>List.pairwise_singleton _ _
 | x::r,h=>by
  have f:=List.pairwise_cons.1 h;unfold XC;split
  ·exact h
  ·rename_i g;split
   ·rename_i d;refine List.pairwise_cons.2 ⟨λy c=>?_,h⟩;rcases bh.1 c with rfl | c
    ·exact d
    ·exact wI d (f.1 y c)
   ·rename_i d;refine List.pairwise_cons.2 ⟨λy c=>?_,Yx f.2⟩;rcases NZ.1 c with rfl | c
    ·refine KQ (a:=y) (b:=x) ?_ (by simpa using d);cases e:eqO y x with
     | false=>rfl
     | true=>exact absurd (uM.1 e▸Pn _) g
    ·exact f.1 y c
def RG(acc xs:List aj):List aj:=xs.foldl (λa o=>XC o a) acc
theorem IG{y:aj}:∀ {xs acc:List aj},y∈RG acc xs↔y∈acc\/y∈xs
 | [],acc=>by simp[RG]
 | x::r,acc=>by
  show y∈RG (XC x acc) r↔_
  rw[IG,NZ,bh];constructor
  ·rintro ((h | h) | h)
   ·exact .inr (.inl h)
   ·exact .inl h
   ·exact .inr (.inr h)
  ·rintro (h | h | h)
   ·exact .inl (.inr h)
   ·exact .inl (.inl h)
   ·exact .inr h
theorem Jg:∀ {xs acc:List aj},Asc acc->Asc (RG acc xs)
 | [],_,h=>h
 | x::r,acc,h=>Jg (xs:=r) (Yx h)
def kR(a b:List aj):List aj:=RG (RG [] a) b
theorem wL{y:aj}{a b:List aj}:y∈kR a b↔y∈a\/y∈b:=by
 unfold kR;rw[IG,IG];simp
theorem GU(a b:List aj):Asc (kR a b):=Jg (Jg Asc.nil)
theorem adM{a:List aj}(h:Asc a):kR [] a=a:=Lh (GU _ _) h λo=>by rw[wL];simp
theorem abA:∀ {xs:List aj} {p:List aj},Asc xs->(∀o,o∈xs->o∈p)->xs.length<=p.length
 | [],p,_,_=>Nat.zero_le _
 | x::r,p,h,b=>by
  have c:=List.pairwise_cons.1 h;obtain⟨s,t,rfl⟩:=List.append_of_mem (b x aw);have:=abA (xs:=r) (p:=s++t) c.2 λo d=>by
   have a:=b o (ar _ d);have f:o≠x:=λe=>by
    have:=c.1 o d;rw[e,KR]at this;cases this
   simp only[List.mem_append,bh]at a ⊢;rcases a with a | a | a
   ·exact .inl a
   ·exact absurd a f
   ·exact .inr a
  simp at this ⊢;omega
def Bl(acc:List aj)(o:aj):List aj:=if acc.any (eqO o)=true then acc else acc++[o]
def y5(xs:List aj):List aj:=xs.foldl Bl []
theorem abB{acc:List aj}{o:aj}:acc.any (eqO o)=true↔o∈acc:=by
 rw[List.any_eq_true];constructor
 ·rintro⟨x,a,b⟩;rw[uM.1 b];exact a
 ·exactλh=>⟨o,h,Pn o⟩
theorem aaw{acc:List aj}{o:aj}(h:acc.Nodup):(Bl acc o).Nodup/\∀y,y∈Bl acc o↔y∈acc\/y=o:=by
 unfold Bl;split
 ·rename_i c;have:=abB.1 c;exact⟨h,λy=>⟨.inl,λf=>f.elim id λe=>e▸this⟩⟩
 ·rename_i c;have g:o∉acc:=λe=>c (abB.2 e)
  refine⟨?_,λy=>by simp⟩;rw[List.nodup_append];exact⟨h,List.pairwise_singleton _ _,λa i b d e=>by rw[amd]at d;exact g (d▸e▸i)⟩
theorem D8:∀(xs acc:List aj),acc.Nodup->(xs.foldl Bl acc).Nodup/\∀y,y∈xs.foldl Bl acc↔y∈acc\/y∈xs
 | [],acc,h=>⟨h,λy=>by simp⟩
 | x::r,acc,h=>by
  obtain⟨a,b⟩:=aaw (o:=x) h;obtain⟨c,d⟩:=D8 r (Bl acc x) a;refine⟨c,λy=>?_⟩;rw[List.foldl_cons,d,b,bh];constructor
  ·rintro ((h | h) | h)
   ·exact .inl h
   ·exact .inr (.inl h)
   ·exact .inr (.inr h)
  ·rintro (h | h | h)
   ·exact .inl (.inl h)
   ·exact .inl (.inr h)
   ·exact .inr h
theorem Xj(xs:List aj):(y5 xs).Nodup/\∀y,y∈y5 xs↔y∈xs:=by
 obtain⟨a,b⟩:=D8 xs [] List.nodup_nil;exact⟨a,λy=>by rw[show y5 xs=xs.foldl Bl []from rfl,b];simp⟩
theorem rV:∀(xs acc:List aj),(xs.foldl Bl acc).length<=acc.length+xs.length
 | [],acc=>aD _
 | x::r,acc=>by
  have a:=rV r (Bl acc x);have b:(Bl acc x).length<=acc.length+1:=by unfold Bl;split<;>simp
  rw[List.foldl_cons,amr];omega
theorem acO(xs:List aj):(y5 xs).length<=xs.length:=by
 have:=rV xs [];simpa [y5] using this
theorem Wj{a b ys:List aj}(hp:ys.Perm (y5 (a++b)))(c:ys.Pairwise λx y=>orB y x=false):ys=kR a b:=by
 obtain⟨d,f⟩:=Xj (a++b);have g:ys.Nodup:=hp.nodup_iff.2 d;refine Lh ?_ (GU a b) λo=>?_
 ·refine (c.and g).imp λ{x y} h=>?_
  refine KQ (a:=y) (b:=x) ?_ h.1;cases e:eqO y x with
  | false=>rfl
  | true=>exact absurd (uM.1 e).symm h.2
 ·rw[hp.mem_iff,f,wL,List.mem_append]
end Go.Proofs.YtjbajpfonnnfoaaGreatDoor
/- What the functions that keep origins and groups in maps compute, by their plain meaning. -/
namespace Go.Proofs.YtjbajpfonnnfoaaGreatDoor
noncomputable section
open Go.Abs
def Kq(n:Int):Bool:=decide (-9223372036854775808<=n)&&decide (n<=9223372036854775807)
def iJ(a b:List aj):Option (List aj):=(gd (a.length+b.length)).bind λ_=>if (a++b).all (λo=>Kq o.cell&&Kq o.row)=true then some (kR a b)else none
def qo(x n:Int)(fr:List aj):List (Int×Int×List aj)->Option (List (Int×Int×List aj))
 | []=>(iJ [] fr).bind λu=>some [(x,IntKind.i64.wrap (0+n),u)]
 | (y,s,f)::r=>if y=x then (iJ f fr).bind λu=>some ((y,IntKind.i64.wrap (s+n),u)::r)else (qo x n fr r).bind λr'=>some ((y,s,f)::r')
def qm(i k:Int):List aB->List (Int×Int×List aj)->Option (List (Int×Int×List aj))
 | [],gs=>some gs
 | r::rs,gs=>(idx r.cells i).bind λx=>(idx r.cells k).bind λn=>(if Kq x=true then qo x n r.orig gs else none).bind λgs'=>qm i k rs gs'
def yM(a b:Str)(gs:List (Int×Int×List aj)):Option af:=
 if (gs.all λg=>decide (-1000000000<=g.2.1)&&decide (g.2.1<=1000000000))=true then some (af.mk 5 0 0 [] [] [a,b] ((gs.mergeSort λp q=>decide (p.1<=q.1)).map λg=>aB.mk [g.1,g.2.1] g.2.2))else some (af.mk 6 5 0 [] [] [] [])
end
end Go.Proofs.YtjbajpfonnnfoaaGreatDoor
/- What the library's functions compute, by their plain meaning. -/
namespace Go.Abs
def wO(s sep:Str):Option (List Str):=if s.length<4294967281/\1<=sep.length then some (Go.Lib.split s sep)else none
def dV(rec:ak->List Str->Option (List (Str×List Str)))(binds:Bool)(x:Str)(bound:List Str):Nat->List ak->Option (List (Str×List Str))
 | _,[]=>some []
 | i,a::r=>(if binds&&decide (0<i)then (gd (bound.length+1)).bind λ_=>rec a (bound++[x])else rec a bound).bind λu=>(dV rec binds x bound (i+1) r).bind λv=>some (u++v)
def jA:Nat->ak->List Str->Option (List (Str×List Str))
 | 0,_,_=>none
 | n+1,e,bound=>(gd bound.length).bind λ_=>(gd e.args.length).bind λ_=>
  if e.kind=3/\bound.contains e.text=false then some [(e.text,bound)]else dV (jA n) (decide (e.kind=7)||decide (e.kind=9)) e.text bound 0 e.args
end Go.Abs
