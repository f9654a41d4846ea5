import Derived.Test.YtapgeemjgckgaaaGreatDoorAbs
import Derived.Laws.StructEq
set_option linter.unusedSimpArgs false
set_option linter.unusedVariables false
/- What the abstract evaluator's states say of the machine's; the first operations. -/
namespace Go.Abs
open Go.RowKit
theorem Rd.aF{α β:Type}(p:Rd α)(g:α->Rd β)(S:St):(p.bind g).val S=(p.val S).bind fun a=>(g a).val S:=by
 induction p with
 | ret a=>rfl
 | fail=>rfl
 | gT i f ih=>exact ih _
 | gB i f ih=>exact ih _
 | gO i f ih=>exact ih _
 | gN f ih=>exact ih _
 | opt o f ih=>
  cases o with
  | none=>rfl
  | some x=>exact ih x
theorem Rd.jH{α ρ:Type}(p:Rd α)(S:St)(k:α->Option ρ):p.runK S k=(p.val S).bind k:=by
 induction p with
 | ret a=>rfl
 | fail=>rfl
 | gT i f ih=>exact ih _
 | gB i f ih=>exact ih _
 | gO i f ih=>exact ih _
 | gN f ih=>exact ih _
 | opt o f ih=>
  cases o with
  | none=>rfl
  | some x=>exact ih x
def Rd.AZ{α:Type}:Rd α->St->List L->Option (α×List L)
 | .ret a,_,l=>some (a,l)
 | .fail,_,_=>none
 | .gT i f,S,l=>(f (S.gZ i)).AZ S (.t i::l)
 | .gB i f,S,l=>(f (S.fP i)).AZ S (.b i::l)
 | .gO i f,S,l=>(f (S.aJ i)).AZ S (.o i::l)
 | .gN _,_,_=>none
 | .opt o f,S,l=>o.bind fun x=>(f x).AZ S l
theorem Rd.akJ{α ρ:Type}(p:Rd α)(S:St)(l:List L)(k:α->List L->Option ρ) :
  p.agm S l k=(p.AZ S l).bind fun x=>k x.1 x.2:=by
 induction p generalizing l with
 | ret a=>rfl
 | fail=>rfl
 | gT i f ih=>exact ih _ _
 | gB i f ih=>exact ih _ _
 | gO i f ih=>exact ih _ _
 | gN f ih=>rfl
 | opt o f ih=>
  cases o with
  | none=>rfl
  | some x=>exact ih x l
theorem Rd.ahA{α:Type}{p:Rd α}{S:St}:∀ {l:List L} {a:α} {rs:List L},p.AZ S l=some (a,rs)->p.val S=some a:=by
 induction p with
 | ret a=>intro l b rs h;simp only[AZ,zD,Prod.mk.injEq]at h;exact congrArg some h.1
 | fail=>intro l b rs h;cases h
 | gT i f ih=>intro l b rs h;exact ih _ h
 | gB i f ih=>intro l b rs h;exact ih _ h
 | gO i f ih=>intro l b rs h;exact ih _ h
 | gN f ih=>intro l b rs h;cases h
 | opt o f ih=>
  intro l b rs h;cases o with
  | none=>cases h
  | some x=>exact ih x h
theorem Rd.JC{α:Type}{p:Rd α}{S:St}:∀ {l:List L} {a:α} {rs:List L},p.AZ S l=some (a,rs)->∀x,x∈l->x∈rs:=by
 induction p with
 | ret a=>intro l b rs h x c;simp only[AZ,zD,Prod.mk.injEq]at h;exact h.2▸c
 | fail=>intro l b rs h;cases h
 | gT i f ih=>intro l b rs h x c;exact ih _ h x (aq _ c)
 | gB i f ih=>intro l b rs h x c;exact ih _ h x (aq _ c)
 | gO i f ih=>intro l b rs h x c;exact ih _ h x (aq _ c)
 | gN f ih=>intro l b rs h;cases h
 | opt o f ih=>
  intro l b rs h x c;cases o with
  | none=>cases h
  | some y=>exact ih y h x c
def agree(S S':St):L->Prop
 | .t i=>S'.gZ i=S.gZ i
 | .b i=>S'.fP i=S.fP i
 | .o i=>S'.aJ i=S.aJ i
theorem Rd.Oy{α:Type}{p:Rd α}{S S':St}:∀ {l:List L} {a:α} {rs:List L},p.AZ S l=some (a,rs)->(∀x,x∈rs->agree S S' x)->p.AZ S' l=some (a,rs):=by
 induction p with
 | ret a=>intro l b rs h _;exact h
 | fail=>intro l b rs h;cases h
 | gT i f ih=>
  intro l b rs h c;have e:S'.gZ i=S.gZ i:=c (.t i) (JC (p:=f (S.gZ i)) h (.t i) ar);simp only[AZ,e];exact ih _ h c
 | gB i f ih=>
  intro l b rs h c;have e:S'.fP i=S.fP i:=c (.b i) (JC (p:=f (S.fP i)) h (.b i) ar);simp only[AZ,e];exact ih _ h c
 | gO i f ih=>
  intro l b rs h c;have e:S'.aJ i=S.aJ i:=c (.o i) (JC (p:=f (S.aJ i)) h (.o i) ar);simp only[AZ,e];exact ih _ h c
 | gN f ih=>intro l b rs h;cases h
 | opt o f ih=>
  intro l b rs h c;cases o with
  | none=>cases h
  | some y=>exact ih y h c
inductive Rep(w:World)(S:Nat->Nat->Prop):D->Value->Prop
 | int (k:IntKind) (n:Int):Rep w S (.int k n) (.int k n)
 | bool (b:Bool):Rep w S (.bool b) (.bool b)
 | str (v:ByteArray):Rep w S (.str v.data.toList) (.string v)
 | nil (t:Ty):Rep w S (.list t []) (.slice none 0 0)
 | emp (t:Ty) (a:Addr) (cap:Nat):Rep w S (.list t []) (.slice (some a) 0 cap)
 | list (t:Ty) (xs:List t.den) (b off cap:Nat) (vs:Nat->Nat->Value) (hcap:xs.length<=cap)
   (hc:∀(i:Nat) (x:t.den) (j:Nat) (d:D),xs[i]?=some x->(t.cells x)[j]?=some d ->
    w.cell? ⟨b,off+(i*t.size+j),none⟩=some (vs i j)/\S b (off+(i*t.size+j)))
   (hr:∀(i:Nat) (x:t.den) (j:Nat) (d:D),xs[i]?=some x->(t.cells x)[j]?=some d->Rep w S d (vs i j)) :
   Rep w S (.list t xs) (.slice (some ⟨b,off,none⟩) xs.length cap)
theorem Rep.move{w w':World}{S S':Nat->Nat->Prop}{d:D}{v:Value}(h:Rep w S d v)
  (f:∀b o,S b o->S' b o/\w'.cell? ⟨b,o,none⟩=w.cell? ⟨b,o,none⟩):Rep w' S' d v:=by
 induction h with
 | int k n=>exact .int k n
 | bool b=>exact .bool b
 | str v=>exact .str v
 | nil t=>exact .nil t
 | emp t a cap=>exact .emp t a cap
 | list t xs b off cap vs hcap c g ih=>
  exact .list t xs b off cap vs hcap (fun i x j d e hd=>⟨(f _ _ (c i x j d e hd).2).2.trans (c i x j d e hd).1,(f _ _ (c i x j d e hd).2).1⟩) ih
theorem Rep.one{w:World}{S:Nat->Nat->Prop}{d:D}{v:Value}(h:Rep w S d v):v.oneCell'=true:=by
 cases h<;>rfl
inductive Ow(w:World)(S:Nat->Nat->Prop)(deep:Bool):D->Value->(Nat->Prop)->Prop
 | int (k:IntKind) (n:Int) (fp:Nat->Prop):Ow w S deep (.int k n) (.int k n) fp
 | bool (b:Bool) (fp:Nat->Prop):Ow w S deep (.bool b) (.bool b) fp
 | str (v:ByteArray) (fp:Nat->Prop):Ow w S deep (.str v.data.toList) (.string v) fp
 | nil (t:Ty) (fp:Nat->Prop):Ow w S deep (.list t []) (.slice none 0 0) fp
 | ro (d:D) (v:Value) (fp:Nat->Prop) (hd:deep=false) (h:Rep w S d v):Ow w S deep d v fp
 | list (t:Ty) (xs:List t.den) (b cap:Nat) (arr:Array Value) (E:TypeId) (vs:Nat->Nat->Value) (fps:Nat->Nat->Nat->Prop) (fp:Nat->Prop)
   (hb:w.heap[b]?=some (.cells arr E (0,0))) (hcap:xs.length<=cap) (hmax:cap<=maxLen) (hsz:arr.size=cap*t.size) (hfb:fp b)
   (hc:∀(i:Nat) (x:t.den) (j:Nat) (d:D),xs[i]?=some x->(t.cells x)[j]?=some d->arr[i*t.size+j]?=some (vs i j))
   (hr:∀(i:Nat) (x:t.den) (j:Nat) (d:D),xs[i]?=some x->(t.cells x)[j]?=some d->Ow w S deep d (vs i j) (fps i j))
   (hf:∀i j c,fps i j c->fp c/\c≠b)
   (hdis:∀i j i' j' c,fps i j c->fps i' j' c->i=i'/\j=j') :
   Ow w S deep (.list t xs) (.slice (some ⟨b,0,none⟩) xs.length cap) fp
theorem Ow.move{w w':World}{S S':Nat->Nat->Prop}{deep:Bool}{d:D}{v:Value}{fp:Nat->Prop}(h:Ow w S deep d v fp)
  (m:∀b o,S b o->S' b o/\w'.cell? ⟨b,o,none⟩=w.cell? ⟨b,o,none⟩) (a:∀b,fp b->w'.heap[b]?=w.heap[b]?):Ow w' S' deep d v fp:=by
 induction h with
 | int k n fp=>exact .int k n fp
 | bool b fp=>exact .bool b fp
 | str v fp=>exact .str v fp
 | nil t fp=>exact .nil t fp
 | ro d v fp hd h=>exact .ro d v fp hd (h.move m)
 | list t xs b cap arr E vs fps fp p hcap hmax f e q s l hdis ih=>
  exact .list t xs b cap arr E vs fps fp ((a b e).trans p) hcap hmax f e q (fun i x j d r hd=>ih i x j d r hd fun c g=>a c (l i j c g).1) l hdis
theorem Ow.sub{w:World}{S:Nat->Nat->Prop}{deep deep':Bool}{d:D}{v:Value}{fp fp':Nat->Prop}(h:Ow w S deep d v fp)
  (a:∀b,fp b->fp' b) (hd:deep'=true->deep=true):Ow w S deep' d v fp':=by
 induction h generalizing fp' with
 | int k n fp=>exact .int k n _
 | bool b fp=>exact .bool b _
 | str v fp=>exact .str v _
 | nil t fp=>exact .nil t _
 | ro d v fp e h=>
  refine .ro d v _ ?_ h;cases f:deep' with
  | false=>rfl
  | true=>rw[hd f]at e;cases e
 | list t xs b cap arr E vs fps fp o hcap hmax g l p q m hdis ih=>
  exact .list t xs b cap arr E vs fps fp' o hcap hmax g (a b l) p (fun i x j d f hd=>ih i x j d f hd fun _ h=>h) (fun i j c h=>⟨a c (m i j c h).1,(m i j c h).2⟩) hdis
theorem Ow.one{w:World}{S:Nat->Nat->Prop}{deep:Bool}{d:D}{v:Value}{fp:Nat->Prop}(h:Ow w S deep d v fp):v.oneCell'=true:=by
 cases h with
 | ro d v fp hd h=>exact h.one
 | _=>rfl
theorem Ow.aez{w:World}{S S':Nat->Nat->Prop}{deep:Bool}{d:D}{v:Value}{fp:Nat->Prop}(h:Ow w S deep d v fp)
  (m:∀b o,S b o->S' b o) (a:∀b o,fp b->(∃u,w.cell? ⟨b,o,none⟩=some u)->S' b o):Rep w S' d v:=by
 induction h with
 | int k n fp=>exact .int k n
 | bool b fp=>exact .bool b
 | str v fp=>exact .str v
 | nil t fp=>exact .nil t
 | ro d v fp hd h=>exact h.move fun b o p=>⟨m b o p,rfl⟩
 | list t xs b cap arr E vs fps fp q hcap hmax r f s z y hdis ih=>
  refine .list t xs b 0 cap vs hcap (fun i x j d g hd=>?_) (fun i x j d g hd=>ih i x j d g hd fun c o l=>a c o (y i j c l).1);have e:w.cell? ⟨b,0+(i*t.size+j),none⟩=some (vs i j):=by
   simp only[Nat.zero_add,World.cell?,q];simpa using s i x j d g hd
  exact⟨e,a b _ f ⟨_,e⟩⟩
inductive AY where
 | box (i:Nat)
 | own (k j:Nat)
structure Gh where
 bk:Nat->Nat
 ov:Nat->Nat->Value
 ow:Nat->Option AY
 S:Nat->Nat->Prop
 lk:Nat->Prop
 lb:Nat->Prop
def oQ(G:Gh)(w:World):C->Value->Prop
 | .undef,v=>v.oneCell'=true
 | .d x,v=>Rep w G.S x v
 | .nil,v=>v=.slice none 0 0
 | .own k j,v=>G.lk k/\v=G.ov k j/\v.oneCell'=true
 | .ptr b off,v=>G.lb b/\v=.pointer (some ⟨G.bk b,off,none⟩)
theorem oQ.one{G:Gh}{w:World}{c:C}{v:Value}(h:oQ G w c v):v.oneCell'=true:=by
 cases c with
 | undef=>exact h
 | d x=>exact Rep.one h
 | nil=>rw[show v=_ from h];rfl
 | own k j=>exact h.2.2
 | ptr b off=>rw[show v=_ from h.2];rfl
def dH(G:Gh)(w:World):List C->List Value->Prop
 | [],[]=>True
 | c::cs,v::vs=>oQ G w c v/\dH G w cs vs
 | _,_=>False
def vC(G:Gh)(w:World):V->Value->Prop
 | .one c,v=>oQ G w c v
 | .agg cs,v=>∃vs:List Value,v=.agg vs.toArray/\dH G w cs vs
def oC(G:Gh)(w:World):List V->List Value->Prop
 | [],[]=>True
 | c::cs,v::vs=>vC G w c v/\oC G w cs vs
 | _,_=>False
def Zb(G:Gh)(w:World)(t:Ty)(x:t.den)(b o:Nat):Prop:=
 ∃vs:Nat->Value,∀(j:Nat) (d:D),(t.cells x)[j]?=some d->w.cell? ⟨b,o+j,none⟩=some (vs j)/\G.S b (o+j)/\Rep w G.S d (vs j)
def jc(G:Gh)(w:World):AV->Value->Prop
 | .undef,_=>True
 | .v x,v=>vC G w x v
 | .elt t x off,v=>∃b o,v=.pointer (some ⟨b,o+off,none⟩)/\Zb G w t x b o
 | .oelt k j i sz off,v=>G.lk k/\∃b len cap,G.ov k j=.slice (some ⟨b,0,none⟩) len cap/\v=.pointer (some ⟨b,i*sz+off,none⟩)
 | .cut t len n a c,v=>G.lk a/\G.lk c/\((v=.slice none 0 0/\n=0/\G.ov a 0=.slice none 0 0/\G.ov c 0=.slice none 0 0) \/
   ∃b cap,v=.slice (some ⟨b,0,none⟩) len cap/\len<=cap/\n<=len/\G.ov a 0=.slice (some ⟨b,0,none⟩) n cap/\G.ov c 0=.slice (some ⟨b,if cap=n then 0 else n*t.size,none⟩) (len-n) (cap-n))
 | .seg k,v=>G.lk k/\v=G.ov k 0
 | .pre k j n,v=>G.lk k/\((v=.slice none 0 0/\n=0/\G.ov k j=.slice none 0 0)\/∃b len cap,G.ov k j=.slice (some ⟨b,0,none⟩) len cap/\n<=len/\v=.slice (some ⟨b,0,none⟩) n cap)
 | .suf t k j m,v=>G.lk k/\∀(w':World) (S':Nat->Nat->Prop) (xs:List t.den),Rep w' S' (.list t xs) (G.ov k j)->Rep w' S' (.list t (xs.drop m)) v
 | .tup vs,v=>∃us:List Value,v=.tuple us.toArray/\oC G w vs us
def gJ(G:Gh)(k j:Nat):Nat->Prop:=fun b=>G.ow b=some (.own k j)
def OwT(w:World)(S:Nat->Nat->Prop)(deep m:Bool)(t:Ty)(xs:List t.den)(v:Value)(fp:Nat->Prop):Prop:=
 (v=.slice none 0 0/\xs=[]) \/
 ∃(b cap:Nat) (arr:Array Value) (E:TypeId) (vs:Nat->Nat->Value) (fps:Nat->Nat->Nat->Prop),
  v=.slice (some ⟨b,0,none⟩) xs.length cap/\w.heap[b]?=some (.cells arr E (0,0))/\xs.length<=cap/\cap<=maxLen/\arr.size=cap*t.size/\fp b /\
  (∀(i:Nat) (x:t.den) (j:Nat) (d:D),xs[i]?=some x->(t.cells x)[j]?=some d->arr[i*t.size+j]?=some (vs i j)) /\
  (∀(i:Nat) (x:t.den) (j:Nat) (d:D),xs[i]?=some x->(t.cells x)[j]?=some d->Ow w S deep d (vs i j) (fps i j)) /\
  (∀i j c,fps i j c->fp c/\c≠b) /\
  (∀i j i' j' c,fps i j c->fps i' j' c->i=i'/\j=j') /\
  (∀o,S b o->m=false/\o<xs.length*t.size)
theorem OwT.ow{w:World}{S:Nat->Nat->Prop}{deep m:Bool}{t:Ty}{xs:List t.den}{v:Value}{fp:Nat->Prop}(h:OwT w S deep m t xs v fp) :
  Ow w S deep (.list t xs) v fp:=by
 rcases h with ⟨rfl,rfl⟩ | ⟨b,cap,arr,E,vs,fps,rfl,d,hcap,hmax,a,c,e,f,g,hdis,_⟩
 ·exact .nil t fp
 ·exact .list t xs b cap arr E vs fps fp d hcap hmax a c e f g hdis
def ja(w:World)(S:Nat->Nat->Prop)(t:Ty)(xs:List t.den)(i:Nat)(v:Value)(fp:Nat->Prop):Prop:=
 (v=.slice none 0 0/\xs=[]) \/
 ∃(b cap:Nat) (arr:Array Value) (E:TypeId) (vs:Nat->Nat->Value) (fps:Nat->Nat->Nat->Prop),
  v=.slice (some ⟨b,0,none⟩) xs.length cap/\w.heap[b]?=some (.cells arr E (0,0))/\xs.length<=cap/\cap<=maxLen/\arr.size=cap*t.size/\fp b /\
  (∀(i':Nat) (x:t.den) (j:Nat) (d:D),xs[i']?=some x->(t.cells x)[j]?=some d->arr[i'*t.size+j]?=some (vs i' j)) /\
  (∀(i':Nat) (x:t.den) (j:Nat) (d:D),i<=i'->xs[i']?=some x->(t.cells x)[j]?=some d->Ow w (fun _ _=>False) true d (vs i' j) (fps i' j)) /\
  (∀i' j c,i<=i'->fps i' j c->fp c/\c≠b/\∀o,¬S c o) /\
  (∀i' j i'' j' c,i<=i'->i<=i''->fps i' j c->fps i'' j' c->i'=i''/\j=j')
theorem ja.move{w w':World}{S S':Nat->Nat->Prop}{t:Ty}{xs:List t.den}{i:Nat}{v:Value}{fp fp':Nat->Prop}(h:ja w S t xs i v fp)
  (e:∀b,fp b->fp' b/\w'.heap[b]?=w.heap[b]?) (l:∀b o,fp b->S' b o->S b o):ja w' S' t xs i v fp':=by
 rcases h with h | ⟨b,cap,arr,E,vs,fps,rfl,m,hcap,hmax,k,f,n,p,g,hdis⟩
 ·exact .inl h
 ·exact .inr ⟨b,cap,arr,E,vs,fps,rfl,(e b f).2.trans m,hcap,hmax,k,(e b f).1,n,fun i' x j d hi q hd=>(p i' x j d hi q hd).move (fun _ _ h=>h.elim) fun c a=>(e c (g i' j c hi a).1).2,
   fun i' j c hi a=>⟨(e c (g i' j c hi a).1).1,(g i' j c hi a).2.1,fun o r=>(g i' j c hi a).2.2 o (l c o (g i' j c hi a).1 r)⟩,hdis⟩
theorem ja.succ{w:World}{S:Nat->Nat->Prop}{t:Ty}{xs:List t.den}{i:Nat}{v:Value}{fp:Nat->Prop}(h:ja w S t xs i v fp):ja w S t xs (i+1) v fp:=by
 rcases h with h | ⟨b,cap,arr,E,vs,fps,e,f,g,k,l,m,n,o,p,a⟩
 ·exact .inl h
 ·exact .inr ⟨b,cap,arr,E,vs,fps,e,f,g,k,l,m,n,fun i' x j d hi=>o i' x j d (by omega),fun i' j c hi=>p i' j c (by omega),fun i' j i'' j' c hi q=>a i' j i'' j' c (by omega) (by omega)⟩
theorem ja.Qw{w:World}{S':Nat->Nat->Prop}{t:Ty}{xs:List t.den}{v:Value}{fp fp':Nat->Prop}(h:Ow w (fun _ _=>False) true (.list t xs) v fp)(l:∀c,fp c->fp' c)(m:∀b o,S' b o->¬fp b):ja w S' t xs 0 v fp':=by
 generalize a:D.list t xs=dd at h;cases h with
 | int=>cases a
 | bool=>cases a
 | str=>cases a
 | nil t'=>cases a;exact .inl ⟨rfl,rfl⟩
 | ro _ _ _ hd=>cases hd
 | list t' xs' b cap arr E vs fps _ n hcap hmax g k p q e hdis=>
  cases a
  exact .inr ⟨b,cap,arr,E,vs,fps,rfl,n,hcap,hmax,g,l _ k,p,fun i x j d _ r hd=>q i x j d r hd,fun i j c _ f=>⟨l _ (e i j c f).1,(e i j c f).2,fun o s=>m c o s (e i j c f).1⟩,fun i j i' j' c _ _=>hdis i j i' j' c⟩
theorem ja.at{w:World}{S:Nat->Nat->Prop}{t:Ty}{xs:List t.den}{v:Value}{fp:Nat->Prop}(h:ja w S t xs 0 v fp):∀i,ja w S t xs i v fp
 | 0=>h
 | i+1=>(ja.at h i).succ
def mr(w:World)(S:Nat->Nat->Prop)(dp:Bool)(t:Ty)(xs:List t.den)(cells:List Value)(lab:Nat->Prop):Prop:=
 cells.length=xs.length*t.size/\(∀v∈cells,v.oneCell'=true)/\∃(vs:Nat->Nat->Value) (fps:Nat->Nat->Nat->Prop),
  (∀(i:Nat) (x:t.den) (j:Nat) (d:D),xs[i]?=some x->(t.cells x)[j]?=some d->cells[i*t.size+j]?=some (vs i j)/\Ow w S dp d (vs i j) (fps i j)) /\
  (∀i j c,fps i j c->lab c)/\(∀i j i' j' c,fps i j c->fps i' j' c->i=i'/\j=j')
def A8(w:World)(S:Nat->Nat->Prop)(t:Ty)(ys:List t.den)(v:Value)(lab:Nat->Prop):Prop:=
 ((∃(ad:Option Addr) (cap:Nat),v=.slice ad 0 cap/\(ad=none->cap=0))/\ys=[]) \/
 ∃b off cap news,v=.slice (some ⟨b,off,none⟩) ys.length cap/\(∀p u,news[p]?=some u->w.cell? ⟨b,off+p,none⟩=some u/\S b (off+p))/\mr w S true t ys news lab
theorem mr.move{w w':World}{S S':Nat->Nat->Prop}{dp:Bool}{t:Ty}{xs:List t.den}{cells:List Value}{lab lab':Nat->Prop}(h:mr w S dp t xs cells lab)
  (l:∀b o,S b o->S' b o/\w'.cell? ⟨b,o,none⟩=w.cell? ⟨b,o,none⟩) (e:∀b,lab b->lab' b/\w'.heap[b]?=w.heap[b]?):mr w' S' dp t xs cells lab':=by
 obtain⟨m,n,vs,fps,f,g,p⟩:=h;exact⟨m,n,vs,fps,fun i x j d k hd=>⟨(f i x j d k hd).1,(f i x j d k hd).2.move l fun c a=>(e c (g i j c a)).2⟩,fun i j c a=>(e c (g i j c a)).1,p⟩
theorem A8.move{w w':World}{S S':Nat->Nat->Prop}{t:Ty}{xs:List t.den}{v:Value}{lab lab':Nat->Prop}(h:A8 w S t xs v lab)
  (a:∀b o,S b o->S' b o/\w'.cell? ⟨b,o,none⟩=w.cell? ⟨b,o,none⟩) (e:∀b,lab b->lab' b/\w'.heap[b]?=w.heap[b]?):A8 w' S' t xs v lab':=by
 rcases h with h | ⟨b,off,cap,news,f,c,g⟩
 ·exact .inl h
 ·exact .inr ⟨b,off,cap,news,f,fun p u d=>⟨(a _ _ (c p u d).2).2.trans (c p u d).1,(a _ _ (c p u d).2).1⟩,g.move a e⟩
def O.IsT(x:O)(t:Ty)(xs:List t.den):Prop:=x=.tree t xs\/(∃i,x=.part t xs i)\/x=.seg t xs
theorem O.IsT.aoB{x:O}{t:Ty}{xs:List t.den}(h:x.IsT t xs):x.iq=.own t xs true true:=by
 rcases h with rfl | ⟨i,rfl⟩ | rfl<;>rfl
theorem O.OJ{x:O}{t:Ty}{xs:List t.den}{deep m:Bool}(h:x.vk=.own t xs deep m)(b:Ty)(a:List b.den)(c d:Bool):x.EP.iq≠.own b a c d:=by
 cases x<;>simp[O.vk,O.EP,O.iq]at h ⊢
def wO(G:Gh)(w:World)(k j:Nat):O->Prop
 | .dead=>True
 | .own t xs deep m=>OwT w G.S deep m t xs (G.ov k j) (gJ G k j)
 | .ro t xs=>Rep w G.S (.list t xs) (G.ov k j)
 | .tree t xs=>∃fp:Nat->Prop,(∀b,fp b->gJ G k j b)/\Ow w (fun _ _=>False) true (.list t xs) (G.ov k j) fp/\∀b o,G.S b o->¬fp b
 | .part t xs i=>ja w G.S t xs i (G.ov k j) (gJ G k j)
 | .seg t xs=>A8 w G.S t xs (G.ov k j) (gJ G k j)
def BoxOk(G:Gh)(w:World)(i:Nat)(cs:List C):Prop:=
 G.ow (G.bk i)=some (.box i)/\∃(vs:List Value) (E:TypeId),w.heap[G.bk i]?=some (.cells vs.toArray E (0,0))/\dH G w cs vs
structure Bs where
 w:World
 S0:Nat->Nat->Prop
 F:Nat->Prop
 bx:Option Nat
structure pR(F:Nat->Prop)(B:Nat)(w w':World):Prop where
 os:w'.os=w.os
 tape:w'.tape=w.tape
 output:w'.output=w.output
 size:w.heap.size<=w'.heap.size
 block:∀k,k<B->¬F k->w'.heap[k]?=w.heap[k]?
theorem pR.trans{F:Nat->Prop}{B:Nat}{a b c:World}(h:pR F B a b)(k:pR F B b c):pR F B a c:=
 ⟨k.os.trans h.os,k.tape.trans h.tape,k.output.trans h.output,Nat.le_trans h.size k.size,fun i hi d=>(k.block i hi d).trans (h.block i hi d)⟩
theorem pR.Ob{F:Nat->Prop}{B:Nat}{w w':World}(h:Below w.heap.size w w')(a:B<=w.heap.size):pR F B w w':=⟨h.os,h.tape,h.output,h.size,fun k b _=>h.block k (aD b a)⟩
theorem pR.NU{F:Nat->Prop}{B:Nat}{w w':World}(h:pR F B w w')(a:∀c,¬F c):Below B w w':=⟨h.os,h.tape,h.output,h.size,fun k b=>h.block k b (a k)⟩
theorem pR.refl(F:Nat->Prop)(B:Nat)(w:World):pR F B w w:=⟨rfl,rfl,rfl,aw _,fun _ _ _=>rfl⟩
structure nG(w0:Bs):Prop where
 keep:∀w',pR w0.F w0.w.heap.size w0.w w'->amb w'
 rows:∀c,w0.F c->pO<=c
theorem nG.none{w:World}{S:Nat->Nat->Prop}(h:amb w):nG ⟨w,S,fun _=>False,.none⟩:=
 ⟨fun _ b=>h.keep b.size fun k c=>b.block k (aD c h.size) fun a=>a,fun _ a=>a.elim⟩
theorem nG.box{w:World}{S:Nat->Nat->Prop}{bb:Nat}(h:amb w)(e:pO<=bb):nG ⟨w,S,fun c=>c=bb,some bb⟩:=
 ⟨fun _ b=>h.keep b.size fun k d=>b.block k (aD d h.size) fun a=>by have:k=bb:=a;omega,fun c a=>by have:c=bb:=a;omega⟩
theorem nG.base{w0:Bs}(h:nG w0):pO<=w0.w.heap.size:=(h.keep w0.w (pR.refl _ _ _)).size
theorem OA(t:Ty)(x:t.den):(t.cells x).map kU=t.tys:=by
 cases t with
 | base b=>cases b<;>rfl
 | list t=>rfl
theorem Base.pV(b:Base)(x:b.den):b.fC (b.cells x)=some x:=by
 cases b<;>first | rfl | (cases x;rfl) | (obtain⟨_,_,_,_,⟨⟩⟩:=x<;>rfl) | (obtain⟨_,⟨⟩⟩:=x<;>rfl) | (obtain⟨_,_,_,_,⟨⟩,_⟩:=x<;>rfl) | (obtain⟨_,_,⟨⟩,⟨⟩,_⟩:=x<;>rfl)
theorem Ty.pV(t:Ty)(x:t.den):t.fC (t.cells x)=some x:=by
 cases t with
 | base b=>exact Base.pV b x
 | list t=>simp[Ty.fC,Ty.cells,D.cZ]
def wP(w w':World)(b:Nat):Prop:=∀(vs:List Value) (E:TypeId),w.heap[b]?=some (.cells vs.toArray E (0,0)) ->
 ∃(vs':List Value) (E':TypeId),w'.heap[b]?=some (.cells vs'.toArray E' (0,0))/\∀(i:Nat) p l c,vs[i]?=some (Value.slice p l c)->vs'[i]?=some (Value.slice p l c)
theorem wP.refl(w:World)(b:Nat):wP w w b:=fun vs E h=>⟨vs,E,h,fun _ _ _ _ h=>h⟩
theorem wP.trans{a b c:World}{k:Nat}(h:wP a b k)(g:wP b c k):wP a c k:=fun vs E e=>
 have ⟨d,j,m,n⟩:=h vs E e
 have ⟨f,o,q,r⟩:=g d j m
 ⟨f,o,q,fun i p l c hh=>r i p l c (n i p l c hh)⟩
theorem wP.same{a b c:World}{k:Nat}(h:wP a b k)(e:c.heap[k]?=b.heap[k]?):wP a c k:=fun vs E f=>
 have ⟨d,g,i,j⟩:=h vs E f
 ⟨d,g,e.trans i,j⟩
theorem Rep.det{w:World}{S S':Nat->Nat->Prop}{d d':D}{v:Value}(h:Rep w S d v)(c:Rep w S' d' v)(e:kU d=kU d'):d=d':=by
 induction h generalizing d' with
 | int k n=>cases c;rfl
 | bool b=>cases c;rfl
 | str v=>cases c;rfl
 | nil t=>cases c;cases e;rfl
 | emp t a cap=>
  generalize hv:Value.slice (some a) 0 cap=v at c;cases c with
  | emp t' a' cap'=>cases e;rfl
  | list t' xs' b off cap' vs hcap q y=>
   cases e
   have:0=xs'.length:=by injection hv
   rw[List.length_eq_zero_iff.1 this.symm]
  | _=>cases hv
 | list t xs b off cap vs hcap q y ih=>
  generalize hv:Value.slice (some ⟨b,off,none⟩) xs.length cap=v at c;cases c with
  | emp t' a' cap'=>
   cases e
   have:xs.length=0:=by injection hv
   rw[List.length_eq_zero_iff.1 this]
  | list t' xs' b' off' cap' vs' hcap' o p=>
   cases e
   injection hv with g z J;injection g with g;injection g with g A;subst g;subst A;have:xs=xs':=List.ext_getElem z fun i B C=>by
    have hcells:t.cells xs[i]=t.cells xs'[i]:=List.ext_getElem (by rw[Ty.aZ,Ty.aZ]) fun j E F=>by
     have r:xs[i]?=some xs[i]:=by simp[B]
     have m:xs'[i]?=some xs'[i]:=by simp[C]
     have hd:(t.cells xs[i])[j]?=some (t.cells xs[i])[j]:=by simp[E]
     have f:(t.cells xs'[i])[j]?=some (t.cells xs'[i])[j]:=by simp[F]
     have G:=(q i _ j _ r hd).1;have H:=(o i _ j _ m f).1;have I:vs i j=vs' i j:=aR (G.symm.trans H);have s:=p i _ j _ m f;rw[<- I]at s;refine ih i _ j _ r hd s ?_;have u:=congrArg (fun l=>l[j]?) ((OA t xs[i]).trans (OA t xs'[i]).symm);simp only[List.getElem?_map,hd,f,Option.map_some,zD]at u;exact u
    have x:=Ty.pV t xs[i];rw[hcells,Ty.pV]at x;exact (aR x).symm
   rw[this]
  | _=>cases hv
structure Inv(w0:Bs)(G:Gh)(S:St)(a:Act)(w:World):Prop where
 below:pR w0.F w0.w.heap.size w0.w w
 nodef:a.defers=[]
 tsz:a.tmps.size=S.tmps.length
 bsz:S.boxes.length=S.tmps.length
 osz:S.owns.length=S.tmps.length
 tmps:∀i v,a.tmps[i]?=some v->jc G w (S.gZ i) v
 olt:∀b x,G.ow b=some x->(w0.w.heap.size<=b\/x=.box 0/\w0.F b)/\b<w.heap.size
 sok:∀b o,G.S b o->b<w.heap.size/\∀i,G.ow b≠some (.box i)
 box:∀i cs,S.fP i=some cs->BoxOk G w i cs
 owns:∀k j,wO G w k j (bC (S.aJ k) j)
 lk:∀k,G.lk k->S.aJ k≠[]
 lb:∀i,G.lb i->S.fP i≠none
 sfr:∀b o,G.S b o->b<w0.w.heap.size->w0.S0 b o
 fx:∀b,w0.bx=some b->G.bk 0=b/\(b<w0.w.heap.size->wP w0.w w b)
structure Mv(G G':Gh)(w w':World):Prop where
 s:∀b o,G.S b o->G'.S b o/\w'.cell? ⟨b,o,none⟩=w.cell? ⟨b,o,none⟩
 k:∀k,G.lk k->G'.lk k/\∀j,G'.ov k j=G.ov k j
 b:∀i,G.lb i->G'.lb i/\G'.bk i=G.bk i
theorem oQ.move{G G':Gh}{w w':World}(a:Mv G G' w w'){c:C}{v:Value}(h:oQ G w c v):oQ G' w' c v:=by
 cases c with
 | undef=>exact h
 | d x=>exact Rep.move h a.s
 | nil=>exact h
 | own k j=>exact⟨(a.k k h.1).1,by rw[(a.k k h.1).2 j];exact h.2.1,h.2.2⟩
 | ptr b off=>exact⟨(a.b b h.1).1,by rw[(a.b b h.1).2];exact h.2⟩
theorem dH.get{G:Gh}{w:World}:∀ {cs:List C} {vs:List Value},dH G w cs vs->cs.length=vs.length/\∀(i:Nat) (c:C) (v:Value),cs[i]?=some c->vs[i]?=some v->oQ G w c v
 | [],[],_=>⟨rfl,fun i c v h=>by simp at h⟩
 | c::cs,v::vs,h=>by
  obtain⟨b,d⟩:=h;obtain⟨e,f⟩:=dH.get d;refine⟨by simp[e],fun i c' v' a hv=>?_⟩;cases i with
  | zero=>simp at a hv;subst a;subst hv;exact b
  | succ i=>simp at a hv;exact f i c' v' a hv
theorem dH.mk{G:Gh}{w:World}:∀ {cs:List C} {vs:List Value},cs.length=vs.length->(∀(i:Nat) (c:C) (v:Value),cs[i]?=some c->vs[i]?=some v->oQ G w c v)->dH G w cs vs
 | [],[],_,_=>trivial
 | c::cs,v::vs,a,h=>⟨h 0 c v rfl rfl,dH.mk (by simpa using a) fun i c' v' b hv=>h (i+1) c' v' (by simpa using b) (by simpa using hv)⟩
theorem dH.move{G G':Gh}{w w':World}(a:Mv G G' w w'){cs:List C}{vs:List Value}(h:dH G w cs vs):dH G' w' cs vs:=by
 obtain⟨b,d⟩:=h.get;exact dH.mk b fun i c v e hv=>(d i c v e hv).move a
theorem dH.one{G:Gh}{w:World}{cs:List C}{vs:List Value}(h:dH G w cs vs):∀v,v∈vs->v.oneCell'=true:=by
 obtain⟨c,a⟩:=h.get;intro v hv;obtain⟨i,hi,rfl⟩:=List.mem_iff_getElem.1 hv;have b:i<cs.length:=by omega
 exact (a i cs[i] vs[i] (by simp[b]) (by simp[hi])).one
theorem vC.move{G G':Gh}{w w':World}(a:Mv G G' w w'){x:V}{v:Value}(h:vC G w x v):vC G' w' x v:=by
 cases x with
 | one c=>exact oQ.move a h
 | agg cs=>obtain⟨vs,hv,b⟩:=h;exact⟨vs,hv,b.move a⟩
theorem oC.move{G G':Gh}{w w':World}(a:Mv G G' w w'):∀ {xs:List V} {vs:List Value},oC G w xs vs->oC G' w' xs vs
 | [],[],_=>trivial
 | _::_,_::_,h=>⟨h.1.move a,oC.move a h.2⟩
theorem Zb.move{G G':Gh}{w w':World}(a:Mv G G' w w'){t:Ty}{x:t.den}{b o:Nat}(h:Zb G w t x b o):Zb G' w' t x b o:=by
 obtain⟨vs,h⟩:=h;refine⟨vs,fun j d hd=>?_⟩;obtain⟨e,c,f⟩:=h j d hd;exact⟨(a.s _ _ c).2.trans e,(a.s _ _ c).1,f.move a.s⟩
theorem jc.move{G G':Gh}{w w':World}(a:Mv G G' w w'){x:AV}{v:Value}(h:jc G w x v):jc G' w' x v:=by
 cases x with
 | undef=>trivial
 | v x=>exact vC.move a h
 | elt t x off=>obtain⟨b,o,hv,l⟩:=h;exact⟨b,o,hv,l.move a⟩
 | oelt k j i sz off=>obtain⟨c,b,len,cap,p,hv⟩:=h;exact⟨(a.k k c).1,b,len,cap,by rw[(a.k k c).2 j];exact p,hv⟩
 | cut t len n d e=>
  obtain⟨f,g,q⟩:=h;refine⟨(a.k d f).1,(a.k e g).1,?_⟩;rw[(a.k d f).2 0,(a.k e g).2 0];exact q
 | seg k=>exact⟨(a.k k h.1).1,by rw[(a.k k h.1).2 0];exact h.2⟩
 | pre k j n=>exact⟨(a.k k h.1).1,by rw[(a.k k h.1).2 j];exact h.2⟩
 | suf t k j m=>exact⟨(a.k k h.1).1,by rw[(a.k k h.1).2 j];exact h.2⟩
 | tup vs=>obtain⟨us,hv,r⟩:=h;exact⟨us,hv,r.move a⟩
theorem OwT.move{w w':World}{S S':Nat->Nat->Prop}{deep m:Bool}{t:Ty}{xs:List t.den}{v:Value}{fp fp':Nat->Prop}(h:OwT w S deep m t xs v fp)
  (l:∀b o,S b o->S' b o/\w'.cell? ⟨b,o,none⟩=w.cell? ⟨b,o,none⟩) (a:∀b,fp b->fp' b/\w'.heap[b]?=w.heap[b]?)
  (n:∀b len cap,v=.slice (some ⟨b,0,none⟩) len cap->fp b->∀o,S' b o->S b o\/(m=false/\o<xs.length*t.size)):OwT w' S' deep m t xs v fp':=by
 rcases h with h | ⟨b,cap,arr,E,vs,fps,rfl,p,hcap,hmax,g,f,q,r,k,hdis,s⟩
 ·exact .inl h
 ·refine .inr ⟨b,cap,arr,E,vs,fps,rfl,(a b f).2.trans p,hcap,hmax,g,(a b f).1,q,?_,?_,hdis,?_⟩
  ·exact fun i x j d u hd=>(r i x j d u hd).move l fun c e=>(a c (k i j c e).1).2
  ·exact fun i j c e=>⟨(a c (k i j c e).1).1,(k i j c e).2⟩
  ·intro o y;rcases n b _ _ rfl f o y with h | h
   ·exact s o h
   ·exact h
theorem VK(S:St)(i:Nat)(v:AV)(j:Nat):(S.iR i v).gZ j=if i=j/\i<S.tmps.length then v else S.gZ j:=by
 simp only[St.gZ,St.iR,zE,List.getElem?_set];by_cases h:i=j
 ·subst h;by_cases a:i<S.tmps.length<;>simp[a]
 ·simp[h]
theorem ag2(S:St)(i:Nat)(v:Option (List C))(j:Nat):(S.setB i v).aJ j=S.aJ j:=rfl
theorem jV(S:St)(i:Nat)(v:Option (List C))(j:Nat):(S.setB i v).fP j=if i=j/\i<S.boxes.length then v else S.fP j:=by
 simp only[St.fP,St.setB,zE,List.getElem?_set];by_cases h:i=j
 ·subst h;by_cases a:i<S.boxes.length<;>simp[a]
 ·simp[h]
theorem bH(S:St)(i:Nat)(v:List O)(j:Nat):(S.di i v).aJ j=if i=j/\i<S.owns.length then v else S.aJ j:=by
 simp only[St.aJ,St.di,zE,List.getElem?_set];by_cases h:i=j
 ·subst h;by_cases a:i<S.owns.length<;>simp[a]
 ·simp[h]
section steps
variable {w0:Bs} {G:Gh} {S:St} {a:Act} {w:World}
theorem Inv.nM(h:Inv w0 G S a w){b k j:Nat}(d:G.ow b=some (.own k j)):w0.w.heap.size<=b/\b<w.heap.size:=by
 obtain⟨c,e⟩:=h.olt b _ d;rcases c with c | ⟨hi,_⟩
 ·exact⟨c,e⟩
 ·cases hi
theorem Inv.iR(h:Inv w0 G S a w)(d:Nat){av:AV}{v:Value}(hv:jc G w av v):Inv w0 G (S.iR d av) (a.put (some d) v) w:=by
 refine⟨h.below,h.nodef,?_,by simp[St.iR,h.bsz],by simp[St.iR,h.osz],?_,h.olt,h.sok,fun i cs e=>h.box i cs e,fun k j=>h.owns k j,fun k f=>h.lk k f,fun i hi=>h.lb i hi,h.sfr,h.fx⟩
 ·simp[Act.put,St.iR,h.tsz]
 ·intro i u b;rw[VK];simp only[Act.put,Array.getElem?_setIfInBounds]at b;by_cases hd:d=i
  ·subst hd;by_cases c:d<a.tmps.size
   ·simp[c]at b;subst b;have:d<S.tmps.length:=h.tsz▸c;simp[this];exact hv
   ·simp[c]at b
  ·simp[hd]at b ⊢;exact h.tmps i u b
theorem Inv.grow(h:Inv w0 G S a w){w':World}(e:Below w.heap.size w w'):Inv w0 G S a w':=by
 have u:=e.size;have hcell:∀b o,b<w.heap.size->w'.cell? ⟨b,o,none⟩=w.cell? ⟨b,o,none⟩:=fun b o l=>e.cell (p:=⟨b,o,none⟩) l
 have f:Mv G G w w':=⟨fun b o g=>⟨g,hcell b o (h.sok b o g).1⟩,fun k y=>⟨y,fun _=>rfl⟩,fun i hi=>⟨hi,rfl⟩⟩;refine⟨h.below.trans (.Ob e h.below.size),h.nodef,h.tsz,h.bsz,h.osz,fun i v hv=>(h.tmps i v hv).move f,fun b x d=>⟨(h.olt b x d).1,by have:=(h.olt b x d).2;omega⟩,
  fun b o g=>⟨by have:=(h.sok b o g).1;omega,(h.sok b o g).2⟩,?_,?_,h.lk,h.lb,h.sfr,fun b d=>⟨(h.fx b d).1,fun l=>((h.fx b d).2 l).same (e.block b (aD l h.below.size))⟩⟩
 ·intro i cs q;obtain⟨n,vs,E,hh,z⟩:=h.box i cs q;exact⟨n,vs,E,(e.block _ (h.olt _ _ n).2).trans hh,z.move f⟩
 ·intro k j;have:=h.owns k j;revert this;generalize bC (S.aJ k) j=x;intro d;cases x with
  | dead=>trivial
  | own t xs deep m=>exact OwT.move d f.s (fun b c=>⟨c,e.block _ (h.olt _ _ c).2⟩) (fun _ _ _ _ _ o n=>.inl n)
  | ro t xs=>exact Rep.move d f.s
  | tree t xs=>
   obtain⟨fp,r,A,B⟩:=d;exact⟨fp,r,A.move (fun _ _ h=>h.elim) fun b c=>e.block _ (h.olt _ _ (r b c)).2,B⟩
  | part t xs i=>exact ja.move d (fun b c=>⟨c,e.block _ (h.olt _ _ c).2⟩) fun _ _ _ h=>h
  | seg t xs=>exact A8.move d f.s fun b c=>⟨c,e.block _ (h.olt _ _ c).2⟩
end steps
end Go.Abs
namespace Go.Abs
open Go.RowKit
theorem iH(os:List O)(j:Nat)(x:O)(j':Nat):bC (os.set j x) j'=if j=j'/\j<os.length then x else bC os j':=by
 simp only[bC,zE,List.getElem?_set];by_cases h:j=j'
 ·subst h;by_cases a:j<os.length<;>simp[a]
 ·simp[h]
theorem Iq{S:St}{a:Act}{d:Nat}{v:Value}(b:a.tmps.size=S.tmps.length)(hd:¬d<S.tmps.length):a.put (some d) v=a:=by
 simp only[Act.put];rw[Array.setIfInBounds_eq_of_size_le (by omega)]
theorem Bj{S:St}{d:Nat}{v:AV}(hd:¬d<S.tmps.length):S.iR d v=S:=by
 cases S;simp only[St.iR]at *;rw[List.set_eq_of_length_le (by omega)]
theorem ah6{S:St}{d:Nat}{v:Option (List C)}(hd:¬d<S.boxes.length):S.setB d v=S:=by
 cases S;simp only[St.setB]at *;rw[List.set_eq_of_length_le (by omega)]
theorem Bl{S:St}{d:Nat}{v:List O}(hd:¬d<S.owns.length):S.di d v=S:=by
 cases S;simp only[St.di]at *;rw[List.set_eq_of_length_le (by omega)]
section steps
variable {w0:Bs} {G:Gh} {S:St} {a:Act} {w:World}
theorem wO.same{G':Gh}{w':World}{k j:Nat}{x:O}(h:wO G w k j x)(c:G'.ov k j=G.ov k j)
  (e:∀b o,G.S b o->G'.S b o/\w'.cell? ⟨b,o,none⟩=w.cell? ⟨b,o,none⟩)
  (hown:∀t xs deep m,x=.own t xs deep m->(∀b,gJ G k j b->gJ G' k j b/\w'.heap[b]?=w.heap[b]?) /\
   ∀b len cap,G.ov k j=.slice (some ⟨b,0,none⟩) len cap->gJ G k j b->∀o,G'.S b o->G.S b o\/(m=false/\o<xs.length*t.size))
  (htree:∀t xs,x.IsT t xs->∀b,gJ G k j b->gJ G' k j b/\w'.heap[b]?=w.heap[b]?/\∀o,G'.S b o->G.S b o):wO G' w' k j x:=by
 cases x with
 | dead=>trivial
 | own t xs deep m=>
  obtain⟨d,f⟩:=hown t xs deep m rfl;show OwT w' G'.S deep m t xs (G'.ov k j) (gJ G' k j)
  rw[c];exact OwT.move h e d f
 | ro t xs=>
  show Rep w' G'.S (.list t xs) (G'.ov k j)
  rw[c];exact Rep.move h e
 | tree t xs=>
  obtain⟨fp,d,f,l⟩:=h;have hh:=htree t xs (.inl rfl);refine⟨fp,fun b a=>(hh b (d b a)).1,?_,fun b o g a=>l b o ((hh b (d b a)).2.2 o g) a⟩;rw[c];exact f.move (fun _ _ h=>h.elim) fun b a=>(hh b (d b a)).2.1
 | part t xs i=>
  have hh:=htree t xs (.inr (.inl ⟨i,rfl⟩));show ja w' G'.S t xs i (G'.ov k j) (gJ G' k j)
  rw[c];exact ja.move h (fun b a=>⟨(hh b a).1,(hh b a).2.1⟩) fun b o a g=>(hh b a).2.2 o g
 | seg t xs=>
  have hh:=htree t xs (.inr (.inr rfl));show A8 w' G'.S t xs (G'.ov k j) (gJ G' k j)
  rw[c];exact A8.move h e fun b a=>⟨(hh b a).1,(hh b a).2.1⟩
theorem Inv.aeo(h:Inv w0 G S a w)(A:Nat->Nat->Prop)
  (f:∀b o,A b o->b<w.heap.size/\(∀i,G.ow b≠some (.box i))/\∀k j t xs deep m,bC (S.aJ k) j=.own t xs deep m ->
   ∀len cap,G.ov k j=.slice (some ⟨b,0,none⟩) len cap->G.ow b=some (.own k j)->m=false/\o<xs.length*t.size)
  (g:∀b o,A b o->w0.w.heap.size<=b) (hAT:∀b o,A b o->∀k j t xs,(bC (S.aJ k) j).IsT t xs->G.ow b≠some (.own k j)):Inv w0 { G with S:=fun b o=>G.S b o\/A b o } S a w/\Mv G { G with S:=fun b o=>G.S b o\/A b o } w w:=by
 have e:Mv G { G with S:=fun b o=>G.S b o\/A b o } w w:=⟨fun b o c=>⟨.inl c,rfl⟩,fun k p=>⟨p,fun _=>rfl⟩,fun i hi=>⟨hi,rfl⟩⟩;refine⟨⟨h.below,h.nodef,h.tsz,h.bsz,h.osz,fun i v hv=>(h.tmps i v hv).move e,h.olt,?_,?_,?_,h.lk,h.lb,fun b o c q=>c.elim (fun c=>h.sfr b o c q) fun c=>absurd (g b o c) (by omega),h.fx⟩,e⟩
 ·intro b o c;rcases c with c | c
  ·exact h.sok b o c
  ·exact⟨(f b o c).1,(f b o c).2.1⟩
 ·intro i cs l;obtain⟨r,vs,E,hh,u⟩:=h.box i cs l;exact⟨r,vs,E,hh,u.move e⟩
 ·intro k j;refine (h.owns k j).same rfl e.s (fun t xs deep m n=>⟨fun b d=>⟨d,rfl⟩,fun b len cap hv d o c=>?_⟩) fun t xs n b d=>⟨d,rfl,fun o c=>?_⟩
  ·rcases c with c | c
   ·exact .inl c
   ·exact .inr ((f b o c).2.2 k j t xs deep m n len cap hv d)
  ·rcases c with c | c
   ·exact c
   ·exact absurd d (hAT b o c k j t xs n)
theorem Inv.zU(h:Inv w0 G S a w)(i b:Nat)(B:i≠0)(hi:S.fP i=none)(D:w0.w.heap.size<=b)(F:G.ow b=none)(L:∀o,¬G.S b o)
  {cs:List C} {vs:List Value} {E:TypeId} (hh:w.heap[b]?=some (.cells vs.toArray E (0,0))) (M:dH G w cs vs) :
  ∃G',Inv w0 G' ((S.setB i (some cs)).iR i (.v (.one (.ptr i 0)))) (a.put (some i) (.pointer (some ⟨b,0,none⟩))) w:=by
 have H:b<w.heap.size:=(aM.1 hh).1;by_cases l:i<S.tmps.length
 case neg=>
  refine⟨G,?_⟩
  rw[Iq h.tsz l,ah6 (by rw[h.bsz];exact l),Bj l]
  exact h
 have I:¬G.lb i:=fun N=>h.lb i N hi
 let G':Gh:={ G with bk:=fun x=>if x=i then b else G.bk x,ow:=fun x=>if x=b then some (.box i)else G.ow x,lb:=fun x=>x=i\/G.lb x };have A:Mv G G' w w:=⟨fun b o p=>⟨p,rfl⟩,fun k O=>⟨O,fun _=>rfl⟩,fun x f=>⟨.inr f,by
  show (if x=i then b else G.bk x)=_
  rw[if_neg (fun e:x=i=>I (e▸f))]⟩⟩
 have howb:∀x y,G.ow x=some y->G'.ow x=some y:=fun x y f=>by
  show (if x=b then some (.box i)else G.ow x)=_
  rw[if_neg (fun e:x=b=>by rw[e,F]at f;cases f)];exact f
 refine⟨G',?_⟩;refine Inv.iR (G:=G') (S:=S.setB i (some cs)) ?_ i (av:=.v (.one (.ptr i 0))) ⟨.inl rfl,?_⟩
 ·refine⟨h.below,h.nodef,h.tsz,by simp[St.setB,h.bsz],by simp[St.setB,h.osz],fun x v hv=>(h.tmps x v hv).move A,?_,?_,?_,?_,h.lk,?_,h.sfr,fun q K=>by
   refine⟨?_,(h.fx q K).2⟩;show (if 0=i then b else G.bk 0)=q
   rw[if_neg (fun e=>B e.symm)];exact (h.fx q K).1⟩
  ·intro x y f;by_cases r:x=b
   ·subst r;exact⟨.inl D,H⟩
   ·have:G.ow x=some y:=by
     have u:(if x=b then some (AY.box i)else G.ow x)=some y:=f;rw[if_neg r]at u;exact u
    exact h.olt x y this
  ·intro x o p;refine⟨(h.sok x o p).1,fun k=>?_⟩;have r:x≠b:=fun e=>L o (e▸p)
   show (if x=b then some (AY.box i)else G.ow x)≠_
   rw[if_neg r];exact (h.sok x o p).2 k
  ·intro x cs' d;rw[jV]at d;by_cases g:i=x
   ·subst g;rw[if_pos ⟨rfl,by rw[h.bsz];exact l⟩]at d;cases d
    refine⟨?_,vs,E,?_,M.move A⟩
    ·show (if (if i=i then b else G.bk i)=b then some (AY.box i)else _)=_
     simp
    ·show w.heap[if i=i then b else G.bk i]?=_
     simpa using hh
   ·rw[if_neg (fun e=>g e.1)]at d;obtain⟨P,vs',E',J,n⟩:=h.box x cs' d;have z:G'.bk x=G.bk x:=by show (if x=i then b else G.bk x)=_;rw[if_neg (fun e=>g e.symm)]
    exact⟨by rw[z];exact howb _ _ P,vs',E',by rw[z];exact J,n.move A⟩
  ·intro k j;refine (h.owns k j).same rfl A.s (fun t xs deep m f=>⟨fun c n=>⟨howb _ _ n,rfl⟩,fun _ _ _ _ _ o p=>.inl p⟩) fun t xs f c n=>⟨howb _ _ n,rfl,fun o p=>p⟩
  ·intro x f;rw[jV];by_cases g:i=x
   ·rw[if_pos ⟨g,by rw[h.bsz];exact l⟩];simp
   ·rw[if_neg (fun e=>g e.1)];rcases f with f | f
    ·exact absurd f.symm g
    ·exact h.lb x f
 ·show Value.pointer _=.pointer (some ⟨if i=i then b else G.bk i,0,none⟩)
  simp
theorem Inv.aow(h:Inv w0 G S a w)(i:Nat){cs cs':List C}(hi:S.fP i=some cs){vs':List Value}(D:dH G w cs' vs')(hkeep:i=0->∀(vs:List Value) (E:TypeId),w.heap[G.bk i]?=some (.cells vs.toArray E (0,0))->∀(n:Nat) p l c,vs[n]?=some (Value.slice p l c)->vs'[n]?=some (Value.slice p l c)) :
  Inv w0 G (S.setB i (some cs')) a (w.setRow (G.bk i) vs'.toArray):=by
 obtain⟨A,vs,E,hh,_⟩:=h.box i cs hi;have B:=h.olt _ _ A;have hoth:∀b,b≠G.bk i->(w.setRow (G.bk i) vs'.toArray).heap[b]?=w.heap[b]?:=fun b N=>setRow_other w _ b _ N
 have hcell:∀b o,G.S b o->(w.setRow (G.bk i) vs'.toArray).cell? ⟨b,o,none⟩=w.cell? ⟨b,o,none⟩:=fun b o f=>
  World.cell?_of_block (w:=w) (hoth b fun e=>(h.sok b o f).2 i (e▸A))
 have F:Mv G G w (w.setRow (G.bk i) vs'.toArray):=⟨fun b o f=>⟨f,hcell b o f⟩,fun k L=>⟨L,fun _=>rfl⟩,fun i hi=>⟨hi,rfl⟩⟩;have hilt:i<S.boxes.length:=by
  rcases Nat.lt_or_ge i S.boxes.length with z | z
  ·exact z
  ·simp[St.fP,zE,zJ z]at hi
 refine⟨h.below.trans ⟨rfl,rfl,rfl,by simp,fun k L H=>hoth k (fun e=>by
  subst e;rcases B.1 with r | ⟨_,r⟩
  ·omega
  ·exact H r)⟩,h.nodef,h.tsz,by simp[St.setB,h.bsz],by simp[St.setB,h.osz],fun x v hv=>(h.tmps x v hv).move F,?_,?_,?_,?_,h.lk,?_,h.sfr,fun b g=>⟨(h.fx b g).1,fun z=>by
   by_cases eb:b=G.bk i
   ·subst eb;rcases B.1 with r | ⟨r,_⟩
    ·omega
    ·injection r with r;exact ((h.fx _ g).2 z).trans fun I J M=>⟨vs',J,setRow_heap w _ _ _ J (0,0) M,hkeep r I J M⟩
   ·exact ((h.fx b g).2 z).same (hoth b eb)⟩⟩
 ·intro x y g;simpa using h.olt x y g
 ·intro x o f;simpa using h.sok x o f
 ·intro x cs'' hcs'';rw[jV]at hcs'';by_cases d:i=x
  ·subst d;rw[if_pos ⟨rfl,hilt⟩]at hcs'';cases hcs''
   exact⟨A,vs',E,setRow_heap w _ _ _ E (0,0) hh,D.move F⟩
  ·rw[if_neg (fun e=>d e.1)]at hcs'';obtain⟨u,vs'',E',K,q⟩:=h.box x cs'' hcs'';refine⟨u,vs'',E',(hoth _ fun e=>?_).trans K,q.move F⟩;rw[e,A]at u;cases u
   exact d rfl
 ·intro k j;have keep:∀c,gJ G k j c->gJ G k j c/\(w.setRow (G.bk i) vs'.toArray).heap[c]?=w.heap[c]?:=fun c q=>⟨q,hoth c fun e=>by
   have hc'':G.ow c=some (.own k j):=q;rw[e,A]at hc'';cases hc''⟩
  exact (h.owns k j).same rfl F.s (fun t xs deep m g=>⟨keep,fun _ _ _ _ _ o f=>.inl f⟩) fun t xs g c D=>⟨(keep c D).1,(keep c D).2,fun o f=>f⟩
 ·intro x g;rw[jV];by_cases d:i=x
  ·rw[if_pos ⟨d,hilt⟩];simp
  ·rw[if_neg (fun e=>d e.1)];exact h.lb x g
theorem Inv.Hl(h:Inv w0 G S a w)(k j:Nat)(x:O)(f:wO G w k j x):Inv w0 G (S.di k ((S.aJ k).set j x)) a w:=by
 refine⟨h.below,h.nodef,h.tsz,by simp[St.di,h.bsz],by simp[St.di,h.osz],h.tmps,h.olt,h.sok,h.box,?_,?_,h.lb,h.sfr,h.fx⟩
 ·intro k' j';rw[bH];by_cases b:k=k'/\k<S.owns.length
  ·rw[if_pos b,iH];by_cases d:j=j'/\j<(S.aJ k).length
   ·rw[if_pos d];obtain⟨rfl,_⟩:=b;obtain⟨rfl,_⟩:=d;exact f
   ·rw[if_neg d];obtain⟨rfl,_⟩:=b;exact h.owns k j'
  ·rw[if_neg b];exact h.owns k' j'
 ·intro k' c;rw[bH];by_cases b:k=k'/\k<S.owns.length
  ·rw[if_pos b];intro e;have:(S.aJ k).length=0:=by simpa using congrArg List.length e
   exact h.lk k' c (by rw[<- b.1];exact List.eq_nil_of_length_eq_zero this)
  ·rw[if_neg b];exact h.lk k' c
theorem Inv.aeG(h:Inv w0 G S a w)(b:Nat){w':World}(B:w0.w.heap.size<=b)(hbox:∀i,G.ow b≠some (.box i))
  (hdead:∀k j t xs deep m,G.ow b=some (.own k j)->(bC (S.aJ k) j).iq≠.own t xs deep m)
  (p:w'.os=w.os) (htape:w'.tape=w.tape) (hout:w'.output=w.output) (l:w.heap.size<=w'.heap.size)
  (hoth:∀c,c<w.heap.size->c≠b->w'.heap[c]?=w.heap[c]?)
  (C:∀o,G.S b o->w'.cell? ⟨b,o,none⟩=w.cell? ⟨b,o,none⟩):Inv w0 G S a w':=by
 have q:Mv G G w w':=⟨fun c o f=>⟨f,by
  by_cases z:c=b
  ·subst z;exact C o f
  ·exact World.cell?_of_block (w:=w) (hoth c (h.sok c o f).1 z)⟩,fun k A=>⟨A,fun _=>rfl⟩,fun i hi=>⟨hi,rfl⟩⟩
 have D:=h.below.size;refine⟨h.below.trans ⟨p,htape,hout,l,fun k A _=>hoth k (by omega) (by omega)⟩,h.nodef,h.tsz,h.bsz,h.osz,fun x v hv=>(h.tmps x v hv).move q,?_,?_,?_,?_,h.lk,h.lb,h.sfr,fun b g=>⟨(h.fx b g).1,fun E=>((h.fx b g).2 E).same (hoth b (by omega) (by omega))⟩⟩
 ·intro x y g;exact⟨(h.olt x y g).1,aD (h.olt x y g).2 l⟩
 ·intro x o f;exact⟨aD (h.sok x o f).1 l,(h.sok x o f).2⟩
 ·intro x cs r;obtain⟨n,vs'',E',u,d⟩:=h.box x cs r;exact⟨n,vs'',E',(hoth _ (h.olt _ _ n).2 fun e=>hbox x (e▸n)).trans u,d.move q⟩
 ·intro k j;refine (h.owns k j).same rfl q.s (fun t xs deep m g=>⟨fun c d=>⟨d,hoth c (h.olt _ _ d).2 fun e=>?_⟩,fun _ _ _ _ _ o f=>.inl f⟩) fun t xs g c d=>⟨d,hoth c (h.olt _ _ d).2 fun e=>?_,fun o f=>f⟩
  ·exact hdead k j t xs deep m (e▸d) (by rw[g];rfl)
  ·exact hdead k j t xs true true (e▸d) g.aoB
theorem Inv.ao9(h:Inv w0 G S a w)(P:Nat->Prop)[DecidablePred P](k j:Nat)
  (p:∀c,P c->w0.w.heap.size<=c/\c<w.heap.size/\(∀i,G.ow c≠some (.box i))/\∀k' j' t xs deep m,G.ow c=some (.own k' j')->(k',j')≠(k,j)->(bC (S.aJ k') j').iq≠.own t xs deep m) :
  Inv w0 { G with ow:=fun c=>if P c then some (.own k j)else G.ow c } S a w:=by
 let G':Gh:={ G with ow:=fun c=>if P c then some (.own k j)else G.ow c };have r:Mv G G' w w:=⟨fun b o g=>⟨g,rfl⟩,fun k q=>⟨q,fun _=>rfl⟩,fun x e=>⟨e,rfl⟩⟩;have f:∀c,G'.ow c=if P c then some (.own k j)else G.ow c:=fun _=>rfl
 refine⟨h.below,h.nodef,h.tsz,h.bsz,h.osz,fun x v hv=>(h.tmps x v hv).move r,?_,?_,?_,?_,h.lk,h.lb,h.sfr,h.fx⟩
 ·intro x y e;by_cases l:P x
  ·exact⟨.inl (p x l).1,(p x l).2.1⟩
  ·rw[f,if_neg l]at e;exact h.olt x y e
 ·intro x o g;refine⟨(h.sok x o g).1,fun i=>?_⟩;rw[f];split
  ·simp
  ·exact (h.sok x o g).2 i
 ·intro x cs u;obtain⟨n,vs'',E',z,d⟩:=h.box x cs u;refine⟨?_,vs'',E',z,d.move r⟩;rw[f,if_neg fun l=>(p _ l).2.2.1 x n];exact n
 ·intro k' j';have keep:∀t xs deep m,(bC (S.aJ k') j').iq=.own t xs deep m->∀c,G.ow c=some (.own k' j')->G'.ow c=some (.own k' j'):=by
   intro t xs deep m e c d;rw[f];split
   ·rename_i l;by_cases q:(k',j')=(k,j)
    ·cases q;rfl
    ·exact absurd e ((p c l).2.2.2 k' j' t xs deep m d q)
   ·exact d
  refine (h.owns k' j').same rfl r.s (fun t xs deep m e=>⟨fun c d=>⟨keep t xs deep m (by rw[e];rfl) c d,rfl⟩,fun _ _ _ _ _ o g=>.inl g⟩)
   fun t xs e c d=>⟨keep t xs true true e.aoB c d,rfl,fun o g=>g⟩
theorem Inv.yc(h:Inv w0 G S a w)(d:Nat)(os:List O)(ov:Nat->Value)(lab:Nat->Option Nat)(hd:S.aJ d=[])(z:d<S.tmps.length)(C:os≠[])
  (hlab:∀c j,lab c=some j->w0.w.heap.size<=c/\c<w.heap.size/\(∀i,G.ow c≠some (.box i))/\∀k' j' t xs deep m,G.ow c=some (.own k' j')->(bC (S.aJ k') j').iq≠.own t xs deep m)
  (D:∀j,match bC os j with
   | .dead=>True
   | .own t xs deep m=>OwT w G.S deep m t xs (ov j) (fun c=>lab c=some j)
   | .ro t xs=>Rep w G.S (.list t xs) (ov j)
   | .tree t xs=>∃fp:Nat->Prop,(∀b,fp b->lab b=some j)/\Ow w (fun _ _=>False) true (.list t xs) (ov j) fp/\∀b o,G.S b o->¬fp b
   | .part t xs i=>ja w G.S t xs i (ov j) (fun c=>lab c=some j)
   | .seg t xs=>A8 w G.S t xs (ov j) (fun c=>lab c=some j)) :
  ∃G',Inv w0 G' (S.di d os) a w/\Mv G G' w w/\G'.lk d/\(∀j,G'.ov d j=ov j)/\G'.bk=G.bk/\G'.S=G.S/\(∀c,G'.ow c=match lab c with | some j=>some (.own d j) | none=>G.ow c):=by
 have E:¬G.lk d:=fun r=>h.lk d r hd
 let G':Gh:={ G with ov:=fun k j=>if k=d then ov j else G.ov k j,ow:=fun c=>match lab c with | some j=>some (.own d j) | none=>G.ow c,lk:=fun k=>k=d\/G.lk k };have B:Mv G G' w w:=⟨fun b o n=>⟨n,rfl⟩,fun k p=>⟨.inr p,fun j=>by
  show (if k=d then ov j else G.ov k j)=_
  rw[if_neg (fun e:k=d=>E (e▸p))]⟩,fun x f=>⟨f,rfl⟩⟩
 have g:∀c,G'.ow c=match lab c with | some j=>some (.own d j) | none=>G.ow c:=fun _=>rfl
 refine⟨G',⟨h.below,h.nodef,h.tsz,by simp[St.di,h.bsz],by simp[St.di,h.osz],fun x v hv=>(h.tmps x v hv).move B,?_,?_,?_,?_,?_,h.lb,h.sfr,h.fx⟩,B,.inl rfl,fun j=>if_pos rfl,rfl,rfl,fun _=>rfl⟩
 ·intro x y f;rw[g]at f;cases r:lab x with
  | some j=>exact⟨.inl (hlab x j r).1,(hlab x j r).2.1⟩
  | none=>rw[r]at f;exact h.olt x y f
 ·intro x o n;refine⟨(h.sok x o n).1,fun i=>?_⟩;rw[g];cases r:lab x with
  | some j=>simp
  | none=>exact (h.sok x o n).2 i
 ·intro x cs F;obtain⟨A,vs'',E',H,l⟩:=h.box x cs F;refine⟨?_,vs'',E',H,l.move B⟩;rw[g];cases r:lab (G'.bk x)with
  | some j=>exact absurd A ((hlab _ j r).2.2.1 x)
  | none=>exact A
 ·intro k' j';rw[bH];by_cases p:d=k'/\d<S.owns.length
  ·rw[if_pos p];obtain⟨rfl,_⟩:=p;have:=D j';revert this;generalize bC os j'=x;intro f;cases x with
   | dead=>trivial
   | own t xs deep m=>
    show OwT w G.S deep m t xs (if d=d then ov j' else G.ov d j') (gJ G' d j')
    rw[if_pos rfl];refine OwT.move f (fun b o n=>⟨n,rfl⟩) (fun c u=>⟨?_,rfl⟩) (fun _ _ _ _ _ o n=>.inl n);show G'.ow c=_
    rw[g,u]
   | ro t xs=>
    show Rep w G.S (.list t xs) (if d=d then ov j' else G.ov d j')
    rw[if_pos rfl];exact f
   | tree t xs=>
    obtain⟨fp,J,K,L⟩:=f;refine⟨fp,fun c u=>?_,?_,L⟩
    ·show G'.ow c=_
     rw[g,J c u]
    ·show Ow w (fun _ _=>False) true (.list t xs) (if d=d then ov j' else G.ov d j') fp
     rw[if_pos rfl];exact K
   | part t xs i=>
    show ja w G.S t xs i (if d=d then ov j' else G.ov d j') (gJ G' d j')
    rw[if_pos rfl];refine ja.move f (fun c u=>⟨?_,rfl⟩) fun _ _ _ h=>h
    show G'.ow c=_
    rw[g,u]
   | seg t xs=>
    show A8 w G.S t xs (if d=d then ov j' else G.ov d j') (gJ G' d j')
    rw[if_pos rfl];refine A8.move f (fun b o n=>⟨n,rfl⟩) fun c u=>⟨?_,rfl⟩
    show G'.ow c=_
    rw[g,u]
  ·rw[if_neg p];have I:k'≠d:=fun e=>p ⟨e.symm,by rw[h.osz];exact z⟩
   have keep:∀t xs deep m,(bC (S.aJ k') j').iq=.own t xs deep m->∀c,G.ow c=some (.own k' j')->G'.ow c=some (.own k' j'):=by
    intro t xs deep m f c l;rw[g];cases r:lab c with
    | some j=>exact absurd f ((hlab c j r).2.2.2 k' j' t xs deep m l)
    | none=>exact l
   refine (h.owns k' j').same (by show (if k'=d then ov j' else G.ov k' j')=_;rw[if_neg I]) B.s (fun t xs deep m f=>⟨fun c l=>⟨keep t xs deep m (by rw[f];rfl) c l,rfl⟩,fun _ _ _ _ _ o n=>.inl n⟩)
    fun t xs f c l=>⟨keep t xs true true f.aoB c l,rfl,fun o n=>n⟩
 ·intro k' q;rw[bH];by_cases p:d=k'/\d<S.owns.length
  ·rw[if_pos p];exact C
  ·rw[if_neg p];rcases q with q | q
   ·exact absurd ⟨q.symm,by rw[h.osz];exact z⟩ p
   ·exact h.lk k' q
theorem Inv.XQ(h:Inv w0 G S a w)(d:Nat)(os:List O)(ov:Nat->Value)(lab:Nat->Option Nat)(hd:S.aJ d=[])(e:d<S.tmps.length)(f:os≠[])
  (hlab:∀c j,lab c=some j->w0.w.heap.size<=c/\c<w.heap.size/\(∀i,G.ow c≠some (.box i))/\∀k' j' t xs deep m,G.ow c=some (.own k' j')->(bC (S.aJ k') j').iq≠.own t xs deep m)
  (g:∀j,match bC os j with
   | .dead=>True
   | .own t xs deep m=>OwT w G.S deep m t xs (ov j) (fun c=>lab c=some j)
   | .ro t xs=>Rep w G.S (.list t xs) (ov j)
   | .tree t xs=>∃fp:Nat->Prop,(∀b,fp b->lab b=some j)/\Ow w (fun _ _=>False) true (.list t xs) (ov j) fp/\∀b o,G.S b o->¬fp b
   | .part t xs i=>ja w G.S t xs i (ov j) (fun c=>lab c=some j)
   | .seg t xs=>A8 w G.S t xs (ov j) (fun c=>lab c=some j)) :
  ∃G',Inv w0 G' (S.di d os) a w/\Mv G G' w w/\G'.lk d/\(∀j,G'.ov d j=ov j):=by
 obtain⟨G',k,l,n,p,_⟩:=h.yc d os ov lab hd e f hlab g;exact⟨G',k,l,n,p⟩
end steps
end Go.Abs
namespace Go.Abs
open Go.RowKit
theorem zW{α:Type}{l:List (Nat×α)}{k:Nat}{x:α}(h:lk l k=some x):(k,x)∈l:=by
 unfold lk at h;rw[Option.map_eq_some_iff]at h;obtain⟨p,c,rfl⟩:=h;have d:=List.find?_some c;have e:=List.mem_of_find?_eq_some c;obtain⟨a,b⟩:=p;simp at d;subst d;exact e
def Lm:TypeDesc->Bool
 | .struct _ | .array _ _=>true
 | _=>false
def mD:List C->List Value->Bool
 | [],[]=>true
 | .d (.int k n)::cs,.int k' n'::vs=>decide (k=k')&&decide (n=n')&&mD cs vs
 | .d (.bool b)::cs,.bool b'::vs=>b==b'&&mD cs vs
 | .d (.str s)::cs,.string v::vs=>decide (v.data.toList=s)&&mD cs vs
 | .nil::cs,.slice none 0 0::vs=>mD cs vs
 | .d (.list _ [])::cs,.slice none 0 0::vs=>mD cs vs
 | _,_=>false
def Oh(P:Program)(fd:Field)(fo:Nat)(agg:Bool)(n:Nat):Bool:=
 fd.offset==fo&&(match P.underlying fd.type,P.info? fd.type with
  | some d,some i=>Lm d==agg&&i.size==n&&decide (0<n)
  | _,_=>false)
def yM(P:Program)(F:Array Field):Nat->List (Nat×Bool×Nat)->Bool
 | _,[]=>true
 | f,(fo,agg,n)::r=>(match F[f]? with | some fd=>Oh P fd fo agg n | none=>false)&&yM P F (f+1) r
def abr(P:Program)(k:TypeId->Option (List Kd)):Nat->List Field->Option (List Kd)
 | _,[]=>some []
 | off, f :: r => if f.name ≠ "_" /\ f.offset = off then (k f.type).bind fun ks => if ks.length = P.cellsOf f.type then (abr P k (off + ks.length) r).map (ks ++ ·) else none else none
def UY(P:Program):Nat->TypeId->Option (List Kd)
 | 0,_=>none
 | n+1,t=>match P.underlying t with
  | some .bool=>some [.bool]
  | some (.int k)=>some [.int k]
  | some .string=>some [.str]
  | some (.struct fs)=>if P.stoodInHeld t then none else (abr P (UY P n) 0 fs.toList).bind fun ks=>if ks.length=P.cellsOf t then some ks else none
  | _=>none
def TT.ok'(P:Program)(T:TT):Bool:=
 T.ints.all (fun x=>match P.underlying x.1 with
  | some (.int k)=>decide (k=x.2)
  | _=>false) &&
 T.eqs.all (fun x=>decide (UY P 9 x.1=some x.2)&&!(P.eqGuardType P.depth x.1)&&(match P.underlying x.1 with
  | some (.struct _)=>true
  | _=>false)) &&
 T.elem.all (fun x=>!(decide (x.2=.base .u8))||(match P.underlying x.1 with
  | some (.slice e)=>(match P.underlying e with
   | some (.int .u8)=>true
   | _=>false)
  | _=>false))
def TT.ok0(P:Program)(T:TT):Bool:=
 T.shape.all (fun x=>match P.underlying x.1,P.info? x.1 with
  | some d,some i=>i.size==x.2.2&&Lm d==x.2.1
  | _,_=>false) &&
 T.zero.all (fun x=>match (P.info? x.1).bind (·.zero)with
  | some z=>mD x.2 z.cells.toList
  | none=>false) &&
 T.fields.all (fun x=>match P.underlying x.1 with
  | some (.struct F)=>yM P F 0 x.2&&x.2.length==F.size
  | _=>false) &&
 T.elem.all (fun x=>match P.underlying x.1 with
  | some (.slice e)=>(match P.info? e with
   | some i=>i.size==x.2.size&&decide (i.bytes<=4096)&&(match i.zero with
    | some z=>z.cells.size==x.2.size&&mD ((x.2.cells x.2.zero).map .d) z.cells.toList
    | none=>false)
   | none=>false)
  | _=>false) &&
 T.strs.all (fun x=>match P.underlying x with
  | some .string=>true
  | _=>false) &&
 T.bools.all (fun x=>match P.underlying x with
  | some .bool=>true
  | _=>false)
def TT.ok(P:Program)(T:TT):Bool:=T.ok0 P&&T.ok' P
section tables
variable {P:Program} {T:TT}
theorem TT.QR(h:T.ok P=true){t:Nat}{k:IntKind}(a:lk T.ints t=some k):P.underlying t=some (.int k):=by
 simp only[TT.ok,TT.ok',zI]at h;have:=List.all_eq_true.1 h.2.1.1 _ (zW a);simp only at this;split at this
 ·rename_i k' b;rw[b,of_decide_eq_true this]
 ·cases this
theorem TT.ao2(h:T.ok P=true){t:Nat}(a:lk T.elem t=some (.base .u8)){e:TypeId}(b:P.underlying t=some (.slice e)):P.underlying e=some (.int .u8):=by
 simp only[TT.ok,TT.ok',zI]at h;have:=List.all_eq_true.1 h.2.2 _ (zW a);simp only[b,decide_true,aL,Bool.false_or]at this;split at this
 ·assumption
 ·cases this
theorem TT.aoN(h:T.ok P=true){t:Nat}{ks:List Kd}(b:lk T.eqs t=some ks):UY P 9 t=some ks/\P.eqGuardType P.depth t=false/\∃fs,P.underlying t=some (.struct fs):=by
 simp only[TT.ok,TT.ok',zI]at h;have:=List.all_eq_true.1 h.2.1.2 _ (zW b);simp only[zI,decide_eq_true_eq,Bool.not_eq_true']at this;refine⟨this.1.1,this.1.2,?_⟩;have a:=this.2;split at a
 ·rename_i fs c;exact⟨fs,c⟩
 ·cases a
theorem TT.xA(h:T.ok P=true){t:Nat}{agg:Bool}{n:Nat}(a:lk T.shape t=some (agg,n)) :
  ∃d i,P.underlying t=some d/\P.info? t=some i/\i.size=n/\Lm d=agg:=by
 replace h:=(zI _ _▸h).1;simp only[TT.ok0,zI]at h;have:=List.all_eq_true.1 h.1.1.1.1.1 _ (zW a);simp only at this;split at this
 ·rename_i d i hd hi;simp at this;exact⟨d,i,hd,hi,this.1,this.2⟩
 ·cases this
theorem TT.aeu(h:T.ok P=true){t:Nat}{cs:List C}(b:lk T.zero t=some cs) :
  ∃i z,P.info? t=some i/\i.zero=some z/\mD cs z.cells.toList=true:=by
 replace h:=(zI _ _▸h).1;simp only[TT.ok0,zI]at h;have:=List.all_eq_true.1 h.1.1.1.1.2 _ (zW b);simp only at this;split at this
 ·rename_i z a;rw[zB]at a;obtain⟨i,hi,a⟩:=a;exact⟨i,z,hi,a,this⟩
 ·cases this
theorem Jh{P:Program}{F:Array Field}:∀(fs:List (Nat×Bool×Nat)) (k:Nat),yM P F k fs=true->∀(f:Nat) (fo:Nat) (agg:Bool) (n:Nat),fs[f]?=some (fo,agg,n) ->
  ∃fd,F[k+f]?=some fd/\Oh P fd fo agg n=true
 | [],k,_,f,fo,agg,n,a=>by simp at a
 | (fo',agg',n')::r,k,h,f,fo,agg,n,a=>by
  simp only[yM,zI]at h;cases f with
  | zero=>
   simp at a;obtain⟨rfl,rfl,rfl⟩:=a;have b:=h.1;split at b
   ·rename_i fd c;exact⟨fd,c,b⟩
   ·cases b
  | succ f=>
   obtain⟨fd,b,d⟩:=Jh r (k+1) h.2 f fo agg n (by simpa using a);exact⟨fd,by rw[show k+(f+1)=k+1+f by omega];exact b,d⟩
theorem TT.RJ(h:T.ok P=true){t f fo:Nat}{agg:Bool}{n:Nat}(e:(lk T.fields t).bind (·[f]?)=some (fo,agg,n)) :
  ∃F fd d i,P.underlying t=some (.struct F)/\F[f]?=some fd/\fd.offset=fo/\P.underlying fd.type=some d/\P.info? fd.type=some i/\Lm d=agg/\i.size=n/\0<n:=by
 replace h:=(zI _ _▸h).1;simp only[TT.ok0,zI]at h;rw[zB]at e;obtain⟨fs,c,g⟩:=e;have:=List.all_eq_true.1 h.1.1.1.2 _ (zW c);simp only at this;split at this
 ·rename_i F j;rw[zI]at this;obtain⟨fd,k,b⟩:=Jh fs 0 this.1 f fo agg n g;simp only[Oh,zI,beq_iff_eq]at b;obtain⟨b,a⟩:=b;split at a
  ·rename_i d i hd hi;simp at a;exact⟨F,fd,d,i,j,by simpa using k,b,hd,hi,a.1.1,a.1.2,a.2⟩
  ·cases a
 ·cases this
theorem AX{P:Program}{F:Array Field}:∀(fs:List (Nat×Bool×Nat)) (k:Nat),yM P F k fs=true->fs.length+k=F.size ->
  (F.toList.drop k).mapM (fun f=>(P.info? f.type).map fun i=>(f.offset,i.size))=some (fs.map fun x=>(x.1,x.2.2))
 | [],k,_,a=>by
  have:F.toList.drop k=[]:=by simp at a ⊢;omega
  rw[this];rfl
 | (fo,agg,n)::r,k,h,a=>by
  simp only[yM,zI]at h;have j:k<F.toList.length:=by simp at a ⊢;omega
  have ih:=AX r (k+1) h.2 (by simp at a ⊢;omega);rw[List.drop_eq_getElem_cons j,List.mapM_cons,ih];have b:=h.1;split at b
  ·rename_i fd g;have e:F.toList[k]=fd:=by
    have:F.toList[k]?=some fd:=by simpa using g
    rw[zF j]at this;exact aR this
   rw[e];simp only[Oh,zI,beq_iff_eq]at b;obtain⟨l,c⟩:=b;split at c
   ·rename_i d i hd hi;simp at c;simp[hi,l,c.1.2]
   ·cases c
  ·cases b
theorem TT.ag8(h:T.ok P=true){t:Nat}{fs:List (Nat×Bool×Nat)}(a:lk T.fields t=some fs) :
  ∃F,P.underlying t=some (.struct F)/\F.toList.mapM (fun f=>(P.info? f.type).map fun i=>(f.offset,i.size))=some (fs.map fun x=>(x.1,x.2.2)):=by
 replace h:=(zI _ _▸h).1;simp only[TT.ok0,zI]at h;have:=List.all_eq_true.1 h.1.1.1.2 _ (zW a);simp only at this;split at this
 ·rename_i F b;rw[zI]at this;exact⟨F,b,AX fs 0 this.1 (by simpa using this.2)⟩
 ·cases this
theorem TT.jw(h:T.ok P=true){t:Nat}{ty:Ty}(b:lk T.elem t=some ty) :
  ∃e i z,P.underlying t=some (.slice e)/\P.info? e=some i/\i.size=ty.size/\i.bytes<=4096/\i.zero=some z/\z.cells.size=ty.size/\mD ((ty.cells ty.zero).map .d) z.cells.toList=true:=by
 replace h:=(zI _ _▸h).1;simp only[TT.ok0,zI]at h;have:=List.all_eq_true.1 h.1.1.2 _ (zW b);simp only at this;split at this
 ·rename_i e c;split at this
  ·rename_i i hi;simp only[zI,beq_iff_eq,decide_eq_true_eq]at this;obtain⟨⟨f,g⟩,a⟩:=this;split at a
   ·rename_i z j;simp only[zI,beq_iff_eq]at a;exact⟨e,i,z,c,hi,f,g,j,a.1,a.2⟩
   ·cases a
  ·cases this
 ·cases this
theorem TT.O3(h:T.ok P=true){t:Nat}(a:T.strs.contains t=true):P.underlying t=some .string:=by
 replace h:=(zI _ _▸h).1;simp only[TT.ok0,zI]at h;have:=List.all_eq_true.1 h.1.2 t (by simpa using a);split at this
 ·rename_i b;exact b
 ·cases this
theorem TT.alz(h:T.ok P=true){t:Nat}(a:T.bools.contains t=true):P.underlying t=some .bool:=by
 replace h:=(zI _ _▸h).1;simp only[TT.ok0,zI]at h;have:=List.all_eq_true.1 h.2 t (by simpa using a);split at this
 ·rename_i b;exact b
 ·cases this
end tables
theorem nH{G:Gh}{w:World}:∀(cs:List C) (vs:List Value),mD cs vs=true->dH G w cs vs
 | [],[],_=>trivial
 | [],_::_,h=>by simp[mD]at h
 | c::cs,[],h=>by unfold mD at h;split at h<;>simp_all
 | c::cs,v::vs,h=>by
  unfold mD at h;split at h
  ·simp_all
  ·rename_i k n cs' k' n' vs' a d;cases a;cases d
   simp only[zI,decide_eq_true_eq]at h;obtain⟨⟨rfl,rfl⟩,e⟩:=h;exact⟨Rep.int _ _,nH _ _ e⟩
  ·rename_i b cs' b' vs' a d;cases a;cases d
   simp only[zI,beq_iff_eq]at h;obtain⟨rfl,e⟩:=h;exact⟨Rep.bool _,nH _ _ e⟩
  ·rename_i s cs' v' vs' a d;cases a;cases d
   simp only[zI,decide_eq_true_eq]at h;obtain⟨rfl,e⟩:=h;exact⟨Rep.str _,nH _ _ e⟩
  ·rename_i cs' vs' a d;cases a;cases d
   exact⟨rfl,nH _ _ h⟩
  ·rename_i t cs' vs' a d;cases a;cases d
   exact⟨Rep.nil _,nH _ _ h⟩
  ·cases h
section reads
variable {w0:Bs} {G:Gh} {S:St} {a:Act} {w:World}
theorem Inv.gZ(h:Inv w0 G S a w)(t:Nat):jc G w (S.gZ t) (a.tmps.getD t undef):=by
 cases b:a.tmps[t]? with
 | some v=>have:=h.tmps t v b;simpa [b] using this
 | none=>
  have c:a.tmps.size<=t:=by simpa using b
  rw[h.tsz]at c;have:S.gZ t=.undef:=by simp[St.gZ,zE,zJ c]
  rw[this];trivial
theorem aj2{v:Value}{c:C}(h:aoX v=some c):oQ G w c v:=by
 unfold aoX at h;split at h<;>cases h
 ·exact Rep.int _ _
 ·exact Rep.bool _
 ·exact Rep.str _
 ·rfl
theorem bg(h:Inv w0 G S a w){x:Operand}{av:AV}(hv:(dR x).val S=some av):jc G w av (a.eval x):=by
 cases x with
 | tmp t=>
  simp only[dR,Rd.val,zD]at hv;subst hv;exact h.gZ t
 | const v=>
  simp only[dR]at hv;split at hv
  ·rename_i c b;simp only[Rd.val,zD]at hv;subst hv;exact aj2 b
  ·simp only[Rd.val,zD]at hv;subst hv;trivial
 | global g=>cases hv
 | func f=>cases hv
theorem qh{av:AV}{x:V}{v:Value}(a:(avV av).val S=some x)(h:jc G w av v):vC G w x v:=by
 unfold avV at a;split at a
 ·simp only[Rd.val,zD]at a;subst a;exact h
 ·cases a
theorem nD{av:AV}{x:D}{v:Value}(a:(avD av).val S=some x)(h:jc G w av v):Rep w G.S x v:=by
 unfold avD at a;split at a
 ·simp only[Rd.val,zD]at a;subst a;exact h
 ·cases a
theorem tJ{av:AV}{n:Int}{v:Value}(a:(Jr av).val S=some n)(h:jc G w av v):∃k,v=.int k n:=by
 simp only[Jr,Rd.aF,zB]at a;obtain⟨d,hd,a⟩:=a;have:=nD hd h;cases this<;>simp only[Rd.val,zD]at a<;>first | (subst a;exact⟨_,rfl⟩) | cases a
def AK(G:Gh)(S:St)(keys:List (Nat×Nat))(b o:Nat):Prop:=
 ∃k j t xs deep m,(k,j)∈keys/\(bC (S.aJ k) j).vk=.own t xs deep m/\G.ow b=some (.own k j)/\(∀len cap,G.ov k j=.slice (some ⟨b,0,none⟩) len cap->o<xs.length*t.size)
theorem OwT.aez{S S':Nat->Nat->Prop}{deep m:Bool}{t:Ty}{xs:List t.den}{v:Value}{fp:Nat->Prop}(h:OwT w S deep m t xs v fp)
  (p:∀b o,S b o->S' b o) (a:∀b o,fp b->(∀len cap,v=.slice (some ⟨b,0,none⟩) len cap->o<xs.length*t.size)->S' b o):Rep w S' (.list t xs) v:=by
 rcases h with ⟨rfl,rfl⟩ | ⟨b,cap,arr,E,vs,fps,rfl,q,hcap,hmax,r,l,s,u,n,hdis,z⟩
 ·exact .nil t
 ·refine .list t xs b 0 cap vs hcap (fun i x j d k hd=>?_) (fun i x j d k hd=>(u i x j d k hd).aez p fun c o f _=>a c o (n i j c f).1 fun len cap e=>?_)
  ·have e:w.cell? ⟨b,0+(i*t.size+j),none⟩=some (vs i j):=by
    simp only[Nat.zero_add,World.cell?,q];simpa using s i x j d k hd
   refine⟨e,a b _ l fun len cap _=>?_⟩;have hi:i<xs.length:=(zC.1 k).1;have A:j<t.size:=by
    have:=(zC.1 hd).1;rwa [Ty.aZ]at this
   have y:(i+1)*t.size<=xs.length*t.size:=Nat.mul_le_mul_right _ hi;rw[Nat.succ_mul]at y;omega
  ·injection e with g _ _;injection g with g;injection g with g _ _;exact absurd g.symm (n i j c f).2
theorem O.abW{x:O}{t:Ty}{xs:List t.den}{deep m:Bool}(h:x.vk=.own t xs deep m):x=.own t xs deep m\/(x=.tree t xs/\deep=true/\m=true):=by
 cases x with
 | tree t' xs'=>cases h;exact .inr ⟨rfl,rfl,rfl⟩
 | own=>exact .inl h
 | ro=>cases h
 | dead=>cases h
 | part=>cases h
 | seg=>cases h
theorem OwT.Qw{w:World}{S':Nat->Nat->Prop}{t:Ty}{xs:List t.den}{v:Value}{fp fp':Nat->Prop}(h:Ow w (fun _ _=>False) true (.list t xs) v fp)(l:∀c,fp c->fp' c)(m:∀b o,S' b o->¬fp b):OwT w S' true true t xs v fp':=by
 generalize a:D.list t xs=dd at h;cases h with
 | int=>cases a
 | bool=>cases a
 | str=>cases a
 | nil t'=>cases a;exact .inl ⟨rfl,rfl⟩
 | ro _ _ _ hd=>cases hd
 | list t' xs' b cap arr E vs fps _ n hcap hmax k e p q f hdis=>
  cases a
  exact .inr ⟨b,cap,arr,E,vs,fps,rfl,n,hcap,hmax,k,l _ e,p,fun i x j d r hd=>(q i x j d r hd).move (fun _ _ h=>h.elim) fun _ _=>rfl,fun i j c g=>⟨l _ (f i j c g).1,(f i j c g).2⟩,hdis,fun o s=>absurd e (m b o s)⟩
theorem Inv.aiK(h:Inv w0 G S a w){k j:Nat}{t:Ty}{xs:List t.den}{deep m:Bool}(c:(bC (S.aJ k) j).vk=.own t xs deep m):OwT w G.S deep m t xs (G.ov k j) (gJ G k j):=by
 have:=h.owns k j;rcases O.abW c with b | ⟨b,rfl,rfl⟩
 ·rw[b]at this;exact this
 ·rw[b]at this;obtain⟨fp,d,e,f⟩:=this;exact OwT.Qw e d f
theorem Inv.Qn(h:Inv w0 G S a w){k j:Nat}{t:Ty}{xs:List t.den}{deep m:Bool}(d:(bC (S.aJ k) j).vk=.own t xs deep m)(keys:List (Nat×Nat))(e:(k,j)∈keys) :
  Rep w (fun b o=>G.S b o\/AK G S keys b o) (.list t xs) (G.ov k j):=
 OwT.aez (h.aiK d) (fun b o f=>.inl f) fun b o g c=>.inr ⟨k,j,t,xs,deep,m,e,d,g,c⟩
theorem Inv.Ir(h:Inv w0 G S a w){k j:Nat}{t:Ty}{xs:List t.den}{deep m:Bool}(c:bC (S.aJ k) j=.own t xs deep m)(keys:List (Nat×Nat))(d:(k,j)∈keys) :
  Rep w (fun b o=>G.S b o\/AK G S keys b o) (.list t xs) (G.ov k j):=h.Qn (by rw[c];rfl) keys d
theorem Inv.Xx(h:Inv w0 G S a w){k j:Nat}{t:Ty}{xs:List t.den}(b:bC (S.aJ k) j=.ro t xs):Rep w G.S (.list t xs) (G.ov k j):=by
 have:=h.owns k j;rw[b]at this;exact this
theorem SG(h:Inv w0 G S a w){ty:Option Ty}{c:C}{d:D}{v:Value}(hd:(cD ty c).val S=some d)(f:oQ G w c v)(keys:List (Nat×Nat))(i:∀k j,c=.own k j->(k,j)∈keys) :
  Rep w (fun b o=>G.S b o\/AK G S keys b o) d v:=by
 cases c with
 | undef=>cases hd
 | d x=>
  simp only[cD,Rd.val,zD]at hd;subst hd;exact Rep.move f fun b o g=>⟨.inl g,rfl⟩
 | nil=>
  simp only[cD]at hd;split at hd
  ·simp only[Rd.val,zD]at hd;subst hd;rw[show v=_ from f];exact .nil _
  ·cases hd
 | own k j=>
  simp only[cD,Rd.val]at hd;rw[f.2.1];split at hd
  ·rename_i t xs deep m e;simp only[Rd.val,zD]at hd;subst hd;exact h.Ir e keys (i k j rfl)
  ·rename_i t xs e;simp only[Rd.val,zD]at hd;subst hd;exact (h.Xx e).move fun b o g=>⟨.inl g,rfl⟩
  ·rename_i t xs e;simp only[Rd.val,zD]at hd;subst hd;exact h.Qn (by rw[e];rfl) keys (i k j rfl)
  ·cases hd
  ·cases hd
  ·cases hd
 | ptr b off=>cases hd
def aW(R:Nat->D->Value->Prop):Nat->List D->List Value->Prop
 | _,[],[]=>True
 | n,d::ds,v::vs=>R n d v/\aW R (n+1) ds vs
 | _,_,_=>False
def ShR(R:Nat->D->Value->Prop)(n:Nat)(s:Sh)(x:s.t.den)(u:Value):Prop:=
 match s.agg with
 | true=>∃vs:List Value,u=.agg vs.toArray/\aW R n (s.t.cells x) vs
 | false=>aW R n (s.t.cells x) [u]
def kH(R:Nat->D->Value->Prop):(n:Nat)->(ss:List Sh)->Tup ss->List Value->Prop
 | _,[],_,[]=>True
 | n,[s],x,[u]=>ShR R n s x u
 | n,s::s'::r,x,u::us=>ShR R n s x.1 u/\kH R (n+s.t.size) (s'::r) x.2 us
 | _,_,_,_=>False
theorem iO{cs:List C}{k j:Nat}:C.own k j∈cs->(k,j)∈aP cs:=by
 intro h;induction cs with
 | nil=>cases h
 | cons c cs ih=>
  cases h with
  | head=>simp[aP]
  | tail _ h=>
   cases c<;>simp only[aP,ba]<;>first | exact ih h | exact .inr (ih h)
theorem vX{k j:Nat}:∀ {cs:List C},(k,j)∈aP cs->C.own k j∈cs
 | [],h=>by cases h
 | c::r,h=>by
  cases c with
  | own k' j'=>
   rcases ba.1 h with h | h
   ·cases h;exact ar
   ·exact aq _ (vX h)
  | _=>exact aq _ (vX h)
theorem afn(h:Inv w0 G S a w)(keys:List (Nat×Nat)):∀ {tys:List (Option Ty)} {cs:List C} {ds:List D} {vs:List Value} (n:Nat),(cDs tys cs).val S=some ds->tys.length=cs.length->dH G w cs vs ->
  (∀k j,C.own k j∈cs->(k,j)∈keys)->aW (fun _ d v=>Rep w (fun b o=>G.S b o\/AK G S keys b o) d v) n ds vs
 | [],[],ds,[],n,hd,_,_,_=>by
  simp only[cDs,Rd.val,zD]at hd;subst hd;trivial
 | ty::tys,c::cs,ds,v::vs,n,hd,i,f,g=>by
  simp only[cDs,Rd.aF,zB,Rd.val,zD]at hd;obtain⟨d,l,ds',m,rfl⟩:=hd;exact⟨SG h l f.1 keys fun k j e=>g k j (e▸ar),afn h keys (n+1) m (by simpa using i) f.2 fun k j e=>g k j (aq _ e)⟩
theorem oU(t:Ty):t.tys.length=t.size:=by simp[Ty.tys,Ty.aZ]
theorem vC.cells{x:V}{v:Value}(h:vC G w x v):∃vs:List Value,dH G w x.cells vs/\(x.isAgg=true->v=.agg vs.toArray)/\(x.isAgg=false->vs=[v]):=by
 cases x with
 | one c=>exact⟨[v],⟨h,trivial⟩,by simp[V.isAgg],fun _=>rfl⟩
 | agg cs=>obtain⟨vs,hv,a⟩:=h;exact⟨vs,a,fun _=>hv,by simp[V.isAgg]⟩
theorem ab6(h:Inv w0 G S a w)(keys:List (Nat×Nat)){s:Sh}{x:V}{y:s.t.den}{v:Value}(n:Nat)(c:(vT s x).val S=some y)(i:vC G w x v)
  (l:∀k j,C.own k j∈x.cells->(k,j)∈keys):ShR (fun _ d v=>Rep w (fun b o=>G.S b o\/AK G S keys b o) d v) n s y v:=by
 simp only[vT]at c;split at c
 ·rename_i e;simp only[Rd.aF,zB,Rd.val]at c;obtain⟨ds,m,z,p,f⟩:=c;simp only[zD]at f;subst f;obtain⟨vs,q,r,u⟩:=i.cells;have:=afn h keys n m (by rw[oU];exact e.2.symm) q l;rw[<- Ty.dA p]at this;unfold ShR;cases g:s.agg with
  | true=>exact⟨vs,r (by rw[e.1,g]),this⟩
  | false=>rw[u (by rw[e.1,g])]at this;exact this
 ·cases c
theorem yX(h:Inv w0 G S a w)(keys:List (Nat×Nat)):∀ {ss:List Sh} {xs:List V} {y:Tup ss} {us:List Value} (n:Nat),(vTs ss xs).val S=some y->oC G w xs us ->
  (∀k j x,x∈xs->C.own k j∈x.cells->(k,j)∈keys)->kH (fun _ d v=>Rep w (fun b o=>G.S b o\/AK G S keys b o) d v) n ss y us
 | [],[],y,[],n,_,_,_=>trivial
 | [s],[x],y,[u],n,c,f,g=>ab6 h keys n c f.1 fun k j e=>g k j x (by simp) e
 | s::s'::r,x::xs,y,u::us,n,c,f,g=>by
  simp only[vTs,Rd.aF,zB,Rd.val,zD]at c;obtain⟨p,i,q,l,rfl⟩:=c;exact⟨ab6 h keys n i f.1 fun k j e=>g k j x (by simp) e,yX h keys _ l f.2 fun k j z m e=>g k j z (aq _ m) e⟩
 | [s],x::x'::xs,y,us,n,c,_,_=>by simp[vTs,Rd.val]at c
 | [s],[],y,us,n,c,_,_=>by simp[vTs,Rd.val]at c
 | [],_::_,y,us,n,c,_,_=>by simp[vTs,Rd.val]at c
 | s::s'::r,[],y,us,n,c,_,_=>by simp[vTs,Rd.val]at c
theorem uV(h:Inv w0 G S a w):∀ {xs:List Operand} {vs:List V},(Dk xs).val S=some vs->oC G w vs (xs.map a.eval)
 | [],vs,hv=>by simp only[Dk,Rd.val,zD]at hv;subst hv;trivial
 | x::xs,vs,hv=>by
  simp only[Dk,Rd.aF,zB,Rd.val,zD]at hv;obtain⟨av,b,v,c,vs',d,rfl⟩:=hv;exact⟨qh c (bg h b),uV h d⟩
end reads
end Go.Abs
namespace Go.Abs
open Go.RowKit
section ops
variable {P:Program} {w0:Bs} {G:Gh} {S:St} {a:Act} {w:World} {o:Oper} {K:Act->World->Prop} {Q:Exit->Act->World->Prop}
theorem aS{v:Value}{w':World}(hrun:(execOp a.eval o).run P w=.ok (.value v) w')(h:K (a.put o.dst v) w'):o.wp P a w K Q:=by
 unfold Oper.wp;rw[hrun];exact h
theorem FT{w':World}(hrun:(execOp a.eval o).run P w=.ok .skip w')(h:K (a.put o.dst undef) w'):o.wp P a w K Q:=by
 unfold Oper.wp;rw[hrun];exact h
theorem Inv.dst(h:Inv w0 G S a w){av:AV}{v:Value}(hv:jc G w av v):Inv w0 G (S.puts (fQ o av)) (a.put o.dst v) w:=by
 unfold fQ;cases o.dst with
 | none=>exact h
 | some d=>exact h.iR d hv
theorem ahw{c:C}{v:Value}(h:oQ G w c v):jc G w (aoo c) v:=by
 cases c<;>first | trivial | exact h
theorem tH{x:V}{v:Value}(h:vC G w x v):jc G w (Nj x) v:=by
 cases x with
 | one c=>exact ahw h
 | agg cs=>exact h
theorem DF:jc G w (.tup []) undef:=⟨[],rfl,trivial⟩
theorem Jm{v:Value}(h:v.oneCell'=true):v.cells = #[v]:=by
 cases v<;>first | rfl | (simp[Value.oneCell']at h)
theorem vC.Wv{x:V}{v:Value}(h:vC G w x v):∃vs:List Value,v.cells=vs.toArray/\dH G w x.cells vs:=by
 cases x with
 | one c=>exact⟨[v],Jm (oQ.one h),⟨h,trivial⟩⟩
 | agg cs=>obtain⟨vs,rfl,a⟩:=h;exact⟨vs,rfl,a⟩
theorem dH.seg{cs:List C}{vs:List Value}(h:dH G w cs vs)(off n:Nat):dH G w (seg cs off n) (Abs.seg vs off n):=by
 obtain⟨b,d⟩:=h.get;refine dH.mk (by simp[Abs.seg,b]) fun i c v a hv=>?_
 simp only[Abs.seg,List.getElem?_take,List.getElem?_drop]at a hv;split at a
 ·rename_i hi;rw[if_pos hi]at hv;exact d _ c v a hv
 ·cases a
theorem dH.dw{cs cs':List C}{vs vs':List Value}(h:dH G w cs vs)(k:dH G w cs' vs')(off:Nat):dH G w (dw cs off cs') (Abs.dw vs off vs'):=by
 obtain⟨g,j⟩:=h.get;obtain⟨b,d⟩:=k.get;refine dH.mk (by simp[Abs.dw,g,b]) fun i c v a hv=>?_
 simp only[Abs.dw,List.getElem?_append,List.getElem?_take,List.getElem?_drop,a6,a8,g,b]at a hv;split at a
 ·rename_i e;rw[if_pos e]at hv;split at a
  ·rename_i f;rw[if_pos f]at hv;split at a
   ·rename_i l;rw[if_pos l]at hv;exact j _ c v a hv
   ·cases a
  ·rename_i f;rw[if_neg f]at hv;exact d _ c v a hv
 ·rename_i e;rw[if_neg e]at hv;exact j _ c v a hv
theorem dH.length{cs:List C}{vs:List Value}(h:dH G w cs vs):cs.length=vs.length:=h.get.1
theorem XT{agg:Bool}{cs:List C}{x:V}{vs:List Value}(a:mkV agg cs=some x)(b:dH G w cs vs) :
  (agg=true->vC G w x (.agg vs.toArray))/\(agg=false->∃v,vs=[v]/\vC G w x v):=by
 unfold mkV at a;split at a
 ·cases a;exact⟨fun _=>⟨vs,rfl,b⟩,by simp⟩
 ·cases a
  match vs,b with
  | [v],b=>exact⟨by simp,fun _=>⟨v,rfl,b.1⟩⟩
 ·cases a
theorem addr_add(g o j:Nat):(⟨g,o,none⟩:Addr).add j=⟨g,o+j,none⟩:=by unfold Addr.add;split<;>simp_all
theorem ni(T:TypeId)(g off:Nat)(d:TypeDesc)(i:TypeInfo)(b:P.underlying T=some d)(hi:P.info? T=some i)(hd:Lm d=true)(ls:List Value)(c:ls.length=i.size)
  (e:∀j v,ls[j]?=some v->w.cell? ⟨g,off+j,none⟩=some v):(loadVar T ⟨g,off,none⟩).run P w=.ok (.agg ls.toArray) w:=by
 have a:(loadCells ⟨g,off,none⟩ ls.length).run P w=.ok ls.toArray w:=run_loadCells_list (P:=P) w ⟨g,off,none⟩ ls fun j v hv=>by rw[addr_add];exact e j v hv
 have hagg:(isAgg T).run P w=.ok true w:=by
  unfold isAgg;rw[Sem.run_bind,run_underlying b w];cases d<;>simp_all [Lm]
 rw[c]at a;simp[loadVar,Sem.run_bind,hagg,sizeOf,typeInfo,hi,a]
theorem qL(T:TypeId)(g off:Nat)(d:TypeDesc)(a:P.underlying T=some d)(hd:Lm d=false)(v:Value)
  (b:w.cell? ⟨g,off,none⟩=some v):(loadVar T ⟨g,off,none⟩).run P w=.ok v w:=by
 have hagg:(isAgg T).run P w=.ok false w:=by
  unfold isAgg;rw[Sem.run_bind,run_underlying a w];cases d<;>simp_all [Lm]
 simp[loadVar,Sem.run_bind,hagg,b]
theorem wZ{T:TT}(l:T.ok P=true)(h:Inv w0 G S a w){t:TypeId}{p:Operand}(b:o.op=.load t p){agg:Bool}{n:Nat}(m:lk T.shape t=some (agg,n))
  {g off:Nat} (c:a.eval p=.pointer (some ⟨g,off,none⟩)) {cs:List C} {vs:List Value} (e:dH G w cs vs) (y:cs.length=n)
  (hcell:∀j v,vs[j]?=some v->w.cell? ⟨g,off+j,none⟩=some v) {x:V} (q:mkV agg cs=some x)
  (f:∀a' w' G',Inv w0 G' (S.puts (fQ o (Nj x))) a' w'->K a' w'):o.wp P a w K Q:=by
 obtain⟨d,i,k,hi,r,hd⟩:=TT.xA l m;obtain⟨s,u⟩:=XT q e;have z:=e.length;cases agg with
 | true=>
  refine aS (v:=.agg vs.toArray) (w':=w) ?_ (f _ _ _ (h.dst (tH (s rfl))));have:=ni (w:=w) t g off d i k hi hd vs (by omega) hcell;unfold execOp;simp only[b,c,Instr.loadAt,Instr.sureAddr,Sem.run_bind,Sem.run_pure,Result.andThen_ok,this]
 | false=>
  obtain⟨v,rfl,hv⟩:=u rfl;refine aS (v:=v) (w':=w) ?_ (f _ _ _ (h.dst (tH hv)));have:=qL (w:=w) t g off d k hd v (hcell 0 v rfl);unfold execOp;simp only[b,c,Instr.loadAt,Instr.sureAddr,Sem.run_bind,Sem.run_pure,Result.andThen_ok,this]
theorem aiV(h:Inv w0 G S a w){d:Nat}(hd:o.dst=some d){cs:List C}{ws:List W}(hv:(zU d cs).val S=some ws){vs:List Value}{e:TypeId}(g:dH G w cs vs)
  (hrun:(execOp a.eval o).run P w=.ok (.value (.pointer (some ⟨w.heap.size,0,none⟩))) (w.alloc (.cells vs.toArray e)))
  (j:∀a' w' G',Inv w0 G' (S.puts ws) a' w'->K a' w'):o.wp P a w K Q:=by
 unfold zU at hv;split at hv
 case isTrue=>cases hv
 rename_i f;simp only[Rd.val]at hv;split at hv
 ·rename_i l;simp only[Rd.val,zD]at hv;subst hv;have hbel:Below w.heap.size w (w.alloc (.cells vs.toArray e)):=(Below.refl _ _).alloc (aw _) _;have m:=h.grow hbel;have n:Mv G G w (w.alloc (.cells vs.toArray e)):=⟨fun b o c=>⟨c,hbel.cell (p:=⟨b,o,none⟩) (h.sok b o c).1⟩,fun k q=>⟨q,fun _=>rfl⟩,fun i hi=>⟨hi,rfl⟩⟩;obtain⟨G',r⟩:=m.zU d w.heap.size f l h.below.size
   (by cases s:G.ow w.heap.size with
     | none=>rfl
     | some y=>exact absurd (h.olt _ _ s).2 (Nat.lt_irrefl _))
   (fun o c=>absurd (h.sok _ o c).1 (Nat.lt_irrefl _)) (heap_alloc_new w _) (g.move n)
  refine aS hrun (j _ _ G' ?_);rw[hd];exact r
 ·cases hv
theorem aeX(h:Inv w0 G S a w){x:Operand}(b:o.op=.move x\/o.op=.assign x){E:Env}{ws:List W}(hv:(eff E o).val S=some ws)
  (d:∀a' w' G',Inv w0 G' (S.puts ws) a' w'->K a' w'):o.wp P a w K Q:=by
 have c:((dR x).bind fun a=>.ret (fQ o a)).val S=some ws:=by
  rcases b with b | b<;>(unfold eff at hv;rw[b]at hv;exact hv)
 simp only[Rd.aF,zB,Rd.val,zD]at c;obtain⟨av,e,rfl⟩:=c;refine aS (v:=a.eval x) (w':=w) ?_ (d _ _ _ (h.dst (bg h e)));rcases b with b | b<;>(unfold execOp;simp only[b];rfl)
theorem akR(h:Inv w0 G S a w){c x y:Operand}(f:o.op=.pick c x y){E:Env}{ws:List W}(hv:(eff E o).val S=some ws)
  (i:∀a' w' G',Inv w0 G' (S.puts ws) a' w'->K a' w'):o.wp P a w K Q:=by
 unfold eff at hv;rw[f]at hv;simp only[Rd.aF,zB]at hv;obtain⟨av,j,d,k,hv⟩:=hv;have e:=nD k (bg h j);split at hv
 ·simp only[Rd.aF,zB,Rd.val,zD]at hv;obtain⟨av',g,rfl⟩:=hv;generalize b:a.eval c=cv at e;cases e
  refine aS (v:=a.eval x) (w':=w) ?_ (i _ _ _ (h.dst (bg h g)));unfold execOp;simp[f,b,asBool]
 ·simp only[Rd.aF,zB,Rd.val,zD]at hv;obtain⟨av',g,rfl⟩:=hv;generalize b:a.eval c=cv at e;cases e
  refine aS (v:=a.eval y) (w':=w) ?_ (i _ _ _ (h.dst (bg h g)));unfold execOp;simp[f,b,asBool]
 ·cases hv
theorem aiX(h:Inv w0 G S a w){e:TypeId}(c:o.op=.alloc e){E:Env}(f:E.tt.ok P=true){ws:List W}(hv:(eff E o).val S=some ws)
  (g:∀a' w' G',Inv w0 G' (S.puts ws) a' w'->K a' w'):o.wp P a w K Q:=by
 unfold eff at hv;rw[c]at hv;simp only at hv;split at hv
 ·rename_i d cs hd b;obtain⟨i,z,hi,b,j⟩:=TT.aeu f b;refine aiV h hd hv (vs:=z.cells.toList) (e:=e) (nH _ _ j) ?_ g;unfold execOp;simp[c,Instr.alloc,zeroValue,typeInfo,hi,b,newVar,newRow]
 ·cases hv
theorem akW(h:Inv w0 G S a w){e:TypeId}{x:Operand}(c:o.op=.box e x){E:Env}{ws:List W}(hv:(eff E o).val S=some ws)
  (f:∀a' w' G',Inv w0 G' (S.puts ws) a' w'->K a' w'):o.wp P a w K Q:=by
 unfold eff at hv;rw[c]at hv;simp only at hv;split at hv
 ·rename_i d hd;simp only[Rd.aF,zB]at hv;obtain⟨av,g,x',i,hv⟩:=hv;have j:=qh i (bg h g);obtain⟨vs,b,k⟩:=j.Wv;refine aiV h hd hv (vs:=vs) (e:=e) k ?_ f;unfold execOp;simp[c,Instr.box,newVar,newRow,b]
 ·cases hv
def AN(G:Gh)(k j b:Nat):Prop:=G.ow b=some (.own k j)/\∀len cap,G.ov k j≠.slice (some ⟨b,0,none⟩) len cap
theorem ai4{x:O}{t:Ty}{xs:List t.den}{deep m:Bool}(h:x=.own t xs deep m):∀t xs,¬x.IsT t xs:=by
 rintro t xs (a | ⟨i,a⟩ | a)<;>rw[h]at a<;>cases a
theorem Inv.addN(h:Inv w0 G S a w)(k j:Nat)(f:∀t xs,¬(bC (S.aJ k) j).IsT t xs):Inv w0 { G with S:=fun b o=>G.S b o\/(b<w.heap.size/\AN G k j b) } S a w/\Mv G { G with S:=fun b o=>G.S b o\/(b<w.heap.size/\AN G k j b) } w w:=
 h.aeo _ (fun b o d=>⟨d.1,fun i hi=>(by rw[d.2.1]at hi;cases hi),fun k' j' t xs deep m _ len cap e c=>by
  rw[d.2.1]at c;cases c
  exact absurd e (d.2.2 len cap)⟩) (fun b o d=>(h.nM d.2.1).1) fun b o d k' j' t xs g c=>by
  rw[d.2.1]at c;cases c
  exact f t xs g
theorem akT(h:Inv w0 G S a w){t:TypeId}{p:Operand}(L:o.op=.load t p){E:Env}(N:E.tt.ok P=true){ws:List W}(hv:(eff E o).val S=some ws)
  (hpart:∀agg n k j i sz off ty xs m,lk E.tt.shape t=some (agg,n)->(dR p).val S=some (.oelt k j i sz off)->bC (S.aJ k) j=.part ty xs m->(WN o agg n k j i sz off ty xs m).val S=some ws->o.wp P a w K Q)
  (O:∀a' w' G',Inv w0 G' (S.puts ws) a' w'->K a' w'):o.wp P a w K Q:=by
 unfold eff at hv;rw[L]at hv;simp only at hv;split at hv
 ·cases hv
 rename_i agg n B;simp only[Rd.aF,zB]at hv;obtain⟨av,Z,hv⟩:=hv;have R:=bg h Z;split at hv
 ·rename_i b off;simp only[Rd.val]at hv;split at hv
  ·rename_i cs T;simp only[Rd.val,zB]at hv;obtain⟨x,M,hv⟩:=hv;split at hv
   ·rename_i D;simp only[Rd.val,zD]at hv;subst hv;obtain⟨_,vs,e,hh,C⟩:=h.box b cs T;refine wZ N h L B (g:=G.bk b) (off:=off) R.2 (C.seg off n) D (fun j v hv=>?_) M O;rw[cell_of_row w _ _ _ _ _ hh];simp only[Abs.seg,List.getElem?_take,List.getElem?_drop]at hv;split at hv
    ·simpa using hv
    ·cases hv
   ·cases hv
  ·cases hv
 ·rename_i ty x off;simp only[Rd.val,zB]at hv;obtain⟨y,U,hv⟩:=hv;split at hv
  ·rename_i D;simp only[Rd.val,zD]at hv;subst hv;obtain⟨b,of,s,vs,F⟩:=R;have hlen:(seg (ty.cells x) off n).length=n:=D;have r:∀j,j<n->∃d,(ty.cells x)[off+j]?=some d/\(seg (ty.cells x) off n)[j]?=some d:=by
    intro j r;have:j<(seg (ty.cells x) off n).length:=by omega
    refine⟨(seg (ty.cells x) off n)[j],?_,by simp[this]⟩;have e:(seg (ty.cells x) off n)[j]?=some (seg (ty.cells x) off n)[j]:=by simp[this]
    simp only[Abs.seg,List.getElem?_take,List.getElem?_drop]at e;rw[if_pos r]at e;exact e
   refine wZ N h L B (g:=b) (off:=of+off) s (cs:=(seg (ty.cells x) off n).map .d) (vs:=(List.range n).map fun j=>vs (off+j)) ?_ (by simp[hlen]) ?_ U O
   ·refine dH.mk (by simp[hlen]) fun j c v C hv=>?_
    simp only[List.getElem?_map,Option.map_eq_some_iff]at C hv;obtain⟨d,hd,rfl⟩:=C;obtain⟨j',f,rfl⟩:=hv;have l:j<n:=by
     have:=(zC.1 f).1;simpa using this
    have:j'=j:=by simp[l]at f;exact f.symm
    subst this;obtain⟨d',u,z⟩:=r j' l;rw[hd]at z;cases z
    exact (F _ _ u).2.2
   ·intro j v hv;simp only[List.getElem?_map,Option.map_eq_some_iff]at hv;obtain⟨j',f,rfl⟩:=hv;have l:j<n:=by
     have:=(zC.1 f).1;simpa using this
    have:j'=j:=by simp[l]at f;exact f.symm
    subst this;obtain⟨d',u,z⟩:=r j' l;rw[Nat.add_assoc];exact (F _ _ u).1
  ·cases hv
 ·rename_i k j i sz off;simp only[Rd.val]at hv;split at hv
  ·rename_i ty xs deep m hown;split at hv
   case isFalse=>cases hv
   rename_i V;simp only[Rd.val,zB]at hv;obtain⟨x,M,y,U,hv⟩:=hv;split at hv
   ·rename_i D;simp only[Rd.val,zD]at hv;subst hv;obtain⟨hlk,b,len,cap,A,s⟩:=R;obtain⟨h',hm⟩:=h.addN k j (ai4 hown);have hO:=h.owns k j;rw[hown]at hO;rcases hO with ⟨he,_⟩ | ⟨b',cap',arr,e,vs,fps,H,hb,hcap,hmax,hasz,hfb,C,X,hf,hdis,_⟩
    ·rw[A]at he;cases he
    rw[A]at H;injection H with q e2 e3;injection q with q;injection q with q _ _;subst q;have hlen:(seg (ty.cells x) off n).length=n:=D;have r:∀j,j<n->∃d,(ty.cells x)[off+j]?=some d/\(seg (ty.cells x) off n)[j]?=some d:=by
     intro j r;have:j<(seg (ty.cells x) off n).length:=by omega
     refine⟨(seg (ty.cells x) off n)[j],?_,by simp[this]⟩;have e:(seg (ty.cells x) off n)[j]?=some (seg (ty.cells x) off n)[j]:=by simp[this]
     simp only[Abs.seg,List.getElem?_take,List.getElem?_drop]at e;rw[if_pos r]at e;exact e
    refine wZ N h' L B (g:=b) (off:=i*sz+off) s (cs:=(seg (ty.cells x) off n).map .d) (vs:=(List.range n).map fun j=>vs i (off+j)) ?_ (by simp[hlen]) ?_ U O
    ·refine dH.mk (by simp[hlen]) fun j' c v I hv=>?_
     simp only[List.getElem?_map,Option.map_eq_some_iff]at I hv;obtain⟨d,hd,rfl⟩:=I;obtain⟨j'',f,rfl⟩:=hv;have l:j'<n:=by
      have:=(zC.1 f).1;simpa using this
     have:j''=j':=by simp[l]at f;exact f.symm
     subst this;obtain⟨d',u,z⟩:=r j'' l;rw[hd]at z;cases z
     refine (X i x _ d M u).aez (fun b o B=>.inl B) fun c o Y _=>.inr ?_
     have:=hf _ _ _ Y;refine⟨(h.olt _ _ this.1).2,this.1,fun len' cap'' J=>?_⟩;rw[A]at J;injection J with q _ _;injection q with q;injection q with q _ _;exact this.2 q.symm
    ·intro j' v hv;simp only[List.getElem?_map,Option.map_eq_some_iff]at hv;obtain⟨j'',f,rfl⟩:=hv;have l:j'<n:=by
      have:=(zC.1 f).1;simpa using this
     have:j''=j':=by simp[l]at f;exact f.symm
     subst this;obtain⟨d',u,z⟩:=r j'' l;have:=C i x _ d' M u;rw[cell_of_row w _ _ _ _ _ hb,Nat.add_assoc,<- V];exact this
   ·cases hv
  ·rename_i hown;exact hpart _ _ _ _ _ _ _ _ _ _ B Z hown hv
  ·cases hv
 ·cases hv
theorem XE(h:Inv w0 G S a w){s:TypeId}{p:Operand}{f:Nat}(t:o.op=.fieldAddr s p f){E:Env}(u:E.tt.ok P=true){ws:List W}(hv:(eff E o).val S=some ws)
  (l:∀a' w' G',Inv w0 G' (S.puts ws) a' w'->K a' w'):o.wp P a w K Q:=by
 unfold eff at hv;rw[t]at hv;simp only at hv;split at hv
 ·cases hv
 rename_i fo agg n y;obtain⟨F,fd,d,i,z,A,hoff,B,hi,_,C,hpos⟩:=TT.RJ u y;simp only[Rd.aF,zB]at hv;obtain⟨av,D,hv⟩:=hv;have e:=bg h D;have run:∀g off,a.eval p=.pointer (some ⟨g,off,none⟩)->(execOp a.eval o).run P w=.ok (.value (.pointer (some ⟨g,off+fo,none⟩))) w:=by
  intro g off H;have m:i.size≠0:=by omega
  unfold execOp;simp only[t,H,Instr.fieldAt,Sem.run_bind,run_underlying z,Result.andThen_ok,A,Instr.sureAddr,Sem.run_pure,fieldPlace,sizeOf,typeInfo,run_program,hi];simp[m,hoff,addr_add]
 split at hv
 ·rename_i b off;simp only[Rd.val,zD]at hv;subst hv;exact aS (run _ _ e.2) (l _ _ _ (h.dst (av:=.v (.one (.ptr b (off+fo)))) ⟨e.1,rfl⟩))
 ·rename_i ty x off;simp only[Rd.val,zD]at hv;subst hv;obtain⟨b,of,c,I⟩:=e;refine aS (run _ _ c) (l _ _ _ (h.dst (av:=.elt ty x (off+fo)) ⟨b,of,?_,I⟩));rw[Nat.add_assoc]
 ·rename_i k j i sz off;simp only[Rd.val,zD]at hv;subst hv;obtain⟨q,b,len,cap,r,c⟩:=e;refine aS (run _ _ c) (l _ _ _ (h.dst (av:=.oelt k j i sz (off+fo)) ⟨q,b,len,cap,r,?_⟩));rw[Nat.add_assoc]
 ·cases hv
end ops
end Go.Abs
namespace Go.Abs
open Go.RowKit
theorem yu{α:Type}{xs:List α}{n:Int}{x:α}(h:idx xs n=some x):0<=n/\n<xs.length/\xs[n.toNat]?=some x:=by
 unfold idx at h;split at h
 ·rename_i a;have:=(zC.1 h).1;exact⟨a,by omega,h⟩
 ·cases h
theorem pM(b:ByteArray):b.data.toList.length=b.size:=by rw[Array.length_toList];rfl
theorem sK(b:ByteArray):b.toList=b.data.toList:=by
 have key:∀(n i:Nat) (r:List UInt8),b.size-i=n->ByteArray.toList.loop b i r=r.reverse++b.data.toList.drop i:=by
  intro n;induction n with
  | zero=>
   intro i r c;unfold ByteArray.toList.loop;have hi:¬i<b.size:=by omega
   rw[if_neg hi];have:b.data.toList.drop i=[]:=by
    rw[List.drop_eq_nil_iff];have:=pM b;omega
   rw[this];simp
  | succ n ih=>
   intro i r c;unfold ByteArray.toList.loop;have hi:i<b.size:=by omega
   rw[if_pos hi,ih (i+1) _ (by omega)];have a:i<b.data.toList.length:=by rw[pM];exact hi
   rw[List.drop_eq_getElem_cons a];have:b.get! i=b.data.toList[i]:=by
    have d:i<b.data.size:=hi;simp only[ByteArray.get!,Array.getElem_toList];exact getElem!_pos b.data i d
   rw[this];simp
 have:=key _ 0 [] rfl;simpa [ByteArray.toList] using this
section ops
variable {P:Program} {w0:Bs} {G:Gh} {S:St} {a:Act} {w:World} {o:Oper} {K:Act->World->Prop} {Q:Exit->Act->World->Prop}
theorem run_indexAt(T e:TypeId)(i:TypeInfo)(a:P.underlying T=some (.slice e))(hi:P.info? e=some i)(g off len cap:Nat)(k:IntKind)(n:Int)(b:0<=n)(c:n<len) :
  (Instr.indexAt T (.slice (some ⟨g,off,none⟩) len cap) (.int k n)).run P w=.ok (.pointer (some ⟨g,off+n.toNat*i.size,none⟩)) w:=by
 simp[Instr.indexAt,asIntOf,run_underlying a,b,c,sizeOf,typeInfo,hi,addr_add]
theorem XD(h:Inv w0 G S a w){T:TypeId}{x i:Operand}(H:o.op=.indexAddr T x i){E:Env}(J:E.tt.ok P=true){ws:List W}(hv:(eff E o).val S=some ws)
  (A:∀a' w' G',Inv w0 G' (S.puts ws) a' w'->K a' w'):o.wp P a w K Q:=by
 unfold eff at hv;rw[H]at hv;simp only at hv;split at hv
 ·cases hv
 rename_i t L;obtain⟨e,inf,z,M,hi,C,_⟩:=TT.jw J L;simp only[Rd.aF,zB]at hv;obtain⟨av,N,av',D,n,O,hv⟩:=hv;have r:=bg h N;obtain⟨kk,R⟩:=tJ O (bg h D);have run:∀g off len cap,a.eval x=.slice (some ⟨g,off,none⟩) len cap->0<=n->n<len->(execOp a.eval o).run P w=.ok (.value (.pointer (some ⟨g,off+n.toNat*t.size,none⟩))) w:=by
  intro g off len cap F s l;have:=run_indexAt (w:=w) T e inf M hi g off len cap kk n s l;rw[C]at this;unfold execOp;simp[H,F,R,this]
 have stable:∀(xs:List t.den) (y:t.den) (v:Value),Rep w G.S (.list t xs) v->a.eval x=v->idx xs n=some y->∃v',(execOp a.eval o).run P w=.ok (.value v') w/\jc G w (.elt t y 0) v':=by
  intro xs y v hrep F p;obtain⟨s,l,q⟩:=yu p;cases hrep with
  | nil=>simp at l;omega
  | emp=>simp at l;omega
  | list _ _ b off cap vs hcap U r=>
   refine⟨_,run b off _ cap F s l,b,off+n.toNat*t.size,rfl,fun j=>vs n.toNat j,fun j d hd=>?_⟩;have:=U _ _ _ _ q hd;rw[Nat.add_assoc];exact⟨this.1,this.2,r _ _ _ _ q hd⟩
 split at hv
 ·rename_i t' xs;split at hv
  ·rename_i c;subst c;simp only[Rd.val,zB,zD]at hv;obtain⟨y,p,rfl⟩:=hv;obtain⟨v',hrun,hrep⟩:=stable xs y _ r rfl p;exact aS hrun (A _ _ _ (h.dst hrep))
  ·cases hv
 ·rename_i k j;simp only[Rd.val]at hv;split at hv
  ·rename_i t' xs deep m hown;split at hv
   ·rename_i c;subst c;simp only[Rd.val,zB,zD]at hv;obtain⟨y,p,rfl⟩:=hv;obtain⟨s,l,q⟩:=yu p;have u:=h.owns k j;rw[hown]at u;rcases u with ⟨_,B⟩ | ⟨b,cap,arr,e',vs,fps,f,_⟩
    ·subst B;simp at l;omega
    refine aS (run b 0 xs.length cap (by rw[r.2.1];exact f) s l) (A _ _ _ (h.dst (av:=.oelt k j n.toNat t'.size 0) ⟨r.1,b,xs.length,cap,f,?_⟩));simp
   ·cases hv
  ·rename_i t' xs hown;split at hv
   ·rename_i c;subst c;simp only[Rd.val,zB,zD]at hv;obtain⟨y,p,rfl⟩:=hv;obtain⟨v',hrun,hrep⟩:=stable xs y _ (h.Xx hown) r.2.1 p;exact aS hrun (A _ _ _ (h.dst hrep))
   ·cases hv
  ·rename_i t' xs m hown;split at hv
   ·rename_i c;subst c;simp only[Rd.val,zB,zD]at hv;obtain⟨y,p,rfl⟩:=hv;obtain⟨s,l,q⟩:=yu p;have u:=h.owns k j;rw[hown]at u;rcases u with ⟨_,B⟩ | ⟨b,cap,arr,e',vs,fps,f,_⟩
    ·subst B;simp at l;omega
    refine aS (run b 0 xs.length cap (by rw[r.2.1];exact f) s l) (A _ _ _ (h.dst (av:=.oelt k j n.toNat t'.size 0) ⟨r.1,b,xs.length,cap,f,?_⟩));simp
   ·cases hv
  ·rename_i t' xs hown;split at hv
   ·rename_i c;subst c;simp only[Rd.val,zB,zD]at hv;obtain⟨y,p,rfl⟩:=hv;obtain⟨s,l,q⟩:=yu p;have u:=h.owns k j;rw[hown]at u;obtain⟨fp,V,X,Y⟩:=u;have I:ja w G.S t' xs n.toNat (G.ov k j) (gJ G k j):=(ja.Qw X V Y).at n.toNat;have D:=h.Hl k j (.part t' xs n.toNat) I;rcases I with ⟨_,B⟩ | ⟨b,cap,arr,e',vs,fps,f,_⟩
    ·subst B;simp at l;omega
    refine aS (run b 0 xs.length cap (by rw[r.2.1];exact f) s l) (A _ _ _ (D.dst (av:=.oelt k j n.toNat t'.size 0) ⟨r.1,b,xs.length,cap,f,?_⟩));simp
   ·cases hv
  ·cases hv
 ·cases hv
theorem aiP(h:Inv w0 G S a w){T:TypeId}{x i:Operand}(f:o.op=.index T x i){E:Env}(j:E.tt.ok P=true){ws:List W}(hv:(eff E o).val S=some ws)
  (k:∀a' w' G',Inv w0 G' (S.puts ws) a' w'->K a' w'):o.wp P a w K Q:=by
 unfold eff at hv;rw[f]at hv;simp only at hv;split at hv
 ·rename_i l;have m:=TT.O3 j l;simp only[Rd.aF,zB]at hv;obtain⟨av,p,d,q,hv⟩:=hv;have g:=nD q (bg h p);split at hv
  ·rename_i s;simp only[Rd.aF,zB,Rd.val,zD]at hv;obtain⟨av',r,n,t,c,u,rfl⟩:=hv;obtain⟨kk,y⟩:=tJ t (bg h r);obtain⟨z,D,A⟩:=yu u;generalize e:a.eval x=xv at g;cases g with
   | str v=>
    refine aS (v:=.int .u8 c.toNat) (w':=w) ?_ (k _ _ _ (h.dst (Rep.int _ _)));have B:v[n.toNat]?=some c:=by
     have b:n.toNat<v.size:=by
      have:=pM v;omega
     rw[getElem?_pos v n.toNat b];have:v.data.toList[n.toNat]?=some v[n.toNat]:=by
      have C:n.toNat<v.data.size:=b;rw[Array.getElem?_toList,getElem?_pos v.data n.toNat C];rfl
     rw[A]at this;exact this.symm
    unfold execOp;simp[f,e,y,Instr.index,asIntOf,run_underlying m,z,B]
  ·cases hv
 ·cases hv
theorem oC.get{xs:List V}{us:List Value}(h:oC G w xs us):xs.length=us.length/\∀(i:Nat) (x:V) (u:Value),xs[i]?=some x->us[i]?=some u->vC G w x u:=by
 induction xs generalizing us with
 | nil=>cases us with
  | nil=>exact⟨rfl,fun i x u b=>by simp at b⟩
  | cons u us=>exact h.elim
 | cons x xs ih=>cases us with
  | nil=>exact h.elim
  | cons u us=>
   obtain⟨c,d⟩:=ih h.2
   refine⟨by simp[c],fun i y v a hv=>?_⟩
   cases i with
   | zero=>simp at a hv;subst a;subst hv;exact h.1
   | succ i=>simp at a hv;exact d i y v a hv
theorem adf(h:Inv w0 G S a w){x:Operand}{i:Nat}(c:o.op=.extract x i){E:Env}{ws:List W}(hv:(eff E o).val S=some ws)
  (e:∀a' w' G',Inv w0 G' (S.puts ws) a' w'->K a' w'):o.wp P a w K Q:=by
 unfold eff at hv;rw[c]at hv;simp only[Rd.aF,zB]at hv;obtain⟨av,f,hv⟩:=hv;have g:=bg h f;split at hv
 ·rename_i vs;simp only[Rd.val,zB,zD]at hv;obtain⟨y,d,rfl⟩:=hv;obtain⟨us,j,b⟩:=g;obtain⟨l,k⟩:=b.get;have hi:i<us.length:=by have:=(zC.1 d).1;omega
  refine aS (v:=us[i]) (w':=w) ?_ (e _ _ _ (h.dst (tH (k i y us[i] d (by simp[hi])))));unfold execOp;simp[c,j,Instr.extract,hi]
 ·cases hv
theorem acA{p q:Str}{u v:Value}(c:Rep w G.S (.str p) u)(d:Rep w G.S (.str q) v)(f:p.length+q.length<=34359738368)(T:TypeId) :
  ∃r,(binOp .add T u v).run P w=.ok r w/\Rep w G.S (.str (p++q)) r:=by
 generalize a:D.str p=dp at c;generalize b:D.str q=dq at d;cases c<;>cases a
 cases d<;>cases b
 rename_i s s';rw[pM,pM]at f;refine⟨.string (s++s'),?_,?_⟩
 ·have:¬(((s.size+s'.size:Nat):Int)>IntKind.i64.max):=by
   have:IntKind.i64.max=9223372036854775807:=by decide
   rw[this];omega
  simp only[binOp,Op.stringOp];rw[if_neg this];rfl
 ·have e:s.data.toList++s'.data.toList=(s++s').data.toList:=by simp
  rw[e];exact .str _
theorem aj8{op:BinOp}{x y z:D}{u v:Value}(a:aoY op x y=some z)(b:Rep w G.S x u)(c:Rep w G.S y v)(T:TypeId)
  (e:∀p q,x=.bool p->y=.bool q->P.underlying T=some .bool) :
  ∃r,(binOp op T u v).run P w=.ok r w/\Rep w G.S z r:=by
 unfold aoY at a;split at a
 ·rename_i k p k' q;split at a
  ·rename_i f;subst f;cases b;cases c
   unfold binI at a;split at a<;>cases a<;>refine⟨_,?_,by first | exact Rep.int _ _ | exact Rep.bool _⟩<;>simp[binOp,Op.intArith,Op.intCmp,Op.intBits]<;>rfl
  ·cases a
 ·rename_i p q;cases b with
  | str s=>
  cases c with
  | str s'=>
   unfold binS at a;split at a
   all_goals
    first
     | (cases a;refine⟨_,?_,Rep.bool _⟩;simp[binOp,Op.stringOp,sK];done)
     | (cases a;refine⟨_,?_,Rep.bool _⟩;simp only[binOp,Op.stringOp,sK];rfl)
     | cases a
 ·rename_i p q;cases b;cases c
  have d:=e p q rfl rfl;unfold binB at a;split at a
  ·cases a;exact⟨_,run_eql_bool w T p q d,Rep.bool _⟩
  ·cases a;exact⟨_,run_neq_bool w T p q d,Rep.bool _⟩
  ·cases a
 ·cases a
end ops
end Go.Abs
namespace Go.Abs
open Go.RowKit
theorem VS(d e:D):∀(ds es:List D),ds.length=es.length->EW (d::ds) (e::es)=(eqD d e&&EW ds es)
 | [],[],_=>by simp[EW]
 | _::_,_::_,_=>rfl
theorem Nc:∀(b c f g:List D),b.length=c.length->f.length=g.length->EW (b++f) (c++g)=(EW b c&&EW f g)
 | [],[],f,g,_,_=>by simp[EW]
 | d::b,e::c,f,g,j,i=>by
  have a:b.length=c.length:=by simpa using j
  simp only[List.cons_append];rw[VS _ _ _ _ (by simp[a,i]),VS _ _ _ _ a,Nc b c f g a i,Bool.and_assoc]
 | [],_::_,_,_,h,_=>by simp at h
 | _::_,[],_,_,h,_=>by simp at h
theorem Lh:∀ {ks:List Kd} {cs:List C} {ds:List D},abI ks cs=some ds->cs=ds.map .d/\ds.map kd=ks
 | [],[],ds,h=>by simp only[abI,zD]at h;subst h;exact⟨rfl,rfl⟩
 | [],_::_,ds,h=>by simp[abI]at h
 | _::_,[],ds,h=>by simp[abI]at h
 | k::ks,c::cs,ds,h=>by
  simp only[abI]at h;split at h
  ·rename_i d hd;split at h
   ·rename_i ds' a;cases h
    obtain⟨b,e⟩:=Lh a;unfold cKd at hd;split at hd
    ·split at hd
     ·rename_i f;cases hd
      exact⟨by rw[b];rfl,by simp[f,e]⟩
     ·cases hd
    ·cases hd
   ·cases h
  ·cases h
section eqs
variable {P:Program} {w:World} {S:Nat->Nat->Prop}
def NP(w:World)(S:Nat->Nat->Prop)(ds:List D)(vs:List Value):Prop:=ds.length=vs.length/\∀(i:Nat) (d:D) (v:Value),ds[i]?=some d->vs[i]?=some v->Rep w S d v
theorem NP.seg{ds:List D}{vs:List Value}(h:NP w S ds vs)(o n:Nat):NP w S ((ds.drop o).take n) ((vs.drop o).take n):=by
 refine⟨by simp[h.1],fun i d v hd hv=>?_⟩;rw[List.getElem?_take]at hd hv;split at hd
 ·rename_i hi;rw[if_pos hi]at hv;rw[List.getElem?_drop]at hd hv;exact h.2 _ d v hd hv
 ·cases hd
theorem QM{d:D}{v:Value}{k:IntKind}(a:kd d=.int k)(h:Rep w S d v):∃n,d=.int k n/\v=.int k n:=by
 cases h<;>simp only[kd]at a<;>cases a
 exact⟨_,rfl,rfl⟩
theorem MO{d:D}{v:Value}(a:kd d=.bool)(h:Rep w S d v):∃b,d=.bool b/\v=.bool b:=by
 cases h<;>simp only[kd]at a<;>cases a
 exact⟨_,rfl,rfl⟩
theorem QL{d:D}{v:Value}(a:kd d=.str)(h:Rep w S d v):∃s:ByteArray,d=.str s.data.toList/\v=.string s:=by
 cases h<;>simp only[kd]at a<;>cases a
 exact⟨_,rfl,rfl⟩
def AP(P:Program)(t:TypeId)(vs:List Value):Value:=match P.underlying t with
 | some (.struct _)=>.agg vs.toArray
 | _=>vs.headD undef
theorem aah{t:TypeId}{ks:List Kd}{n:Nat}(b:UY P n t=some ks)(f:ks.length=P.cellsOf t){vs:List Value}{off:Nat}(g:off+ks.length<=vs.length) :
  (part t vs.toArray off).run P w=.ok (AP P t ((vs.drop off).take ks.length)) w:=by
 cases n with
 | zero=>simp[UY]at b
 | succ n=>
  rw[UY]at b;have one:∀d,P.underlying t=some d->Lm d=false->ks.length=1->(match d with | .struct _=>false | _=>true)=true->(part t vs.toArray off).run P w=.ok (AP P t ((vs.drop off).take ks.length)) w:=by
   intro d a hd h e;have hagg:(isAgg t).run P w=.ok false w:=by
    unfold isAgg;rw[Sem.run_bind,run_underlying a w];cases d<;>simp_all [Lm]
   have c:off<vs.length:=by omega
   have j:AP P t ((vs.drop off).take ks.length)=vs[off]:=by
    unfold AP;rw[a];have:((vs.drop off).take ks.length).headD undef=vs[off]:=by
     rw[h,List.drop_eq_getElem_cons c];rfl
    cases d<;>first | exact this | simp at e
   rw[j];simp[part,hagg,c]
  split at b
  ·rename_i a;cases b;exact one _ a rfl rfl rfl
  ·rename_i k a;cases b;exact one _ a rfl rfl rfl
  ·rename_i a;cases b;exact one _ a rfl rfl rfl
  ·rename_i fs a;have hagg:(isAgg t).run P w=.ok true w:=by
    unfold isAgg;rw[Sem.run_bind,run_underlying a w];rfl
   have hinfo:∃i,P.info? t=some i/\i.size=P.cellsOf t:=by
    unfold Program.underlying at a;cases hi:P.info? t with
    | none=>rw[hi]at a;cases a
    | some i=>exact⟨i,rfl,by simp[Program.cellsOf,hi]⟩
   obtain⟨i,hi,l⟩:=hinfo;unfold AP;rw[a];simp[part,hagg,sizeOf,typeInfo,hi,l,<- f]
  ·cases b
theorem abt:∀(n m:Nat) (t:TypeId) (ks:List Kd) (ds es:List D) (vs us:List Value),UY P n t=some ks->ds.map kd=ks->es.map kd=ks->NP w S ds vs->NP w S es us ->
  (Op.equalIn (n+m) t (AP P t vs) (AP P t us)).run P w=.ok (EW ds es) w
 | 0,m,t,ks,ds,es,vs,us,h,_,_,_,_=>by simp[UY]at h
 | n+1,m,t,ks,ds,es,vs,us,h,hd,x,hv,c=>by
  have Q:n+1+m=(n+m)+1:=by omega
  rw[Q];rw[UY]at h;split at h
  ·rename_i j;cases h
   obtain⟨d,rfl,o⟩:=List.map_eq_singleton_iff.1 hd;obtain⟨e,rfl,p⟩:=List.map_eq_singleton_iff.1 x;have q:=hv.1;match vs,q with
   | [v],_=>
   match us,c with
   | [u],c=>
    obtain⟨a,rfl,rfl⟩:=MO o (hv.2 0 _ _ rfl rfl);obtain⟨b,rfl,rfl⟩:=MO p (c.2 0 _ _ rfl rfl);simp only[AP,j,List.headD_cons];exact run_equalIn_bool' w (n+m) t a b j
   | [],c=>simp[NP]at c
   | _::_::_,c=>simp[NP]at c
  ·rename_i k j;cases h
   obtain⟨d,rfl,o⟩:=List.map_eq_singleton_iff.1 hd;obtain⟨e,rfl,p⟩:=List.map_eq_singleton_iff.1 x;have q:=hv.1;match vs,q with
   | [v],_=>
   match us,c with
   | [u],c=>
    obtain⟨a,rfl,rfl⟩:=QM o (hv.2 0 _ _ rfl rfl);obtain⟨b,rfl,rfl⟩:=QM p (c.2 0 _ _ rfl rfl);simp only[AP,j,List.headD_cons];exact run_equalIn_int w (n+m) t k k a b j
   | [],c=>simp[NP]at c
   | _::_::_,c=>simp[NP]at c
  ·rename_i j;cases h
   obtain⟨d,rfl,o⟩:=List.map_eq_singleton_iff.1 hd;obtain⟨e,rfl,p⟩:=List.map_eq_singleton_iff.1 x;have q:=hv.1;match vs,q with
   | [v],_=>
   match us,c with
   | [u],c=>
    obtain⟨a,rfl,rfl⟩:=QL o (hv.2 0 _ _ rfl rfl);obtain⟨b,rfl,rfl⟩:=QL p (c.2 0 _ _ rfl rfl);simp only[AP,j,List.headD_cons];rw[run_equalIn_string w (n+m) t a b j,sK,sK];rfl
   | [],c=>simp[NP]at c
   | _::_::_,c=>simp[NP]at c
  ·rename_i fs j;split at h
   ·cases h
   rename_i H;simp only[zB]at h;obtain⟨k,h,r⟩:=h;split at r
   case isFalse=>cases r
   rename_i R;obtain rfl:=aR r;have y:P.fieldsOf t=fs:=by simp[Program.fieldsOf,j]
   simp only[AP,j];rw[run_equalIn_struct w (n+m) t _ _ (by rw[y];exact j) (by simpa using H),y];have key:∀(fl:List Field) (off:Nat) (kk:List Kd),abr P (UY P n) off fl=some kk->off+kk.length<=ds.length->((ds.drop off).take kk.length).map kd=kk->((es.drop off).take kk.length).map kd=kk ->
     (Op.eqFields (n+m) vs.toArray us.toArray fl).run P w=.ok (EW ((ds.drop off).take kk.length) ((es.drop off).take kk.length)) w:=by
    intro fl;induction fl with
    | nil=>
     intro off kk g _ _ _;simp only[abr,zD]at g;subst g;simp[Op.eqFields,EW]
    | cons f fl ih=>
     intro off kk g z I J;simp only[abr]at g;split at g
     case isFalse=>cases g
     rename_i N;simp only[zB]at g;obtain⟨i,s,g⟩:=g;split at g
     case isFalse=>cases g
     rename_i A;rw[Option.map_eq_some_iff]at g;obtain⟨G,K,rfl⟩:=g;have B:=hv.1;have C:=c.1;have E:ds.length=es.length:=by
      have:=congrArg List.length (hd.trans x.symm);simpa using this
     rw[a6]at z;have F:∀(l:List D),(l.drop off).take (i++G).length=(l.drop off).take i.length++(l.drop (off+i.length)).take G.length:=by
      intro l;rw[a6,List.take_add,List.drop_drop]
     rw[F]at I J ⊢;rw[F];rw[List.map_append]at I J;have len1:∀(l:List D),off+(i.length+G.length)<=l.length->(((l.drop off).take i.length).map kd).length=i.length:=by
      intro l Z;simp;omega
     obtain⟨T,U⟩:=List.append_inj I (len1 ds z);obtain⟨V,W⟩:=List.append_inj J (len1 es (by omega));have X:=aah (w:=w) s A (vs:=vs) (off:=off) (by omega);have Y:=aah (w:=w) s A (vs:=us) (off:=off) (by omega);have L:=abt n m f.type i ((ds.drop off).take i.length) ((es.drop off).take i.length) ((vs.drop off).take i.length) ((us.drop off).take i.length) s T V (hv.seg _ _) (c.seg _ _);have M:=ih (off+i.length) G K (by omega) U W;rw[Nc _ _ _ _ (by simp[E]) (by simp[E])];simp only[Op.eqFields,N.1,ne_eq,not_false_eq_true,if_true,Sem.run_bind,N.2,X,Y,Result.andThen_ok,L];cases EW ((ds.drop off).take i.length) ((es.drop off).take i.length)with
     | false=>simp
     | true=>simpa using M
   have B:k.length=ds.length:=by rw[<- hd];simp
   have C:k.length=es.length:=by rw[<- x];simp
   have F:(ds.drop 0).take k.length=ds:=by rw[B];simp
   have O:(es.drop 0).take k.length=es:=by rw[C];simp
   have:=key fs.toList 0 k h (by omega) (by rw[F];exact hd) (by rw[O];exact x);rw[F,O]at this;exact this
  ·cases h
end eqs
end Go.Abs
