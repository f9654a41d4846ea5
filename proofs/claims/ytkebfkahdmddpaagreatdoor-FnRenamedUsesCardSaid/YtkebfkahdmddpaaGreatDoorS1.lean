import Derived.Test.YtkebfkahdmddpaaGreatDoorTypes
import Derived.Laws.StructEq
set_option linter.unusedSimpArgs false
set_option linter.unusedVariables false
/- What the abstract evaluator's states say of the machine's; the first operations. -/
namespace Go.Abs
open Go.RowKit
theorem Rd.aF{α β:Type}(p:Rd α)(g:α->Rd β)(S:St):(p.bind g).val S=(p.val S).bind fun a=>(g a).val S:=by
 induction p with
 | ret a=>rfl
 | fail=>rfl
 | gT i f ih=>exact ih _
 | gB i f ih=>exact ih _
 | gO i f ih=>exact ih _
 | gN f ih=>exact ih _
 | opt o f ih=>
  cases o with
  | none=>rfl
  | some x=>exact ih x
theorem Rd.kM{α ρ:Type}(p:Rd α)(S:St)(k:α->Option ρ):p.runK S k=(p.val S).bind k:=by
 induction p with
 | ret a=>rfl
 | fail=>rfl
 | gT i f ih=>exact ih _
 | gB i f ih=>exact ih _
 | gO i f ih=>exact ih _
 | gN f ih=>exact ih _
 | opt o f ih=>
  cases o with
  | none=>rfl
  | some x=>exact ih x
def Rd.yU{α:Type}:Rd α->St->List L->Option (α×List L)
 | .ret a,_,l=>some (a,l)
 | .fail,_,_=>none
 | .gT i f,S,l=>(f (S.iG i)).yU S (.t i::l)
 | .gB i f,S,l=>(f (S.fE i)).yU S (.b i::l)
 | .gO i f,S,l=>(f (S.aI i)).yU S (.o i::l)
 | .gN _,_,_=>none
 | .opt o f,S,l=>o.bind fun x=>(f x).yU S l
theorem Rd.afI{α ρ:Type}(p:Rd α)(S:St)(l:List L)(k:α->List L->Option ρ) :
  p.abD S l k=(p.yU S l).bind fun x=>k x.1 x.2:=by
 induction p generalizing l with
 | ret a=>rfl
 | fail=>rfl
 | gT i f ih=>exact ih _ _
 | gB i f ih=>exact ih _ _
 | gO i f ih=>exact ih _ _
 | gN f ih=>rfl
 | opt o f ih=>
  cases o with
  | none=>rfl
  | some x=>exact ih x l
theorem Rd.acV{α:Type}{p:Rd α}{S:St}:∀ {l:List L} {a:α} {rs:List L},p.yU S l=some (a,rs)->p.val S=some a:=by
 induction p with
 | ret a=>intro l b rs h;simp only[yU,zD,Prod.mk.injEq]at h;exact congrArg some h.1
 | fail=>intro l b rs h;cases h
 | gT i f ih=>intro l b rs h;exact ih _ h
 | gB i f ih=>intro l b rs h;exact ih _ h
 | gO i f ih=>intro l b rs h;exact ih _ h
 | gN f ih=>intro l b rs h;cases h
 | opt o f ih=>
  intro l b rs h;cases o with
  | none=>cases h
  | some x=>exact ih x h
theorem Rd.GY{α:Type}{p:Rd α}{S:St}:∀ {l:List L} {a:α} {rs:List L},p.yU S l=some (a,rs)->∀x,x∈l->x∈rs:=by
 induction p with
 | ret a=>intro l b rs h x c;simp only[yU,zD,Prod.mk.injEq]at h;exact h.2▸c
 | fail=>intro l b rs h;cases h
 | gT i f ih=>intro l b rs h x c;exact ih _ h x (aq _ c)
 | gB i f ih=>intro l b rs h x c;exact ih _ h x (aq _ c)
 | gO i f ih=>intro l b rs h x c;exact ih _ h x (aq _ c)
 | gN f ih=>intro l b rs h;cases h
 | opt o f ih=>
  intro l b rs h x c;cases o with
  | none=>cases h
  | some y=>exact ih y h x c
def agree(S S':St):L->Prop
 | .t i=>S'.iG i=S.iG i
 | .b i=>S'.fE i=S.fE i
 | .o i=>S'.aI i=S.aI i
theorem Rd.Le{α:Type}{p:Rd α}{S S':St}:∀ {l:List L} {a:α} {rs:List L},p.yU S l=some (a,rs)->(∀x,x∈rs->agree S S' x)->p.yU S' l=some (a,rs):=by
 induction p with
 | ret a=>intro l b rs h _;exact h
 | fail=>intro l b rs h;cases h
 | gT i f ih=>
  intro l b rs h c;have e:S'.iG i=S.iG i:=c (.t i) (GY (p:=f (S.iG i)) h (.t i) aw);simp only[yU,e];exact ih _ h c
 | gB i f ih=>
  intro l b rs h c;have e:S'.fE i=S.fE i:=c (.b i) (GY (p:=f (S.fE i)) h (.b i) aw);simp only[yU,e];exact ih _ h c
 | gO i f ih=>
  intro l b rs h c;have e:S'.aI i=S.aI i:=c (.o i) (GY (p:=f (S.aI i)) h (.o i) aw);simp only[yU,e];exact ih _ h c
 | gN f ih=>intro l b rs h;cases h
 | opt o f ih=>
  intro l b rs h c;cases o with
  | none=>cases h
  | some y=>exact ih y h c
inductive Rep(w:World)(S:Nat->Nat->Prop):D->Value->Prop
 | int (k:IntKind) (n:Int):Rep w S (.int k n) (.int k n)
 | bool (b:Bool):Rep w S (.bool b) (.bool b)
 | str (v:ByteArray):Rep w S (.str v.data.toList) (.string v)
 | nil (t:Ty):Rep w S (.list t []) (.slice none 0 0)
 | emp (t:Ty) (a:Addr) (cap:Nat):Rep w S (.list t []) (.slice (some a) 0 cap)
 | list (t:Ty) (xs:List t.den) (b off cap:Nat) (vs:Nat->Nat->Value) (hcap:xs.length<=cap)
   (hc:∀(i:Nat) (x:t.den) (j:Nat) (d:D),xs[i]?=some x->(t.cells x)[j]?=some d ->
    w.cell? ⟨b,off+(i*t.size+j),none⟩=some (vs i j)/\S b (off+(i*t.size+j)))
   (hr:∀(i:Nat) (x:t.den) (j:Nat) (d:D),xs[i]?=some x->(t.cells x)[j]?=some d->Rep w S d (vs i j)) :
   Rep w S (.list t xs) (.slice (some ⟨b,off,none⟩) xs.length cap)
theorem Rep.move{w w':World}{S S':Nat->Nat->Prop}{d:D}{v:Value}(h:Rep w S d v)
  (g:∀b o,S b o->S' b o/\w'.cell? ⟨b,o,none⟩=w.cell? ⟨b,o,none⟩):Rep w' S' d v:=by
 induction h with
 | int k n=>exact .int k n
 | bool b=>exact .bool b
 | str v=>exact .str v
 | nil t=>exact .nil t
 | emp t a cap=>exact .emp t a cap
 | list t xs b off cap vs hcap c l ih=>
  exact .list t xs b off cap vs hcap (fun i x j d e f=>⟨(g _ _ (c i x j d e f).2).2.trans (c i x j d e f).1,(g _ _ (c i x j d e f).2).1⟩) ih
theorem Rep.one{w:World}{S:Nat->Nat->Prop}{d:D}{v:Value}(h:Rep w S d v):v.oneCell'=true:=by
 cases h<;>rfl
inductive Ow(w:World)(S:Nat->Nat->Prop)(deep:Bool):D->Value->(Nat->Prop)->Prop
 | int (k:IntKind) (n:Int) (fp:Nat->Prop):Ow w S deep (.int k n) (.int k n) fp
 | bool (b:Bool) (fp:Nat->Prop):Ow w S deep (.bool b) (.bool b) fp
 | str (v:ByteArray) (fp:Nat->Prop):Ow w S deep (.str v.data.toList) (.string v) fp
 | nil (t:Ty) (fp:Nat->Prop):Ow w S deep (.list t []) (.slice none 0 0) fp
 | ro (d:D) (v:Value) (fp:Nat->Prop) (hd:deep=false) (h:Rep w S d v):Ow w S deep d v fp
 | list (t:Ty) (xs:List t.den) (b cap:Nat) (arr:Array Value) (E:TypeId) (vs:Nat->Nat->Value) (fps:Nat->Nat->Nat->Prop) (fp:Nat->Prop)
   (hb:w.heap[b]?=some (.cells arr E (0,0))) (hcap:xs.length<=cap) (hmax:cap<=maxLen) (hsz:arr.size=cap*t.size) (hfb:fp b)
   (hc:∀(i:Nat) (x:t.den) (j:Nat) (d:D),xs[i]?=some x->(t.cells x)[j]?=some d->arr[i*t.size+j]?=some (vs i j))
   (hr:∀(i:Nat) (x:t.den) (j:Nat) (d:D),xs[i]?=some x->(t.cells x)[j]?=some d->Ow w S deep d (vs i j) (fps i j))
   (hf:∀i j c,fps i j c->fp c/\c≠b)
   (hdis:∀i j i' j' c,fps i j c->fps i' j' c->i=i'/\j=j') :
   Ow w S deep (.list t xs) (.slice (some ⟨b,0,none⟩) xs.length cap) fp
theorem Ow.move{w w':World}{S S':Nat->Nat->Prop}{deep:Bool}{d:D}{v:Value}{fp:Nat->Prop}(h:Ow w S deep d v fp)
  (p:∀b o,S b o->S' b o/\w'.cell? ⟨b,o,none⟩=w.cell? ⟨b,o,none⟩) (a:∀b,fp b->w'.heap[b]?=w.heap[b]?):Ow w' S' deep d v fp:=by
 induction h with
 | int k n fp=>exact .int k n fp
 | bool b fp=>exact .bool b fp
 | str v fp=>exact .str v fp
 | nil t fp=>exact .nil t fp
 | ro d v fp f h=>exact .ro d v fp f (h.move p)
 | list t xs b cap arr E vs fps fp q hcap hmax g e r u m hdis ih=>
  exact .list t xs b cap arr E vs fps fp ((a b e).trans q) hcap hmax g e r (fun i x j d s f=>ih i x j d s f fun c l=>a c (m i j c l).1) m hdis
theorem Ow.sub{w:World}{S:Nat->Nat->Prop}{deep deep':Bool}{d:D}{v:Value}{fp fp':Nat->Prop}(h:Ow w S deep d v fp)
  (a:∀b,fp b->fp' b) (f:deep'=true->deep=true):Ow w S deep' d v fp':=by
 induction h generalizing fp' with
 | int k n fp=>exact .int k n _
 | bool b fp=>exact .bool b _
 | str v fp=>exact .str v _
 | nil t fp=>exact .nil t _
 | ro d v fp e h=>
  refine .ro d v _ ?_ h;cases g:deep' with
  | false=>rfl
  | true=>rw[f g]at e;cases e
 | list t xs b cap arr E vs fps fp p hcap hmax l m q r o hdis ih=>
  exact .list t xs b cap arr E vs fps fp' p hcap hmax l (a b m) q (fun i x j d g f=>ih i x j d g f fun _ h=>h) (fun i j c h=>⟨a c (o i j c h).1,(o i j c h).2⟩) hdis
theorem Ow.one{w:World}{S:Nat->Nat->Prop}{deep:Bool}{d:D}{v:Value}{fp:Nat->Prop}(h:Ow w S deep d v fp):v.oneCell'=true:=by
 cases h with
 | ro d v fp a h=>exact h.one
 | _=>rfl
theorem Ow.aac{w:World}{S S':Nat->Nat->Prop}{deep:Bool}{d:D}{v:Value}{fp:Nat->Prop}(h:Ow w S deep d v fp)
  (p:∀b o,S b o->S' b o) (a:∀b o,fp b->(∃u,w.cell? ⟨b,o,none⟩=some u)->S' b o):Rep w S' d v:=by
 induction h with
 | int k n fp=>exact .int k n
 | bool b fp=>exact .bool b
 | str v fp=>exact .str v
 | nil t fp=>exact .nil t
 | ro d v fp f h=>exact h.move fun b o q=>⟨p b o q,rfl⟩
 | list t xs b cap arr E vs fps fp r hcap hmax s g y A z hdis ih=>
  refine .list t xs b 0 cap vs hcap (fun i x j d l f=>?_) (fun i x j d l f=>ih i x j d l f fun c o m=>a c o (z i j c m).1);have e:w.cell? ⟨b,0+(i*t.size+j),none⟩=some (vs i j):=by
   simp only[Nat.zero_add,World.cell?,r];simpa using y i x j d l f
  exact⟨e,a b _ g ⟨_,e⟩⟩
inductive yT where
 | box (i:Nat)
 | own (k j:Nat)
structure Gh where
 bk:Nat->Nat
 ov:Nat->Nat->Value
 ow:Nat->Option yT
 S:Nat->Nat->Prop
 lk:Nat->Prop
 lb:Nat->Prop
def oG(G:Gh)(w:World):C->Value->Prop
 | .undef,v=>v.oneCell'=true
 | .d x,v=>Rep w G.S x v
 | .nil,v=>v=.slice none 0 0
 | .own k j,v=>G.lk k/\v=G.ov k j/\v.oneCell'=true
 | .ptr b off,v=>G.lb b/\v=.pointer (some ⟨G.bk b,off,none⟩)
theorem oG.one{G:Gh}{w:World}{c:C}{v:Value}(h:oG G w c v):v.oneCell'=true:=by
 cases c with
 | undef=>exact h
 | d x=>exact Rep.one h
 | nil=>rw[show v=_ from h];rfl
 | own k j=>exact h.2.2
 | ptr b off=>rw[show v=_ from h.2];rfl
def dB(G:Gh)(w:World):List C->List Value->Prop
 | [],[]=>True
 | c::cs,v::vs=>oG G w c v/\dB G w cs vs
 | _,_=>False
def tK(G:Gh)(w:World):V->Value->Prop
 | .one c,v=>oG G w c v
 | .agg cs,v=>∃vs:List Value,v=.agg vs.toArray/\dB G w cs vs
def nY(G:Gh)(w:World):List V->List Value->Prop
 | [],[]=>True
 | c::cs,v::vs=>tK G w c v/\nY G w cs vs
 | _,_=>False
def Vt(G:Gh)(w:World)(t:Ty)(x:t.den)(b o:Nat):Prop:=
 ∃vs:Nat->Value,∀(j:Nat) (d:D),(t.cells x)[j]?=some d->w.cell? ⟨b,o+j,none⟩=some (vs j)/\G.S b (o+j)/\Rep w G.S d (vs j)
def jq(G:Gh)(w:World):AV->Value->Prop
 | .undef,_=>True
 | .v x,v=>tK G w x v
 | .elt t x off,v=>∃b o,v=.pointer (some ⟨b,o+off,none⟩)/\Vt G w t x b o
 | .oelt k j i sz off,v=>G.lk k/\∃b len cap,G.ov k j=.slice (some ⟨b,0,none⟩) len cap/\v=.pointer (some ⟨b,i*sz+off,none⟩)
 | .cut t len n a c,v=>G.lk a/\G.lk c/\((v=.slice none 0 0/\n=0/\G.ov a 0=.slice none 0 0/\G.ov c 0=.slice none 0 0) \/
   ∃b cap,v=.slice (some ⟨b,0,none⟩) len cap/\len<=cap/\n<=len/\G.ov a 0=.slice (some ⟨b,0,none⟩) n cap/\G.ov c 0=.slice (some ⟨b,if cap=n then 0 else n*t.size,none⟩) (len-n) (cap-n))
 | .seg k,v=>G.lk k/\v=G.ov k 0
 | .pre k j n,v=>G.lk k/\((v=.slice none 0 0/\n=0/\G.ov k j=.slice none 0 0)\/∃b len cap,G.ov k j=.slice (some ⟨b,0,none⟩) len cap/\n<=len/\v=.slice (some ⟨b,0,none⟩) n cap)
 | .suf t k j m,v=>G.lk k/\∀(w':World) (S':Nat->Nat->Prop) (xs:List t.den),Rep w' S' (.list t xs) (G.ov k j)->Rep w' S' (.list t (xs.drop m)) v
 | .tup vs,v=>∃us:List Value,v=.tuple us.toArray/\nY G w vs us
def fU(G:Gh)(k j:Nat):Nat->Prop:=fun b=>G.ow b=some (.own k j)
def OwT(w:World)(S:Nat->Nat->Prop)(deep m:Bool)(t:Ty)(xs:List t.den)(v:Value)(fp:Nat->Prop):Prop:=
 (v=.slice none 0 0/\xs=[]) \/
 ∃(b cap:Nat) (arr:Array Value) (E:TypeId) (vs:Nat->Nat->Value) (fps:Nat->Nat->Nat->Prop),
  v=.slice (some ⟨b,0,none⟩) xs.length cap/\w.heap[b]?=some (.cells arr E (0,0))/\xs.length<=cap/\cap<=maxLen/\arr.size=cap*t.size/\fp b /\
  (∀(i:Nat) (x:t.den) (j:Nat) (d:D),xs[i]?=some x->(t.cells x)[j]?=some d->arr[i*t.size+j]?=some (vs i j)) /\
  (∀(i:Nat) (x:t.den) (j:Nat) (d:D),xs[i]?=some x->(t.cells x)[j]?=some d->Ow w S deep d (vs i j) (fps i j)) /\
  (∀i j c,fps i j c->fp c/\c≠b) /\
  (∀i j i' j' c,fps i j c->fps i' j' c->i=i'/\j=j') /\
  (∀o,S b o->m=false/\o<xs.length*t.size)
theorem OwT.ow{w:World}{S:Nat->Nat->Prop}{deep m:Bool}{t:Ty}{xs:List t.den}{v:Value}{fp:Nat->Prop}(h:OwT w S deep m t xs v fp) :
  Ow w S deep (.list t xs) v fp:=by
 rcases h with ⟨rfl,rfl⟩ | ⟨b,cap,arr,E,vs,fps,rfl,d,hcap,hmax,a,c,e,f,g,hdis,_⟩
 ·exact .nil t fp
 ·exact .list t xs b cap arr E vs fps fp d hcap hmax a c e f g hdis
def iL(w:World)(S:Nat->Nat->Prop)(t:Ty)(xs:List t.den)(i:Nat)(v:Value)(fp:Nat->Prop):Prop:=
 (v=.slice none 0 0/\xs=[]) \/
 ∃(b cap:Nat) (arr:Array Value) (E:TypeId) (vs:Nat->Nat->Value) (fps:Nat->Nat->Nat->Prop),
  v=.slice (some ⟨b,0,none⟩) xs.length cap/\w.heap[b]?=some (.cells arr E (0,0))/\xs.length<=cap/\cap<=maxLen/\arr.size=cap*t.size/\fp b /\
  (∀(i':Nat) (x:t.den) (j:Nat) (d:D),xs[i']?=some x->(t.cells x)[j]?=some d->arr[i'*t.size+j]?=some (vs i' j)) /\
  (∀(i':Nat) (x:t.den) (j:Nat) (d:D),i<=i'->xs[i']?=some x->(t.cells x)[j]?=some d->Ow w (fun _ _=>False) true d (vs i' j) (fps i' j)) /\
  (∀i' j c,i<=i'->fps i' j c->fp c/\c≠b/\∀o,¬S c o) /\
  (∀i' j i'' j' c,i<=i'->i<=i''->fps i' j c->fps i'' j' c->i'=i''/\j=j')
theorem iL.move{w w':World}{S S':Nat->Nat->Prop}{t:Ty}{xs:List t.den}{i:Nat}{v:Value}{fp fp':Nat->Prop}(h:iL w S t xs i v fp)
  (e:∀b,fp b->fp' b/\w'.heap[b]?=w.heap[b]?) (l:∀b o,fp b->S' b o->S b o):iL w' S' t xs i v fp':=by
 rcases h with h | ⟨b,cap,arr,E,vs,fps,rfl,m,hcap,hmax,k,f,n,p,g,hdis⟩
 ·exact .inl h
 ·exact .inr ⟨b,cap,arr,E,vs,fps,rfl,(e b f).2.trans m,hcap,hmax,k,(e b f).1,n,fun i' x j d hi q r=>(p i' x j d hi q r).move (fun _ _ h=>h.elim) fun c a=>(e c (g i' j c hi a).1).2,
   fun i' j c hi a=>⟨(e c (g i' j c hi a).1).1,(g i' j c hi a).2.1,fun o s=>(g i' j c hi a).2.2 o (l c o (g i' j c hi a).1 s)⟩,hdis⟩
theorem iL.succ{w:World}{S:Nat->Nat->Prop}{t:Ty}{xs:List t.den}{i:Nat}{v:Value}{fp:Nat->Prop}(h:iL w S t xs i v fp):iL w S t xs (i+1) v fp:=by
 rcases h with h | ⟨b,cap,arr,E,vs,fps,e,f,g,k,l,m,n,o,p,a⟩
 ·exact .inl h
 ·exact .inr ⟨b,cap,arr,E,vs,fps,e,f,g,k,l,m,n,fun i' x j d hi=>o i' x j d (by omega),fun i' j c hi=>p i' j c (by omega),fun i' j i'' j' c hi q=>a i' j i'' j' c (by omega) (by omega)⟩
theorem iL.NH{w:World}{S':Nat->Nat->Prop}{t:Ty}{xs:List t.den}{v:Value}{fp fp':Nat->Prop}(h:Ow w (fun _ _=>False) true (.list t xs) v fp)(m:∀c,fp c->fp' c)(n:∀b o,S' b o->¬fp b):iL w S' t xs 0 v fp':=by
 generalize a:D.list t xs=dd at h;cases h with
 | int=>cases a
 | bool=>cases a
 | str=>cases a
 | nil t'=>cases a;exact .inl ⟨rfl,rfl⟩
 | ro _ _ _ g=>cases g
 | list t' xs' b cap arr E vs fps _ p hcap hmax k l q r e hdis=>
  cases a
  exact .inr ⟨b,cap,arr,E,vs,fps,rfl,p,hcap,hmax,k,m _ l,q,fun i x j d _ s g=>r i x j d s g,fun i j c _ f=>⟨m _ (e i j c f).1,(e i j c f).2,fun o u=>n c o u (e i j c f).1⟩,fun i j i' j' c _ _=>hdis i j i' j' c⟩
theorem iL.at{w:World}{S:Nat->Nat->Prop}{t:Ty}{xs:List t.den}{v:Value}{fp:Nat->Prop}(h:iL w S t xs 0 v fp):∀i,iL w S t xs i v fp
 | 0=>h
 | i+1=>(iL.at h i).succ
def lQ(w:World)(S:Nat->Nat->Prop)(dp:Bool)(t:Ty)(xs:List t.den)(cells:List Value)(lab:Nat->Prop):Prop:=
 cells.length=xs.length*t.size/\(∀v∈cells,v.oneCell'=true)/\∃(vs:Nat->Nat->Value) (fps:Nat->Nat->Nat->Prop),
  (∀(i:Nat) (x:t.den) (j:Nat) (d:D),xs[i]?=some x->(t.cells x)[j]?=some d->cells[i*t.size+j]?=some (vs i j)/\Ow w S dp d (vs i j) (fps i j)) /\
  (∀i j c,fps i j c->lab c)/\(∀i j i' j' c,fps i j c->fps i' j' c->i=i'/\j=j')
def yY(w:World)(S:Nat->Nat->Prop)(t:Ty)(ys:List t.den)(v:Value)(lab:Nat->Prop):Prop:=
 ((∃(ad:Option Addr) (cap:Nat),v=.slice ad 0 cap/\(ad=none->cap=0))/\ys=[]) \/
 ∃b off cap news,v=.slice (some ⟨b,off,none⟩) ys.length cap/\(∀p u,news[p]?=some u->w.cell? ⟨b,off+p,none⟩=some u/\S b (off+p))/\lQ w S true t ys news lab
theorem lQ.move{w w':World}{S S':Nat->Nat->Prop}{dp:Bool}{t:Ty}{xs:List t.den}{cells:List Value}{lab lab':Nat->Prop}(h:lQ w S dp t xs cells lab)
  (m:∀b o,S b o->S' b o/\w'.cell? ⟨b,o,none⟩=w.cell? ⟨b,o,none⟩) (e:∀b,lab b->lab' b/\w'.heap[b]?=w.heap[b]?):lQ w' S' dp t xs cells lab':=by
 obtain⟨n,p,vs,fps,f,g,q⟩:=h;exact⟨n,p,vs,fps,fun i x j d k l=>⟨(f i x j d k l).1,(f i x j d k l).2.move m fun c a=>(e c (g i j c a)).2⟩,fun i j c a=>(e c (g i j c a)).1,q⟩
theorem yY.move{w w':World}{S S':Nat->Nat->Prop}{t:Ty}{xs:List t.den}{v:Value}{lab lab':Nat->Prop}(h:yY w S t xs v lab)
  (a:∀b o,S b o->S' b o/\w'.cell? ⟨b,o,none⟩=w.cell? ⟨b,o,none⟩) (e:∀b,lab b->lab' b/\w'.heap[b]?=w.heap[b]?):yY w' S' t xs v lab':=by
 rcases h with h | ⟨b,off,cap,news,f,c,g⟩
 ·exact .inl h
 ·exact .inr ⟨b,off,cap,news,f,fun p u d=>⟨(a _ _ (c p u d).2).2.trans (c p u d).1,(a _ _ (c p u d).2).1⟩,g.move a e⟩
def O.IsT(x:O)(t:Ty)(xs:List t.den):Prop:=x=.tree t xs\/(∃i,x=.part t xs i)\/x=.seg t xs
theorem O.IsT.aiu{x:O}{t:Ty}{xs:List t.den}(h:x.IsT t xs):x.gQ=.own t xs true true:=by
 rcases h with rfl | ⟨i,rfl⟩ | rfl<;>rfl
theorem O.Lr{x:O}{t:Ty}{xs:List t.den}{deep m:Bool}(h:x.tH=.own t xs deep m)(b:Ty)(a:List b.den)(c d:Bool):x.Ce.gQ≠.own b a c d:=by
 cases x<;>simp[O.tH,O.Ce,O.gQ]at h ⊢
def wV(G:Gh)(w:World)(k j:Nat):O->Prop
 | .dead=>True
 | .own t xs deep m=>OwT w G.S deep m t xs (G.ov k j) (fU G k j)
 | .ro t xs=>Rep w G.S (.list t xs) (G.ov k j)
 | .tree t xs=>∃fp:Nat->Prop,(∀b,fp b->fU G k j b)/\Ow w (fun _ _=>False) true (.list t xs) (G.ov k j) fp/\∀b o,G.S b o->¬fp b
 | .part t xs i=>iL w G.S t xs i (G.ov k j) (fU G k j)
 | .seg t xs=>yY w G.S t xs (G.ov k j) (fU G k j)
def BoxOk(G:Gh)(w:World)(i:Nat)(cs:List C):Prop:=
 G.ow (G.bk i)=some (.box i)/\∃(vs:List Value) (E:TypeId),w.heap[G.bk i]?=some (.cells vs.toArray E (0,0))/\dB G w cs vs
structure Bs where
 w:World
 S0:Nat->Nat->Prop
 F:Nat->Prop
 bx:Option Nat
structure qL(F:Nat->Prop)(B:Nat)(w w':World):Prop where
 os:w'.os=w.os
 tape:w'.tape=w.tape
 output:w'.output=w.output
 size:w.heap.size<=w'.heap.size
 block:∀k,k<B->¬F k->w'.heap[k]?=w.heap[k]?
theorem qL.trans{F:Nat->Prop}{B:Nat}{a b c:World}(h:qL F B a b)(k:qL F B b c):qL F B a c:=
 ⟨k.os.trans h.os,k.tape.trans h.tape,k.output.trans h.output,Nat.le_trans h.size k.size,fun i hi d=>(k.block i hi d).trans (h.block i hi d)⟩
theorem qL.aaC{F:Nat->Prop}{B:Nat}{w w':World}(h:Below w.heap.size w w')(a:B<=w.heap.size):qL F B w w':=⟨h.os,h.tape,h.output,h.size,fun k b _=>h.block k (aE b a)⟩
theorem qL.KC{F:Nat->Prop}{B:Nat}{w w':World}(h:qL F B w w')(a:∀c,¬F c):Below B w w':=⟨h.os,h.tape,h.output,h.size,fun k b=>h.block k b (a k)⟩
theorem qL.refl(F:Nat->Prop)(B:Nat)(w:World):qL F B w w:=⟨rfl,rfl,rfl,az _,fun _ _ _=>rfl⟩
structure mX(w0:Bs):Prop where
 keep:∀w',qL w0.F w0.w.heap.size w0.w w'->amb w'
 rows:∀c,w0.F c->pM<=c
theorem mX.none{w:World}{S:Nat->Nat->Prop}(h:amb w):mX ⟨w,S,fun _=>False,.none⟩:=
 ⟨fun _ b=>h.keep b.size fun k c=>b.block k (aE c h.size) fun a=>a,fun _ a=>a.elim⟩
theorem mX.box{w:World}{S:Nat->Nat->Prop}{bb:Nat}(h:amb w)(e:pM<=bb):mX ⟨w,S,fun c=>c=bb,some bb⟩:=
 ⟨fun _ b=>h.keep b.size fun k d=>b.block k (aE d h.size) fun a=>by have:k=bb:=a;omega,fun c a=>by have:c=bb:=a;omega⟩
theorem mX.base{w0:Bs}(h:mX w0):pM<=w0.w.heap.size:=(h.keep w0.w (qL.refl _ _ _)).size
theorem Lj(t:Ty)(x:t.den):(t.cells x).map lZ=t.tys:=by
 cases t with
 | base b=>cases b<;>rfl
 | list t=>rfl
theorem Base.pV(b:Base)(x:b.den):b.iO (b.cells x)=some x:=by
 cases b<;>first | rfl | (cases x;rfl) | (obtain⟨_,_,_,_,⟨⟩⟩:=x<;>rfl) | (obtain⟨_,⟨⟩⟩:=x<;>rfl) | (obtain⟨_,_,_,_,⟨⟩,_⟩:=x<;>rfl) | (obtain⟨_,_,⟨⟩,⟨⟩,_⟩:=x<;>rfl)
theorem Ty.pV(t:Ty)(x:t.den):t.iO (t.cells x)=some x:=by
 cases t with
 | base b=>exact Base.pV b x
 | list t=>simp[Ty.iO,Ty.cells,D.eF]
def uO(w w':World)(b:Nat):Prop:=∀(vs:List Value) (E:TypeId),w.heap[b]?=some (.cells vs.toArray E (0,0)) ->
 ∃(vs':List Value) (E':TypeId),w'.heap[b]?=some (.cells vs'.toArray E' (0,0))/\∀(i:Nat) p l c,vs[i]?=some (Value.slice p l c)->vs'[i]?=some (Value.slice p l c)
theorem uO.refl(w:World)(b:Nat):uO w w b:=fun vs E h=>⟨vs,E,h,fun _ _ _ _ h=>h⟩
theorem uO.trans{a b c:World}{k:Nat}(h:uO a b k)(g:uO b c k):uO a c k:=fun vs E e=>
 have ⟨d,j,m,n⟩:=h vs E e
 have ⟨f,o,q,r⟩:=g d j m
 ⟨f,o,q,fun i p l c hh=>r i p l c (n i p l c hh)⟩
theorem uO.same{a b c:World}{k:Nat}(h:uO a b k)(e:c.heap[k]?=b.heap[k]?):uO a c k:=fun vs E f=>
 have ⟨d,g,i,j⟩:=h vs E f
 ⟨d,g,e.trans i,j⟩
theorem Rep.det{w:World}{S S':Nat->Nat->Prop}{d d':D}{v:Value}(h:Rep w S d v)(c:Rep w S' d' v)(e:lZ d=lZ d'):d=d':=by
 induction h generalizing d' with
 | int k n=>cases c;rfl
 | bool b=>cases c;rfl
 | str v=>cases c;rfl
 | nil t=>cases c;cases e;rfl
 | emp t a cap=>
  generalize hv:Value.slice (some a) 0 cap=v at c;cases c with
  | emp t' a' cap'=>cases e;rfl
  | list t' xs' b off cap' vs hcap r z=>
   cases e
   have:0=xs'.length:=by injection hv
   rw[List.length_eq_zero_iff.1 this.symm]
  | _=>cases hv
 | list t xs b off cap vs hcap r z ih=>
  generalize hv:Value.slice (some ⟨b,off,none⟩) xs.length cap=v at c;cases c with
  | emp t' a' cap'=>
   cases e
   have:xs.length=0:=by injection hv
   rw[List.length_eq_zero_iff.1 this]
  | list t' xs' b' off' cap' vs' hcap' o p=>
   cases e
   injection hv with g A K;injection g with g;injection g with g B;subst g;subst B;have:xs=xs':=List.ext_getElem A fun i C E=>by
    have hcells:t.cells xs[i]=t.cells xs'[i]:=List.ext_getElem (by rw[Ty.bn,Ty.bn]) fun j F G=>by
     have s:xs[i]?=some xs[i]:=by simp[C]
     have m:xs'[i]?=some xs'[i]:=by simp[E]
     have q:(t.cells xs[i])[j]?=some (t.cells xs[i])[j]:=by simp[F]
     have f:(t.cells xs'[i])[j]?=some (t.cells xs'[i])[j]:=by simp[G]
     have H:=(r i _ j _ s q).1;have I:=(o i _ j _ m f).1;have J:vs i j=vs' i j:=a6 (H.symm.trans I);have u:=p i _ j _ m f;rw[<- J]at u;refine ih i _ j _ s q u ?_;have x:=congrArg (fun l=>l[j]?) ((Lj t xs[i]).trans (Lj t xs'[i]).symm);simp only[List.getElem?_map,q,f,Option.map_some,zD]at x;exact x
    have y:=Ty.pV t xs[i];rw[hcells,Ty.pV]at y;exact (a6 y).symm
   rw[this]
  | _=>cases hv
structure Inv(w0:Bs)(G:Gh)(S:St)(a:Act)(w:World):Prop where
 below:qL w0.F w0.w.heap.size w0.w w
 nodef:a.defers=[]
 tsz:a.tmps.size=S.tmps.length
 bsz:S.boxes.length=S.tmps.length
 osz:S.owns.length=S.tmps.length
 tmps:∀i v,a.tmps[i]?=some v->jq G w (S.iG i) v
 olt:∀b x,G.ow b=some x->(w0.w.heap.size<=b\/x=.box 0/\w0.F b)/\b<w.heap.size
 sok:∀b o,G.S b o->b<w.heap.size/\∀i,G.ow b≠some (.box i)
 box:∀i cs,S.fE i=some cs->BoxOk G w i cs
 owns:∀k j,wV G w k j (aY (S.aI k) j)
 lk:∀k,G.lk k->S.aI k≠[]
 lb:∀i,G.lb i->S.fE i≠none
 sfr:∀b o,G.S b o->b<w0.w.heap.size->w0.S0 b o
 fx:∀b,w0.bx=some b->G.bk 0=b/\(b<w0.w.heap.size->uO w0.w w b)
structure Mv(G G':Gh)(w w':World):Prop where
 s:∀b o,G.S b o->G'.S b o/\w'.cell? ⟨b,o,none⟩=w.cell? ⟨b,o,none⟩
 k:∀k,G.lk k->G'.lk k/\∀j,G'.ov k j=G.ov k j
 b:∀i,G.lb i->G'.lb i/\G'.bk i=G.bk i
theorem oG.move{G G':Gh}{w w':World}(a:Mv G G' w w'){c:C}{v:Value}(h:oG G w c v):oG G' w' c v:=by
 cases c with
 | undef=>exact h
 | d x=>exact Rep.move h a.s
 | nil=>exact h
 | own k j=>exact⟨(a.k k h.1).1,by rw[(a.k k h.1).2 j];exact h.2.1,h.2.2⟩
 | ptr b off=>exact⟨(a.b b h.1).1,by rw[(a.b b h.1).2];exact h.2⟩
theorem dB.get{G:Gh}{w:World}:∀ {cs:List C} {vs:List Value},dB G w cs vs->cs.length=vs.length/\∀(i:Nat) (c:C) (v:Value),cs[i]?=some c->vs[i]?=some v->oG G w c v
 | [],[],_=>⟨rfl,fun i c v h=>by simp at h⟩
 | c::cs,v::vs,h=>by
  obtain⟨b,d⟩:=h;obtain⟨e,f⟩:=dB.get d;refine⟨by simp[e],fun i c' v' a hv=>?_⟩;cases i with
  | zero=>simp at a hv;subst a;subst hv;exact b
  | succ i=>simp at a hv;exact f i c' v' a hv
theorem dB.mk{G:Gh}{w:World}:∀ {cs:List C} {vs:List Value},cs.length=vs.length->(∀(i:Nat) (c:C) (v:Value),cs[i]?=some c->vs[i]?=some v->oG G w c v)->dB G w cs vs
 | [],[],_,_=>trivial
 | c::cs,v::vs,a,h=>⟨h 0 c v rfl rfl,dB.mk (by simpa using a) fun i c' v' b hv=>h (i+1) c' v' (by simpa using b) (by simpa using hv)⟩
theorem dB.move{G G':Gh}{w w':World}(a:Mv G G' w w'){cs:List C}{vs:List Value}(h:dB G w cs vs):dB G' w' cs vs:=by
 obtain⟨b,d⟩:=h.get;exact dB.mk b fun i c v e hv=>(d i c v e hv).move a
theorem dB.one{G:Gh}{w:World}{cs:List C}{vs:List Value}(h:dB G w cs vs):∀v,v∈vs->v.oneCell'=true:=by
 obtain⟨c,a⟩:=h.get;intro v hv;obtain⟨i,hi,rfl⟩:=List.mem_iff_getElem.1 hv;have b:i<cs.length:=by omega
 exact (a i cs[i] vs[i] (by simp[b]) (by simp[hi])).one
theorem tK.move{G G':Gh}{w w':World}(a:Mv G G' w w'){x:V}{v:Value}(h:tK G w x v):tK G' w' x v:=by
 cases x with
 | one c=>exact oG.move a h
 | agg cs=>obtain⟨vs,hv,b⟩:=h;exact⟨vs,hv,b.move a⟩
theorem nY.move{G G':Gh}{w w':World}(a:Mv G G' w w'):∀ {xs:List V} {vs:List Value},nY G w xs vs->nY G' w' xs vs
 | [],[],_=>trivial
 | _::_,_::_,h=>⟨h.1.move a,nY.move a h.2⟩
theorem Vt.move{G G':Gh}{w w':World}(a:Mv G G' w w'){t:Ty}{x:t.den}{b o:Nat}(h:Vt G w t x b o):Vt G' w' t x b o:=by
 obtain⟨vs,h⟩:=h;refine⟨vs,fun j d e=>?_⟩;obtain⟨f,c,g⟩:=h j d e;exact⟨(a.s _ _ c).2.trans f,(a.s _ _ c).1,g.move a.s⟩
theorem jq.move{G G':Gh}{w w':World}(a:Mv G G' w w'){x:AV}{v:Value}(h:jq G w x v):jq G' w' x v:=by
 cases x with
 | undef=>trivial
 | v x=>exact tK.move a h
 | elt t x off=>obtain⟨b,o,hv,l⟩:=h;exact⟨b,o,hv,l.move a⟩
 | oelt k j i sz off=>obtain⟨c,b,len,cap,p,hv⟩:=h;exact⟨(a.k k c).1,b,len,cap,by rw[(a.k k c).2 j];exact p,hv⟩
 | cut t len n d e=>
  obtain⟨f,g,q⟩:=h;refine⟨(a.k d f).1,(a.k e g).1,?_⟩;rw[(a.k d f).2 0,(a.k e g).2 0];exact q
 | seg k=>exact⟨(a.k k h.1).1,by rw[(a.k k h.1).2 0];exact h.2⟩
 | pre k j n=>exact⟨(a.k k h.1).1,by rw[(a.k k h.1).2 j];exact h.2⟩
 | suf t k j m=>exact⟨(a.k k h.1).1,by rw[(a.k k h.1).2 j];exact h.2⟩
 | tup vs=>obtain⟨us,hv,r⟩:=h;exact⟨us,hv,r.move a⟩
theorem OwT.move{w w':World}{S S':Nat->Nat->Prop}{deep m:Bool}{t:Ty}{xs:List t.den}{v:Value}{fp fp':Nat->Prop}(h:OwT w S deep m t xs v fp)
  (l:∀b o,S b o->S' b o/\w'.cell? ⟨b,o,none⟩=w.cell? ⟨b,o,none⟩) (a:∀b,fp b->fp' b/\w'.heap[b]?=w.heap[b]?)
  (n:∀b len cap,v=.slice (some ⟨b,0,none⟩) len cap->fp b->∀o,S' b o->S b o\/(m=false/\o<xs.length*t.size)):OwT w' S' deep m t xs v fp':=by
 rcases h with h | ⟨b,cap,arr,E,vs,fps,rfl,p,hcap,hmax,g,f,q,r,k,hdis,s⟩
 ·exact .inl h
 ·refine .inr ⟨b,cap,arr,E,vs,fps,rfl,(a b f).2.trans p,hcap,hmax,g,(a b f).1,q,?_,?_,hdis,?_⟩
  ·exact fun i x j d u y=>(r i x j d u y).move l fun c e=>(a c (k i j c e).1).2
  ·exact fun i j c e=>⟨(a c (k i j c e).1).1,(k i j c e).2⟩
  ·intro o z;rcases n b _ _ rfl f o z with h | h
   ·exact s o h
   ·exact h
theorem RQ(S:St)(i:Nat)(v:AV)(j:Nat):(S.iY i v).iG j=if i=j/\i<S.tmps.length then v else S.iG j:=by
 simp only[St.iG,St.iY,zE,List.getElem?_set];by_cases h:i=j
 ·subst h;by_cases a:i<S.tmps.length<;>simp[a]
 ·simp[h]
theorem acr(S:St)(i:Nat)(v:Option (List C))(j:Nat):(S.setB i v).aI j=S.aI j:=rfl
theorem jP(S:St)(i:Nat)(v:Option (List C))(j:Nat):(S.setB i v).fE j=if i=j/\i<S.boxes.length then v else S.fE j:=by
 simp only[St.fE,St.setB,zE,List.getElem?_set];by_cases h:i=j
 ·subst h;by_cases a:i<S.boxes.length<;>simp[a]
 ·simp[h]
theorem bF(S:St)(i:Nat)(v:List O)(j:Nat):(S.cO i v).aI j=if i=j/\i<S.owns.length then v else S.aI j:=by
 simp only[St.aI,St.cO,zE,List.getElem?_set];by_cases h:i=j
 ·subst h;by_cases a:i<S.owns.length<;>simp[a]
 ·simp[h]
section steps
variable {w0:Bs} {G:Gh} {S:St} {a:Act} {w:World}
theorem Inv.mD(h:Inv w0 G S a w){b k j:Nat}(d:G.ow b=some (.own k j)):w0.w.heap.size<=b/\b<w.heap.size:=by
 obtain⟨c,e⟩:=h.olt b _ d;rcases c with c | ⟨hi,_⟩
 ·exact⟨c,e⟩
 ·cases hi
theorem Inv.iY(h:Inv w0 G S a w)(d:Nat){av:AV}{v:Value}(hv:jq G w av v):Inv w0 G (S.iY d av) (a.put (some d) v) w:=by
 refine⟨h.below,h.nodef,?_,by simp[St.iY,h.bsz],by simp[St.iY,h.osz],?_,h.olt,h.sok,fun i cs f=>h.box i cs f,fun k j=>h.owns k j,fun k g=>h.lk k g,fun i hi=>h.lb i hi,h.sfr,h.fx⟩
 ·simp[Act.put,St.iY,h.tsz]
 ·intro i u b;rw[RQ];simp only[Act.put,Array.getElem?_setIfInBounds]at b;by_cases e:d=i
  ·subst e;by_cases c:d<a.tmps.size
   ·simp[c]at b;subst b;have:d<S.tmps.length:=h.tsz▸c;simp[this];exact hv
   ·simp[c]at b
  ·simp[e]at b ⊢;exact h.tmps i u b
theorem Inv.grow(h:Inv w0 G S a w){w':World}(e:Below w.heap.size w w'):Inv w0 G S a w':=by
 have u:=e.size;have hcell:∀b o,b<w.heap.size->w'.cell? ⟨b,o,none⟩=w.cell? ⟨b,o,none⟩:=fun b o l=>e.cell (p:=⟨b,o,none⟩) l
 have f:Mv G G w w':=⟨fun b o g=>⟨g,hcell b o (h.sok b o g).1⟩,fun k y=>⟨y,fun _=>rfl⟩,fun i hi=>⟨hi,rfl⟩⟩;refine⟨h.below.trans (.aaC e h.below.size),h.nodef,h.tsz,h.bsz,h.osz,fun i v hv=>(h.tmps i v hv).move f,fun b x d=>⟨(h.olt b x d).1,by have:=(h.olt b x d).2;omega⟩,
  fun b o g=>⟨by have:=(h.sok b o g).1;omega,(h.sok b o g).2⟩,?_,?_,h.lk,h.lb,h.sfr,fun b d=>⟨(h.fx b d).1,fun l=>((h.fx b d).2 l).same (e.block b (aE l h.below.size))⟩⟩
 ·intro i cs q;obtain⟨n,vs,E,hh,z⟩:=h.box i cs q;exact⟨n,vs,E,(e.block _ (h.olt _ _ n).2).trans hh,z.move f⟩
 ·intro k j;have:=h.owns k j;revert this;generalize aY (S.aI k) j=x;intro d;cases x with
  | dead=>trivial
  | own t xs deep m=>exact OwT.move d f.s (fun b c=>⟨c,e.block _ (h.olt _ _ c).2⟩) (fun _ _ _ _ _ o n=>.inl n)
  | ro t xs=>exact Rep.move d f.s
  | tree t xs=>
   obtain⟨fp,r,A,B⟩:=d;exact⟨fp,r,A.move (fun _ _ h=>h.elim) fun b c=>e.block _ (h.olt _ _ (r b c)).2,B⟩
  | part t xs i=>exact iL.move d (fun b c=>⟨c,e.block _ (h.olt _ _ c).2⟩) fun _ _ _ h=>h
  | seg t xs=>exact yY.move d f.s fun b c=>⟨c,e.block _ (h.olt _ _ c).2⟩
end steps
end Go.Abs
namespace Go.Abs
open Go.RowKit
theorem ig(os:List O)(j:Nat)(x:O)(j':Nat):aY (os.set j x) j'=if j=j'/\j<os.length then x else aY os j':=by
 simp only[aY,zE,List.getElem?_set];by_cases h:j=j'
 ·subst h;by_cases a:j<os.length<;>simp[a]
 ·simp[h]
theorem FD{S:St}{a:Act}{d:Nat}{v:Value}(b:a.tmps.size=S.tmps.length)(c:¬d<S.tmps.length):a.put (some d) v=a:=by
 simp only[Act.put];rw[Array.setIfInBounds_eq_of_size_le (by omega)]
theorem zn{S:St}{d:Nat}{v:AV}(a:¬d<S.tmps.length):S.iY d v=S:=by
 cases S;simp only[St.iY]at *;rw[List.set_eq_of_length_le (by omega)]
theorem adg{S:St}{d:Nat}{v:Option (List C)}(a:¬d<S.boxes.length):S.setB d v=S:=by
 cases S;simp only[St.setB]at *;rw[List.set_eq_of_length_le (by omega)]
theorem zo{S:St}{d:Nat}{v:List O}(a:¬d<S.owns.length):S.cO d v=S:=by
 cases S;simp only[St.cO]at *;rw[List.set_eq_of_length_le (by omega)]
section steps
variable {w0:Bs} {G:Gh} {S:St} {a:Act} {w:World}
theorem wV.same{G':Gh}{w':World}{k j:Nat}{x:O}(h:wV G w k j x)(c:G'.ov k j=G.ov k j)
  (e:∀b o,G.S b o->G'.S b o/\w'.cell? ⟨b,o,none⟩=w.cell? ⟨b,o,none⟩)
  (hown:∀t xs deep m,x=.own t xs deep m->(∀b,fU G k j b->fU G' k j b/\w'.heap[b]?=w.heap[b]?) /\
   ∀b len cap,G.ov k j=.slice (some ⟨b,0,none⟩) len cap->fU G k j b->∀o,G'.S b o->G.S b o\/(m=false/\o<xs.length*t.size))
  (htree:∀t xs,x.IsT t xs->∀b,fU G k j b->fU G' k j b/\w'.heap[b]?=w.heap[b]?/\∀o,G'.S b o->G.S b o):wV G' w' k j x:=by
 cases x with
 | dead=>trivial
 | own t xs deep m=>
  obtain⟨d,f⟩:=hown t xs deep m rfl;show OwT w' G'.S deep m t xs (G'.ov k j) (fU G' k j)
  rw[c];exact OwT.move h e d f
 | ro t xs=>
  show Rep w' G'.S (.list t xs) (G'.ov k j)
  rw[c];exact Rep.move h e
 | tree t xs=>
  obtain⟨fp,d,f,l⟩:=h;have hh:=htree t xs (.inl rfl);refine⟨fp,fun b a=>(hh b (d b a)).1,?_,fun b o g a=>l b o ((hh b (d b a)).2.2 o g) a⟩;rw[c];exact f.move (fun _ _ h=>h.elim) fun b a=>(hh b (d b a)).2.1
 | part t xs i=>
  have hh:=htree t xs (.inr (.inl ⟨i,rfl⟩));show iL w' G'.S t xs i (G'.ov k j) (fU G' k j)
  rw[c];exact iL.move h (fun b a=>⟨(hh b a).1,(hh b a).2.1⟩) fun b o a g=>(hh b a).2.2 o g
 | seg t xs=>
  have hh:=htree t xs (.inr (.inr rfl));show yY w' G'.S t xs (G'.ov k j) (fU G' k j)
  rw[c];exact yY.move h e fun b a=>⟨(hh b a).1,(hh b a).2.1⟩
theorem Inv.ZT(h:Inv w0 G S a w)(A:Nat->Nat->Prop)
  (f:∀b o,A b o->b<w.heap.size/\(∀i,G.ow b≠some (.box i))/\∀k j t xs deep m,aY (S.aI k) j=.own t xs deep m ->
   ∀len cap,G.ov k j=.slice (some ⟨b,0,none⟩) len cap->G.ow b=some (.own k j)->m=false/\o<xs.length*t.size)
  (g:∀b o,A b o->w0.w.heap.size<=b) (hAT:∀b o,A b o->∀k j t xs,(aY (S.aI k) j).IsT t xs->G.ow b≠some (.own k j)):Inv w0 { G with S:=fun b o=>G.S b o\/A b o } S a w/\Mv G { G with S:=fun b o=>G.S b o\/A b o } w w:=by
 have e:Mv G { G with S:=fun b o=>G.S b o\/A b o } w w:=⟨fun b o c=>⟨.inl c,rfl⟩,fun k p=>⟨p,fun _=>rfl⟩,fun i hi=>⟨hi,rfl⟩⟩;refine⟨⟨h.below,h.nodef,h.tsz,h.bsz,h.osz,fun i v hv=>(h.tmps i v hv).move e,h.olt,?_,?_,?_,h.lk,h.lb,fun b o c q=>c.elim (fun c=>h.sfr b o c q) fun c=>absurd (g b o c) (by omega),h.fx⟩,e⟩
 ·intro b o c;rcases c with c | c
  ·exact h.sok b o c
  ·exact⟨(f b o c).1,(f b o c).2.1⟩
 ·intro i cs l;obtain⟨r,vs,E,hh,u⟩:=h.box i cs l;exact⟨r,vs,E,hh,u.move e⟩
 ·intro k j;refine (h.owns k j).same rfl e.s (fun t xs deep m n=>⟨fun b d=>⟨d,rfl⟩,fun b len cap hv d o c=>?_⟩) fun t xs n b d=>⟨d,rfl,fun o c=>?_⟩
  ·rcases c with c | c
   ·exact .inl c
   ·exact .inr ((f b o c).2.2 k j t xs deep m n len cap hv d)
  ·rcases c with c | c
   ·exact c
   ·exact absurd d (hAT b o c k j t xs n)
theorem Inv.xR(h:Inv w0 G S a w)(i b:Nat)(B:i≠0)(hi:S.fE i=none)(D:w0.w.heap.size<=b)(F:G.ow b=none)(L:∀o,¬G.S b o)
  {cs:List C} {vs:List Value} {E:TypeId} (hh:w.heap[b]?=some (.cells vs.toArray E (0,0))) (M:dB G w cs vs) :
  ∃G',Inv w0 G' ((S.setB i (some cs)).iY i (.v (.one (.ptr i 0)))) (a.put (some i) (.pointer (some ⟨b,0,none⟩))) w:=by
 have H:b<w.heap.size:=(aR.1 hh).1;by_cases l:i<S.tmps.length
 case neg=>
  refine⟨G,?_⟩
  rw[FD h.tsz l,adg (by rw[h.bsz];exact l),zn l]
  exact h
 have I:¬G.lb i:=fun N=>h.lb i N hi
 let G':Gh:={ G with bk:=fun x=>if x=i then b else G.bk x,ow:=fun x=>if x=b then some (.box i)else G.ow x,lb:=fun x=>x=i\/G.lb x };have A:Mv G G' w w:=⟨fun b o p=>⟨p,rfl⟩,fun k O=>⟨O,fun _=>rfl⟩,fun x f=>⟨.inr f,by
  show (if x=i then b else G.bk x)=_
  rw[if_neg (fun e:x=i=>I (e▸f))]⟩⟩
 have howb:∀x y,G.ow x=some y->G'.ow x=some y:=fun x y f=>by
  show (if x=b then some (.box i)else G.ow x)=_
  rw[if_neg (fun e:x=b=>by rw[e,F]at f;cases f)];exact f
 refine⟨G',?_⟩;refine Inv.iY (G:=G') (S:=S.setB i (some cs)) ?_ i (av:=.v (.one (.ptr i 0))) ⟨.inl rfl,?_⟩
 ·refine⟨h.below,h.nodef,h.tsz,by simp[St.setB,h.bsz],by simp[St.setB,h.osz],fun x v hv=>(h.tmps x v hv).move A,?_,?_,?_,?_,h.lk,?_,h.sfr,fun q K=>by
   refine⟨?_,(h.fx q K).2⟩;show (if 0=i then b else G.bk 0)=q
   rw[if_neg (fun e=>B e.symm)];exact (h.fx q K).1⟩
  ·intro x y f;by_cases r:x=b
   ·subst r;exact⟨.inl D,H⟩
   ·have:G.ow x=some y:=by
     have u:(if x=b then some (yT.box i)else G.ow x)=some y:=f;rw[if_neg r]at u;exact u
    exact h.olt x y this
  ·intro x o p;refine⟨(h.sok x o p).1,fun k=>?_⟩;have r:x≠b:=fun e=>L o (e▸p)
   show (if x=b then some (yT.box i)else G.ow x)≠_
   rw[if_neg r];exact (h.sok x o p).2 k
  ·intro x cs' d;rw[jP]at d;by_cases g:i=x
   ·subst g;rw[if_pos ⟨rfl,by rw[h.bsz];exact l⟩]at d;cases d
    refine⟨?_,vs,E,?_,M.move A⟩
    ·show (if (if i=i then b else G.bk i)=b then some (yT.box i)else _)=_
     simp
    ·show w.heap[if i=i then b else G.bk i]?=_
     simpa using hh
   ·rw[if_neg (fun e=>g e.1)]at d;obtain⟨P,vs',E',J,n⟩:=h.box x cs' d;have z:G'.bk x=G.bk x:=by show (if x=i then b else G.bk x)=_;rw[if_neg (fun e=>g e.symm)]
    exact⟨by rw[z];exact howb _ _ P,vs',E',by rw[z];exact J,n.move A⟩
  ·intro k j;refine (h.owns k j).same rfl A.s (fun t xs deep m f=>⟨fun c n=>⟨howb _ _ n,rfl⟩,fun _ _ _ _ _ o p=>.inl p⟩) fun t xs f c n=>⟨howb _ _ n,rfl,fun o p=>p⟩
  ·intro x f;rw[jP];by_cases g:i=x
   ·rw[if_pos ⟨g,by rw[h.bsz];exact l⟩];simp
   ·rw[if_neg (fun e=>g e.1)];rcases f with f | f
    ·exact absurd f.symm g
    ·exact h.lb x f
 ·show Value.pointer _=.pointer (some ⟨if i=i then b else G.bk i,0,none⟩)
  simp
theorem Inv.aim(h:Inv w0 G S a w)(i:Nat){cs cs':List C}(hi:S.fE i=some cs){vs':List Value}(D:dB G w cs' vs')(hkeep:i=0->∀(vs:List Value) (E:TypeId),w.heap[G.bk i]?=some (.cells vs.toArray E (0,0))->∀(n:Nat) p l c,vs[n]?=some (Value.slice p l c)->vs'[n]?=some (Value.slice p l c)) :
  Inv w0 G (S.setB i (some cs')) a (w.setRow (G.bk i) vs'.toArray):=by
 obtain⟨A,vs,E,hh,_⟩:=h.box i cs hi;have B:=h.olt _ _ A;have hoth:∀b,b≠G.bk i->(w.setRow (G.bk i) vs'.toArray).heap[b]?=w.heap[b]?:=fun b N=>setRow_other w _ b _ N
 have hcell:∀b o,G.S b o->(w.setRow (G.bk i) vs'.toArray).cell? ⟨b,o,none⟩=w.cell? ⟨b,o,none⟩:=fun b o f=>
  World.cell?_of_block (w:=w) (hoth b fun e=>(h.sok b o f).2 i (e▸A))
 have F:Mv G G w (w.setRow (G.bk i) vs'.toArray):=⟨fun b o f=>⟨f,hcell b o f⟩,fun k L=>⟨L,fun _=>rfl⟩,fun i hi=>⟨hi,rfl⟩⟩;have hilt:i<S.boxes.length:=by
  rcases Nat.lt_or_ge i S.boxes.length with z | z
  ·exact z
  ·simp[St.fE,zE,zJ z]at hi
 refine⟨h.below.trans ⟨rfl,rfl,rfl,by simp,fun k L H=>hoth k (fun e=>by
  subst e;rcases B.1 with r | ⟨_,r⟩
  ·omega
  ·exact H r)⟩,h.nodef,h.tsz,by simp[St.setB,h.bsz],by simp[St.setB,h.osz],fun x v hv=>(h.tmps x v hv).move F,?_,?_,?_,?_,h.lk,?_,h.sfr,fun b g=>⟨(h.fx b g).1,fun z=>by
   by_cases eb:b=G.bk i
   ·subst eb;rcases B.1 with r | ⟨r,_⟩
    ·omega
    ·injection r with r;exact ((h.fx _ g).2 z).trans fun I J M=>⟨vs',J,setRow_heap w _ _ _ J (0,0) M,hkeep r I J M⟩
   ·exact ((h.fx b g).2 z).same (hoth b eb)⟩⟩
 ·intro x y g;simpa using h.olt x y g
 ·intro x o f;simpa using h.sok x o f
 ·intro x cs'' hcs'';rw[jP]at hcs'';by_cases d:i=x
  ·subst d;rw[if_pos ⟨rfl,hilt⟩]at hcs'';cases hcs''
   exact⟨A,vs',E,setRow_heap w _ _ _ E (0,0) hh,D.move F⟩
  ·rw[if_neg (fun e=>d e.1)]at hcs'';obtain⟨u,vs'',E',K,q⟩:=h.box x cs'' hcs'';refine⟨u,vs'',E',(hoth _ fun e=>?_).trans K,q.move F⟩;rw[e,A]at u;cases u
   exact d rfl
 ·intro k j;have keep:∀c,fU G k j c->fU G k j c/\(w.setRow (G.bk i) vs'.toArray).heap[c]?=w.heap[c]?:=fun c q=>⟨q,hoth c fun e=>by
   have hc'':G.ow c=some (.own k j):=q;rw[e,A]at hc'';cases hc''⟩
  exact (h.owns k j).same rfl F.s (fun t xs deep m g=>⟨keep,fun _ _ _ _ _ o f=>.inl f⟩) fun t xs g c D=>⟨(keep c D).1,(keep c D).2,fun o f=>f⟩
 ·intro x g;rw[jP];by_cases d:i=x
  ·rw[if_pos ⟨d,hilt⟩];simp
  ·rw[if_neg (fun e=>d e.1)];exact h.lb x g
theorem Inv.ED(h:Inv w0 G S a w)(k j:Nat)(x:O)(f:wV G w k j x):Inv w0 G (S.cO k ((S.aI k).set j x)) a w:=by
 refine⟨h.below,h.nodef,h.tsz,by simp[St.cO,h.bsz],by simp[St.cO,h.osz],h.tmps,h.olt,h.sok,h.box,?_,?_,h.lb,h.sfr,h.fx⟩
 ·intro k' j';rw[bF];by_cases b:k=k'/\k<S.owns.length
  ·rw[if_pos b,ig];by_cases d:j=j'/\j<(S.aI k).length
   ·rw[if_pos d];obtain⟨rfl,_⟩:=b;obtain⟨rfl,_⟩:=d;exact f
   ·rw[if_neg d];obtain⟨rfl,_⟩:=b;exact h.owns k j'
  ·rw[if_neg b];exact h.owns k' j'
 ·intro k' c;rw[bF];by_cases b:k=k'/\k<S.owns.length
  ·rw[if_pos b];intro e;have:(S.aI k).length=0:=by simpa using congrArg List.length e
   exact h.lk k' c (by rw[<- b.1];exact List.eq_nil_of_length_eq_zero this)
  ·rw[if_neg b];exact h.lk k' c
theorem Inv.aak(h:Inv w0 G S a w)(b:Nat){w':World}(B:w0.w.heap.size<=b)(hbox:∀i,G.ow b≠some (.box i))
  (hdead:∀k j t xs deep m,G.ow b=some (.own k j)->(aY (S.aI k) j).gQ≠.own t xs deep m)
  (p:w'.os=w.os) (htape:w'.tape=w.tape) (hout:w'.output=w.output) (l:w.heap.size<=w'.heap.size)
  (hoth:∀c,c<w.heap.size->c≠b->w'.heap[c]?=w.heap[c]?)
  (C:∀o,G.S b o->w'.cell? ⟨b,o,none⟩=w.cell? ⟨b,o,none⟩):Inv w0 G S a w':=by
 have q:Mv G G w w':=⟨fun c o f=>⟨f,by
  by_cases z:c=b
  ·subst z;exact C o f
  ·exact World.cell?_of_block (w:=w) (hoth c (h.sok c o f).1 z)⟩,fun k A=>⟨A,fun _=>rfl⟩,fun i hi=>⟨hi,rfl⟩⟩
 have D:=h.below.size;refine⟨h.below.trans ⟨p,htape,hout,l,fun k A _=>hoth k (by omega) (by omega)⟩,h.nodef,h.tsz,h.bsz,h.osz,fun x v hv=>(h.tmps x v hv).move q,?_,?_,?_,?_,h.lk,h.lb,h.sfr,fun b g=>⟨(h.fx b g).1,fun E=>((h.fx b g).2 E).same (hoth b (by omega) (by omega))⟩⟩
 ·intro x y g;exact⟨(h.olt x y g).1,aE (h.olt x y g).2 l⟩
 ·intro x o f;exact⟨aE (h.sok x o f).1 l,(h.sok x o f).2⟩
 ·intro x cs r;obtain⟨n,vs'',E',u,d⟩:=h.box x cs r;exact⟨n,vs'',E',(hoth _ (h.olt _ _ n).2 fun e=>hbox x (e▸n)).trans u,d.move q⟩
 ·intro k j;refine (h.owns k j).same rfl q.s (fun t xs deep m g=>⟨fun c d=>⟨d,hoth c (h.olt _ _ d).2 fun e=>?_⟩,fun _ _ _ _ _ o f=>.inl f⟩) fun t xs g c d=>⟨d,hoth c (h.olt _ _ d).2 fun e=>?_,fun o f=>f⟩
  ·exact hdead k j t xs deep m (e▸d) (by rw[g];rfl)
  ·exact hdead k j t xs true true (e▸d) g.aiu
theorem Inv.ai6(h:Inv w0 G S a w)(P:Nat->Prop)[DecidablePred P](k j:Nat)
  (p:∀c,P c->w0.w.heap.size<=c/\c<w.heap.size/\(∀i,G.ow c≠some (.box i))/\∀k' j' t xs deep m,G.ow c=some (.own k' j')->(k',j')≠(k,j)->(aY (S.aI k') j').gQ≠.own t xs deep m) :
  Inv w0 { G with ow:=fun c=>if P c then some (.own k j)else G.ow c } S a w:=by
 let G':Gh:={ G with ow:=fun c=>if P c then some (.own k j)else G.ow c };have r:Mv G G' w w:=⟨fun b o g=>⟨g,rfl⟩,fun k q=>⟨q,fun _=>rfl⟩,fun x e=>⟨e,rfl⟩⟩;have f:∀c,G'.ow c=if P c then some (.own k j)else G.ow c:=fun _=>rfl
 refine⟨h.below,h.nodef,h.tsz,h.bsz,h.osz,fun x v hv=>(h.tmps x v hv).move r,?_,?_,?_,?_,h.lk,h.lb,h.sfr,h.fx⟩
 ·intro x y e;by_cases l:P x
  ·exact⟨.inl (p x l).1,(p x l).2.1⟩
  ·rw[f,if_neg l]at e;exact h.olt x y e
 ·intro x o g;refine⟨(h.sok x o g).1,fun i=>?_⟩;rw[f];split
  ·simp
  ·exact (h.sok x o g).2 i
 ·intro x cs u;obtain⟨n,vs'',E',z,d⟩:=h.box x cs u;refine⟨?_,vs'',E',z,d.move r⟩;rw[f,if_neg fun l=>(p _ l).2.2.1 x n];exact n
 ·intro k' j';have keep:∀t xs deep m,(aY (S.aI k') j').gQ=.own t xs deep m->∀c,G.ow c=some (.own k' j')->G'.ow c=some (.own k' j'):=by
   intro t xs deep m e c d;rw[f];split
   ·rename_i l;by_cases q:(k',j')=(k,j)
    ·cases q;rfl
    ·exact absurd e ((p c l).2.2.2 k' j' t xs deep m d q)
   ·exact d
  refine (h.owns k' j').same rfl r.s (fun t xs deep m e=>⟨fun c d=>⟨keep t xs deep m (by rw[e];rfl) c d,rfl⟩,fun _ _ _ _ _ o g=>.inl g⟩)
   fun t xs e c d=>⟨keep t xs true true e.aiu c d,rfl,fun o g=>g⟩
theorem Inv.vX(h:Inv w0 G S a w)(d:Nat)(os:List O)(ov:Nat->Value)(lab:Nat->Option Nat)(J:S.aI d=[])(z:d<S.tmps.length)(C:os≠[])
  (hlab:∀c j,lab c=some j->w0.w.heap.size<=c/\c<w.heap.size/\(∀i,G.ow c≠some (.box i))/\∀k' j' t xs deep m,G.ow c=some (.own k' j')->(aY (S.aI k') j').gQ≠.own t xs deep m)
  (D:∀j,match aY os j with
   | .dead=>True
   | .own t xs deep m=>OwT w G.S deep m t xs (ov j) (fun c=>lab c=some j)
   | .ro t xs=>Rep w G.S (.list t xs) (ov j)
   | .tree t xs=>∃fp:Nat->Prop,(∀b,fp b->lab b=some j)/\Ow w (fun _ _=>False) true (.list t xs) (ov j) fp/\∀b o,G.S b o->¬fp b
   | .part t xs i=>iL w G.S t xs i (ov j) (fun c=>lab c=some j)
   | .seg t xs=>yY w G.S t xs (ov j) (fun c=>lab c=some j)) :
  ∃G',Inv w0 G' (S.cO d os) a w/\Mv G G' w w/\G'.lk d/\(∀j,G'.ov d j=ov j)/\G'.bk=G.bk/\G'.S=G.S/\(∀c,G'.ow c=match lab c with | some j=>some (.own d j) | none=>G.ow c):=by
 have E:¬G.lk d:=fun r=>h.lk d r J
 let G':Gh:={ G with ov:=fun k j=>if k=d then ov j else G.ov k j,ow:=fun c=>match lab c with | some j=>some (.own d j) | none=>G.ow c,lk:=fun k=>k=d\/G.lk k };have B:Mv G G' w w:=⟨fun b o n=>⟨n,rfl⟩,fun k p=>⟨.inr p,fun j=>by
  show (if k=d then ov j else G.ov k j)=_
  rw[if_neg (fun e:k=d=>E (e▸p))]⟩,fun x f=>⟨f,rfl⟩⟩
 have g:∀c,G'.ow c=match lab c with | some j=>some (.own d j) | none=>G.ow c:=fun _=>rfl
 refine⟨G',⟨h.below,h.nodef,h.tsz,by simp[St.cO,h.bsz],by simp[St.cO,h.osz],fun x v hv=>(h.tmps x v hv).move B,?_,?_,?_,?_,?_,h.lb,h.sfr,h.fx⟩,B,.inl rfl,fun j=>if_pos rfl,rfl,rfl,fun _=>rfl⟩
 ·intro x y f;rw[g]at f;cases r:lab x with
  | some j=>exact⟨.inl (hlab x j r).1,(hlab x j r).2.1⟩
  | none=>rw[r]at f;exact h.olt x y f
 ·intro x o n;refine⟨(h.sok x o n).1,fun i=>?_⟩;rw[g];cases r:lab x with
  | some j=>simp
  | none=>exact (h.sok x o n).2 i
 ·intro x cs F;obtain⟨A,vs'',E',H,l⟩:=h.box x cs F;refine⟨?_,vs'',E',H,l.move B⟩;rw[g];cases r:lab (G'.bk x)with
  | some j=>exact absurd A ((hlab _ j r).2.2.1 x)
  | none=>exact A
 ·intro k' j';rw[bF];by_cases p:d=k'/\d<S.owns.length
  ·rw[if_pos p];obtain⟨rfl,_⟩:=p;have:=D j';revert this;generalize aY os j'=x;intro f;cases x with
   | dead=>trivial
   | own t xs deep m=>
    show OwT w G.S deep m t xs (if d=d then ov j' else G.ov d j') (fU G' d j')
    rw[if_pos rfl];refine OwT.move f (fun b o n=>⟨n,rfl⟩) (fun c u=>⟨?_,rfl⟩) (fun _ _ _ _ _ o n=>.inl n);show G'.ow c=_
    rw[g,u]
   | ro t xs=>
    show Rep w G.S (.list t xs) (if d=d then ov j' else G.ov d j')
    rw[if_pos rfl];exact f
   | tree t xs=>
    obtain⟨fp,K,L,M⟩:=f;refine⟨fp,fun c u=>?_,?_,M⟩
    ·show G'.ow c=_
     rw[g,K c u]
    ·show Ow w (fun _ _=>False) true (.list t xs) (if d=d then ov j' else G.ov d j') fp
     rw[if_pos rfl];exact L
   | part t xs i=>
    show iL w G.S t xs i (if d=d then ov j' else G.ov d j') (fU G' d j')
    rw[if_pos rfl];refine iL.move f (fun c u=>⟨?_,rfl⟩) fun _ _ _ h=>h
    show G'.ow c=_
    rw[g,u]
   | seg t xs=>
    show yY w G.S t xs (if d=d then ov j' else G.ov d j') (fU G' d j')
    rw[if_pos rfl];refine yY.move f (fun b o n=>⟨n,rfl⟩) fun c u=>⟨?_,rfl⟩
    show G'.ow c=_
    rw[g,u]
  ·rw[if_neg p];have I:k'≠d:=fun e=>p ⟨e.symm,by rw[h.osz];exact z⟩
   have keep:∀t xs deep m,(aY (S.aI k') j').gQ=.own t xs deep m->∀c,G.ow c=some (.own k' j')->G'.ow c=some (.own k' j'):=by
    intro t xs deep m f c l;rw[g];cases r:lab c with
    | some j=>exact absurd f ((hlab c j r).2.2.2 k' j' t xs deep m l)
    | none=>exact l
   refine (h.owns k' j').same (by show (if k'=d then ov j' else G.ov k' j')=_;rw[if_neg I]) B.s (fun t xs deep m f=>⟨fun c l=>⟨keep t xs deep m (by rw[f];rfl) c l,rfl⟩,fun _ _ _ _ _ o n=>.inl n⟩)
    fun t xs f c l=>⟨keep t xs true true f.aiu c l,rfl,fun o n=>n⟩
 ·intro k' q;rw[bF];by_cases p:d=k'/\d<S.owns.length
  ·rw[if_pos p];exact C
  ·rw[if_neg p];rcases q with q | q
   ·exact absurd ⟨q.symm,by rw[h.osz];exact z⟩ p
   ·exact h.lk k' q
theorem Inv.UH(h:Inv w0 G S a w)(d:Nat)(os:List O)(ov:Nat->Value)(lab:Nat->Option Nat)(k:S.aI d=[])(e:d<S.tmps.length)(f:os≠[])
  (hlab:∀c j,lab c=some j->w0.w.heap.size<=c/\c<w.heap.size/\(∀i,G.ow c≠some (.box i))/\∀k' j' t xs deep m,G.ow c=some (.own k' j')->(aY (S.aI k') j').gQ≠.own t xs deep m)
  (g:∀j,match aY os j with
   | .dead=>True
   | .own t xs deep m=>OwT w G.S deep m t xs (ov j) (fun c=>lab c=some j)
   | .ro t xs=>Rep w G.S (.list t xs) (ov j)
   | .tree t xs=>∃fp:Nat->Prop,(∀b,fp b->lab b=some j)/\Ow w (fun _ _=>False) true (.list t xs) (ov j) fp/\∀b o,G.S b o->¬fp b
   | .part t xs i=>iL w G.S t xs i (ov j) (fun c=>lab c=some j)
   | .seg t xs=>yY w G.S t xs (ov j) (fun c=>lab c=some j)) :
  ∃G',Inv w0 G' (S.cO d os) a w/\Mv G G' w w/\G'.lk d/\(∀j,G'.ov d j=ov j):=by
 obtain⟨G',l,n,p,q,_⟩:=h.vX d os ov lab k e f hlab g;exact⟨G',l,n,p,q⟩
end steps
end Go.Abs
namespace Go.Abs
open Go.RowKit
theorem xW{α:Type}{l:List (Nat×α)}{k:Nat}{x:α}(h:lk l k=some x):(k,x)∈l:=by
 unfold lk at h;rw[Option.map_eq_some_iff]at h;obtain⟨p,c,rfl⟩:=h;have d:=List.find?_some c;have e:=List.mem_of_find?_eq_some c;obtain⟨a,b⟩:=p;simp at d;subst d;exact e
def I8:TypeDesc->Bool
 | .struct _ | .array _ _=>true
 | _=>false
def lS:List C->List Value->Bool
 | [],[]=>true
 | .d (.int k n)::cs,.int k' n'::vs=>decide (k=k')&&decide (n=n')&&lS cs vs
 | .d (.bool b)::cs,.bool b'::vs=>b==b'&&lS cs vs
 | .d (.str s)::cs,.string v::vs=>decide (v.data.toList=s)&&lS cs vs
 | .nil::cs,.slice none 0 0::vs=>lS cs vs
 | .d (.list _ [])::cs,.slice none 0 0::vs=>lS cs vs
 | _,_=>false
def KR(P:Program)(fd:Field)(fo:Nat)(agg:Bool)(n:Nat):Bool:=
 fd.offset==fo&&(match P.underlying fd.type,P.info? fd.type with
  | some d,some i=>I8 d==agg&&i.size==n&&decide (0<n)
  | _,_=>false)
def wM(P:Program)(F:Array Field):Nat->List (Nat×Bool×Nat)->Bool
 | _,[]=>true
 | f,(fo,agg,n)::r=>(match F[f]? with | some fd=>KR P fd fo agg n | none=>false)&&wM P F (f+1) r
def XL(P:Program)(k:TypeId->Option (List Kd)):Nat->List Field->Option (List Kd)
 | _,[]=>some []
 | off, f :: r => if f.name ≠ "_" /\ f.offset = off then (k f.type).bind fun ks => if ks.length = P.cellsOf f.type then (XL P k (off + ks.length) r).map (ks ++ ·) else none else none
def QF(P:Program):Nat->TypeId->Option (List Kd)
 | 0,_=>none
 | n+1,t=>match P.underlying t with
  | some .bool=>some [.bool]
  | some (.int k)=>some [.int k]
  | some .string=>some [.str]
  | some (.struct fs)=>if P.stoodInHeld t then none else (XL P (QF P n) 0 fs.toList).bind fun ks=>if ks.length=P.cellsOf t then some ks else none
  | _=>none
def TT.ok'(P:Program)(T:TT):Bool:=
 T.ints.all (fun x=>match P.underlying x.1 with
  | some (.int k)=>decide (k=x.2)
  | _=>false) &&
 T.eqs.all (fun x=>decide (QF P 9 x.1=some x.2)&&!(P.eqGuardType P.depth x.1)&&(match P.underlying x.1 with
  | some (.struct _)=>true
  | _=>false)) &&
 T.elem.all (fun x=>!(decide (x.2=.base .u8))||(match P.underlying x.1 with
  | some (.slice e)=>(match P.underlying e with
   | some (.int .u8)=>true
   | _=>false)
  | _=>false))
def TT.ok0(P:Program)(T:TT):Bool:=
 T.shape.all (fun x=>match P.underlying x.1,P.info? x.1 with
  | some d,some i=>i.size==x.2.2&&I8 d==x.2.1
  | _,_=>false) &&
 T.zero.all (fun x=>match (P.info? x.1).bind (·.zero)with
  | some z=>lS x.2 z.cells.toList
  | none=>false) &&
 T.fields.all (fun x=>match P.underlying x.1 with
  | some (.struct F)=>wM P F 0 x.2&&x.2.length==F.size
  | _=>false) &&
 T.elem.all (fun x=>match P.underlying x.1 with
  | some (.slice e)=>(match P.info? e with
   | some i=>i.size==x.2.size&&decide (i.bytes<=4096)&&(match i.zero with
    | some z=>z.cells.size==x.2.size&&lS ((x.2.cells x.2.zero).map .d) z.cells.toList
    | none=>false)
   | none=>false)
  | _=>false) &&
 T.strs.all (fun x=>match P.underlying x with
  | some .string=>true
  | _=>false) &&
 T.bools.all (fun x=>match P.underlying x with
  | some .bool=>true
  | _=>false)
def TT.ok(P:Program)(T:TT):Bool:=T.ok0 P&&T.ok' P
section tables
variable {P:Program} {T:TT}
theorem TT.aes(h:T.ok P=true){t:Nat}{k:IntKind}(a:lk T.ints t=some k):P.underlying t=some (.int k):=by
 simp only[TT.ok,TT.ok',zI]at h;have:=List.all_eq_true.1 h.2.1.1 _ (xW a);simp only at this;split at this
 ·rename_i k' b;rw[b,of_decide_eq_true this]
 ·cases this
theorem TT.aiY(h:T.ok P=true){t:Nat}(a:lk T.elem t=some (.base .u8)){e:TypeId}(b:P.underlying t=some (.slice e)):P.underlying e=some (.int .u8):=by
 simp only[TT.ok,TT.ok',zI]at h;have:=List.all_eq_true.1 h.2.2 _ (xW a);simp only[b,decide_true,aM,Bool.false_or]at this;split at this
 ·assumption
 ·cases this
theorem TT.aiI(h:T.ok P=true){t:Nat}{ks:List Kd}(b:lk T.eqs t=some ks):QF P 9 t=some ks/\P.eqGuardType P.depth t=false/\∃fs,P.underlying t=some (.struct fs):=by
 simp only[TT.ok,TT.ok',zI]at h;have:=List.all_eq_true.1 h.2.1.2 _ (xW b);simp only[zI,decide_eq_true_eq,Bool.not_eq_true']at this;refine⟨this.1.1,this.1.2,?_⟩;have a:=this.2;split at a
 ·rename_i fs c;exact⟨fs,c⟩
 ·cases a
theorem TT.EN(h:T.ok P=true){t:Nat}{agg:Bool}{n:Nat}(a:lk T.shape t=some (agg,n)) :
  ∃d i,P.underlying t=some d/\P.info? t=some i/\i.size=n/\I8 d=agg:=by
 replace h:=(zI _ _▸h).1;simp only[TT.ok0,zI]at h;have:=List.all_eq_true.1 h.1.1.1.1.1 _ (xW a);simp only at this;split at this
 ·rename_i d i b hi;simp at this;exact⟨d,i,b,hi,this.1,this.2⟩
 ·cases this
theorem TT.ZW(h:T.ok P=true){t:Nat}{cs:List C}(b:lk T.zero t=some cs) :
  ∃i z,P.info? t=some i/\i.zero=some z/\lS cs z.cells.toList=true:=by
 replace h:=(zI _ _▸h).1;simp only[TT.ok0,zI]at h;have:=List.all_eq_true.1 h.1.1.1.1.2 _ (xW b);simp only at this;split at this
 ·rename_i z a;rw[zB]at a;obtain⟨i,hi,a⟩:=a;exact⟨i,z,hi,a,this⟩
 ·cases this
theorem Gw{P:Program}{F:Array Field}:∀(fs:List (Nat×Bool×Nat)) (k:Nat),wM P F k fs=true->∀(f:Nat) (fo:Nat) (agg:Bool) (n:Nat),fs[f]?=some (fo,agg,n) ->
  ∃fd,F[k+f]?=some fd/\KR P fd fo agg n=true
 | [],k,_,f,fo,agg,n,a=>by simp at a
 | (fo',agg',n')::r,k,h,f,fo,agg,n,a=>by
  simp only[wM,zI]at h;cases f with
  | zero=>
   simp at a;obtain⟨rfl,rfl,rfl⟩:=a;have b:=h.1;split at b
   ·rename_i fd c;exact⟨fd,c,b⟩
   ·cases b
  | succ f=>
   obtain⟨fd,b,d⟩:=Gw r (k+1) h.2 f fo agg n (by simpa using a);exact⟨fd,by rw[show k+(f+1)=k+1+f by omega];exact b,d⟩
theorem TT.XI(h:T.ok P=true){t f fo:Nat}{agg:Bool}{n:Nat}(e:(lk T.fields t).bind (·[f]?)=some (fo,agg,n)) :
  ∃F fd d i,P.underlying t=some (.struct F)/\F[f]?=some fd/\fd.offset=fo/\P.underlying fd.type=some d/\P.info? fd.type=some i/\I8 d=agg/\i.size=n/\0<n:=by
 replace h:=(zI _ _▸h).1;simp only[TT.ok0,zI]at h;rw[zB]at e;obtain⟨fs,c,g⟩:=e;have:=List.all_eq_true.1 h.1.1.1.2 _ (xW c);simp only at this;split at this
 ·rename_i F j;rw[zI]at this;obtain⟨fd,k,b⟩:=Gw fs 0 this.1 f fo agg n g;simp only[KR,zI,beq_iff_eq]at b;obtain⟨b,a⟩:=b;split at a
  ·rename_i d i l hi;simp at a;exact⟨F,fd,d,i,j,by simpa using k,b,l,hi,a.1.1,a.1.2,a.2⟩
  ·cases a
 ·cases this
theorem yS{P:Program}{F:Array Field}:∀(fs:List (Nat×Bool×Nat)) (k:Nat),wM P F k fs=true->fs.length+k=F.size ->
  (F.toList.drop k).mapM (fun f=>(P.info? f.type).map fun i=>(f.offset,i.size))=some (fs.map fun x=>(x.1,x.2.2))
 | [],k,_,a=>by
  have:F.toList.drop k=[]:=by simp at a ⊢;omega
  rw[this];rfl
 | (fo,agg,n)::r,k,h,a=>by
  simp only[wM,zI]at h;have j:k<F.toList.length:=by simp at a ⊢;omega
  have ih:=yS r (k+1) h.2 (by simp at a ⊢;omega);rw[List.drop_eq_getElem_cons j,List.mapM_cons,ih];have b:=h.1;split at b
  ·rename_i fd g;have e:F.toList[k]=fd:=by
    have:F.toList[k]?=some fd:=by simpa using g
    rw[zF j]at this;exact a6 this
   rw[e];simp only[KR,zI,beq_iff_eq]at b;obtain⟨l,c⟩:=b;split at c
   ·rename_i d i m hi;simp at c;simp[hi,l,c.1.2]
   ·cases c
  ·cases b
theorem TT.acw(h:T.ok P=true){t:Nat}{fs:List (Nat×Bool×Nat)}(a:lk T.fields t=some fs) :
  ∃F,P.underlying t=some (.struct F)/\F.toList.mapM (fun f=>(P.info? f.type).map fun i=>(f.offset,i.size))=some (fs.map fun x=>(x.1,x.2.2)):=by
 replace h:=(zI _ _▸h).1;simp only[TT.ok0,zI]at h;have:=List.all_eq_true.1 h.1.1.1.2 _ (xW a);simp only at this;split at this
 ·rename_i F b;rw[zI]at this;exact⟨F,b,yS fs 0 this.1 (by simpa using this.2)⟩
 ·cases this
theorem TT.ku(h:T.ok P=true){t:Nat}{ty:Ty}(b:lk T.elem t=some ty) :
  ∃e i z,P.underlying t=some (.slice e)/\P.info? e=some i/\i.size=ty.size/\i.bytes<=4096/\i.zero=some z/\z.cells.size=ty.size/\lS ((ty.cells ty.zero).map .d) z.cells.toList=true:=by
 replace h:=(zI _ _▸h).1;simp only[TT.ok0,zI]at h;have:=List.all_eq_true.1 h.1.1.2 _ (xW b);simp only at this;split at this
 ·rename_i e c;split at this
  ·rename_i i hi;simp only[zI,beq_iff_eq,decide_eq_true_eq]at this;obtain⟨⟨f,g⟩,a⟩:=this;split at a
   ·rename_i z j;simp only[zI,beq_iff_eq]at a;exact⟨e,i,z,c,hi,f,g,j,a.1,a.2⟩
   ·cases a
  ·cases this
 ·cases this
theorem TT.LD(h:T.ok P=true){t:Nat}(a:T.strs.contains t=true):P.underlying t=some .string:=by
 replace h:=(zI _ _▸h).1;simp only[TT.ok0,zI]at h;have:=List.all_eq_true.1 h.1.2 t (by simpa using a);split at this
 ·rename_i b;exact b
 ·cases this
theorem TT.agH(h:T.ok P=true){t:Nat}(a:T.bools.contains t=true):P.underlying t=some .bool:=by
 replace h:=(zI _ _▸h).1;simp only[TT.ok0,zI]at h;have:=List.all_eq_true.1 h.2 t (by simpa using a);split at this
 ·rename_i b;exact b
 ·cases this
end tables
theorem mY{G:Gh}{w:World}:∀(cs:List C) (vs:List Value),lS cs vs=true->dB G w cs vs
 | [],[],_=>trivial
 | [],_::_,h=>by simp[lS]at h
 | c::cs,[],h=>by unfold lS at h;split at h<;>simp_all
 | c::cs,v::vs,h=>by
  unfold lS at h;split at h
  ·simp_all
  ·rename_i k n cs' k' n' vs' a d;cases a;cases d
   simp only[zI,decide_eq_true_eq]at h;obtain⟨⟨rfl,rfl⟩,e⟩:=h;exact⟨Rep.int _ _,mY _ _ e⟩
  ·rename_i b cs' b' vs' a d;cases a;cases d
   simp only[zI,beq_iff_eq]at h;obtain⟨rfl,e⟩:=h;exact⟨Rep.bool _,mY _ _ e⟩
  ·rename_i s cs' v' vs' a d;cases a;cases d
   simp only[zI,decide_eq_true_eq]at h;obtain⟨rfl,e⟩:=h;exact⟨Rep.str _,mY _ _ e⟩
  ·rename_i cs' vs' a d;cases a;cases d
   exact⟨rfl,mY _ _ h⟩
  ·rename_i t cs' vs' a d;cases a;cases d
   exact⟨Rep.nil _,mY _ _ h⟩
  ·cases h
section reads
variable {w0:Bs} {G:Gh} {S:St} {a:Act} {w:World}
theorem Inv.iG(h:Inv w0 G S a w)(t:Nat):jq G w (S.iG t) (a.tmps.getD t undef):=by
 cases b:a.tmps[t]? with
 | some v=>have:=h.tmps t v b;simpa [b] using this
 | none=>
  have c:a.tmps.size<=t:=by simpa using b
  rw[h.tsz]at c;have:S.iG t=.undef:=by simp[St.iG,zE,zJ c]
  rw[this];trivial
theorem ae6{v:Value}{c:C}(h:aiT v=some c):oG G w c v:=by
 unfold aiT at h;split at h<;>cases h
 ·exact Rep.int _ _
 ·exact Rep.bool _
 ·exact Rep.str _
 ·rfl
theorem aZ(h:Inv w0 G S a w){x:Operand}{av:AV}(hv:(dX x).val S=some av):jq G w av (a.eval x):=by
 cases x with
 | tmp t=>
  simp only[dX,Rd.val,zD]at hv;subst hv;exact h.iG t
 | const v=>
  simp only[dX]at hv;split at hv
  ·rename_i c b;simp only[Rd.val,zD]at hv;subst hv;exact ae6 b
  ·simp only[Rd.val,zD]at hv;subst hv;trivial
 | global g=>cases hv
 | func f=>cases hv
theorem qf{av:AV}{x:V}{v:Value}(a:(avV av).val S=some x)(h:jq G w av v):tK G w x v:=by
 unfold avV at a;split at a
 ·simp only[Rd.val,zD]at a;subst a;exact h
 ·cases a
theorem qg{av:AV}{x:D}{v:Value}(a:(avD av).val S=some x)(h:jq G w av v):Rep w G.S x v:=by
 unfold avD at a;split at a
 ·simp only[Rd.val,zD]at a;subst a;exact h
 ·cases a
theorem wS{av:AV}{n:Int}{v:Value}(a:(JO av).val S=some n)(h:jq G w av v):∃k,v=.int k n:=by
 simp only[JO,Rd.aF,zB]at a;obtain⟨d,b,a⟩:=a;have:=qg b h;cases this<;>simp only[Rd.val,zD]at a<;>first | (subst a;exact⟨_,rfl⟩) | cases a
def AK(G:Gh)(S:St)(keys:List (Nat×Nat))(b o:Nat):Prop:=
 ∃k j t xs deep m,(k,j)∈keys/\(aY (S.aI k) j).tH=.own t xs deep m/\G.ow b=some (.own k j)/\(∀len cap,G.ov k j=.slice (some ⟨b,0,none⟩) len cap->o<xs.length*t.size)
theorem OwT.aac{S S':Nat->Nat->Prop}{deep m:Bool}{t:Ty}{xs:List t.den}{v:Value}{fp:Nat->Prop}(h:OwT w S deep m t xs v fp)
  (q:∀b o,S b o->S' b o) (a:∀b o,fp b->(∀len cap,v=.slice (some ⟨b,0,none⟩) len cap->o<xs.length*t.size)->S' b o):Rep w S' (.list t xs) v:=by
 rcases h with ⟨rfl,rfl⟩ | ⟨b,cap,arr,E,vs,fps,rfl,r,hcap,hmax,s,n,u,y,p,hdis,A⟩
 ·exact .nil t
 ·refine .list t xs b 0 cap vs hcap (fun i x j d k l=>?_) (fun i x j d k l=>(y i x j d k l).aac q fun c o f _=>a c o (p i j c f).1 fun len cap e=>?_)
  ·have e:w.cell? ⟨b,0+(i*t.size+j),none⟩=some (vs i j):=by
    simp only[Nat.zero_add,World.cell?,r];simpa using u i x j d k l
   refine⟨e,a b _ n fun len cap _=>?_⟩;have hi:i<xs.length:=(zC.1 k).1;have B:j<t.size:=by
    have:=(zC.1 l).1;rwa [Ty.bn]at this
   have z:(i+1)*t.size<=xs.length*t.size:=Nat.mul_le_mul_right _ hi;rw[Nat.succ_mul]at z;omega
  ·injection e with g _ _;injection g with g;injection g with g _ _;exact absurd g.symm (p i j c f).2
theorem O.Yc{x:O}{t:Ty}{xs:List t.den}{deep m:Bool}(h:x.tH=.own t xs deep m):x=.own t xs deep m\/(x=.tree t xs/\deep=true/\m=true):=by
 cases x with
 | tree t' xs'=>cases h;exact .inr ⟨rfl,rfl,rfl⟩
 | own=>exact .inl h
 | ro=>cases h
 | dead=>cases h
 | part=>cases h
 | seg=>cases h
theorem OwT.NH{w:World}{S':Nat->Nat->Prop}{t:Ty}{xs:List t.den}{v:Value}{fp fp':Nat->Prop}(h:Ow w (fun _ _=>False) true (.list t xs) v fp)(m:∀c,fp c->fp' c)(n:∀b o,S' b o->¬fp b):OwT w S' true true t xs v fp':=by
 generalize a:D.list t xs=dd at h;cases h with
 | int=>cases a
 | bool=>cases a
 | str=>cases a
 | nil t'=>cases a;exact .inl ⟨rfl,rfl⟩
 | ro _ _ _ k=>cases k
 | list t' xs' b cap arr E vs fps _ p hcap hmax l e q r f hdis=>
  cases a
  exact .inr ⟨b,cap,arr,E,vs,fps,rfl,p,hcap,hmax,l,m _ e,q,fun i x j d s k=>(r i x j d s k).move (fun _ _ h=>h.elim) fun _ _=>rfl,fun i j c g=>⟨m _ (f i j c g).1,(f i j c g).2⟩,hdis,fun o u=>absurd e (n b o u)⟩
theorem Inv.adR(h:Inv w0 G S a w){k j:Nat}{t:Ty}{xs:List t.den}{deep m:Bool}(c:(aY (S.aI k) j).tH=.own t xs deep m):OwT w G.S deep m t xs (G.ov k j) (fU G k j):=by
 have:=h.owns k j;rcases O.Yc c with b | ⟨b,rfl,rfl⟩
 ·rw[b]at this;exact this
 ·rw[b]at this;obtain⟨fp,d,e,f⟩:=this;exact OwT.NH e d f
theorem Inv.Ny(h:Inv w0 G S a w){k j:Nat}{t:Ty}{xs:List t.den}{deep m:Bool}(d:(aY (S.aI k) j).tH=.own t xs deep m)(keys:List (Nat×Nat))(e:(k,j)∈keys) :
  Rep w (fun b o=>G.S b o\/AK G S keys b o) (.list t xs) (G.ov k j):=
 OwT.aac (h.adR d) (fun b o f=>.inl f) fun b o g c=>.inr ⟨k,j,t,xs,deep,m,e,d,g,c⟩
theorem Inv.FK(h:Inv w0 G S a w){k j:Nat}{t:Ty}{xs:List t.den}{deep m:Bool}(c:aY (S.aI k) j=.own t xs deep m)(keys:List (Nat×Nat))(d:(k,j)∈keys) :
  Rep w (fun b o=>G.S b o\/AK G S keys b o) (.list t xs) (G.ov k j):=h.Ny (by rw[c];rfl) keys d
theorem Inv.Ur(h:Inv w0 G S a w){k j:Nat}{t:Ty}{xs:List t.den}(b:aY (S.aI k) j=.ro t xs):Rep w G.S (.list t xs) (G.ov k j):=by
 have:=h.owns k j;rw[b]at this;exact this
theorem OZ(h:Inv w0 G S a w){ty:Option Ty}{c:C}{d:D}{v:Value}(e:(cD ty c).val S=some d)(g:oG G w c v)(keys:List (Nat×Nat))(l:∀k j,c=.own k j->(k,j)∈keys) :
  Rep w (fun b o=>G.S b o\/AK G S keys b o) d v:=by
 cases c with
 | undef=>cases e
 | d x=>
  simp only[cD,Rd.val,zD]at e;subst e;exact Rep.move g fun b o i=>⟨.inl i,rfl⟩
 | nil=>
  simp only[cD]at e;split at e
  ·simp only[Rd.val,zD]at e;subst e;rw[show v=_ from g];exact .nil _
  ·cases e
 | own k j=>
  simp only[cD,Rd.val]at e;rw[g.2.1];split at e
  ·rename_i t xs deep m f;simp only[Rd.val,zD]at e;subst e;exact h.FK f keys (l k j rfl)
  ·rename_i t xs f;simp only[Rd.val,zD]at e;subst e;exact (h.Ur f).move fun b o i=>⟨.inl i,rfl⟩
  ·rename_i t xs f;simp only[Rd.val,zD]at e;subst e;exact h.Ny (by rw[f];rfl) keys (l k j rfl)
  ·cases e
  ·cases e
  ·cases e
 | ptr b off=>cases e
def aW(R:Nat->D->Value->Prop):Nat->List D->List Value->Prop
 | _,[],[]=>True
 | n,d::ds,v::vs=>R n d v/\aW R (n+1) ds vs
 | _,_,_=>False
def ShR(R:Nat->D->Value->Prop)(n:Nat)(s:Sh)(x:s.t.den)(u:Value):Prop:=
 match s.agg with
 | true=>∃vs:List Value,u=.agg vs.toArray/\aW R n (s.t.cells x) vs
 | false=>aW R n (s.t.cells x) [u]
def kz(R:Nat->D->Value->Prop):(n:Nat)->(ss:List Sh)->Tup ss->List Value->Prop
 | _,[],_,[]=>True
 | n,[s],x,[u]=>ShR R n s x u
 | n,s::s'::r,x,u::us=>ShR R n s x.1 u/\kz R (n+s.t.size) (s'::r) x.2 us
 | _,_,_,_=>False
theorem gI{cs:List C}{k j:Nat}:C.own k j∈cs->(k,j)∈aK cs:=by
 intro h;induction cs with
 | nil=>cases h
 | cons c cs ih=>
  cases h with
  | head=>simp[aK]
  | tail _ h=>
   cases c<;>simp only[aK,bc]<;>first | exact ih h | exact .inr (ih h)
theorem uF{k j:Nat}:∀ {cs:List C},(k,j)∈aK cs->C.own k j∈cs
 | [],h=>by cases h
 | c::r,h=>by
  cases c with
  | own k' j'=>
   rcases bc.1 h with h | h
   ·cases h;exact aw
   ·exact aq _ (uF h)
  | _=>exact aq _ (uF h)
theorem aa1(h:Inv w0 G S a w)(keys:List (Nat×Nat)):∀ {tys:List (Option Ty)} {cs:List C} {ds:List D} {vs:List Value} (n:Nat),(cDs tys cs).val S=some ds->tys.length=cs.length->dB G w cs vs ->
  (∀k j,C.own k j∈cs->(k,j)∈keys)->aW (fun _ d v=>Rep w (fun b o=>G.S b o\/AK G S keys b o) d v) n ds vs
 | [],[],ds,[],n,f,_,_,_=>by
  simp only[cDs,Rd.val,zD]at f;subst f;trivial
 | ty::tys,c::cs,ds,v::vs,n,f,l,g,i=>by
  simp only[cDs,Rd.aF,zB,Rd.val,zD]at f;obtain⟨d,m,ds',p,rfl⟩:=f;exact⟨OZ h m g.1 keys fun k j e=>i k j (e▸aw),aa1 h keys (n+1) p (by simpa using l) g.2 fun k j e=>i k j (aq _ e)⟩
theorem oK(t:Ty):t.tys.length=t.size:=by simp[Ty.tys,Ty.bn]
theorem tK.cells{x:V}{v:Value}(h:tK G w x v):∃vs:List Value,dB G w x.cells vs/\(x.isAgg=true->v=.agg vs.toArray)/\(x.isAgg=false->vs=[v]):=by
 cases x with
 | one c=>exact⟨[v],⟨h,trivial⟩,by simp[V.isAgg],fun _=>rfl⟩
 | agg cs=>obtain⟨vs,hv,a⟩:=h;exact⟨vs,a,fun _=>hv,by simp[V.isAgg]⟩
theorem Yl(h:Inv w0 G S a w)(keys:List (Nat×Nat)){s:Sh}{x:V}{y:s.t.den}{v:Value}(n:Nat)(c:(vT s x).val S=some y)(i:tK G w x v)
  (l:∀k j,C.own k j∈x.cells->(k,j)∈keys):ShR (fun _ d v=>Rep w (fun b o=>G.S b o\/AK G S keys b o) d v) n s y v:=by
 simp only[vT]at c;split at c
 ·rename_i e;simp only[Rd.aF,zB,Rd.val]at c;obtain⟨ds,m,z,p,f⟩:=c;simp only[zD]at f;subst f;obtain⟨vs,q,r,u⟩:=i.cells;have:=aa1 h keys n m (by rw[oK];exact e.2.symm) q l;rw[<- Ty.eG p]at this;unfold ShR;cases g:s.agg with
  | true=>exact⟨vs,r (by rw[e.1,g]),this⟩
  | false=>rw[u (by rw[e.1,g])]at this;exact this
 ·cases c
theorem uf(h:Inv w0 G S a w)(keys:List (Nat×Nat)):∀ {ss:List Sh} {xs:List V} {y:Tup ss} {us:List Value} (n:Nat),(vTs ss xs).val S=some y->nY G w xs us ->
  (∀k j x,x∈xs->C.own k j∈x.cells->(k,j)∈keys)->kz (fun _ d v=>Rep w (fun b o=>G.S b o\/AK G S keys b o) d v) n ss y us
 | [],[],y,[],n,_,_,_=>trivial
 | [s],[x],y,[u],n,c,f,g=>Yl h keys n c f.1 fun k j e=>g k j x (by simp) e
 | s::s'::r,x::xs,y,u::us,n,c,f,g=>by
  simp only[vTs,Rd.aF,zB,Rd.val,zD]at c;obtain⟨p,i,q,l,rfl⟩:=c;exact⟨Yl h keys n i f.1 fun k j e=>g k j x (by simp) e,uf h keys _ l f.2 fun k j z m e=>g k j z (aq _ m) e⟩
 | [s],x::x'::xs,y,us,n,c,_,_=>by simp[vTs,Rd.val]at c
 | [s],[],y,us,n,c,_,_=>by simp[vTs,Rd.val]at c
 | [],_::_,y,us,n,c,_,_=>by simp[vTs,Rd.val]at c
 | s::s'::r,[],y,us,n,c,_,_=>by simp[vTs,Rd.val]at c
theorem sW(h:Inv w0 G S a w):∀ {xs:List Operand} {vs:List V},(AB xs).val S=some vs->nY G w vs (xs.map a.eval)
 | [],vs,hv=>by simp only[AB,Rd.val,zD]at hv;subst hv;trivial
 | x::xs,vs,hv=>by
  simp only[AB,Rd.aF,zB,Rd.val,zD]at hv;obtain⟨av,b,v,c,vs',d,rfl⟩:=hv;exact⟨qf c (aZ h b),sW h d⟩
end reads
end Go.Abs
namespace Go.Abs
open Go.RowKit
section ops
variable {P:Program} {w0:Bs} {G:Gh} {S:St} {a:Act} {w:World} {o:Oper} {K:Act->World->Prop} {Q:Exit->Act->World->Prop}
theorem aN{v:Value}{w':World}(hrun:(execOp a.eval o).run P w=.ok (.value v) w')(h:K (a.put o.dst v) w'):o.wp P a w K Q:=by
 unfold Oper.wp;rw[hrun];exact h
theorem KZ{w':World}(hrun:(execOp a.eval o).run P w=.ok .skip w')(h:K (a.put o.dst undef) w'):o.wp P a w K Q:=by
 unfold Oper.wp;rw[hrun];exact h
theorem Inv.dst(h:Inv w0 G S a w){av:AV}{v:Value}(hv:jq G w av v):Inv w0 G (S.puts (fA o av)) (a.put o.dst v) w:=by
 unfold fA;cases o.dst with
 | none=>exact h
 | some d=>exact h.iY d hv
theorem acN{c:C}{v:Value}(h:oG G w c v):jq G w (aia c) v:=by
 cases c<;>first | trivial | exact h
theorem rW{x:V}{v:Value}(h:tK G w x v):jq G w (JM x) v:=by
 cases x with
 | one c=>exact acN h
 | agg cs=>exact h
theorem GZ:jq G w (.tup []) undef:=⟨[],rfl,trivial⟩
theorem Vk{v:Value}(h:v.oneCell'=true):v.cells = #[v]:=by
 cases v<;>first | rfl | (simp[Value.oneCell']at h)
theorem tK.Tv{x:V}{v:Value}(h:tK G w x v):∃vs:List Value,v.cells=vs.toArray/\dB G w x.cells vs:=by
 cases x with
 | one c=>exact⟨[v],Vk (oG.one h),⟨h,trivial⟩⟩
 | agg cs=>obtain⟨vs,rfl,a⟩:=h;exact⟨vs,rfl,a⟩
theorem dB.seg{cs:List C}{vs:List Value}(h:dB G w cs vs)(off n:Nat):dB G w (seg cs off n) (Abs.seg vs off n):=by
 obtain⟨b,d⟩:=h.get;refine dB.mk (by simp[Abs.seg,b]) fun i c v a hv=>?_
 simp only[Abs.seg,List.getElem?_take,List.getElem?_drop]at a hv;split at a
 ·rename_i hi;rw[if_pos hi]at hv;exact d _ c v a hv
 ·cases a
theorem dB.dS{cs cs':List C}{vs vs':List Value}(h:dB G w cs vs)(k:dB G w cs' vs')(off:Nat):dB G w (dS cs off cs') (Abs.dS vs off vs'):=by
 obtain⟨g,j⟩:=h.get;obtain⟨b,d⟩:=k.get;refine dB.mk (by simp[Abs.dS,g,b]) fun i c v a hv=>?_
 simp only[Abs.dS,List.getElem?_append,List.getElem?_take,List.getElem?_drop,a7,ba,g,b]at a hv;split at a
 ·rename_i e;rw[if_pos e]at hv;split at a
  ·rename_i f;rw[if_pos f]at hv;split at a
   ·rename_i l;rw[if_pos l]at hv;exact j _ c v a hv
   ·cases a
  ·rename_i f;rw[if_neg f]at hv;exact d _ c v a hv
 ·rename_i e;rw[if_neg e]at hv;exact j _ c v a hv
theorem dB.length{cs:List C}{vs:List Value}(h:dB G w cs vs):cs.length=vs.length:=h.get.1
theorem UK{agg:Bool}{cs:List C}{x:V}{vs:List Value}(a:mkV agg cs=some x)(b:dB G w cs vs) :
  (agg=true->tK G w x (.agg vs.toArray))/\(agg=false->∃v,vs=[v]/\tK G w x v):=by
 unfold mkV at a;split at a
 ·cases a;exact⟨fun _=>⟨vs,rfl,b⟩,by simp⟩
 ·cases a
  match vs,b with
  | [v],b=>exact⟨by simp,fun _=>⟨v,rfl,b.1⟩⟩
 ·cases a
theorem addr_add(g o j:Nat):(⟨g,o,none⟩:Addr).add j=⟨g,o+j,none⟩:=by unfold Addr.add;split<;>simp_all
theorem qG(T:TypeId)(g off:Nat)(d:TypeDesc)(i:TypeInfo)(b:P.underlying T=some d)(hi:P.info? T=some i)(f:I8 d=true)(ls:List Value)(c:ls.length=i.size)
  (e:∀j v,ls[j]?=some v->w.cell? ⟨g,off+j,none⟩=some v):(loadVar T ⟨g,off,none⟩).run P w=.ok (.agg ls.toArray) w:=by
 have a:(loadCells ⟨g,off,none⟩ ls.length).run P w=.ok ls.toArray w:=run_loadCells_list (P:=P) w ⟨g,off,none⟩ ls fun j v hv=>by rw[addr_add];exact e j v hv
 have hagg:(isAgg T).run P w=.ok true w:=by
  unfold isAgg;rw[Sem.run_bind,run_underlying b w];cases d<;>simp_all [I8]
 rw[c]at a;simp[loadVar,Sem.run_bind,hagg,sizeOf,typeInfo,hi,a]
theorem yL(T:TypeId)(g off:Nat)(d:TypeDesc)(a:P.underlying T=some d)(c:I8 d=false)(v:Value)
  (b:w.cell? ⟨g,off,none⟩=some v):(loadVar T ⟨g,off,none⟩).run P w=.ok v w:=by
 have hagg:(isAgg T).run P w=.ok false w:=by
  unfold isAgg;rw[Sem.run_bind,run_underlying a w];cases d<;>simp_all [I8]
 simp[loadVar,Sem.run_bind,hagg,b]
theorem uZ{T:TT}(m:T.ok P=true)(h:Inv w0 G S a w){t:TypeId}{p:Operand}(b:o.op=.load t p){agg:Bool}{n:Nat}(q:lk T.shape t=some (agg,n))
  {g off:Nat} (c:a.eval p=.pointer (some ⟨g,off,none⟩)) {cs:List C} {vs:List Value} (e:dB G w cs vs) (z:cs.length=n)
  (hcell:∀j v,vs[j]?=some v->w.cell? ⟨g,off+j,none⟩=some v) {x:V} (r:mkV agg cs=some x)
  (f:∀a' w' G',Inv w0 G' (S.puts (fA o (JM x))) a' w'->K a' w'):o.wp P a w K Q:=by
 obtain⟨d,i,k,hi,s,l⟩:=TT.EN m q;obtain⟨u,y⟩:=UK r e;have A:=e.length;cases agg with
 | true=>
  refine aN (v:=.agg vs.toArray) (w':=w) ?_ (f _ _ _ (h.dst (rW (u rfl))));have:=qG (w:=w) t g off d i k hi l vs (by omega) hcell;unfold execOp;simp only[b,c,Instr.loadAt,Instr.sureAddr,Sem.run_bind,Sem.run_pure,Result.andThen_ok,this]
 | false=>
  obtain⟨v,rfl,hv⟩:=y rfl;refine aN (v:=v) (w':=w) ?_ (f _ _ _ (h.dst (rW hv)));have:=yL (w:=w) t g off d k l v (hcell 0 v rfl);unfold execOp;simp only[b,c,Instr.loadAt,Instr.sureAddr,Sem.run_bind,Sem.run_pure,Result.andThen_ok,this]
theorem ad3(h:Inv w0 G S a w){d:Nat}(g:o.dst=some d){cs:List C}{ws:List W}(hv:(xR d cs).val S=some ws){vs:List Value}{e:TypeId}(j:dB G w cs vs)
  (hrun:(execOp a.eval o).run P w=.ok (.value (.pointer (some ⟨w.heap.size,0,none⟩))) (w.alloc (.cells vs.toArray e)))
  (l:∀a' w' G',Inv w0 G' (S.puts ws) a' w'->K a' w'):o.wp P a w K Q:=by
 unfold xR at hv;split at hv
 case isTrue=>cases hv
 rename_i f;simp only[Rd.val]at hv;split at hv
 ·rename_i m;simp only[Rd.val,zD]at hv;subst hv;have hbel:Below w.heap.size w (w.alloc (.cells vs.toArray e)):=(Below.refl _ _).alloc (az _) _;have n:=h.grow hbel;have q:Mv G G w (w.alloc (.cells vs.toArray e)):=⟨fun b o c=>⟨c,hbel.cell (p:=⟨b,o,none⟩) (h.sok b o c).1⟩,fun k r=>⟨r,fun _=>rfl⟩,fun i hi=>⟨hi,rfl⟩⟩;obtain⟨G',s⟩:=n.xR d w.heap.size f m h.below.size
   (by cases t:G.ow w.heap.size with
     | none=>rfl
     | some y=>exact absurd (h.olt _ _ t).2 (Nat.lt_irrefl _))
   (fun o c=>absurd (h.sok _ o c).1 (Nat.lt_irrefl _)) (heap_alloc_new w _) (j.move q)
  refine aN hrun (l _ _ G' ?_);rw[g];exact s
 ·cases hv
theorem aaA(h:Inv w0 G S a w){x:Operand}(b:o.op=.move x\/o.op=.assign x){E:Env}{ws:List W}(hv:(eff E o).val S=some ws)
  (d:∀a' w' G',Inv w0 G' (S.puts ws) a' w'->K a' w'):o.wp P a w K Q:=by
 have c:((dX x).bind fun a=>.ret (fA o a)).val S=some ws:=by
  rcases b with b | b<;>(unfold eff at hv;rw[b]at hv;exact hv)
 simp only[Rd.aF,zB,Rd.val,zD]at c;obtain⟨av,e,rfl⟩:=c;refine aN (v:=a.eval x) (w':=w) ?_ (d _ _ _ (h.dst (aZ h e)));rcases b with b | b<;>(unfold execOp;simp only[b];rfl)
theorem afQ(h:Inv w0 G S a w){c x y:Operand}(f:o.op=.pick c x y){E:Env}{ws:List W}(hv:(eff E o).val S=some ws)
  (i:∀a' w' G',Inv w0 G' (S.puts ws) a' w'->K a' w'):o.wp P a w K Q:=by
 unfold eff at hv;rw[f]at hv;simp only[Rd.aF,zB]at hv;obtain⟨av,j,d,k,hv⟩:=hv;have e:=qg k (aZ h j);split at hv
 ·simp only[Rd.aF,zB,Rd.val,zD]at hv;obtain⟨av',g,rfl⟩:=hv;generalize b:a.eval c=cv at e;cases e
  refine aN (v:=a.eval x) (w':=w) ?_ (i _ _ _ (h.dst (aZ h g)));unfold execOp;simp[f,b,asBool]
 ·simp only[Rd.aF,zB,Rd.val,zD]at hv;obtain⟨av',g,rfl⟩:=hv;generalize b:a.eval c=cv at e;cases e
  refine aN (v:=a.eval y) (w':=w) ?_ (i _ _ _ (h.dst (aZ h g)));unfold execOp;simp[f,b,asBool]
 ·cases hv
theorem ad5(h:Inv w0 G S a w){e:TypeId}(c:o.op=.alloc e){E:Env}(f:E.tt.ok P=true){ws:List W}(hv:(eff E o).val S=some ws)
  (g:∀a' w' G',Inv w0 G' (S.puts ws) a' w'->K a' w'):o.wp P a w K Q:=by
 unfold eff at hv;rw[c]at hv;simp only at hv;split at hv
 ·rename_i d cs j b;obtain⟨i,z,hi,b,k⟩:=TT.ZW f b;refine ad3 h j hv (vs:=z.cells.toList) (e:=e) (mY _ _ k) ?_ g;unfold execOp;simp[c,Instr.alloc,zeroValue,typeInfo,hi,b,newVar,newRow]
 ·cases hv
theorem afV(h:Inv w0 G S a w){e:TypeId}{x:Operand}(c:o.op=.box e x){E:Env}{ws:List W}(hv:(eff E o).val S=some ws)
  (f:∀a' w' G',Inv w0 G' (S.puts ws) a' w'->K a' w'):o.wp P a w K Q:=by
 unfold eff at hv;rw[c]at hv;simp only at hv;split at hv
 ·rename_i d g;simp only[Rd.aF,zB]at hv;obtain⟨av,i,x',j,hv⟩:=hv;have k:=qf j (aZ h i);obtain⟨vs,b,l⟩:=k.Tv;refine ad3 h g hv (vs:=vs) (e:=e) l ?_ f;unfold execOp;simp[c,Instr.box,newVar,newRow,b]
 ·cases hv
def AN(G:Gh)(k j b:Nat):Prop:=G.ow b=some (.own k j)/\∀len cap,G.ov k j≠.slice (some ⟨b,0,none⟩) len cap
theorem ad7{x:O}{t:Ty}{xs:List t.den}{deep m:Bool}(h:x=.own t xs deep m):∀t xs,¬x.IsT t xs:=by
 rintro t xs (a | ⟨i,a⟩ | a)<;>rw[h]at a<;>cases a
theorem Inv.addN(h:Inv w0 G S a w)(k j:Nat)(f:∀t xs,¬(aY (S.aI k) j).IsT t xs):Inv w0 { G with S:=fun b o=>G.S b o\/(b<w.heap.size/\AN G k j b) } S a w/\Mv G { G with S:=fun b o=>G.S b o\/(b<w.heap.size/\AN G k j b) } w w:=
 h.ZT _ (fun b o d=>⟨d.1,fun i hi=>(by rw[d.2.1]at hi;cases hi),fun k' j' t xs deep m _ len cap e c=>by
  rw[d.2.1]at c;cases c
  exact absurd e (d.2.2 len cap)⟩) (fun b o d=>(h.mD d.2.1).1) fun b o d k' j' t xs g c=>by
  rw[d.2.1]at c;cases c
  exact f t xs g
theorem afS(h:Inv w0 G S a w){t:TypeId}{p:Operand}(L:o.op=.load t p){E:Env}(N:E.tt.ok P=true){ws:List W}(hv:(eff E o).val S=some ws)
  (hpart:∀agg n k j i sz off ty xs m,lk E.tt.shape t=some (agg,n)->(dX p).val S=some (.oelt k j i sz off)->aY (S.aI k) j=.part ty xs m->(TL o agg n k j i sz off ty xs m).val S=some ws->o.wp P a w K Q)
  (O:∀a' w' G',Inv w0 G' (S.puts ws) a' w'->K a' w'):o.wp P a w K Q:=by
 unfold eff at hv;rw[L]at hv;simp only at hv;split at hv
 ·cases hv
 rename_i agg n B;simp only[Rd.aF,zB]at hv;obtain⟨av,h1,hv⟩:=hv;have R:=aZ h h1;split at hv
 ·rename_i b off;simp only[Rd.val]at hv;split at hv
  ·rename_i cs T;simp only[Rd.val,zB]at hv;obtain⟨x,M,hv⟩:=hv;split at hv
   ·rename_i D;simp only[Rd.val,zD]at hv;subst hv;obtain⟨_,vs,e,hh,C⟩:=h.box b cs T;refine uZ N h L B (g:=G.bk b) (off:=off) R.2 (C.seg off n) D (fun j v hv=>?_) M O;rw[cell_of_row w _ _ _ _ _ hh];simp only[Abs.seg,List.getElem?_take,List.getElem?_drop]at hv;split at hv
    ·simpa using hv
    ·cases hv
   ·cases hv
  ·cases hv
 ·rename_i ty x off;simp only[Rd.val,zB]at hv;obtain⟨y,U,hv⟩:=hv;split at hv
  ·rename_i D;simp only[Rd.val,zD]at hv;subst hv;obtain⟨b,of,s,vs,F⟩:=R;have hlen:(seg (ty.cells x) off n).length=n:=D;have r:∀j,j<n->∃d,(ty.cells x)[off+j]?=some d/\(seg (ty.cells x) off n)[j]?=some d:=by
    intro j r;have:j<(seg (ty.cells x) off n).length:=by omega
    refine⟨(seg (ty.cells x) off n)[j],?_,by simp[this]⟩;have e:(seg (ty.cells x) off n)[j]?=some (seg (ty.cells x) off n)[j]:=by simp[this]
    simp only[Abs.seg,List.getElem?_take,List.getElem?_drop]at e;rw[if_pos r]at e;exact e
   refine uZ N h L B (g:=b) (off:=of+off) s (cs:=(seg (ty.cells x) off n).map .d) (vs:=(List.range n).map fun j=>vs (off+j)) ?_ (by simp[hlen]) ?_ U O
   ·refine dB.mk (by simp[hlen]) fun j c v C hv=>?_
    simp only[List.getElem?_map,Option.map_eq_some_iff]at C hv;obtain⟨d,V,rfl⟩:=C;obtain⟨j',f,rfl⟩:=hv;have l:j<n:=by
     have:=(zC.1 f).1;simpa using this
    have:j'=j:=by simp[l]at f;exact f.symm
    subst this;obtain⟨d',u,z⟩:=r j' l;rw[V]at z;cases z
    exact (F _ _ u).2.2
   ·intro j v hv;simp only[List.getElem?_map,Option.map_eq_some_iff]at hv;obtain⟨j',f,rfl⟩:=hv;have l:j<n:=by
     have:=(zC.1 f).1;simpa using this
    have:j'=j:=by simp[l]at f;exact f.symm
    subst this;obtain⟨d',u,z⟩:=r j' l;rw[Nat.add_assoc];exact (F _ _ u).1
  ·cases hv
 ·rename_i k j i sz off;simp only[Rd.val]at hv;split at hv
  ·rename_i ty xs deep m hown;split at hv
   case isFalse=>cases hv
   rename_i X;simp only[Rd.val,zB]at hv;obtain⟨x,M,y,U,hv⟩:=hv;split at hv
   ·rename_i D;simp only[Rd.val,zD]at hv;subst hv;obtain⟨hlk,b,len,cap,A,s⟩:=R;obtain⟨h',hm⟩:=h.addN k j (ad7 hown);have hO:=h.owns k j;rw[hown]at hO;rcases hO with ⟨he,_⟩ | ⟨b',cap',arr,e,vs,fps,H,hb,hcap,hmax,hasz,hfb,C,Y,hf,hdis,_⟩
    ·rw[A]at he;cases he
    rw[A]at H;injection H with q e2 e3;injection q with q;injection q with q _ _;subst q;have hlen:(seg (ty.cells x) off n).length=n:=D;have r:∀j,j<n->∃d,(ty.cells x)[off+j]?=some d/\(seg (ty.cells x) off n)[j]?=some d:=by
     intro j r;have:j<(seg (ty.cells x) off n).length:=by omega
     refine⟨(seg (ty.cells x) off n)[j],?_,by simp[this]⟩;have e:(seg (ty.cells x) off n)[j]?=some (seg (ty.cells x) off n)[j]:=by simp[this]
     simp only[Abs.seg,List.getElem?_take,List.getElem?_drop]at e;rw[if_pos r]at e;exact e
    refine uZ N h' L B (g:=b) (off:=i*sz+off) s (cs:=(seg (ty.cells x) off n).map .d) (vs:=(List.range n).map fun j=>vs i (off+j)) ?_ (by simp[hlen]) ?_ U O
    ·refine dB.mk (by simp[hlen]) fun j' c v I hv=>?_
     simp only[List.getElem?_map,Option.map_eq_some_iff]at I hv;obtain⟨d,V,rfl⟩:=I;obtain⟨j'',f,rfl⟩:=hv;have l:j'<n:=by
      have:=(zC.1 f).1;simpa using this
     have:j''=j':=by simp[l]at f;exact f.symm
     subst this;obtain⟨d',u,z⟩:=r j'' l;rw[V]at z;cases z
     refine (Y i x _ d M u).aac (fun b o B=>.inl B) fun c o Z _=>.inr ?_
     have:=hf _ _ _ Z;refine⟨(h.olt _ _ this.1).2,this.1,fun len' cap'' J=>?_⟩;rw[A]at J;injection J with q _ _;injection q with q;injection q with q _ _;exact this.2 q.symm
    ·intro j' v hv;simp only[List.getElem?_map,Option.map_eq_some_iff]at hv;obtain⟨j'',f,rfl⟩:=hv;have l:j'<n:=by
      have:=(zC.1 f).1;simpa using this
     have:j''=j':=by simp[l]at f;exact f.symm
     subst this;obtain⟨d',u,z⟩:=r j'' l;have:=C i x _ d' M u;rw[cell_of_row w _ _ _ _ _ hb,Nat.add_assoc,<- X];exact this
   ·cases hv
  ·rename_i hown;exact hpart _ _ _ _ _ _ _ _ _ _ B h1 hown hv
  ·cases hv
 ·cases hv
theorem UC(h:Inv w0 G S a w){s:TypeId}{p:Operand}{f:Nat}(t:o.op=.fieldAddr s p f){E:Env}(u:E.tt.ok P=true){ws:List W}(hv:(eff E o).val S=some ws)
  (l:∀a' w' G',Inv w0 G' (S.puts ws) a' w'->K a' w'):o.wp P a w K Q:=by
 unfold eff at hv;rw[t]at hv;simp only at hv;split at hv
 ·cases hv
 rename_i fo agg n y;obtain⟨F,fd,d,i,z,A,hoff,B,hi,_,C,hpos⟩:=TT.XI u y;simp only[Rd.aF,zB]at hv;obtain⟨av,D,hv⟩:=hv;have e:=aZ h D;have run:∀g off,a.eval p=.pointer (some ⟨g,off,none⟩)->(execOp a.eval o).run P w=.ok (.value (.pointer (some ⟨g,off+fo,none⟩))) w:=by
  intro g off H;have m:i.size≠0:=by omega
  unfold execOp;simp only[t,H,Instr.fieldAt,Sem.run_bind,run_underlying z,Result.andThen_ok,A,Instr.sureAddr,Sem.run_pure,fieldPlace,sizeOf,typeInfo,run_program,hi];simp[m,hoff,addr_add]
 split at hv
 ·rename_i b off;simp only[Rd.val,zD]at hv;subst hv;exact aN (run _ _ e.2) (l _ _ _ (h.dst (av:=.v (.one (.ptr b (off+fo)))) ⟨e.1,rfl⟩))
 ·rename_i ty x off;simp only[Rd.val,zD]at hv;subst hv;obtain⟨b,of,c,I⟩:=e;refine aN (run _ _ c) (l _ _ _ (h.dst (av:=.elt ty x (off+fo)) ⟨b,of,?_,I⟩));rw[Nat.add_assoc]
 ·rename_i k j i sz off;simp only[Rd.val,zD]at hv;subst hv;obtain⟨q,b,len,cap,r,c⟩:=e;refine aN (run _ _ c) (l _ _ _ (h.dst (av:=.oelt k j i sz (off+fo)) ⟨q,b,len,cap,r,?_⟩));rw[Nat.add_assoc]
 ·cases hv
end ops
end Go.Abs
namespace Go.Abs
open Go.RowKit
theorem Ac{α:Type}{xs:List α}{n:Int}{x:α}(h:idx xs n=some x):0<=n/\n<xs.length/\xs[n.toNat]?=some x:=by
 unfold idx at h;split at h
 ·rename_i a;have:=(zC.1 h).1;exact⟨a,by omega,h⟩
 ·cases h
theorem pK(b:ByteArray):b.data.toList.length=b.size:=by rw[Array.length_toList];rfl
theorem rF(b:ByteArray):b.toList=b.data.toList:=by
 have key:∀(n i:Nat) (r:List UInt8),b.size-i=n->ByteArray.toList.loop b i r=r.reverse++b.data.toList.drop i:=by
  intro n;induction n with
  | zero=>
   intro i r c;unfold ByteArray.toList.loop;have hi:¬i<b.size:=by omega
   rw[if_neg hi];have:b.data.toList.drop i=[]:=by
    rw[List.drop_eq_nil_iff];have:=pK b;omega
   rw[this];simp
  | succ n ih=>
   intro i r c;unfold ByteArray.toList.loop;have hi:i<b.size:=by omega
   rw[if_pos hi,ih (i+1) _ (by omega)];have a:i<b.data.toList.length:=by rw[pK];exact hi
   rw[List.drop_eq_getElem_cons a];have:b.get! i=b.data.toList[i]:=by
    have d:i<b.data.size:=hi;simp only[ByteArray.get!,Array.getElem_toList];exact getElem!_pos b.data i d
   rw[this];simp
 have:=key _ 0 [] rfl;simpa [ByteArray.toList] using this
section ops
variable {P:Program} {w0:Bs} {G:Gh} {S:St} {a:Act} {w:World} {o:Oper} {K:Act->World->Prop} {Q:Exit->Act->World->Prop}
theorem run_indexAt(T e:TypeId)(i:TypeInfo)(a:P.underlying T=some (.slice e))(hi:P.info? e=some i)(g off len cap:Nat)(k:IntKind)(n:Int)(b:0<=n)(c:n<len) :
  (Instr.indexAt T (.slice (some ⟨g,off,none⟩) len cap) (.int k n)).run P w=.ok (.pointer (some ⟨g,off+n.toNat*i.size,none⟩)) w:=by
 simp[Instr.indexAt,asIntOf,run_underlying a,b,c,sizeOf,typeInfo,hi,addr_add]
theorem UB(h:Inv w0 G S a w){T:TypeId}{x i:Operand}(H:o.op=.indexAddr T x i){E:Env}(L:E.tt.ok P=true){ws:List W}(hv:(eff E o).val S=some ws)
  (A:∀a' w' G',Inv w0 G' (S.puts ws) a' w'->K a' w'):o.wp P a w K Q:=by
 unfold eff at hv;rw[H]at hv;simp only at hv;split at hv
 ·cases hv
 rename_i t M;obtain⟨e,inf,z,N,hi,C,_⟩:=TT.ku L M;simp only[Rd.aF,zB]at hv;obtain⟨av,O,av',D,n,R,hv⟩:=hv;have r:=aZ h O;obtain⟨kk,U⟩:=wS R (aZ h D);have run:∀g off len cap,a.eval x=.slice (some ⟨g,off,none⟩) len cap->0<=n->n<len->(execOp a.eval o).run P w=.ok (.value (.pointer (some ⟨g,off+n.toNat*t.size,none⟩))) w:=by
  intro g off len cap F s l;have:=run_indexAt (w:=w) T e inf N hi g off len cap kk n s l;rw[C]at this;unfold execOp;simp[H,F,U,this]
 have stable:∀(xs:List t.den) (y:t.den) (v:Value),Rep w G.S (.list t xs) v->a.eval x=v->idx xs n=some y->∃v',(execOp a.eval o).run P w=.ok (.value v') w/\jq G w (.elt t y 0) v':=by
  intro xs y v hrep F p;obtain⟨s,l,q⟩:=Ac p;cases hrep with
  | nil=>simp at l;omega
  | emp=>simp at l;omega
  | list _ _ b off cap vs hcap V r=>
   refine⟨_,run b off _ cap F s l,b,off+n.toNat*t.size,rfl,fun j=>vs n.toNat j,fun j d I=>?_⟩;have:=V _ _ _ _ q I;rw[Nat.add_assoc];exact⟨this.1,this.2,r _ _ _ _ q I⟩
 split at hv
 ·rename_i t' xs;split at hv
  ·rename_i c;subst c;simp only[Rd.val,zB,zD]at hv;obtain⟨y,p,rfl⟩:=hv;obtain⟨v',hrun,hrep⟩:=stable xs y _ r rfl p;exact aN hrun (A _ _ _ (h.dst hrep))
  ·cases hv
 ·rename_i k j;simp only[Rd.val]at hv;split at hv
  ·rename_i t' xs deep m hown;split at hv
   ·rename_i c;subst c;simp only[Rd.val,zB,zD]at hv;obtain⟨y,p,rfl⟩:=hv;obtain⟨s,l,q⟩:=Ac p;have u:=h.owns k j;rw[hown]at u;rcases u with ⟨_,B⟩ | ⟨b,cap,arr,e',vs,fps,f,_⟩
    ·subst B;simp at l;omega
    refine aN (run b 0 xs.length cap (by rw[r.2.1];exact f) s l) (A _ _ _ (h.dst (av:=.oelt k j n.toNat t'.size 0) ⟨r.1,b,xs.length,cap,f,?_⟩));simp
   ·cases hv
  ·rename_i t' xs hown;split at hv
   ·rename_i c;subst c;simp only[Rd.val,zB,zD]at hv;obtain⟨y,p,rfl⟩:=hv;obtain⟨v',hrun,hrep⟩:=stable xs y _ (h.Ur hown) r.2.1 p;exact aN hrun (A _ _ _ (h.dst hrep))
   ·cases hv
  ·rename_i t' xs m hown;split at hv
   ·rename_i c;subst c;simp only[Rd.val,zB,zD]at hv;obtain⟨y,p,rfl⟩:=hv;obtain⟨s,l,q⟩:=Ac p;have u:=h.owns k j;rw[hown]at u;rcases u with ⟨_,B⟩ | ⟨b,cap,arr,e',vs,fps,f,_⟩
    ·subst B;simp at l;omega
    refine aN (run b 0 xs.length cap (by rw[r.2.1];exact f) s l) (A _ _ _ (h.dst (av:=.oelt k j n.toNat t'.size 0) ⟨r.1,b,xs.length,cap,f,?_⟩));simp
   ·cases hv
  ·rename_i t' xs hown;split at hv
   ·rename_i c;subst c;simp only[Rd.val,zB,zD]at hv;obtain⟨y,p,rfl⟩:=hv;obtain⟨s,l,q⟩:=Ac p;have u:=h.owns k j;rw[hown]at u;obtain⟨fp,X,Y,Z⟩:=u;have J:iL w G.S t' xs n.toNat (G.ov k j) (fU G k j):=(iL.NH Y X Z).at n.toNat;have D:=h.ED k j (.part t' xs n.toNat) J;rcases J with ⟨_,B⟩ | ⟨b,cap,arr,e',vs,fps,f,_⟩
    ·subst B;simp at l;omega
    refine aN (run b 0 xs.length cap (by rw[r.2.1];exact f) s l) (A _ _ _ (D.dst (av:=.oelt k j n.toNat t'.size 0) ⟨r.1,b,xs.length,cap,f,?_⟩));simp
   ·cases hv
  ·cases hv
 ·cases hv
theorem adW(h:Inv w0 G S a w){T:TypeId}{x i:Operand}(f:o.op=.index T x i){E:Env}(j:E.tt.ok P=true){ws:List W}(hv:(eff E o).val S=some ws)
  (k:∀a' w' G',Inv w0 G' (S.puts ws) a' w'->K a' w'):o.wp P a w K Q:=by
 unfold eff at hv;rw[f]at hv;simp only at hv;split at hv
 ·rename_i l;have m:=TT.LD j l;simp only[Rd.aF,zB]at hv;obtain⟨av,p,d,q,hv⟩:=hv;have g:=qg q (aZ h p);split at hv
  ·rename_i s;simp only[Rd.aF,zB,Rd.val,zD]at hv;obtain⟨av',r,n,t,c,u,rfl⟩:=hv;obtain⟨kk,y⟩:=wS t (aZ h r);obtain⟨z,D,A⟩:=Ac u;generalize e:a.eval x=xv at g;cases g with
   | str v=>
    refine aN (v:=.int .u8 c.toNat) (w':=w) ?_ (k _ _ _ (h.dst (Rep.int _ _)));have B:v[n.toNat]?=some c:=by
     have b:n.toNat<v.size:=by
      have:=pK v;omega
     rw[getElem?_pos v n.toNat b];have:v.data.toList[n.toNat]?=some v[n.toNat]:=by
      have C:n.toNat<v.data.size:=b;rw[Array.getElem?_toList,getElem?_pos v.data n.toNat C];rfl
     rw[A]at this;exact this.symm
    unfold execOp;simp[f,e,y,Instr.index,asIntOf,run_underlying m,z,B]
  ·cases hv
 ·cases hv
theorem nY.get{xs:List V}{us:List Value}(h:nY G w xs us):xs.length=us.length/\∀(i:Nat) (x:V) (u:Value),xs[i]?=some x->us[i]?=some u->tK G w x u:=by
 induction xs generalizing us with
 | nil=>cases us with
  | nil=>exact⟨rfl,fun i x u b=>by simp at b⟩
  | cons u us=>exact h.elim
 | cons x xs ih=>cases us with
  | nil=>exact h.elim
  | cons u us=>
   obtain⟨c,d⟩:=ih h.2
   refine⟨by simp[c],fun i y v a hv=>?_⟩
   cases i with
   | zero=>simp at a hv;subst a;subst hv;exact h.1
   | succ i=>simp at a hv;exact d i y v a hv
theorem Ze(h:Inv w0 G S a w){x:Operand}{i:Nat}(c:o.op=.extract x i){E:Env}{ws:List W}(hv:(eff E o).val S=some ws)
  (e:∀a' w' G',Inv w0 G' (S.puts ws) a' w'->K a' w'):o.wp P a w K Q:=by
 unfold eff at hv;rw[c]at hv;simp only[Rd.aF,zB]at hv;obtain⟨av,f,hv⟩:=hv;have g:=aZ h f;split at hv
 ·rename_i vs;simp only[Rd.val,zB,zD]at hv;obtain⟨y,d,rfl⟩:=hv;obtain⟨us,j,b⟩:=g;obtain⟨l,k⟩:=b.get;have hi:i<us.length:=by have:=(zC.1 d).1;omega
  refine aN (v:=us[i]) (w':=w) ?_ (e _ _ _ (h.dst (rW (k i y us[i] d (by simp[hi])))));unfold execOp;simp[c,j,Instr.extract,hi]
 ·cases hv
theorem Yo{p q:Str}{u v:Value}(c:Rep w G.S (.str p) u)(d:Rep w G.S (.str q) v)(f:p.length+q.length<=34359738368)(T:TypeId) :
  ∃r,(binOp .add T u v).run P w=.ok r w/\Rep w G.S (.str (p++q)) r:=by
 generalize a:D.str p=dp at c;generalize b:D.str q=dq at d;cases c<;>cases a
 cases d<;>cases b
 rename_i s s';rw[pK,pK]at f;refine⟨.string (s++s'),?_,?_⟩
 ·have:¬(((s.size+s'.size:Nat):Int)>IntKind.i64.max):=by
   have:IntKind.i64.max=9223372036854775807:=by decide
   rw[this];omega
  simp only[binOp,Op.stringOp];rw[if_neg this];rfl
 ·have e:s.data.toList++s'.data.toList=(s++s').data.toList:=by simp
  rw[e];exact .str _
theorem ae9{op:BinOp}{x y z:D}{u v:Value}(a:aiU op x y=some z)(b:Rep w G.S x u)(c:Rep w G.S y v)(T:TypeId)
  (e:∀p q,x=.bool p->y=.bool q->P.underlying T=some .bool) :
  ∃r,(binOp op T u v).run P w=.ok r w/\Rep w G.S z r:=by
 unfold aiU at a;split at a
 ·rename_i k p k' q;split at a
  ·rename_i f;subst f;cases b;cases c
   unfold binI at a;split at a<;>cases a<;>refine⟨_,?_,by first | exact Rep.int _ _ | exact Rep.bool _⟩<;>simp[binOp,Op.intArith,Op.intCmp,Op.intBits]<;>rfl
  ·cases a
 ·rename_i p q;cases b with
  | str s=>
  cases c with
  | str s'=>
   unfold binS at a;split at a
   all_goals
    first
     | (cases a;refine⟨_,?_,Rep.bool _⟩;simp[binOp,Op.stringOp,rF];done)
     | (cases a;refine⟨_,?_,Rep.bool _⟩;simp only[binOp,Op.stringOp,rF];rfl)
     | cases a
 ·rename_i p q;cases b;cases c
  have d:=e p q rfl rfl;unfold binB at a;split at a
  ·cases a;exact⟨_,run_eql_bool w T p q d,Rep.bool _⟩
  ·cases a;exact⟨_,run_neq_bool w T p q d,Rep.bool _⟩
  ·cases a
 ·cases a
end ops
end Go.Abs
namespace Go.Abs
open Go.RowKit
theorem Sv(d e:D):∀(ds es:List D),ds.length=es.length->CJ (d::ds) (e::es)=(eqD d e&&CJ ds es)
 | [],[],_=>by simp[CJ]
 | _::_,_::_,_=>rfl
theorem JK:∀(b c f g:List D),b.length=c.length->f.length=g.length->CJ (b++f) (c++g)=(CJ b c&&CJ f g)
 | [],[],f,g,_,_=>by simp[CJ]
 | d::b,e::c,f,g,j,i=>by
  have a:b.length=c.length:=by simpa using j
  simp only[List.cons_append];rw[Sv _ _ _ _ (by simp[a,i]),Sv _ _ _ _ a,JK b c f g a i,Bool.and_assoc]
 | [],_::_,_,_,h,_=>by simp at h
 | _::_,[],_,_,h,_=>by simp at h
theorem IQ:∀ {ks:List Kd} {cs:List C} {ds:List D},XW ks cs=some ds->cs=ds.map .d/\ds.map kd=ks
 | [],[],ds,h=>by simp only[XW,zD]at h;subst h;exact⟨rfl,rfl⟩
 | [],_::_,ds,h=>by simp[XW]at h
 | _::_,[],ds,h=>by simp[XW]at h
 | k::ks,c::cs,ds,h=>by
  simp only[XW]at h;split at h
  ·rename_i d a;split at h
   ·rename_i ds' b;cases h
    obtain⟨e,f⟩:=IQ b;unfold cKd at a;split at a
    ·split at a
     ·rename_i g;cases a
      exact⟨by rw[e];rfl,by simp[g,f]⟩
     ·cases a
    ·cases a
   ·cases h
  ·cases h
section eqs
variable {P:Program} {w:World} {S:Nat->Nat->Prop}
def Ky(w:World)(S:Nat->Nat->Prop)(ds:List D)(vs:List Value):Prop:=ds.length=vs.length/\∀(i:Nat) (d:D) (v:Value),ds[i]?=some d->vs[i]?=some v->Rep w S d v
theorem Ky.seg{ds:List D}{vs:List Value}(h:Ky w S ds vs)(o n:Nat):Ky w S ((ds.drop o).take n) ((vs.drop o).take n):=by
 refine⟨by simp[h.1],fun i d v a hv=>?_⟩;rw[List.getElem?_take]at a hv;split at a
 ·rename_i hi;rw[if_pos hi]at hv;rw[List.getElem?_drop]at a hv;exact h.2 _ d v a hv
 ·cases a
theorem Oc{d:D}{v:Value}{k:IntKind}(a:kd d=.int k)(h:Rep w S d v):∃n,d=.int k n/\v=.int k n:=by
 cases h<;>simp only[kd]at a<;>cases a
 exact⟨_,rfl,rfl⟩
theorem JC{d:D}{v:Value}(a:kd d=.bool)(h:Rep w S d v):∃b,d=.bool b/\v=.bool b:=by
 cases h<;>simp only[kd]at a<;>cases a
 exact⟨_,rfl,rfl⟩
theorem Ob{d:D}{v:Value}(a:kd d=.str)(h:Rep w S d v):∃s:ByteArray,d=.str s.data.toList/\v=.string s:=by
 cases h<;>simp only[kd]at a<;>cases a
 exact⟨_,rfl,rfl⟩
def yN(P:Program)(t:TypeId)(vs:List Value):Value:=match P.underlying t with
 | some (.struct _)=>.agg vs.toArray
 | _=>vs.headD undef
theorem WL{t:TypeId}{ks:List Kd}{n:Nat}(b:QF P n t=some ks)(f:ks.length=P.cellsOf t){vs:List Value}{off:Nat}(g:off+ks.length<=vs.length) :
  (part t vs.toArray off).run P w=.ok (yN P t ((vs.drop off).take ks.length)) w:=by
 cases n with
 | zero=>simp[QF]at b
 | succ n=>
  rw[QF]at b;have one:∀d,P.underlying t=some d->I8 d=false->ks.length=1->(match d with | .struct _=>false | _=>true)=true->(part t vs.toArray off).run P w=.ok (yN P t ((vs.drop off).take ks.length)) w:=by
   intro d a m h e;have hagg:(isAgg t).run P w=.ok false w:=by
    unfold isAgg;rw[Sem.run_bind,run_underlying a w];cases d<;>simp_all [I8]
   have c:off<vs.length:=by omega
   have j:yN P t ((vs.drop off).take ks.length)=vs[off]:=by
    unfold yN;rw[a];have:((vs.drop off).take ks.length).headD undef=vs[off]:=by
     rw[h,List.drop_eq_getElem_cons c];rfl
    cases d<;>first | exact this | simp at e
   rw[j];simp[part,hagg,c]
  split at b
  ·rename_i a;cases b;exact one _ a rfl rfl rfl
  ·rename_i k a;cases b;exact one _ a rfl rfl rfl
  ·rename_i a;cases b;exact one _ a rfl rfl rfl
  ·rename_i fs a;have hagg:(isAgg t).run P w=.ok true w:=by
    unfold isAgg;rw[Sem.run_bind,run_underlying a w];rfl
   have hinfo:∃i,P.info? t=some i/\i.size=P.cellsOf t:=by
    unfold Program.underlying at a;cases hi:P.info? t with
    | none=>rw[hi]at a;cases a
    | some i=>exact⟨i,rfl,by simp[Program.cellsOf,hi]⟩
   obtain⟨i,hi,l⟩:=hinfo;unfold yN;rw[a];simp[part,hagg,sizeOf,typeInfo,hi,l,<- f]
  ·cases b
theorem XM:∀(n m:Nat) (t:TypeId) (ks:List Kd) (ds es:List D) (vs us:List Value),QF P n t=some ks->ds.map kd=ks->es.map kd=ks->Ky w S ds vs->Ky w S es us ->
  (Op.equalIn (n+m) t (yN P t vs) (yN P t us)).run P w=.ok (CJ ds es) w
 | 0,m,t,ks,ds,es,vs,us,h,_,_,_,_=>by simp[QF]at h
 | n+1,m,t,ks,ds,es,vs,us,h,x,y,hv,c=>by
  have R:n+1+m=(n+m)+1:=by omega
  rw[R];rw[QF]at h;split at h
  ·rename_i j;cases h
   obtain⟨d,rfl,o⟩:=List.map_eq_singleton_iff.1 x;obtain⟨e,rfl,p⟩:=List.map_eq_singleton_iff.1 y;have q:=hv.1;match vs,q with
   | [v],_=>
   match us,c with
   | [u],c=>
    obtain⟨a,rfl,rfl⟩:=JC o (hv.2 0 _ _ rfl rfl);obtain⟨b,rfl,rfl⟩:=JC p (c.2 0 _ _ rfl rfl);simp only[yN,j,List.headD_cons];exact run_equalIn_bool' w (n+m) t a b j
   | [],c=>simp[Ky]at c
   | _::_::_,c=>simp[Ky]at c
  ·rename_i k j;cases h
   obtain⟨d,rfl,o⟩:=List.map_eq_singleton_iff.1 x;obtain⟨e,rfl,p⟩:=List.map_eq_singleton_iff.1 y;have q:=hv.1;match vs,q with
   | [v],_=>
   match us,c with
   | [u],c=>
    obtain⟨a,rfl,rfl⟩:=Oc o (hv.2 0 _ _ rfl rfl);obtain⟨b,rfl,rfl⟩:=Oc p (c.2 0 _ _ rfl rfl);simp only[yN,j,List.headD_cons];exact run_equalIn_int w (n+m) t k k a b j
   | [],c=>simp[Ky]at c
   | _::_::_,c=>simp[Ky]at c
  ·rename_i j;cases h
   obtain⟨d,rfl,o⟩:=List.map_eq_singleton_iff.1 x;obtain⟨e,rfl,p⟩:=List.map_eq_singleton_iff.1 y;have q:=hv.1;match vs,q with
   | [v],_=>
   match us,c with
   | [u],c=>
    obtain⟨a,rfl,rfl⟩:=Ob o (hv.2 0 _ _ rfl rfl);obtain⟨b,rfl,rfl⟩:=Ob p (c.2 0 _ _ rfl rfl);simp only[yN,j,List.headD_cons];rw[run_equalIn_string w (n+m) t a b j,rF,rF];rfl
   | [],c=>simp[Ky]at c
   | _::_::_,c=>simp[Ky]at c
  ·rename_i fs j;split at h
   ·cases h
   rename_i I;simp only[zB]at h;obtain⟨k,h,r⟩:=h;split at r
   case isFalse=>cases r
   rename_i T;obtain rfl:=a6 r;have z:P.fieldsOf t=fs:=by simp[Program.fieldsOf,j]
   simp only[yN,j];rw[run_equalIn_struct w (n+m) t _ _ (by rw[z];exact j) (by simpa using I),z];have key:∀(fl:List Field) (off:Nat) (kk:List Kd),XL P (QF P n) off fl=some kk->off+kk.length<=ds.length->((ds.drop off).take kk.length).map kd=kk->((es.drop off).take kk.length).map kd=kk ->
     (Op.eqFields (n+m) vs.toArray us.toArray fl).run P w=.ok (CJ ((ds.drop off).take kk.length) ((es.drop off).take kk.length)) w:=by
    intro fl;induction fl with
    | nil=>
     intro off kk g _ _ _;simp only[XL,zD]at g;subst g;simp[Op.eqFields,CJ]
    | cons f fl ih=>
     intro off kk g A J K;simp only[XL]at g;split at g
     case isFalse=>cases g
     rename_i O;simp only[zB]at g;obtain⟨i,s,g⟩:=g;split at g
     case isFalse=>cases g
     rename_i B;rw[Option.map_eq_some_iff]at g;obtain⟨H,L,rfl⟩:=g;have C:=hv.1;have E:=c.1;have F:ds.length=es.length:=by
      have:=congrArg List.length (x.trans y.symm);simpa using this
     rw[a7]at A;have G:∀(l:List D),(l.drop off).take (i++H).length=(l.drop off).take i.length++(l.drop (off+i.length)).take H.length:=by
      intro l;rw[a7,List.take_add,List.drop_drop]
     rw[G]at J K ⊢;rw[G];rw[List.map_append]at J K;have len1:∀(l:List D),off+(i.length+H.length)<=l.length->(((l.drop off).take i.length).map kd).length=i.length:=by
      intro l hl;simp;omega
     obtain⟨U,V⟩:=List.append_inj J (len1 ds A);obtain⟨W,X⟩:=List.append_inj K (len1 es (by omega));have Y:=WL (w:=w) s B (vs:=vs) (off:=off) (by omega);have Z:=WL (w:=w) s B (vs:=us) (off:=off) (by omega);have M:=XM n m f.type i ((ds.drop off).take i.length) ((es.drop off).take i.length) ((vs.drop off).take i.length) ((us.drop off).take i.length) s U W (hv.seg _ _) (c.seg _ _);have N:=ih (off+i.length) H L (by omega) V X;rw[JK _ _ _ _ (by simp[F]) (by simp[F])];simp only[Op.eqFields,O.1,ne_eq,not_false_eq_true,if_true,Sem.run_bind,O.2,Y,Z,Result.andThen_ok,M];cases CJ ((ds.drop off).take i.length) ((es.drop off).take i.length)with
     | false=>simp
     | true=>simpa using N
   have C:k.length=ds.length:=by rw[<- x];simp
   have E:k.length=es.length:=by rw[<- y];simp
   have G:(ds.drop 0).take k.length=ds:=by rw[C];simp
   have Q:(es.drop 0).take k.length=es:=by rw[E];simp
   have:=key fs.toList 0 k h (by omega) (by rw[G];exact x) (by rw[Q];exact y);rw[G,Q]at this;exact this
  ·cases h
end eqs
end Go.Abs
