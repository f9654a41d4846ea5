import Derived.Test.YtjbajpfonnnfoaaGreatDoorAbs
import Derived.Laws.StructEq
set_option linter.unusedSimpArgs false
set_option linter.unusedVariables false
/- What the abstract evaluator's states say of the machine's; the first operations. -/
namespace Go.Abs
open Go.RowKit
theorem Rd.aK{α β:Type}(p:Rd α)(g:α->Rd β)(S:St):(p.bind g).val S=(p.val S).bind λa=>(g a).val S:=by
 induction p with
 | ret a=>rfl
 | fail=>rfl
 | gT i f ih=>exact ih _
 | gB i f ih=>exact ih _
 | gO i f ih=>exact ih _
 | gN f ih=>exact ih _
 | opt o f ih=>
  cases o with
  | none=>rfl
  | some x=>exact ih x
 | fk b p q c d=>cases b<;>assumption
theorem Rd.ku{α ρ:Type}(p:Rd α)(S:St)(k:α->Option ρ):p.runK S k=(p.val S).bind k:=by
 induction p with
 | ret a=>rfl
 | fail=>rfl
 | gT i f ih=>exact ih _
 | gB i f ih=>exact ih _
 | gO i f ih=>exact ih _
 | gN f ih=>exact ih _
 | opt o f ih=>
  cases o with
  | none=>rfl
  | some x=>exact ih x
 | fk b p q c d=>cases b<;>assumption
def Rd.tJ{α:Type}:Rd α->St->List L->Option (α×List L)
 | .ret a,_,l=>some (a,l)
 | .fail,_,_=>none
 | .gT i f,S,l=>(f (S.je i)).tJ S (.t i::l)
 | .gB i f,S,l=>(f (S.fK i)).tJ S (.b i::l)
 | .gO i f,S,l=>(f (S.aQ i)).tJ S (.o i::l)
 | .gN f,S,l=>(f S.tmps.length).tJ S l
 | .opt o f,S,l=>o.bind λx=>(f x).tJ S l
 | .fk b p q,S,l=>cond b (p.tJ S l) (q.tJ S l)
theorem Rd.ahb{α ρ:Type}(p:Rd α)(S:St)(l:List L)(k:α->List L->Option ρ) :
  p.UJ S l k=(p.tJ S l).bind λx=>k x.1 x.2:=by
 induction p generalizing l with
 | ret a=>rfl
 | fail=>rfl
 | gT i f ih=>exact ih _ _
 | gB i f ih=>exact ih _ _
 | gO i f ih=>exact ih _ _
 | gN f ih=>exact ih _ _
 | opt o f ih=>
  cases o with
  | none=>rfl
  | some x=>exact ih x l
 | fk b p q c d=>cases b<;>first | exact c _ | exact d _
theorem Rd.adD{α:Type}{p:Rd α}{S:St}:∀ {l:List L} {a:α} {rs:List L},p.tJ S l=some (a,rs)->p.val S=some a:=by
 induction p with
 | ret a=>intro l b rs h;simp only[tJ,zD,Prod.mk.injEq]at h;exact congrArg some h.1
 | fail=>intro l b rs h;cases h
 | gT i f ih=>intro l b rs h;exact ih _ h
 | gB i f ih=>intro l b rs h;exact ih _ h
 | gO i f ih=>intro l b rs h;exact ih _ h
 | gN f ih=>intro l b rs h;exact ih _ h
 | opt o f ih=>
  intro l b rs h;cases o with
  | none=>cases h
  | some x=>exact ih x h
 | fk b p q d e=>
  intro l c rs h;cases b with
  | false=>exact e h
  | true=>exact d h
theorem Rd.G9{α:Type}{p:Rd α}{S:St}:∀ {l:List L} {a:α} {rs:List L},p.tJ S l=some (a,rs)->∀x,x∈l->x∈rs:=by
 induction p with
 | ret a=>intro l b rs h x d;simp only[tJ,zD,Prod.mk.injEq]at h;exact h.2▸d
 | fail=>intro l b rs h;cases h
 | gT i f ih=>intro l b rs h x d;exact ih _ h x (ar _ d)
 | gB i f ih=>intro l b rs h x d;exact ih _ h x (ar _ d)
 | gO i f ih=>intro l b rs h x d;exact ih _ h x (ar _ d)
 | gN f ih=>intro l b rs h x d;exact ih _ h x d
 | opt o f ih=>
  intro l b rs h x d;cases o with
  | none=>cases h
  | some y=>exact ih y h x d
 | fk b p q e g=>
  intro l c rs h x d;cases b with
  | false=>exact g h x d
  | true=>exact e h x d
def agree(S S':St):L->Prop
 | .t i=>S'.je i=S.je i
 | .b i=>S'.fK i=S.fK i
 | .o i=>S'.aQ i=S.aQ i
theorem Rd.Ls{α:Type}{p:Rd α}{S S':St}(k:S'.tmps.length=S.tmps.length):∀ {l:List L} {a:α} {rs:List L},p.tJ S l=some (a,rs)->(∀x,x∈rs->agree S S' x)->p.tJ S' l=some (a,rs):=by
 induction p with
 | ret a=>intro l b rs h _;exact h
 | fail=>intro l b rs h;cases h
 | gT i f ih=>
  intro l b rs h d;have e:S'.je i=S.je i:=d (.t i) (G9 (p:=f (S.je i)) h (.t i) aw);simp only[tJ,e];exact ih _ h d
 | gB i f ih=>
  intro l b rs h d;have e:S'.fK i=S.fK i:=d (.b i) (G9 (p:=f (S.fK i)) h (.b i) aw);simp only[tJ,e];exact ih _ h d
 | gO i f ih=>
  intro l b rs h d;have e:S'.aQ i=S.aQ i:=d (.o i) (G9 (p:=f (S.aQ i)) h (.o i) aw);simp only[tJ,e];exact ih _ h d
 | gN f ih=>intro l b rs h d;simp only[tJ,k];exact ih _ h d
 | opt o f ih=>
  intro l b rs h d;cases o with
  | none=>cases h
  | some y=>exact ih y h d
 | fk b p q g j=>
  intro l c rs h d;cases b with
  | false=>exact j h d
  | true=>exact g h d
inductive Rep(w:World)(S:Nat->Nat->Prop):D->Value->Prop
 | int (k:IntKind) (n:Int):Rep w S (.int k n) (.int k n)
 | bool (b:Bool):Rep w S (.bool b) (.bool b)
 | str (v:ByteArray):Rep w S (.str v.data.toList) (.string v)
 | nil (t:Ty):Rep w S (.list t []) (.slice none 0 0)
 | emp (t:Ty) (a:Addr) (cap:Nat):Rep w S (.list t []) (.slice (some a) 0 cap)
 | list (t:Ty) (xs:List t.den) (b off cap:Nat) (vs:Nat->Nat->Value) (hcap:xs.length<=cap)
   (hc:∀(i:Nat) (x:t.den) (j:Nat) (d:D),xs[i]?=some x->(t.cells x)[j]?=some d ->
    w.cell? ⟨b,off+(i*t.size+j),none⟩=some (vs i j)/\S b (off+(i*t.size+j)))
   (hr:∀(i:Nat) (x:t.den) (j:Nat) (d:D),xs[i]?=some x->(t.cells x)[j]?=some d->Rep w S d (vs i j)) :
   Rep w S (.list t xs) (.slice (some ⟨b,off,none⟩) xs.length cap)
theorem Rep.move{w w':World}{S S':Nat->Nat->Prop}{d:D}{v:Value}(h:Rep w S d v)
  (f:∀b o,S b o->S' b o/\w'.cell? ⟨b,o,none⟩=w.cell? ⟨b,o,none⟩):Rep w' S' d v:=by
 induction h with
 | int k n=>exact .int k n
 | bool b=>exact .bool b
 | str v=>exact .str v
 | nil t=>exact .nil t
 | emp t a cap=>exact .emp t a cap
 | list t xs b off cap vs hcap hc g ih=>
  exact .list t xs b off cap vs hcap (λi x j d c e=>⟨(f _ _ (hc i x j d c e).2).2.trans (hc i x j d c e).1,(f _ _ (hc i x j d c e).2).1⟩) ih
theorem Rep.one{w:World}{S:Nat->Nat->Prop}{d:D}{v:Value}(h:Rep w S d v):v.oneCell'=true:=by
 cases h<;>rfl
inductive Ow(w:World)(S:Nat->Nat->Prop)(deep:Bool):D->Value->(Nat->Prop)->Prop
 | int (k:IntKind) (n:Int) (fp:Nat->Prop):Ow w S deep (.int k n) (.int k n) fp
 | bool (b:Bool) (fp:Nat->Prop):Ow w S deep (.bool b) (.bool b) fp
 | str (v:ByteArray) (fp:Nat->Prop):Ow w S deep (.str v.data.toList) (.string v) fp
 | nil (t:Ty) (fp:Nat->Prop):Ow w S deep (.list t []) (.slice none 0 0) fp
 | ro (d:D) (v:Value) (fp:Nat->Prop) (hd:deep=false) (h:Rep w S d v):Ow w S deep d v fp
 | list (t:Ty) (xs:List t.den) (b cap:Nat) (arr:Array Value) (E:TypeId) (vs:Nat->Nat->Value) (fps:Nat->Nat->Nat->Prop) (fp:Nat->Prop)
   (hb:w.heap[b]?=some (.cells arr E (0,0))) (hcap:xs.length<=cap) (hmax:cap<=maxLen) (hsz:arr.size=cap*t.size) (hfb:fp b)
   (hc:∀(i:Nat) (x:t.den) (j:Nat) (d:D),xs[i]?=some x->(t.cells x)[j]?=some d->arr[i*t.size+j]?=some (vs i j))
   (hr:∀(i:Nat) (x:t.den) (j:Nat) (d:D),xs[i]?=some x->(t.cells x)[j]?=some d->Ow w S deep d (vs i j) (fps i j))
   (hf:∀i j c,fps i j c->fp c/\c≠b)
   (hdis:∀i j i' j' c,fps i j c->fps i' j' c->i=i'/\j=j') :
   Ow w S deep (.list t xs) (.slice (some ⟨b,0,none⟩) xs.length cap) fp
theorem Ow.move{w w':World}{S S':Nat->Nat->Prop}{deep:Bool}{d:D}{v:Value}{fp:Nat->Prop}(h:Ow w S deep d v fp)
  (m:∀b o,S b o->S' b o/\w'.cell? ⟨b,o,none⟩=w.cell? ⟨b,o,none⟩) (a:∀b,fp b->w'.heap[b]?=w.heap[b]?):Ow w' S' deep d v fp:=by
 induction h with
 | int k n fp=>exact .int k n fp
 | bool b fp=>exact .bool b fp
 | str v fp=>exact .str v fp
 | nil t fp=>exact .nil t fp
 | ro d v fp f h=>exact .ro d v fp f (h.move m)
 | list t xs b cap arr E vs fps fp p hcap hmax g e hc r hf hdis ih=>
  exact .list t xs b cap arr E vs fps fp ((a b e).trans p) hcap hmax g e hc (λi x j d q f=>ih i x j d q f λc l=>a c (hf i j c l).1) hf hdis
theorem Ow.sub{w:World}{S:Nat->Nat->Prop}{deep deep':Bool}{d:D}{v:Value}{fp fp':Nat->Prop}(h:Ow w S deep d v fp)
  (a:∀b,fp b->fp' b) (f:deep'=true->deep=true):Ow w S deep' d v fp':=by
 induction h generalizing fp' with
 | int k n fp=>exact .int k n _
 | bool b fp=>exact .bool b _
 | str v fp=>exact .str v _
 | nil t fp=>exact .nil t _
 | ro d v fp e h=>
  refine .ro d v _ ?_ h;cases g:deep' with
  | false=>rfl
  | true=>rw[f g]at e;cases e
 | list t xs b cap arr E vs fps fp o hcap hmax l m hc p hf hdis ih=>
  exact .list t xs b cap arr E vs fps fp' o hcap hmax l (a b m) hc (λi x j d g f=>ih i x j d g f λ_ h=>h) (λi j c h=>⟨a c (hf i j c h).1,(hf i j c h).2⟩) hdis
theorem Ow.one{w:World}{S:Nat->Nat->Prop}{deep:Bool}{d:D}{v:Value}{fp:Nat->Prop}(h:Ow w S deep d v fp):v.oneCell'=true:=by
 cases h with
 | ro d v fp a h=>exact h.one
 | _=>rfl
theorem Ow.Jl{w:World}{S S':Nat->Nat->Prop}{deep:Bool}{d:D}{v:Value}{fp:Nat->Prop}(h:Ow w S deep d v fp)
  (p:∀b o,S b o->S' b o) (a:∀b o,fp b->(∃u,w.cell? ⟨b,o,none⟩=some u)->S' b o):Rep w S' d v:=by
 induction h with
 | int k n fp=>exact .int k n
 | bool b fp=>exact .bool b
 | str v fp=>exact .str v
 | nil t fp=>exact .nil t
 | ro d v fp f h=>exact h.move λb o q=>⟨p b o q,rfl⟩
 | list t xs b cap arr E vs fps fp r hcap hmax s g hc y hf hdis ih=>
  refine .list t xs b 0 cap vs hcap (λi x j d l f=>?_) (λi x j d l f=>ih i x j d l f λc o m=>a c o (hf i j c m).1);have e:w.cell? ⟨b,0+(i*t.size+j),none⟩=some (vs i j):=by
   simp only[amw,World.cell?,r];simpa using hc i x j d l f
  exact⟨e,a b _ g ⟨_,e⟩⟩
inductive tu where
 | box (i:Nat)
 | own (k j:Nat)
structure Gh where
 bk:Nat->Nat
 ov:Nat->Nat->Value
 ow:Nat->Option tu
 S:Nat->Nat->Prop
 lk:Nat->Prop
 lb:Nat->Prop
def mV(G:Gh)(w:World):C->Value->Prop
 | .undef,v=>v.oneCell'=true
 | .d x,v=>Rep w G.S x v
 | .nil,v=>v=.slice none 0 0
 | .own k j,v=>G.lk k/\v=G.ov k j/\v.oneCell'=true
 | .ptr b off,v=>G.lb b/\v=.pointer (some ⟨G.bk b,off,none⟩)
theorem mV.one{G:Gh}{w:World}{c:C}{v:Value}(h:mV G w c v):v.oneCell'=true:=by
 cases c with
 | undef=>exact h
 | d x=>exact Rep.one h
 | nil=>rw[show v=_ from h];rfl
 | own k j=>exact h.2.2
 | ptr b off=>rw[show v=_ from h.2];rfl
def dh(G:Gh)(w:World):List C->List Value->Prop
 | [],[]=>True
 | c::cs,v::vs=>mV G w c v/\dh G w cs vs
 | _,_=>False
def tN(G:Gh)(w:World):V->Value->Prop
 | .one c,v=>mV G w c v
 | .agg cs,v=>∃vs:List Value,v=.agg vs.toArray/\dh G w cs vs
def kE(G:Gh)(w:World):List V->List Value->Prop
 | [],[]=>True
 | c::cs,v::vs=>tN G w c v/\kE G w cs vs
 | _,_=>False
def VZ(G:Gh)(w:World)(t:Ty)(x:t.den)(b o:Nat):Prop:=
 ∃vs:Nat->Value,∀(j:Nat) (d:D),(t.cells x)[j]?=some d->w.cell? ⟨b,o+j,none⟩=some (vs j)/\G.S b (o+j)/\Rep w G.S d (vs j)
def ja(G:Gh)(w:World):AV->Value->Prop
 | .undef,_=>True
 | .v x,v=>tN G w x v
 | .elt t x off,v=>∃b o,v=.pointer (some ⟨b,o+off,none⟩)/\VZ G w t x b o
 | .oelt k j i sz off,v=>G.lk k/\∃b len cap,G.ov k j=.slice (some ⟨b,0,none⟩) len cap/\v=.pointer (some ⟨b,i*sz+off,none⟩)
 | .cut t len n a c,v=>G.lk a/\G.lk c/\((v=.slice none 0 0/\n=0/\G.ov a 0=.slice none 0 0/\G.ov c 0=.slice none 0 0) \/
   ∃b cap,v=.slice (some ⟨b,0,none⟩) len cap/\len<=cap/\n<=len/\G.ov a 0=.slice (some ⟨b,0,none⟩) n cap/\G.ov c 0=.slice (some ⟨b,if cap=n then 0 else n*t.size,none⟩) (len-n) (cap-n))
 | .seg k,v=>G.lk k/\v=G.ov k 0
 | .pre k j n,v=>G.lk k/\((v=.slice none 0 0/\n=0/\G.ov k j=.slice none 0 0)\/∃b len cap,G.ov k j=.slice (some ⟨b,0,none⟩) len cap/\n<=len/\v=.slice (some ⟨b,0,none⟩) n cap)
 | .suf t k j m,v=>G.lk k/\∀(w':World) (S':Nat->Nat->Prop) (xs:List t.den),Rep w' S' (.list t xs) (G.ov k j)->Rep w' S' (.list t (xs.drop m)) v
 | .tup vs,v=>∃us:List Value,v=.tuple us.toArray/\kE G w vs us
def iZ(G:Gh)(k j:Nat):Nat->Prop:=λb=>G.ow b=some (.own k j)
def OwT(w:World)(S:Nat->Nat->Prop)(deep m:Bool)(t:Ty)(xs:List t.den)(v:Value)(fp:Nat->Prop):Prop:=
 (v=.slice none 0 0/\xs=[]) \/
 ∃(b cap:Nat) (arr:Array Value) (E:TypeId) (vs:Nat->Nat->Value) (fps:Nat->Nat->Nat->Prop),
  v=.slice (some ⟨b,0,none⟩) xs.length cap/\w.heap[b]?=some (.cells arr E (0,0))/\xs.length<=cap/\cap<=maxLen/\arr.size=cap*t.size/\fp b /\
  (∀(i:Nat) (x:t.den) (j:Nat) (d:D),xs[i]?=some x->(t.cells x)[j]?=some d->arr[i*t.size+j]?=some (vs i j)) /\
  (∀(i:Nat) (x:t.den) (j:Nat) (d:D),xs[i]?=some x->(t.cells x)[j]?=some d->Ow w S deep d (vs i j) (fps i j)) /\
  (∀i j c,fps i j c->fp c/\c≠b) /\
  (∀i j i' j' c,fps i j c->fps i' j' c->i=i'/\j=j') /\
  (∀o,S b o->m=false/\o<xs.length*t.size)
theorem OwT.ow{w:World}{S:Nat->Nat->Prop}{deep m:Bool}{t:Ty}{xs:List t.den}{v:Value}{fp:Nat->Prop}(h:OwT w S deep m t xs v fp) :
  Ow w S deep (.list t xs) v fp:=by
 rcases h with ⟨rfl,rfl⟩ | ⟨b,cap,arr,E,vs,fps,rfl,d,hcap,hmax,a,c,hc,e,hf,hdis,_⟩
 ·exact .nil t fp
 ·exact .list t xs b cap arr E vs fps fp d hcap hmax a c hc e hf hdis
def iL(w:World)(S:Nat->Nat->Prop)(t:Ty)(xs:List t.den)(i:Nat)(v:Value)(fp:Nat->Prop):Prop:=
 (v=.slice none 0 0/\xs=[]) \/
 ∃(b cap:Nat) (arr:Array Value) (E:TypeId) (vs:Nat->Nat->Value) (fps:Nat->Nat->Nat->Prop),
  v=.slice (some ⟨b,0,none⟩) xs.length cap/\w.heap[b]?=some (.cells arr E (0,0))/\xs.length<=cap/\cap<=maxLen/\arr.size=cap*t.size/\fp b /\
  (∀(i':Nat) (x:t.den) (j:Nat) (d:D),xs[i']?=some x->(t.cells x)[j]?=some d->arr[i'*t.size+j]?=some (vs i' j)) /\
  (∀(i':Nat) (x:t.den) (j:Nat) (d:D),i<=i'->xs[i']?=some x->(t.cells x)[j]?=some d->Ow w (λ_ _=>False) true d (vs i' j) (fps i' j)) /\
  (∀i' j c,i<=i'->fps i' j c->fp c/\c≠b/\∀o,¬S c o) /\
  (∀i' j i'' j' c,i<=i'->i<=i''->fps i' j c->fps i'' j' c->i'=i''/\j=j')
theorem iL.move{w w':World}{S S':Nat->Nat->Prop}{t:Ty}{xs:List t.den}{i:Nat}{v:Value}{fp fp':Nat->Prop}(h:iL w S t xs i v fp)
  (e:∀b,fp b->fp' b/\w'.heap[b]?=w.heap[b]?) (k:∀b o,fp b->S' b o->S b o):iL w' S' t xs i v fp':=by
 rcases h with h | ⟨b,cap,arr,E,vs,fps,rfl,l,hcap,hmax,g,f,hc,m,hf,hdis⟩
 ·exact .inl h
 ·exact .inr ⟨b,cap,arr,E,vs,fps,rfl,(e b f).2.trans l,hcap,hmax,g,(e b f).1,hc,λi' x j d hi n p=>(m i' x j d hi n p).move (λ_ _ h=>h.elim) λc a=>(e c (hf i' j c hi a).1).2,
   λi' j c hi a=>⟨(e c (hf i' j c hi a).1).1,(hf i' j c hi a).2.1,λo q=>(hf i' j c hi a).2.2 o (k c o (hf i' j c hi a).1 q)⟩,hdis⟩
theorem iL.succ{w:World}{S:Nat->Nat->Prop}{t:Ty}{xs:List t.den}{i:Nat}{v:Value}{fp:Nat->Prop}(h:iL w S t xs i v fp):iL w S t xs (i+1) v fp:=by
 rcases h with h | ⟨b,cap,arr,E,vs,fps,e,f,g,k,l,m,n,o,p,a⟩
 ·exact .inl h
 ·exact .inr ⟨b,cap,arr,E,vs,fps,e,f,g,k,l,m,n,λi' x j d hi=>o i' x j d (by omega),λi' j c hi=>p i' j c (by omega),λi' j i'' j' c hi q=>a i' j i'' j' c (by omega) (by omega)⟩
theorem iL.D9{w:World}{S':Nat->Nat->Prop}{t:Ty}{xs:List t.den}{v:Value}{fp fp':Nat->Prop}(h:Ow w (λ_ _=>False) true (.list t xs) v fp)(hf:∀c,fp c->fp' c)(m:∀b o,S' b o->¬fp b):iL w S' t xs 0 v fp':=by
 generalize a:D.list t xs=dd at h;cases h with
 | int=>cases a
 | bool=>cases a
 | str=>cases a
 | nil t'=>cases a;exact .inl ⟨rfl,rfl⟩
 | ro _ _ _ g=>cases g
 | list t' xs' b cap arr E vs fps _ n hcap hmax k l hc p e hdis=>
  cases a
  exact .inr ⟨b,cap,arr,E,vs,fps,rfl,n,hcap,hmax,k,hf _ l,hc,λi x j d _ q g=>p i x j d q g,λi j c _ f=>⟨hf _ (e i j c f).1,(e i j c f).2,λo r=>m c o r (e i j c f).1⟩,λi j i' j' c _ _=>hdis i j i' j' c⟩
theorem iL.at{w:World}{S:Nat->Nat->Prop}{t:Ty}{xs:List t.den}{v:Value}{fp:Nat->Prop}(h:iL w S t xs 0 v fp):∀i,iL w S t xs i v fp
 | 0=>h
 | i+1=>(iL.at h i).succ
def nX(w:World)(S:Nat->Nat->Prop)(dp:Bool)(t:Ty)(xs:List t.den)(cells:List Value)(lab:Nat->Prop):Prop:=
 cells.length=xs.length*t.size/\(∀v∈cells,v.oneCell'=true)/\∃(vs:Nat->Nat->Value) (fps:Nat->Nat->Nat->Prop),
  (∀(i:Nat) (x:t.den) (j:Nat) (d:D),xs[i]?=some x->(t.cells x)[j]?=some d->cells[i*t.size+j]?=some (vs i j)/\Ow w S dp d (vs i j) (fps i j)) /\
  (∀i j c,fps i j c->lab c)/\(∀i j i' j' c,fps i j c->fps i' j' c->i=i'/\j=j')
def Kv(w:World)(S:Nat->Nat->Prop)(t:Ty)(ys:List t.den)(v:Value)(lab:Nat->Prop):Prop:=
 ((∃(ad:Option Addr) (cap:Nat),v=.slice ad 0 cap/\(ad=none->cap=0))/\ys=[]) \/
 ∃b off cap news,v=.slice (some ⟨b,off,none⟩) ys.length cap/\(∀p u,news[p]?=some u->w.cell? ⟨b,off+p,none⟩=some u/\S b (off+p))/\nX w S true t ys news lab
theorem nX.move{w w':World}{S S':Nat->Nat->Prop}{dp:Bool}{t:Ty}{xs:List t.den}{cells:List Value}{lab lab':Nat->Prop}(h:nX w S dp t xs cells lab)
  (l:∀b o,S b o->S' b o/\w'.cell? ⟨b,o,none⟩=w.cell? ⟨b,o,none⟩) (a:∀b,lab b->lab' b/\w'.heap[b]?=w.heap[b]?):nX w' S' dp t xs cells lab':=by
 obtain⟨m,n,vs,fps,e,f,p⟩:=h;exact⟨m,n,vs,fps,λi x j d g k=>⟨(e i x j d g k).1,(e i x j d g k).2.move l λc hc=>(a c (f i j c hc)).2⟩,λi j c hc=>(a c (f i j c hc)).1,p⟩
theorem Kv.move{w w':World}{S S':Nat->Nat->Prop}{t:Ty}{xs:List t.den}{v:Value}{lab lab':Nat->Prop}(h:Kv w S t xs v lab)
  (a:∀b o,S b o->S' b o/\w'.cell? ⟨b,o,none⟩=w.cell? ⟨b,o,none⟩) (e:∀b,lab b->lab' b/\w'.heap[b]?=w.heap[b]?):Kv w' S' t xs v lab':=by
 rcases h with h | ⟨b,off,cap,news,f,c,g⟩
 ·exact .inl h
 ·exact .inr ⟨b,off,cap,news,f,λp u d=>⟨(a _ _ (c p u d).2).2.trans (c p u d).1,(a _ _ (c p u d).2).1⟩,g.move a e⟩
def abJ(w:World)(t:Ty)(xs:List t.den)(i q:Nat)(v:Value)(fp:Nat->Prop):Prop:=
 ∃(b cap:Nat) (arr:Array Value) (E:TypeId) (vs:Nat->Nat->Value) (fps:Nat->Nat->Nat->Prop),
  v=.slice (some ⟨b,0,none⟩) xs.length cap/\w.heap[b]?=some (.cells arr E (0,0))/\xs.length<=cap/\cap<=maxLen/\arr.size=cap*t.size/\fp b /\
  (∀(i':Nat) (x:t.den) (j:Nat) (d:D),xs[i']?=some x->(t.cells x)[j]?=some d->arr[i'*t.size+j]?=some (vs i' j)) /\
  (∀(i':Nat) (x:t.den) (j:Nat) (d:D),xs[i']?=some x->(t.cells x)[j]?=some d->¬(i'=i/\j=q)->Ow w (λ_ _=>False) true d (vs i' j) (fps i' j)) /\
  (∀i' j c,fps i' j c->fp c/\c≠b) /\
  (∀i' j i'' j' c,fps i' j c->fps i'' j' c->i'=i''/\j=j')
theorem abJ.move{w w':World}{t:Ty}{xs:List t.den}{i q:Nat}{v:Value}{fp:Nat->Prop}(h:abJ w t xs i q v fp)
  (a:∀b,fp b->w'.heap[b]?=w.heap[b]?):abJ w' t xs i q v fp:=by
 obtain⟨b,cap,arr,E,vs,fps,rfl,k,hcap,hmax,f,e,hc,l,hf,hdis⟩:=h;exact⟨b,cap,arr,E,vs,fps,rfl,(a b e).trans k,hcap,hmax,f,e,hc,λi' x j d m n o=>(l i' x j d m n o).move (λ_ _ h=>h.elim) λc g=>a c (hf i' j c g).1,hf,hdis⟩
def O.IsT(x:O)(t:Ty)(xs:List t.den):Prop:=x=.tree t xs\/(∃i,x=.part t xs i)\/x=.seg t xs\/∃i q,x=.hole t xs i q
theorem O.IsT.aeT{x:O}{t:Ty}{xs:List t.den}(h:x.IsT t xs):x.fU=.own t xs true true:=by
 rcases h with rfl | ⟨i,rfl⟩ | rfl | ⟨i,q,rfl⟩<;>rfl
theorem O.LP{x:O}{t:Ty}{xs:List t.den}{deep m:Bool}(h:x.sZ=.own t xs deep m)(b:Ty)(a:List b.den)(c d:Bool):x.CU.fU≠.own b a c d:=by
 cases x<;>simp[O.sZ,O.CU,O.fU]at h ⊢
def xH(G:Gh)(w:World)(k j:Nat):O->Prop
 | .dead=>True
 | .own t xs deep m=>OwT w G.S deep m t xs (G.ov k j) (iZ G k j)
 | .ro t xs=>Rep w G.S (.list t xs) (G.ov k j)
 | .tree t xs=>∃fp:Nat->Prop,(∀b,fp b->iZ G k j b)/\Ow w (λ_ _=>False) true (.list t xs) (G.ov k j) fp/\∀b o,G.S b o->¬fp b
 | .part t xs i=>iL w G.S t xs i (G.ov k j) (iZ G k j)
 | .seg t xs=>Kv w G.S t xs (G.ov k j) (iZ G k j)
 | .hole t xs i q=>∃fp:Nat->Prop,(∀b,fp b->iZ G k j b)/\abJ w t xs i q (G.ov k j) fp/\∀b o,G.S b o->¬fp b
def BoxOk(G:Gh)(w:World)(i:Nat)(cs:List C):Prop:=
 G.ow (G.bk i)=some (.box i)/\∃(vs:List Value) (E:TypeId),w.heap[G.bk i]?=some (.cells vs.toArray E (0,0))/\dh G w cs vs
structure Bs where
 w:World
 S0:Nat->Nat->Prop
 F:Nat->Prop
 bx:Option (Nat×Bool)
def Bs.R(w0:Bs)(c:Nat):Prop:=w0.F c/\∀q,w0.bx≠some (c,q)
def Bs.nw(w0:Bs)(b:Nat):Prop:=w0.w.heap.size<=b\/w0.R b
theorem Bs.nw0{w:World}{S0:Nat->Nat->Prop}{b:Nat}(h:Bs.nw ⟨w,S0,λ_=>False,none⟩ b):w.heap.size<=b:=h.elim id λh=>h.1.elim
theorem Bs.nwB{w:World}{S0:Nat->Nat->Prop}{bb b:Nat}(h:Bs.nw ⟨w,S0,λc=>c=bb,some (bb,true)⟩ b):w.heap.size<=b:=h.elim id λh=>absurd (by rw[h.1]) (h.2 true)
theorem Bs.nwF{w0:Bs}{b:Nat}(h:w0.nw b)(a:b<w0.w.heap.size):w0.R b:=h.resolve_left (by omega)
structure jJ(F:Nat->Prop)(B:Nat)(w w':World):Prop where
 os:w'.os=w.os
 tape:w'.tape=w.tape
 output:w'.output=w.output
 size:w.heap.size<=w'.heap.size
 block:∀k,k<B->¬F k->w'.heap[k]?=w.heap[k]?
theorem jJ.trans{F:Nat->Prop}{B:Nat}{a b c:World}(h:jJ F B a b)(k:jJ F B b c):jJ F B a c:=
 ⟨k.os.trans h.os,k.tape.trans h.tape,k.output.trans h.output,amq h.size k.size,λi hi hf=>(k.block i hi hf).trans (h.block i hi hf)⟩
theorem jJ.ahy{F:Nat->Prop}{B:Nat}{w w':World}(h:Below w.heap.size w w')(a:B<=w.heap.size):jJ F B w w':=⟨h.os,h.tape,h.output,h.size,λk hk _=>h.block k (aL hk a)⟩
theorem jJ.KA{F:Nat->Prop}{B:Nat}{w w':World}(h:jJ F B w w')(a:∀c,¬F c):Below B w w':=⟨h.os,h.tape,h.output,h.size,λk hk=>h.block k hk (a k)⟩
theorem jJ.refl(F:Nat->Prop)(B:Nat)(w:World):jJ F B w w:=⟨rfl,rfl,rfl,aD _,λ_ _ _=>rfl⟩
structure lq(w0:Bs):Prop where
 keep:∀w',jJ w0.F w0.w.heap.size w0.w w'->amb w'
 rows:∀c,w0.F c->nT<=c
theorem lq.none{w:World}{S:Nat->Nat->Prop}(h:amb w):lq ⟨w,S,λ_=>False,.none⟩:=
 ⟨λ_ a=>h.keep a.size λk hk=>a.block k (aL hk h.size) λhf=>hf,λ_ hf=>hf.elim⟩
theorem lq.box{w:World}{S:Nat->Nat->Prop}{bb:Nat}(h:amb w)(b:nT<=bb):lq ⟨w,S,λc=>c=bb,some (bb,true)⟩:=
 ⟨λ_ a=>h.keep a.size λk hk=>a.block k (aL hk h.size) λhf=>by have:k=bb:=hf;omega,λc hf=>by have:c=bb:=hf;omega⟩
theorem lq.nw{w0:Bs}(h:lq w0){b:Nat}(a:w0.nw b):nT<=b:=a.elim (λa=>amq (h.keep w0.w (jJ.refl _ _ _)).size a) λa=>h.rows b a.1
theorem LJ(t:Ty)(x:t.den):(t.cells x).map qw=t.tys:=by
 cases t with
 | base b=>cases b<;>rfl
 | list t=>rfl
theorem Base.o6(b:Base)(x:b.den):b.ig (b.cells x)=some x:=by
 cases b<;>first | rfl | (cases x;rfl) | (obtain⟨_,_,_,_,⟨⟩⟩:=x<;>rfl) | (obtain⟨_,⟨⟩⟩:=x<;>rfl) | (obtain⟨_,_,_,_,⟨⟩,_⟩:=x<;>rfl) | (obtain⟨_,_,⟨⟩,⟨⟩,_⟩:=x<;>rfl) | (obtain⟨⟨⟩,_,_⟩:=x<;>rfl) | (obtain⟨_,⟨⟩,_,_,_,_,_⟩:=x<;>rfl)
theorem Ty.o6(t:Ty)(x:t.den):t.ig (t.cells x)=some x:=by
 cases t with
 | base b=>exact Base.o6 b x
 | list t=>simp[Ty.ig,Ty.cells,D.cZ]
def jv(w w':World)(b:Nat):Prop:=∀(vs:List Value) (E:TypeId),w.heap[b]?=some (.cells vs.toArray E (0,0)) ->
 ∃(vs':List Value) (E':TypeId),w'.heap[b]?=some (.cells vs'.toArray E' (0,0))/\∀(i:Nat) p l c,vs[i]?=some (Value.slice p l c)->vs'[i]?=some (Value.slice p l c)
theorem jv.refl(w:World)(b:Nat):jv w w b:=λvs E h=>⟨vs,E,h,λ_ _ _ _ h=>h⟩
theorem jv.trans{a b c:World}{k:Nat}(h:jv a b k)(g:jv b c k):jv a c k:=λvs E e=>
 have ⟨d,j,m,n⟩:=h vs E e
 have ⟨f,o,q,r⟩:=g d j m
 ⟨f,o,q,λi p l c hh=>r i p l c (n i p l c hh)⟩
theorem jv.same{a b c:World}{k:Nat}(h:jv a b k)(e:c.heap[k]?=b.heap[k]?):jv a c k:=λvs E f=>
 have ⟨d,g,i,j⟩:=h vs E f
 ⟨d,g,e.trans i,j⟩
theorem Rep.det{w:World}{S S':Nat->Nat->Prop}{d d':D}{v:Value}(h:Rep w S d v)(c:Rep w S' d' v)(e:qw d=qw d'):d=d':=by
 induction h generalizing d' with
 | int k n=>cases c;rfl
 | bool b=>cases c;rfl
 | str v=>cases c;rfl
 | nil t=>cases c;cases e;rfl
 | emp t a cap=>
  generalize hv:Value.slice (some a) 0 cap=v at c;cases c with
  | emp t' a' cap'=>cases e;rfl
  | list t' xs' b off cap' vs hcap hc y=>
   cases e
   have:0=xs'.length:=by injection hv
   rw[List.length_eq_zero_iff.1 this.symm]
  | _=>cases hv
 | list t xs b off cap vs hcap hc y ih=>
  generalize hv:Value.slice (some ⟨b,off,none⟩) xs.length cap=v at c;cases c with
  | emp t' a' cap'=>
   cases e
   have:xs.length=0:=by injection hv
   rw[List.length_eq_zero_iff.1 this]
  | list t' xs' b' off' cap' vs' hcap' o p=>
   cases e
   injection hv with g z J;injection g with g;injection g with g A;subst g;subst A;have:xs=xs':=List.ext_getElem z λi B C=>by
    have hcells:t.cells xs[i]=t.cells xs'[i]:=List.ext_getElem (by rw[Ty.bn,Ty.bn]) λj E F=>by
     have r:xs[i]?=some xs[i]:=by simp[B]
     have m:xs'[i]?=some xs'[i]:=by simp[C]
     have q:(t.cells xs[i])[j]?=some (t.cells xs[i])[j]:=by simp[E]
     have f:(t.cells xs'[i])[j]?=some (t.cells xs'[i])[j]:=by simp[F]
     have G:=(hc i _ j _ r q).1;have H:=(o i _ j _ m f).1;have I:vs i j=vs' i j:=a7 (G.symm.trans H);have s:=p i _ j _ m f;rw[<- I]at s;refine ih i _ j _ r q s ?_;have u:=congrArg (λl=>l[j]?) ((LJ t xs[i]).trans (LJ t xs'[i]).symm);simp only[amh,q,f,Option.map_some,zD]at u;exact u
    have x:=Ty.o6 t xs[i];rw[hcells,Ty.o6]at x;exact (a7 x).symm
   rw[this]
  | _=>cases hv
structure Inv(w0:Bs)(G:Gh)(S:St)(a:Act)(w:World):Prop where
 below:jJ w0.F w0.w.heap.size w0.w w
 nodef:a.defers=[]
 tsz:a.tmps.size=S.tmps.length
 bsz:S.boxes.length=S.tmps.length
 osz:S.owns.length=S.tmps.length
 tmps:∀i v,a.tmps[i]?=some v->ja G w (S.je i) v
 olt:∀b x,G.ow b=some x->(w0.nw b\/x=.box 0/\w0.F b)/\b<w.heap.size
 sok:∀b o,G.S b o->b<w.heap.size/\∀i,G.ow b≠some (.box i)
 box:∀i cs,S.fK i=some cs->BoxOk G w i cs
 owns:∀k j,xH G w k j (bC (S.aQ k) j)
 lk:∀k,G.lk k->S.aQ k≠[]
 lb:∀i,G.lb i->S.fK i≠none
 sfr:∀b o,G.S b o->b<w0.w.heap.size->w0.S0 b o\/w0.R b
 st:∀b o,w0.S0 b o->G.S b o/\w.cell? ⟨b,o,none⟩=w0.w.cell? ⟨b,o,none⟩
 fx:∀b y,w0.bx=some (b,y)->G.bk 0=b/\(y=true->b<w0.w.heap.size->jv w0.w w b)
structure Mv(G G':Gh)(w w':World):Prop where
 s:∀b o,G.S b o->G'.S b o/\w'.cell? ⟨b,o,none⟩=w.cell? ⟨b,o,none⟩
 k:∀k,G.lk k->G'.lk k/\∀j,G'.ov k j=G.ov k j
 b:∀i,G.lb i->G'.lb i/\G'.bk i=G.bk i
theorem mV.move{G G':Gh}{w w':World}(a:Mv G G' w w'){c:C}{v:Value}(h:mV G w c v):mV G' w' c v:=by
 cases c with
 | undef=>exact h
 | d x=>exact Rep.move h a.s
 | nil=>exact h
 | own k j=>exact⟨(a.k k h.1).1,by rw[(a.k k h.1).2 j];exact h.2.1,h.2.2⟩
 | ptr b off=>exact⟨(a.b b h.1).1,by rw[(a.b b h.1).2];exact h.2⟩
theorem dh.get{G:Gh}{w:World}:∀ {cs:List C} {vs:List Value},dh G w cs vs->cs.length=vs.length/\∀(i:Nat) (c:C) (v:Value),cs[i]?=some c->vs[i]?=some v->mV G w c v
 | [],[],_=>⟨rfl,λi c v h=>by simp at h⟩
 | c::cs,v::vs,h=>by
  obtain⟨a,b⟩:=h;obtain⟨d,e⟩:=dh.get b;refine⟨by simp[d],λi c' v' hc hv=>?_⟩;cases i with
  | zero=>simp at hc hv;subst hc;subst hv;exact a
  | succ i=>simp at hc hv;exact e i c' v' hc hv
theorem dh.mk{G:Gh}{w:World}:∀ {cs:List C} {vs:List Value},cs.length=vs.length->(∀(i:Nat) (c:C) (v:Value),cs[i]?=some c->vs[i]?=some v->mV G w c v)->dh G w cs vs
 | [],[],_,_=>trivial
 | c::cs,v::vs,a,h=>⟨h 0 c v rfl rfl,dh.mk (by simpa using a) λi c' v' hc hv=>h (i+1) c' v' (by simpa using hc) (by simpa using hv)⟩
theorem dh.move{G G':Gh}{w w':World}(a:Mv G G' w w'){cs:List C}{vs:List Value}(h:dh G w cs vs):dh G' w' cs vs:=by
 obtain⟨b,d⟩:=h.get;exact dh.mk b λi c v hc hv=>(d i c v hc hv).move a
theorem dh.one{G:Gh}{w:World}{cs:List C}{vs:List Value}(h:dh G w cs vs):∀v,v∈vs->v.oneCell'=true:=by
 obtain⟨b,a⟩:=h.get;intro v hv;obtain⟨i,hi,rfl⟩:=List.mem_iff_getElem.1 hv;have hc:i<cs.length:=by omega
 exact (a i cs[i] vs[i] (by simp[hc]) (by simp[hi])).one
theorem tN.move{G G':Gh}{w w':World}(a:Mv G G' w w'){x:V}{v:Value}(h:tN G w x v):tN G' w' x v:=by
 cases x with
 | one c=>exact mV.move a h
 | agg cs=>obtain⟨vs,hv,hc⟩:=h;exact⟨vs,hv,hc.move a⟩
theorem kE.move{G G':Gh}{w w':World}(a:Mv G G' w w'):∀ {xs:List V} {vs:List Value},kE G w xs vs->kE G' w' xs vs
 | [],[],_=>trivial
 | _::_,_::_,h=>⟨h.1.move a,kE.move a h.2⟩
theorem VZ.move{G G':Gh}{w w':World}(a:Mv G G' w w'){t:Ty}{x:t.den}{b o:Nat}(h:VZ G w t x b o):VZ G' w' t x b o:=by
 obtain⟨vs,h⟩:=h;refine⟨vs,λj d e=>?_⟩;obtain⟨f,c,g⟩:=h j d e;exact⟨(a.s _ _ c).2.trans f,(a.s _ _ c).1,g.move a.s⟩
theorem ja.move{G G':Gh}{w w':World}(a:Mv G G' w w'){x:AV}{v:Value}(h:ja G w x v):ja G' w' x v:=by
 cases x with
 | undef=>trivial
 | v x=>exact tN.move a h
 | elt t x off=>obtain⟨b,o,hv,g⟩:=h;exact⟨b,o,hv,g.move a⟩
 | oelt k j i sz off=>obtain⟨hk,b,len,cap,l,hv⟩:=h;exact⟨(a.k k hk).1,b,len,cap,by rw[(a.k k hk).2 j];exact l,hv⟩
 | cut t len n c d=>
  obtain⟨e,f,p⟩:=h;refine⟨(a.k c e).1,(a.k d f).1,?_⟩;rw[(a.k c e).2 0,(a.k d f).2 0];exact p
 | seg k=>exact⟨(a.k k h.1).1,by rw[(a.k k h.1).2 0];exact h.2⟩
 | pre k j n=>exact⟨(a.k k h.1).1,by rw[(a.k k h.1).2 j];exact h.2⟩
 | suf t k j m=>exact⟨(a.k k h.1).1,by rw[(a.k k h.1).2 j];exact h.2⟩
 | tup vs=>obtain⟨us,hv,q⟩:=h;exact⟨us,hv,q.move a⟩
theorem OwT.move{w w':World}{S S':Nat->Nat->Prop}{deep m:Bool}{t:Ty}{xs:List t.den}{v:Value}{fp fp':Nat->Prop}(h:OwT w S deep m t xs v fp)
  (k:∀b o,S b o->S' b o/\w'.cell? ⟨b,o,none⟩=w.cell? ⟨b,o,none⟩) (a:∀b,fp b->fp' b/\w'.heap[b]?=w.heap[b]?)
  (l:∀b len cap,v=.slice (some ⟨b,0,none⟩) len cap->fp b->∀o,S' b o->S b o\/(m=false/\o<xs.length*t.size)):OwT w' S' deep m t xs v fp':=by
 rcases h with h | ⟨b,cap,arr,E,vs,fps,rfl,n,hcap,hmax,g,f,hc,p,hf,hdis,q⟩
 ·exact .inl h
 ·refine .inr ⟨b,cap,arr,E,vs,fps,rfl,(a b f).2.trans n,hcap,hmax,g,(a b f).1,hc,?_,?_,hdis,?_⟩
  ·exactλi x j d r s=>(p i x j d r s).move k λc e=>(a c (hf i j c e).1).2
  ·exactλi j c e=>⟨(a c (hf i j c e).1).1,(hf i j c e).2⟩
  ·intro o u;rcases l b _ _ rfl f o u with h | h
   ·exact q o h
   ·exact h
theorem Sv(S:St)(i:Nat)(v:AV)(j:Nat):(S.jh i v).je j=if i=j/\i<S.tmps.length then v else S.je j:=by
 simp only[St.je,St.jh,zE,amz];by_cases h:i=j
 ·subst h;by_cases a:i<S.tmps.length<;>simp[a]
 ·simp[h]
theorem Sz(S:St)(i:Nat)(v:Option (List C))(j:Nat):(S.setB i v).aQ j=S.aQ j:=rfl
theorem ada(S:St)(i:Nat)(v:List O)(j:Nat):(S.cO i v).fK j=S.fK j:=rfl
theorem gu(S:St)(i:Nat)(v:Option (List C))(j:Nat):(S.setB i v).fK j=if i=j/\i<S.boxes.length then v else S.fK j:=by
 simp only[St.fK,St.setB,zE,amz];by_cases h:i=j
 ·subst h;by_cases a:i<S.boxes.length<;>simp[a]
 ·simp[h]
theorem bK(S:St)(i:Nat)(v:List O)(j:Nat):(S.cO i v).aQ j=if i=j/\i<S.owns.length then v else S.aQ j:=by
 simp only[St.aQ,St.cO,zE,amz];by_cases h:i=j
 ·subst h;by_cases a:i<S.owns.length<;>simp[a]
 ·simp[h]
section steps
variable {w0:Bs} {G:Gh} {S:St} {a:Act} {w:World}
theorem Inv.kY(h:Inv w0 G S a w){b k j:Nat}(d:G.ow b=some (.own k j)):w0.nw b/\b<w.heap.size:=by
 obtain⟨c,e⟩:=h.olt b _ d;rcases c with c | ⟨hi,_⟩
 ·exact⟨c,e⟩
 ·cases hi
theorem Inv.Wh(h:Inv w0 G S a w){G':Gh}{w':World}(d:Mv G G' w w'):∀b o,w0.S0 b o->G'.S b o/\w'.cell? ⟨b,o,none⟩=w0.w.cell? ⟨b,o,none⟩:=
 λb o c=>⟨(d.s b o (h.st b o c).1).1,(d.s b o (h.st b o c).1).2.trans (h.st b o c).2⟩
theorem Inv.jh(h:Inv w0 G S a w)(d:Nat){av:AV}{v:Value}(hv:ja G w av v):Inv w0 G (S.jh d av) (a.put (some d) v) w:=by
 refine⟨h.below,h.nodef,?_,by simp[St.jh,h.bsz],by simp[St.jh,h.osz],?_,h.olt,h.sok,λi cs f=>h.box i cs f,λk j=>h.owns k j,λk hk=>h.lk k hk,λi hi=>h.lb i hi,h.sfr,h.st,h.fx⟩
 ·simp[Act.put,St.jh,h.tsz]
 ·intro i u b;rw[Sv];simp only[Act.put,Array.getElem?_setIfInBounds]at b;by_cases e:d=i
  ·subst e;by_cases c:d<a.tmps.size
   ·simp[c]at b;subst b;have:d<S.tmps.length:=h.tsz▸c;simp[this];exact hv
   ·simp[c]at b
  ·simp[e]at b ⊢;exact h.tmps i u b
theorem Inv.grow(h:Inv w0 G S a w){w':World}(e:Below w.heap.size w w'):Inv w0 G S a w':=by
 have B:=e.size;have hcell:∀b o,b<w.heap.size->w'.cell? ⟨b,o,none⟩=w.cell? ⟨b,o,none⟩:=λb o n=>e.cell (p:=⟨b,o,none⟩) n
 have f:Mv G G w w':=⟨λb o g=>⟨g,hcell b o (h.sok b o g).1⟩,λk hk=>⟨hk,λ_=>rfl⟩,λi hi=>⟨hi,rfl⟩⟩;refine⟨h.below.trans (.ahy e h.below.size),h.nodef,h.tsz,h.bsz,h.osz,λi v hv=>(h.tmps i v hv).move f,λb x d=>⟨(h.olt b x d).1,by have:=(h.olt b x d).2;omega⟩,
  λb o g=>⟨by have:=(h.sok b o g).1;omega,(h.sok b o g).2⟩,?_,?_,h.lk,h.lb,h.sfr,h.Wh f,λb y d=>⟨(h.fx b y d).1,λC n=>((h.fx b y d).2 C n).same (e.block b (aL n h.below.size))⟩⟩
 ·intro i cs u;obtain⟨r,vs,E,hh,hc⟩:=h.box i cs u;exact⟨r,vs,E,(e.block _ (h.olt _ _ r).2).trans hh,hc.move f⟩
 ·intro k j;have:=h.owns k j;revert this;generalize bC (S.aQ k) j=x;intro d;cases x with
  | dead=>trivial
  | own t xs deep m=>exact OwT.move d f.s (λb c=>⟨c,e.block _ (h.olt _ _ c).2⟩) (λ_ _ _ _ _ o r=>.inl r)
  | ro t xs=>exact Rep.move d f.s
  | tree t xs=>
   obtain⟨fp,l,z,A⟩:=d;exact⟨fp,l,z.move (λ_ _ h=>h.elim) λb c=>e.block _ (h.olt _ _ (l b c)).2,A⟩
  | part t xs i=>exact iL.move d (λb c=>⟨c,e.block _ (h.olt _ _ c).2⟩) λ_ _ _ h=>h
  | seg t xs=>exact Kv.move d f.s λb c=>⟨c,e.block _ (h.olt _ _ c).2⟩
  | hole t xs i q=>
   obtain⟨fp,l,z,A⟩:=d;exact⟨fp,l,z.move λb c=>e.block _ (h.olt _ _ (l b c)).2,A⟩
end steps
theorem iV(os:List O)(j:Nat)(x:O)(j':Nat):bC (os.set j x) j'=if j=j'/\j<os.length then x else bC os j':=by
 simp only[bC,zE,amz];by_cases h:j=j'
 ·subst h;by_cases a:j<os.length<;>simp[a]
 ·simp[h]
theorem FB{S:St}{a:Act}{d:Nat}{v:Value}(b:a.tmps.size=S.tmps.length)(c:¬d<S.tmps.length):a.put (some d) v=a:=by
 simp only[Act.put];rw[Array.setIfInBounds_eq_of_size_le (by omega)]
theorem zK{S:St}{d:Nat}{v:AV}(a:¬d<S.tmps.length):S.jh d v=S:=by
 cases S;simp only[St.jh]at *;rw[List.set_eq_of_length_le (by omega)]
theorem ad3{S:St}{d:Nat}{v:Option (List C)}(a:¬d<S.boxes.length):S.setB d v=S:=by
 cases S;simp only[St.setB]at *;rw[List.set_eq_of_length_le (by omega)]
theorem zL{S:St}{d:Nat}{v:List O}(a:¬d<S.owns.length):S.cO d v=S:=by
 cases S;simp only[St.cO]at *;rw[List.set_eq_of_length_le (by omega)]
section steps
variable {w0:Bs} {G:Gh} {S:St} {a:Act} {w:World}
theorem xH.same{G':Gh}{w':World}{k j:Nat}{x:O}(h:xH G w k j x)(c:G'.ov k j=G.ov k j)
  (g:∀b o,G.S b o->G'.S b o/\w'.cell? ⟨b,o,none⟩=w.cell? ⟨b,o,none⟩)
  (hown:∀t xs deep m,x=.own t xs deep m->(∀b,iZ G k j b->iZ G' k j b/\w'.heap[b]?=w.heap[b]?) /\
   ∀b len cap,G.ov k j=.slice (some ⟨b,0,none⟩) len cap->iZ G k j b->∀o,G'.S b o->G.S b o\/(m=false/\o<xs.length*t.size))
  (htree:∀t xs,x.IsT t xs->∀b,iZ G k j b->iZ G' k j b/\w'.heap[b]?=w.heap[b]?/\∀o,G'.S b o->G.S b o):xH G' w' k j x:=by
 cases x with
 | dead=>trivial
 | own t xs deep m=>
  obtain⟨d,e⟩:=hown t xs deep m rfl;show OwT w' G'.S deep m t xs (G'.ov k j) (iZ G' k j)
  rw[c];exact OwT.move h g d e
 | ro t xs=>
  show Rep w' G'.S (.list t xs) (G'.ov k j)
  rw[c];exact Rep.move h g
 | tree t xs=>
  obtain⟨fp,d,e,l⟩:=h;have hh:=htree t xs (.inl rfl);refine⟨fp,λb a=>(hh b (d b a)).1,?_,λb o f a=>l b o ((hh b (d b a)).2.2 o f) a⟩;rw[c];exact e.move (λ_ _ h=>h.elim) λb a=>(hh b (d b a)).2.1
 | part t xs i=>
  have hh:=htree t xs (.inr (.inl ⟨i,rfl⟩));show iL w' G'.S t xs i (G'.ov k j) (iZ G' k j)
  rw[c];exact iL.move h (λb a=>⟨(hh b a).1,(hh b a).2.1⟩) λb o a f=>(hh b a).2.2 o f
 | seg t xs=>
  have hh:=htree t xs (.inr (.inr (.inl rfl)));show Kv w' G'.S t xs (G'.ov k j) (iZ G' k j)
  rw[c];exact Kv.move h g λb a=>⟨(hh b a).1,(hh b a).2.1⟩
 | hole t xs i q=>
  have hh:=htree t xs (.inr (.inr (.inr ⟨i,q,rfl⟩)));obtain⟨fp,d,e,l⟩:=h;refine⟨fp,λb a=>(hh b (d b a)).1,?_,λb o f a=>l b o ((hh b (d b a)).2.2 o f) a⟩;rw[c];exact e.move λb a=>(hh b (d b a)).2.1
theorem Inv.YE(h:Inv w0 G S a w)(A:Nat->Nat->Prop)
  (f:∀b o,A b o->b<w.heap.size/\(∀i,G.ow b≠some (.box i))/\∀k j t xs deep m,bC (S.aQ k) j=.own t xs deep m ->
   ∀len cap,G.ov k j=.slice (some ⟨b,0,none⟩) len cap->G.ow b=some (.own k j)->m=false/\o<xs.length*t.size)
  (g:∀b o,A b o->w0.nw b) (hAT:∀b o,A b o->∀k j t xs,(bC (S.aQ k) j).IsT t xs->G.ow b≠some (.own k j)):Inv w0 { G with S:=λb o=>G.S b o\/A b o } S a w/\Mv G { G with S:=λb o=>G.S b o\/A b o } w w:=by
 have e:Mv G { G with S:=λb o=>G.S b o\/A b o } w w:=⟨λb o c=>⟨.inl c,rfl⟩,λk hk=>⟨hk,λ_=>rfl⟩,λi hi=>⟨hi,rfl⟩⟩;refine⟨⟨h.below,h.nodef,h.tsz,h.bsz,h.osz,λi v hv=>(h.tmps i v hv).move e,h.olt,?_,?_,?_,h.lk,h.lb,λb o c p=>c.elim (λc=>h.sfr b o c p) λc=>.inr (Bs.nwF (g b o c) p),h.Wh e,h.fx⟩,e⟩
 ·intro b o c;rcases c with c | c
  ·exact h.sok b o c
  ·exact⟨(f b o c).1,(f b o c).2.1⟩
 ·intro i cs l;obtain⟨q,vs,E,hh,hc⟩:=h.box i cs l;exact⟨q,vs,E,hh,hc.move e⟩
 ·intro k j;refine (h.owns k j).same rfl e.s (λt xs deep m n=>⟨λb d=>⟨d,rfl⟩,λb len cap hv d o c=>?_⟩) λt xs n b d=>⟨d,rfl,λo c=>?_⟩
  ·rcases c with c | c
   ·exact .inl c
   ·exact .inr ((f b o c).2.2 k j t xs deep m n len cap hv d)
  ·rcases c with c | c
   ·exact c
   ·exact absurd d (hAT b o c k j t xs n)
theorem Inv.yA(h:Inv w0 G S a w)(i b:Nat)(B:i≠0)(hi:S.fK i=none)(D:w0.w.heap.size<=b)(F:G.ow b=none)(L:∀o,¬G.S b o)
  {cs:List C} {vs:List Value} {E:TypeId} (hh:w.heap[b]?=some (.cells vs.toArray E (0,0))) (hc:dh G w cs vs) :
  ∃G',Inv w0 G' ((S.setB i (some cs)).jh i (.v (.one (.ptr i 0)))) (a.put (some i) (.pointer (some ⟨b,0,none⟩))) w:=by
 have H:b<w.heap.size:=(a6.1 hh).1;by_cases l:i<S.tmps.length
 case neg=>
  refine⟨G,?_⟩
  rw[FB h.tsz l,ad3 (by rw[h.bsz];exact l),zK l]
  exact h
 have I:¬G.lb i:=λM=>h.lb i M hi
 let G':Gh:={ G with bk:=λx=>if x=i then b else G.bk x,ow:=λx=>if x=b then some (.box i)else G.ow x,lb:=λx=>x=i\/G.lb x };have u:Mv G G' w w:=⟨λb o p=>⟨p,rfl⟩,λk hk=>⟨hk,λ_=>rfl⟩,λx f=>⟨.inr f,by
  show (if x=i then b else G.bk x)=_
  rw[if_neg (λe:x=i=>I (e▸f))]⟩⟩
 have howb:∀x y,G.ow x=some y->G'.ow x=some y:=λx y f=>by
  show (if x=b then some (.box i)else G.ow x)=_
  rw[if_neg (λe:x=b=>by rw[e,F]at f;cases f)];exact f
 refine⟨G',?_⟩;refine Inv.jh (G:=G') (S:=S.setB i (some cs)) ?_ i (av:=.v (.one (.ptr i 0))) ⟨.inl rfl,?_⟩
 ·refine⟨h.below,h.nodef,h.tsz,by simp[St.setB,h.bsz],by simp[St.setB,h.osz],λx v hv=>(h.tmps x v hv).move u,?_,?_,?_,?_,h.lk,?_,h.sfr,h.Wh u,λq y K=>by
   refine⟨?_,(h.fx q y K).2⟩;show (if 0=i then b else G.bk 0)=q
   rw[if_neg (λe=>B e.symm)];exact (h.fx q y K).1⟩
  ·intro x y f;by_cases r:x=b
   ·subst r;exact⟨.inl (.inl D),H⟩
   ·have:G.ow x=some y:=by
     have z:(if x=b then some (tu.box i)else G.ow x)=some y:=f;rw[if_neg r]at z;exact z
    exact h.olt x y this
  ·intro x o p;refine⟨(h.sok x o p).1,λk=>?_⟩;have r:x≠b:=λe=>L o (e▸p)
   show (if x=b then some (tu.box i)else G.ow x)≠_
   rw[if_neg r];exact (h.sok x o p).2 k
  ·intro x cs' d;rw[gu]at d;by_cases g:i=x
   ·subst g;rw[if_pos ⟨rfl,by rw[h.bsz];exact l⟩]at d;cases d
    refine⟨?_,vs,E,?_,hc.move u⟩
    ·show (if (if i=i then b else G.bk i)=b then some (tu.box i)else _)=_
     simp
    ·show w.heap[if i=i then b else G.bk i]?=_
     simpa using hh
   ·rw[if_neg (λe=>g e.1)]at d;obtain⟨N,vs',E',J,n⟩:=h.box x cs' d;have A:G'.bk x=G.bk x:=by show (if x=i then b else G.bk x)=_;rw[if_neg (λe=>g e.symm)]
    exact⟨by rw[A];exact howb _ _ N,vs',E',by rw[A];exact J,n.move u⟩
  ·intro k j;refine (h.owns k j).same rfl u.s (λt xs deep m f=>⟨λc n=>⟨howb _ _ n,rfl⟩,λ_ _ _ _ _ o p=>.inl p⟩) λt xs f c n=>⟨howb _ _ n,rfl,λo p=>p⟩
  ·intro x f;rw[gu];by_cases g:i=x
   ·rw[if_pos ⟨g,by rw[h.bsz];exact l⟩];simp
   ·rw[if_neg (λe=>g e.1)];rcases f with f | f
    ·exact absurd f.symm g
    ·exact h.lb x f
 ·show Value.pointer _=.pointer (some ⟨if i=i then b else G.bk i,0,none⟩)
  simp
theorem Inv.akv(h:Inv w0 G S a w)(i:Nat){cs cs':List C}(hi:S.fK i=some cs){vs':List Value}(hc:dh G w cs' vs')(hkeep:(∃b,w0.bx=some (b,true))->i=0->∀(vs:List Value) (E:TypeId),w.heap[G.bk i]?=some (.cells vs.toArray E (0,0))->∀(n:Nat) p l c,vs[n]?=some (Value.slice p l c)->vs'[n]?=some (Value.slice p l c)) :
  Inv w0 G (S.setB i (some cs')) a (w.setRow (G.bk i) vs'.toArray):=by
 obtain⟨A,vs,E,hh,_⟩:=h.box i cs hi;have B:=h.olt _ _ A;have hoth:∀b,b≠G.bk i->(w.setRow (G.bk i) vs'.toArray).heap[b]?=w.heap[b]?:=λb M=>setRow_other w _ b _ M
 have hcell:∀b o,G.S b o->(w.setRow (G.bk i) vs'.toArray).cell? ⟨b,o,none⟩=w.cell? ⟨b,o,none⟩:=λb o q=>
  World.cell?_of_block (w:=w) (hoth b λe=>(h.sok b o q).2 i (e▸A))
 have D:Mv G G w (w.setRow (G.bk i) vs'.toArray):=⟨λb o q=>⟨q,hcell b o q⟩,λk hk=>⟨hk,λ_=>rfl⟩,λi hi=>⟨hi,rfl⟩⟩;have hilt:i<S.boxes.length:=by
  rcases Nat.lt_or_ge i S.boxes.length with z | z
  ·exact z
  ·simp[St.fK,zE,zJ z]at hi
 refine⟨h.below.trans ⟨rfl,rfl,rfl,by simp,λk hk F=>hoth k (λe=>by
  subst e;rcases B.1 with (f | f) | ⟨_,f⟩
  ·omega
  ·exact F f.1
  ·exact F f)⟩,h.nodef,h.tsz,by simp[St.setB,h.bsz],by simp[St.setB,h.osz],λx v hv=>(h.tmps x v hv).move D,?_,?_,?_,?_,h.lk,?_,h.sfr,h.Wh D,λb y g=>⟨(h.fx b y g).1,λH z=>by
   by_cases eb:b=G.bk i
   ·subst eb;rcases B.1 with (f | f) | ⟨f,_⟩
    ·omega
    ·exact absurd g (f.2 y)
    ·injection f with f;exact ((h.fx _ y g).2 H z).trans λI J L=>⟨vs',J,setRow_heap w _ _ _ J (0,0) L,hkeep ⟨_,H▸g⟩ f I J L⟩
   ·exact ((h.fx b y g).2 H z).same (hoth b eb)⟩⟩
 ·intro x y g;simpa using h.olt x y g
 ·intro x o q;simpa using h.sok x o q
 ·intro x cs'' hcs'';rw[gu]at hcs'';by_cases d:i=x
  ·subst d;rw[if_pos ⟨rfl,hilt⟩]at hcs'';cases hcs''
   exact⟨A,vs',E,setRow_heap w _ _ _ E (0,0) hh,hc.move D⟩
  ·rw[if_neg (λe=>d e.1)]at hcs'';obtain⟨u,vs'',E',K,r⟩:=h.box x cs'' hcs'';refine⟨u,vs'',E',(hoth _ λe=>?_).trans K,r.move D⟩;rw[e,A]at u;cases u
   exact d rfl
 ·intro k j;have keep:∀c,iZ G k j c->iZ G k j c/\(w.setRow (G.bk i) vs'.toArray).heap[c]?=w.heap[c]?:=λc r=>⟨r,hoth c λe=>by
   have hc'':G.ow c=some (.own k j):=r;rw[e,A]at hc'';cases hc''⟩
  exact (h.owns k j).same rfl D.s (λt xs deep m g=>⟨keep,λ_ _ _ _ _ o q=>.inl q⟩) λt xs g c hc=>⟨(keep c hc).1,(keep c hc).2,λo q=>q⟩
 ·intro x g;rw[gu];by_cases d:i=x
  ·rw[if_pos ⟨d,hilt⟩];simp
  ·rw[if_neg (λe=>d e.1)];exact h.lb x g
theorem Inv.EJ(h:Inv w0 G S a w)(k j:Nat)(x:O)(d:xH G w k j x):Inv w0 G (S.cO k ((S.aQ k).set j x)) a w:=by
 refine⟨h.below,h.nodef,h.tsz,by simp[St.cO,h.bsz],by simp[St.cO,h.osz],h.tmps,h.olt,h.sok,h.box,?_,?_,h.lb,h.sfr,h.st,h.fx⟩
 ·intro k' j';rw[bK];by_cases hk:k=k'/\k<S.owns.length
  ·rw[if_pos hk,iV];by_cases c:j=j'/\j<(S.aQ k).length
   ·rw[if_pos c];obtain⟨rfl,_⟩:=hk;obtain⟨rfl,_⟩:=c;exact d
   ·rw[if_neg c];obtain⟨rfl,_⟩:=hk;exact h.owns k j'
  ·rw[if_neg hk];exact h.owns k' j'
 ·intro k' b;rw[bK];by_cases hk:k=k'/\k<S.owns.length
  ·rw[if_pos hk];intro e;have:(S.aQ k).length=0:=by simpa using congrArg List.length e
   exact h.lk k' b (by rw[<- hk.1];exact amB this)
  ·rw[if_neg hk];exact h.lk k' b
theorem Inv.TY(h:Inv w0 G S a w)(b:Nat){w':World}(p:w0.nw b)(hbox:∀i,G.ow b≠some (.box i))
  (hdead:∀k j t xs deep m,G.ow b=some (.own k j)->(bC (S.aQ k) j).fU≠.own t xs deep m)
  (u:w'.os=w.os) (htape:w'.tape=w.tape) (hout:w'.output=w.output) (l:w.heap.size<=w'.heap.size)
  (hoth:∀c,c<w.heap.size->c≠b->w'.heap[c]?=w.heap[c]?)
  (B:∀o,G.S b o->w'.cell? ⟨b,o,none⟩=w.cell? ⟨b,o,none⟩):Inv w0 G S a w':=by
 have r:Mv G G w w':=⟨λc o f=>⟨f,by
  by_cases hc:c=b
  ·subst hc;exact B o f
  ·exact World.cell?_of_block (w:=w) (hoth c (h.sok c o f).1 hc)⟩,λk hk=>⟨hk,λ_=>rfl⟩,λi hi=>⟨hi,rfl⟩⟩
 have C:=h.below.size;refine⟨h.below.trans ⟨u,htape,hout,l,λk hk D=>hoth k (by omega) λe=>p.elim (λh=>by omega) λh=>D (e▸h.1)⟩,h.nodef,h.tsz,h.bsz,h.osz,λx v hv=>(h.tmps x v hv).move r,?_,?_,?_,?_,h.lk,h.lb,h.sfr,h.Wh r,λq y g=>⟨(h.fx q y g).1,λE F=>((h.fx q y g).2 E F).same (hoth q (by omega) λe=>p.elim (λh=>by omega) λh=>h.2 y (e▸g))⟩⟩
 ·intro x y g;exact⟨(h.olt x y g).1,aL (h.olt x y g).2 l⟩
 ·intro x o f;exact⟨aL (h.sok x o f).1 l,(h.sok x o f).2⟩
 ·intro x cs z;obtain⟨n,vs'',E',A,d⟩:=h.box x cs z;exact⟨n,vs'',E',(hoth _ (h.olt _ _ n).2 λe=>hbox x (e▸n)).trans A,d.move r⟩
 ·intro k j;refine (h.owns k j).same rfl r.s (λt xs deep m g=>⟨λc d=>⟨d,hoth c (h.olt _ _ d).2 λe=>?_⟩,λ_ _ _ _ _ o f=>.inl f⟩) λt xs g c d=>⟨d,hoth c (h.olt _ _ d).2 λe=>?_,λo f=>f⟩
  ·exact hdead k j t xs deep m (e▸d) (by rw[g];rfl)
  ·exact hdead k j t xs true true (e▸d) g.aeT
theorem Inv.aiA(h:Inv w0 G S a w)(P:Nat->Prop)[DecidablePred P](k j:Nat)
  (n:∀c,P c->w0.nw c/\c<w.heap.size/\(∀i,G.ow c≠some (.box i))/\∀k' j' t xs deep m,G.ow c=some (.own k' j')->(k',j')≠(k,j)->(bC (S.aQ k') j').fU≠.own t xs deep m) :
  Inv w0 { G with ow:=λc=>if P c then some (.own k j)else G.ow c } S a w:=by
 let G':Gh:={ G with ow:=λc=>if P c then some (.own k j)else G.ow c };have p:Mv G G' w w:=⟨λb o g=>⟨g,rfl⟩,λk hk=>⟨hk,λ_=>rfl⟩,λx e=>⟨e,rfl⟩⟩;have f:∀c,G'.ow c=if P c then some (.own k j)else G.ow c:=λ_=>rfl
 refine⟨h.below,h.nodef,h.tsz,h.bsz,h.osz,λx v hv=>(h.tmps x v hv).move p,?_,?_,?_,?_,h.lk,h.lb,h.sfr,h.st,h.fx⟩
 ·intro x y e;by_cases hp:P x
  ·exact⟨.inl (n x hp).1,(n x hp).2.1⟩
  ·rw[f,if_neg hp]at e;exact h.olt x y e
 ·intro x o g;refine⟨(h.sok x o g).1,λi=>?_⟩;rw[f];split
  ·simp
  ·exact (h.sok x o g).2 i
 ·intro x cs q;obtain⟨l,vs'',E',r,d⟩:=h.box x cs q;refine⟨?_,vs'',E',r,d.move p⟩;rw[f,if_neg λhp=>(n _ hp).2.2.1 x l];exact l
 ·intro k' j';have keep:∀t xs deep m,(bC (S.aQ k') j').fU=.own t xs deep m->∀c,G.ow c=some (.own k' j')->G'.ow c=some (.own k' j'):=by
   intro t xs deep m e c d;rw[f];split
   ·rename_i hp;by_cases hk:(k',j')=(k,j)
    ·cases hk;rfl
    ·exact absurd e ((n c hp).2.2.2 k' j' t xs deep m d hk)
   ·exact d
  refine (h.owns k' j').same rfl p.s (λt xs deep m e=>⟨λc d=>⟨keep t xs deep m (by rw[e];rfl) c d,rfl⟩,λ_ _ _ _ _ o g=>.inl g⟩)
   λt xs e c d=>⟨keep t xs true true e.aeT c d,rfl,λo g=>g⟩
theorem Inv.wK(h:Inv w0 G S a w)(d:Nat)(os:List O)(ov:Nat->Value)(lab:Nat->Option Nat)(I:S.aQ d=[])(u:d<S.tmps.length)(B:os≠[])
  (hlab:∀c j,lab c=some j->w0.nw c/\c<w.heap.size/\(∀i,G.ow c≠some (.box i))/\∀k' j' t xs deep m,G.ow c=some (.own k' j')->(bC (S.aQ k') j').fU≠.own t xs deep m)
  (C:∀j,match bC os j with
   | .dead=>True
   | .own t xs deep m=>OwT w G.S deep m t xs (ov j) (λc=>lab c=some j)
   | .ro t xs=>Rep w G.S (.list t xs) (ov j)
   | .tree t xs=>∃fp:Nat->Prop,(∀b,fp b->lab b=some j)/\Ow w (λ_ _=>False) true (.list t xs) (ov j) fp/\∀b o,G.S b o->¬fp b
   | .part t xs i=>iL w G.S t xs i (ov j) (λc=>lab c=some j)
   | .seg t xs=>Kv w G.S t xs (ov j) (λc=>lab c=some j)
   | .hole _ _ _ _=>False) :
  ∃G',Inv w0 G' (S.cO d os) a w/\Mv G G' w w/\G'.lk d/\(∀j,G'.ov d j=ov j)/\G'.bk=G.bk/\G'.S=G.S/\(∀c,G'.ow c=match lab c with | some j=>some (.own d j) | none=>G.ow c):=by
 have D:¬G.lk d:=λr=>h.lk d r I
 let G':Gh:={ G with ov:=λk j=>if k=d then ov j else G.ov k j,ow:=λc=>match lab c with | some j=>some (.own d j) | none=>G.ow c,lk:=λk=>k=d\/G.lk k };have A:Mv G G' w w:=⟨λb o n=>⟨n,rfl⟩,λk hk=>⟨.inr hk,λj=>by
  show (if k=d then ov j else G.ov k j)=_
  rw[if_neg (λe:k=d=>D (e▸hk))]⟩,λx f=>⟨f,rfl⟩⟩
 have g:∀c,G'.ow c=match lab c with | some j=>some (.own d j) | none=>G.ow c:=λ_=>rfl
 refine⟨G',⟨h.below,h.nodef,h.tsz,by simp[St.cO,h.bsz],by simp[St.cO,h.osz],λx v hv=>(h.tmps x v hv).move A,?_,?_,?_,?_,?_,h.lb,h.sfr,h.st,h.fx⟩,A,.inl rfl,λj=>if_pos rfl,rfl,rfl,λ_=>rfl⟩
 ·intro x y f;rw[g]at f;cases r:lab x with
  | some j=>exact⟨.inl (hlab x j r).1,(hlab x j r).2.1⟩
  | none=>rw[r]at f;exact h.olt x y f
 ·intro x o n;refine⟨(h.sok x o n).1,λi=>?_⟩;rw[g];cases r:lab x with
  | some j=>simp
  | none=>exact (h.sok x o n).2 i
 ·intro x cs E;obtain⟨z,vs'',E',F,l⟩:=h.box x cs E;refine⟨?_,vs'',E',F,l.move A⟩;rw[g];cases r:lab (G'.bk x)with
  | some j=>exact absurd z ((hlab _ j r).2.2.1 x)
  | none=>exact z
 ·intro k' j';rw[bK];by_cases hk:d=k'/\d<S.owns.length
  ·rw[if_pos hk];obtain⟨rfl,_⟩:=hk;have:=C j';revert this;generalize bC os j'=x;intro f;cases x with
   | dead=>trivial
   | own t xs deep m=>
    show OwT w G.S deep m t xs (if d=d then ov j' else G.ov d j') (iZ G' d j')
    rw[if_pos rfl];refine OwT.move f (λb o n=>⟨n,rfl⟩) (λc hc=>⟨?_,rfl⟩) (λ_ _ _ _ _ o n=>.inl n);show G'.ow c=_
    rw[g,hc]
   | ro t xs=>
    show Rep w G.S (.list t xs) (if d=d then ov j' else G.ov d j')
    rw[if_pos rfl];exact f
   | tree t xs=>
    obtain⟨fp,J,K,L⟩:=f;refine⟨fp,λc hc=>?_,?_,L⟩
    ·show G'.ow c=_
     rw[g,J c hc]
    ·show Ow w (λ_ _=>False) true (.list t xs) (if d=d then ov j' else G.ov d j') fp
     rw[if_pos rfl];exact K
   | part t xs i=>
    show iL w G.S t xs i (if d=d then ov j' else G.ov d j') (iZ G' d j')
    rw[if_pos rfl];refine iL.move f (λc hc=>⟨?_,rfl⟩) λ_ _ _ h=>h
    show G'.ow c=_
    rw[g,hc]
   | seg t xs=>
    show Kv w G.S t xs (if d=d then ov j' else G.ov d j') (iZ G' d j')
    rw[if_pos rfl];refine Kv.move f (λb o n=>⟨n,rfl⟩) λc hc=>⟨?_,rfl⟩
    show G'.ow c=_
    rw[g,hc]
   | hole t xs i q=>exact f.elim
  ·rw[if_neg hk];have H:k'≠d:=λe=>hk ⟨e.symm,by rw[h.osz];exact u⟩
   have keep:∀t xs deep m,(bC (S.aQ k') j').fU=.own t xs deep m->∀c,G.ow c=some (.own k' j')->G'.ow c=some (.own k' j'):=by
    intro t xs deep m f c l;rw[g];cases r:lab c with
    | some j=>exact absurd f ((hlab c j r).2.2.2 k' j' t xs deep m l)
    | none=>exact l
   refine (h.owns k' j').same (by show (if k'=d then ov j' else G.ov k' j')=_;rw[if_neg H]) A.s (λt xs deep m f=>⟨λc l=>⟨keep t xs deep m (by rw[f];rfl) c l,rfl⟩,λ_ _ _ _ _ o n=>.inl n⟩)
    λt xs f c l=>⟨keep t xs true true f.aeT c l,rfl,λo n=>n⟩
 ·intro k' p;rw[bK];by_cases hk:d=k'/\d<S.owns.length
  ·rw[if_pos hk];exact B
  ·rw[if_neg hk];rcases p with p | p
   ·exact absurd ⟨p.symm,by rw[h.osz];exact u⟩ hk
   ·exact h.lk k' p
theorem Inv.Vd(h:Inv w0 G S a w)(d:Nat)(os:List O)(ov:Nat->Value)(lab:Nat->Option Nat)(k:S.aQ d=[])(e:d<S.tmps.length)(f:os≠[])
  (hlab:∀c j,lab c=some j->w0.nw c/\c<w.heap.size/\(∀i,G.ow c≠some (.box i))/\∀k' j' t xs deep m,G.ow c=some (.own k' j')->(bC (S.aQ k') j').fU≠.own t xs deep m)
  (g:∀j,match bC os j with
   | .dead=>True
   | .own t xs deep m=>OwT w G.S deep m t xs (ov j) (λc=>lab c=some j)
   | .ro t xs=>Rep w G.S (.list t xs) (ov j)
   | .tree t xs=>∃fp:Nat->Prop,(∀b,fp b->lab b=some j)/\Ow w (λ_ _=>False) true (.list t xs) (ov j) fp/\∀b o,G.S b o->¬fp b
   | .part t xs i=>iL w G.S t xs i (ov j) (λc=>lab c=some j)
   | .seg t xs=>Kv w G.S t xs (ov j) (λc=>lab c=some j)
   | .hole _ _ _ _=>False) :
  ∃G',Inv w0 G' (S.cO d os) a w/\Mv G G' w w/\G'.lk d/\(∀j,G'.ov d j=ov j):=by
 obtain⟨G',l,n,p,q,_⟩:=h.wK d os ov lab k e f hlab g;exact⟨G',l,n,p,q⟩
end steps
theorem yC{α:Type}{l:List (Nat×α)}{k:Nat}{x:α}(h:lk l k=some x):(k,x)∈l:=by
 unfold lk at h;rw[ami]at h;obtain⟨p,hp,rfl⟩:=h;have c:=List.find?_some hp;have d:=amC hp;obtain⟨a,b⟩:=p;simp at c;subst c;exact d
def Jh:TypeDesc->Bool
 | .struct _ | .array _ _=>true
 | _=>false
def lu:List C->List Value->Bool
 | [],[]=>true
 | .d (.int k n)::cs,.int k' n'::vs=>decide (k=k')&&decide (n=n')&&lu cs vs
 | .d (.bool b)::cs,.bool b'::vs=>b==b'&&lu cs vs
 | .d (.str s)::cs,.string v::vs=>decide (v.data.toList=s)&&lu cs vs
 | .nil::cs,.slice none 0 0::vs=>lu cs vs
 | .d (.list _ [])::cs,.slice none 0 0::vs=>lu cs vs
 | _,_=>false
def Ld(P:Program)(fd:Field)(fo:Nat)(agg:Bool)(n:Nat):Bool:=
 fd.offset==fo&&(match P.underlying fd.type,P.info? fd.type with
  | some d,some i=>Jh d==agg&&i.size==n&&decide (0<n)
  | _,_=>false)
def xu(P:Program)(F:Array Field):Nat->List (Nat×Bool×Nat)->Bool
 | _,[]=>true
 | f,(fo,agg,n)::r=>(match F[f]? with | some fd=>Ld P fd fo agg n | none=>false)&&xu P F (f+1) r
def Yc(P:Program)(k:TypeId->Option (List Kd)):Nat->List Field->Option (List Kd)
 | _,[]=>some []
 | off, f :: r => if f.name ≠ "_" /\ f.offset = off then (k f.type).bind fun ks => if ks.length = P.cellsOf f.type then (Yc P k (off + ks.length) r).map (ks ++ ·) else none else none
def QX(P:Program):Nat->TypeId->Option (List Kd)
 | 0,_=>none
 | n+1,t=>match P.underlying t with
  | some .bool=>some [.bool]
  | some (.int k)=>some [.int k]
  | some .string=>some [.str]
  | some (.struct fs)=>if P.stoodInHeld t then none else (Yc P (QX P n) 0 fs.toList).bind λks=>if ks.length=P.cellsOf t then some ks else none
  | _=>none
def TT.ok'(P:Program)(T:TT):Bool:=
 T.ints.all (λx=>match P.underlying x.1 with
  | some (.int k)=>decide (k=x.2)
  | _=>false) &&
 T.eqs.all (λx=>decide (QX P 9 x.1=some x.2)&&!(P.eqGuardType P.depth x.1)&&(match P.underlying x.1 with
  | some (.struct _)=>true
  | _=>false)) &&
 T.elem.all (λx=>!(decide (x.2=.base .u8))||(match P.underlying x.1 with
  | some (.slice e)=>(match P.underlying e with
   | some (.int .u8)=>true
   | _=>false)
  | _=>false))
def TT.ok0(P:Program)(T:TT):Bool:=
 T.shape.all (λx=>match P.underlying x.1,P.info? x.1 with
  | some d,some i=>i.size==x.2.2&&Jh d==x.2.1
  | _,_=>false) &&
 T.zero.all (λx=>match (P.info? x.1).bind (·.zero)with
  | some z=>lu x.2 z.cells.toList
  | none=>false) &&
 T.fields.all (λx=>match P.underlying x.1 with
  | some (.struct F)=>xu P F 0 x.2&&x.2.length==F.size
  | _=>false) &&
 T.elem.all (λx=>match P.underlying x.1 with
  | some (.slice e)=>(match P.info? e with
   | some i=>i.size==x.2.size&&decide (i.bytes<=4096)&&(match i.zero with
    | some z=>z.cells.size==x.2.size&&lu ((x.2.cells x.2.zero).map .d) z.cells.toList
    | none=>false)
   | none=>false)
  | _=>false) &&
 T.strs.all (λx=>match P.underlying x with
  | some .string=>true
  | _=>false) &&
 T.bools.all (λx=>match P.underlying x with
  | some .bool=>true
  | _=>false)
def TT.ok(P:Program)(T:TT):Bool:=T.ok0 P&&T.ok' P
section tables
variable {P:Program} {T:TT}
theorem TT.afF(h:T.ok P=true){t:Nat}{k:IntKind}(a:lk T.ints t=some k):P.underlying t=some (.int k):=by
 simp only[TT.ok,TT.ok',zI]at h;have:=List.all_eq_true.1 h.2.1.1 _ (yC a);simp only at this;split at this
 ·rename_i k' b;rw[b,of_decide_eq_true this]
 ·cases this
theorem TT.alu(h:T.ok P=true){t:Nat}(a:lk T.elem t=some (.base .u8)){e:TypeId}(b:P.underlying t=some (.slice e)):P.underlying e=some (.int .u8):=by
 simp only[TT.ok,TT.ok',zI]at h;have:=List.all_eq_true.1 h.2.2 _ (yC a);simp only[b,decide_true,aR,Bool.false_or]at this;split at this
 ·assumption
 ·cases this
theorem TT.ak7(h:T.ok P=true){t:Nat}{ks:List Kd}(b:lk T.eqs t=some ks):QX P 9 t=some ks/\P.eqGuardType P.depth t=false/\∃fs,P.underlying t=some (.struct fs):=by
 simp only[TT.ok,TT.ok',zI]at h;have:=List.all_eq_true.1 h.2.1.2 _ (yC b);simp only[zI,decide_eq_true_eq,Bool.not_eq_true']at this;refine⟨this.1.1,this.1.2,?_⟩;have a:=this.2;split at a
 ·rename_i fs c;exact⟨fs,c⟩
 ·cases a
theorem TT.zy(h:T.ok P=true){t:Nat}{agg:Bool}{n:Nat}(a:lk T.shape t=some (agg,n)) :
  ∃d i,P.underlying t=some d/\P.info? t=some i/\i.size=n/\Jh d=agg:=by
 replace h:=(zI _ _▸h).1;simp only[TT.ok0,zI]at h;have:=List.all_eq_true.1 h.1.1.1.1.1 _ (yC a);simp only at this;split at this
 ·rename_i d i b hi;simp at this;exact⟨d,i,b,hi,this.1,this.2⟩
 ·cases this
theorem TT.aaC(h:T.ok P=true){t:Nat}{cs:List C}(b:lk T.zero t=some cs) :
  ∃i z,P.info? t=some i/\i.zero=some z/\lu cs z.cells.toList=true:=by
 replace h:=(zI _ _▸h).1;simp only[TT.ok0,zI]at h;have:=List.all_eq_true.1 h.1.1.1.1.2 _ (yC b);simp only at this;split at this
 ·rename_i z a;rw[zB]at a;obtain⟨i,hi,a⟩:=a;exact⟨i,z,hi,a,this⟩
 ·cases this
theorem Gx{P:Program}{F:Array Field}:∀(fs:List (Nat×Bool×Nat)) (k:Nat),xu P F k fs=true->∀(f:Nat) (fo:Nat) (agg:Bool) (n:Nat),fs[f]?=some (fo,agg,n) ->
  ∃fd,F[k+f]?=some fd/\Ld P fd fo agg n=true
 | [],k,_,f,fo,agg,n,hf=>by simp at hf
 | (fo',agg',n')::r,k,h,f,fo,agg,n,hf=>by
  simp only[xu,zI]at h;cases f with
  | zero=>
   simp at hf;obtain⟨rfl,rfl,rfl⟩:=hf;have a:=h.1;split at a
   ·rename_i fd b;exact⟨fd,b,a⟩
   ·cases a
  | succ f=>
   obtain⟨fd,a,c⟩:=Gx r (k+1) h.2 f fo agg n (by simpa using hf);exact⟨fd,by rw[show k+(f+1)=k+1+f by omega];exact a,c⟩
theorem TT.X8(h:T.ok P=true){t f fo:Nat}{agg:Bool}{n:Nat}(e:(lk T.fields t).bind (·[f]?)=some (fo,agg,n)) :
  ∃F fd d i,P.underlying t=some (.struct F)/\F[f]?=some fd/\fd.offset=fo/\P.underlying fd.type=some d/\P.info? fd.type=some i/\Jh d=agg/\i.size=n/\0<n:=by
 replace h:=(zI _ _▸h).1;simp only[TT.ok0,zI]at h;rw[zB]at e;obtain⟨fs,c,hf⟩:=e;have:=List.all_eq_true.1 h.1.1.1.2 _ (yC c);simp only at this;split at this
 ·rename_i F g;rw[zI]at this;obtain⟨fd,j,b⟩:=Gx fs 0 this.1 f fo agg n hf;simp only[Ld,zI,beq_iff_eq]at b;obtain⟨b,a⟩:=b;split at a
  ·rename_i d i k hi;simp at a;exact⟨F,fd,d,i,g,by simpa using j,b,k,hi,a.1.1,a.1.2,a.2⟩
  ·cases a
 ·cases this
theorem zi{P:Program}{F:Array Field}:∀(fs:List (Nat×Bool×Nat)) (k:Nat),xu P F k fs=true->fs.length+k=F.size ->
  (F.toList.drop k).mapM (λf=>(P.info? f.type).map λi=>(f.offset,i.size))=some (fs.map λx=>(x.1,x.2.2))
 | [],k,_,a=>by
  have:F.toList.drop k=[]:=by simp at a ⊢;omega
  rw[this];rfl
 | (fo,agg,n)::r,k,h,a=>by
  simp only[xu,zI]at h;have hk:k<F.toList.length:=by simp at a ⊢;omega
  have ih:=zi r (k+1) h.2 (by simp at a ⊢;omega);rw[amg hk,List.mapM_cons,ih];have b:=h.1;split at b
  ·rename_i fd g;have e:F.toList[k]=fd:=by
    have:F.toList[k]?=some fd:=by simpa using g
    rw[zF hk]at this;exact a7 this
   rw[e];simp only[Ld,zI,beq_iff_eq]at b;obtain⟨j,c⟩:=b;split at c
   ·rename_i d i l hi;simp at c;simp[hi,j,c.1.2]
   ·cases c
  ·cases b
theorem TT.adb(h:T.ok P=true){t:Nat}{fs:List (Nat×Bool×Nat)}(a:lk T.fields t=some fs) :
  ∃F,P.underlying t=some (.struct F)/\F.toList.mapM (λf=>(P.info? f.type).map λi=>(f.offset,i.size))=some (fs.map λx=>(x.1,x.2.2)):=by
 replace h:=(zI _ _▸h).1;simp only[TT.ok0,zI]at h;have:=List.all_eq_true.1 h.1.1.1.2 _ (yC a);simp only at this;split at this
 ·rename_i F b;rw[zI]at this;exact⟨F,b,zi fs 0 this.1 (by simpa using this.2)⟩
 ·cases this
theorem TT.jG(h:T.ok P=true){t:Nat}{ty:Ty}(b:lk T.elem t=some ty) :
  ∃e i z,P.underlying t=some (.slice e)/\P.info? e=some i/\i.size=ty.size/\i.bytes<=4096/\i.zero=some z/\z.cells.size=ty.size/\lu ((ty.cells ty.zero).map .d) z.cells.toList=true:=by
 replace h:=(zI _ _▸h).1;simp only[TT.ok0,zI]at h;have:=List.all_eq_true.1 h.1.1.2 _ (yC b);simp only at this;split at this
 ·rename_i e c;split at this
  ·rename_i i hi;simp only[zI,beq_iff_eq,decide_eq_true_eq]at this;obtain⟨⟨f,g⟩,a⟩:=this;split at a
   ·rename_i z j;simp only[zI,beq_iff_eq]at a;exact⟨e,i,z,c,hi,f,g,j,a.1,a.2⟩
   ·cases a
  ·cases this
 ·cases this
theorem TT.LW(h:T.ok P=true){t:Nat}(a:T.strs.contains t=true):P.underlying t=some .string:=by
 replace h:=(zI _ _▸h).1;simp only[TT.ok0,zI]at h;have:=List.all_eq_true.1 h.1.2 t (by simpa using a);split at this
 ·rename_i b;exact b
 ·cases this
theorem TT.aij(h:T.ok P=true){t:Nat}(a:T.bools.contains t=true):P.underlying t=some .bool:=by
 replace h:=(zI _ _▸h).1;simp only[TT.ok0,zI]at h;have:=List.all_eq_true.1 h.2 t (by simpa using a);split at this
 ·rename_i b;exact b
 ·cases this
end tables
theorem lX{G:Gh}{w:World}:∀(cs:List C) (vs:List Value),lu cs vs=true->dh G w cs vs
 | [],[],_=>trivial
 | [],_::_,h=>by simp[lu]at h
 | c::cs,[],h=>by unfold lu at h;split at h<;>simp_all
 | c::cs,v::vs,h=>by
  unfold lu at h;split at h
  ·simp_all
  ·rename_i k n cs' k' n' vs' a d;cases a;cases d
   simp only[zI,decide_eq_true_eq]at h;obtain⟨⟨rfl,rfl⟩,e⟩:=h;exact⟨Rep.int _ _,lX _ _ e⟩
  ·rename_i b cs' b' vs' a d;cases a;cases d
   simp only[zI,beq_iff_eq]at h;obtain⟨rfl,e⟩:=h;exact⟨Rep.bool _,lX _ _ e⟩
  ·rename_i s cs' v' vs' a d;cases a;cases d
   simp only[zI,decide_eq_true_eq]at h;obtain⟨rfl,e⟩:=h;exact⟨Rep.str _,lX _ _ e⟩
  ·rename_i cs' vs' a d;cases a;cases d
   exact⟨rfl,lX _ _ h⟩
  ·rename_i t cs' vs' a d;cases a;cases d
   exact⟨Rep.nil _,lX _ _ h⟩
  ·cases h
section reads
variable {w0:Bs} {G:Gh} {S:St} {a:Act} {w:World}
theorem Inv.je(h:Inv w0 G S a w)(t:Nat):ja G w (S.je t) (a.tmps.getD t undef):=by
 cases b:a.tmps[t]? with
 | some v=>have:=h.tmps t v b;simpa [b] using this
 | none=>
  have c:a.tmps.size<=t:=by simpa using b
  rw[h.tsz]at c;have:S.je t=.undef:=by simp[St.je,zE,zJ c]
  rw[this];trivial
theorem agk{v:Value}{c:C}(h:ali v=some c):mV G w c v:=by
 unfold ali at h;split at h<;>cases h
 ·exact Rep.int _ _
 ·exact Rep.bool _
 ·exact Rep.str _
 ·rfl
theorem aY(h:Inv w0 G S a w){x:Operand}{av:AV}(hv:(dZ x).val S=some av):ja G w av (a.eval x):=by
 cases x with
 | tmp t=>
  simp only[dZ,Rd.val,zD]at hv;subst hv;exact h.je t
 | const v=>
  simp only[dZ]at hv;split at hv
  ·rename_i c hc;simp only[Rd.val,zD]at hv;subst hv;exact agk hc
  ·simp only[Rd.val,zD]at hv;subst hv;trivial
 | global g=>cases hv
 | func f=>cases hv
theorem yQ{av:AV}{x:V}{v:Value}(a:(avV av).val S=some x)(h:ja G w av v):tN G w x v:=by
 unfold avV at a;split at a
 ·simp only[Rd.val,zD]at a;subst a;exact h
 ·cases a
theorem qQ{av:AV}{x:D}{v:Value}(a:(avD av).val S=some x)(h:ja G w av v):Rep w G.S x v:=by
 unfold avD at a;split at a
 ·simp only[Rd.val,zD]at a;subst a;exact h
 ·cases a
theorem xC{av:AV}{n:Int}{v:Value}(a:(PI av).val S=some n)(h:ja G w av v):∃k,v=.int k n:=by
 simp only[PI,Rd.aK,zB]at a;obtain⟨d,b,a⟩:=a;have:=qQ b h;cases this<;>simp only[Rd.val,zD]at a<;>first | (subst a;exact⟨_,rfl⟩) | cases a
def AK(G:Gh)(S:St)(keys:List (Nat×Nat))(b o:Nat):Prop:=
 ∃k j t xs deep m,(k,j)∈keys/\(bC (S.aQ k) j).sZ=.own t xs deep m/\G.ow b=some (.own k j)/\(∀len cap,G.ov k j=.slice (some ⟨b,0,none⟩) len cap->o<xs.length*t.size)
theorem OwT.Jl{S S':Nat->Nat->Prop}{deep m:Bool}{t:Ty}{xs:List t.den}{v:Value}{fp:Nat->Prop}(h:OwT w S deep m t xs v fp)
  (p:∀b o,S b o->S' b o) (a:∀b o,fp b->(∀len cap,v=.slice (some ⟨b,0,none⟩) len cap->o<xs.length*t.size)->S' b o):Rep w S' (.list t xs) v:=by
 rcases h with ⟨rfl,rfl⟩ | ⟨b,cap,arr,E,vs,fps,rfl,q,hcap,hmax,r,n,hc,s,hf,hdis,y⟩
 ·exact .nil t
 ·refine .list t xs b 0 cap vs hcap (λi x j d k l=>?_) (λi x j d k l=>(s i x j d k l).Jl p λc o f _=>a c o (hf i j c f).1 λlen cap e=>?_)
  ·have e:w.cell? ⟨b,0+(i*t.size+j),none⟩=some (vs i j):=by
    simp only[amw,World.cell?,q];simpa using hc i x j d k l
   refine⟨e,a b _ n λlen cap _=>?_⟩;have hi:i<xs.length:=(zC.1 k).1;have z:j<t.size:=by
    have:=(zC.1 l).1;rwa [Ty.bn]at this
   have u:(i+1)*t.size<=xs.length*t.size:=Nat.mul_le_mul_right _ hi;rw[Nat.succ_mul]at u;omega
  ·injection e with g _ _;injection g with g;injection g with g _ _;exact absurd g.symm (hf i j c f).2
theorem O.Yy{x:O}{t:Ty}{xs:List t.den}{deep m:Bool}(h:x.sZ=.own t xs deep m):x=.own t xs deep m\/(x=.tree t xs/\deep=true/\m=true):=by
 cases x with
 | tree t' xs'=>cases h;exact .inr ⟨rfl,rfl,rfl⟩
 | own=>exact .inl h
 | ro=>cases h
 | dead=>cases h
 | part=>cases h
 | seg=>cases h
 | hole=>cases h
theorem OwT.D9{w:World}{S':Nat->Nat->Prop}{t:Ty}{xs:List t.den}{v:Value}{fp fp':Nat->Prop}(h:Ow w (λ_ _=>False) true (.list t xs) v fp)(hf:∀c,fp c->fp' c)(m:∀b o,S' b o->¬fp b):OwT w S' true true t xs v fp':=by
 generalize a:D.list t xs=dd at h;cases h with
 | int=>cases a
 | bool=>cases a
 | str=>cases a
 | nil t'=>cases a;exact .inl ⟨rfl,rfl⟩
 | ro _ _ _ k=>cases k
 | list t' xs' b cap arr E vs fps _ n hcap hmax l e hc p f hdis=>
  cases a
  exact .inr ⟨b,cap,arr,E,vs,fps,rfl,n,hcap,hmax,l,hf _ e,hc,λi x j d q k=>(p i x j d q k).move (λ_ _ h=>h.elim) λ_ _=>rfl,λi j c g=>⟨hf _ (f i j c g).1,(f i j c g).2⟩,hdis,λo r=>absurd e (m b o r)⟩
theorem Inv.aeS(h:Inv w0 G S a w){k j:Nat}{t:Ty}{xs:List t.den}{deep m:Bool}(c:(bC (S.aQ k) j).sZ=.own t xs deep m):OwT w G.S deep m t xs (G.ov k j) (iZ G k j):=by
 have:=h.owns k j;rcases O.Yy c with b | ⟨b,rfl,rfl⟩
 ·rw[b]at this;exact this
 ·rw[b]at this;obtain⟨fp,d,e,f⟩:=this;exact OwT.D9 e d f
theorem Inv.NH(h:Inv w0 G S a w){k j:Nat}{t:Ty}{xs:List t.den}{deep m:Bool}(d:(bC (S.aQ k) j).sZ=.own t xs deep m)(keys:List (Nat×Nat))(hk:(k,j)∈keys) :
  Rep w (λb o=>G.S b o\/AK G S keys b o) (.list t xs) (G.ov k j):=
 OwT.Jl (h.aeS d) (λb o e=>.inl e) λb o f c=>.inr ⟨k,j,t,xs,deep,m,hk,d,f,c⟩
theorem Inv.KN(h:Inv w0 G S a w){k j:Nat}{t:Ty}{xs:List t.den}{deep m:Bool}(c:bC (S.aQ k) j=.own t xs deep m)(keys:List (Nat×Nat))(hk:(k,j)∈keys) :
  Rep w (λb o=>G.S b o\/AK G S keys b o) (.list t xs) (G.ov k j):=h.NH (by rw[c];rfl) keys hk
theorem Inv.UM(h:Inv w0 G S a w){k j:Nat}{t:Ty}{xs:List t.den}(b:bC (S.aQ k) j=.ro t xs):Rep w G.S (.list t xs) (G.ov k j):=by
 have:=h.owns k j;rw[b]at this;exact this
theorem EC(h:Inv w0 G S a w){ty:Option Ty}{c:C}{d:D}{v:Value}(e:(cD ty c).val S=some d)(hc:mV G w c v)(keys:List (Nat×Nat))(hk:∀k j,c=.own k j->(k,j)∈keys) :
  Rep w (λb o=>G.S b o\/AK G S keys b o) d v:=by
 cases c with
 | undef=>cases e
 | d x=>
  simp only[cD,Rd.val,zD]at e;subst e;exact Rep.move hc λb o g=>⟨.inl g,rfl⟩
 | nil=>
  simp only[cD]at e;split at e
  ·simp only[Rd.val,zD]at e;subst e;rw[show v=_ from hc];exact .nil _
  ·cases e
 | own k j=>
  simp only[cD,Rd.val]at e;rw[hc.2.1];split at e
  ·rename_i t xs deep m f;simp only[Rd.val,zD]at e;subst e;exact h.KN f keys (hk k j rfl)
  ·rename_i t xs f;simp only[Rd.val,zD]at e;subst e;exact (h.UM f).move λb o g=>⟨.inl g,rfl⟩
  ·rename_i t xs f;simp only[Rd.val,zD]at e;subst e;exact h.NH (by rw[f];rfl) keys (hk k j rfl)
  ·cases e
  ·cases e
  ·cases e
  ·cases e
 | ptr b off=>cases e
def aV(R:Nat->D->Value->Prop):Nat->List D->List Value->Prop
 | _,[],[]=>True
 | n,d::ds,v::vs=>R n d v/\aV R (n+1) ds vs
 | _,_,_=>False
def ShR(R:Nat->D->Value->Prop)(n:Nat)(s:Sh)(x:s.t.den)(u:Value):Prop:=
 match s.agg with
 | true=>∃vs:List Value,u=.agg vs.toArray/\aV R n (s.t.cells x) vs
 | false=>aV R n (s.t.cells x) [u]
def jI(R:Nat->D->Value->Prop):(n:Nat)->(ss:List Sh)->Tup ss->List Value->Prop
 | _,[],_,[]=>True
 | n,[s],x,[u]=>ShR R n s x u
 | n,s::s'::r,x,u::us=>ShR R n s x.1 u/\jI R (n+s.t.size) (s'::r) x.2 us
 | _,_,_,_=>False
theorem fE{cs:List C}{k j:Nat}:C.own k j∈cs->(k,j)∈aO cs:=by
 intro h;induction cs with
 | nil=>cases h
 | cons c cs ih=>
  cases h with
  | head=>simp[aO]
  | tail _ h=>
   cases c<;>simp only[aO,bh]<;>first | exact ih h | exact .inr (ih h)
theorem pV{k j:Nat}:∀ {cs:List C},(k,j)∈aO cs->C.own k j∈cs
 | [],h=>by cases h
 | c::r,h=>by
  cases c with
  | own k' j'=>
   rcases bh.1 h with h | h
   ·cases h;exact aw
   ·exact ar _ (pV h)
  | _=>exact ar _ (pV h)
theorem Ap(a b:List C):aO (a++b)=aO a++aO b:=by
 induction a with
 | nil=>rfl
 | cons c cs ih=>cases c<;>simp[aO,ih]
theorem abw(h:Inv w0 G S a w)(keys:List (Nat×Nat)):∀ {tys:List (Option Ty)} {cs:List C} {ds:List D} {vs:List Value} (n:Nat),(cDs tys cs).val S=some ds->tys.length=cs.length->dh G w cs vs ->
  (∀k j,C.own k j∈cs->(k,j)∈keys)->aV (λ_ d v=>Rep w (λb o=>G.S b o\/AK G S keys b o) d v) n ds vs
 | [],[],ds,[],n,f,_,_,_=>by
  simp only[cDs,Rd.val,zD]at f;subst f;trivial
 | ty::tys,c::cs,ds,v::vs,n,f,g,hc,hk=>by
  simp only[cDs,Rd.aK,zB,Rd.val,zD]at f;obtain⟨d,i,ds',l,rfl⟩:=f;exact⟨EC h i hc.1 keys λk j e=>hk k j (e▸aw),abw h keys (n+1) l (by simpa using g) hc.2 λk j e=>hk k j (ar _ e)⟩
theorem lY(t:Ty):t.tys.length=t.size:=by simp[Ty.tys,Ty.bn]
theorem tN.cells{x:V}{v:Value}(h:tN G w x v):∃vs:List Value,dh G w x.cells vs/\(x.isAgg=true->v=.agg vs.toArray)/\(x.isAgg=false->vs=[v]):=by
 cases x with
 | one c=>exact⟨[v],⟨h,trivial⟩,by simp[V.isAgg],λ_=>rfl⟩
 | agg cs=>obtain⟨vs,hv,hc⟩:=h;exact⟨vs,hc,λ_=>hv,by simp[V.isAgg]⟩
theorem YL(h:Inv w0 G S a w)(keys:List (Nat×Nat)){s:Sh}{x:V}{y:s.t.den}{v:Value}(n:Nat)(c:(vT s x).val S=some y)(i:tN G w x v)
  (hk:∀k j,C.own k j∈x.cells->(k,j)∈keys):ShR (λ_ d v=>Rep w (λb o=>G.S b o\/AK G S keys b o) d v) n s y v:=by
 simp only[vT]at c;split at c
 ·rename_i e;simp only[Rd.aK,zB,Rd.val]at c;obtain⟨ds,l,z,m,f⟩:=c;simp only[zD]at f;subst f;obtain⟨vs,hc,p,q⟩:=i.cells;have:=abw h keys n l (by rw[lY];exact e.2.symm) hc hk;rw[<- Ty.eH m]at this;unfold ShR;cases g:s.agg with
  | true=>exact⟨vs,p (by rw[e.1,g]),this⟩
  | false=>rw[q (by rw[e.1,g])]at this;exact this
 ·cases c
theorem mY(h:Inv w0 G S a w)(keys:List (Nat×Nat)):∀ {ss:List Sh} {xs:List V} {y:Tup ss} {us:List Value} (n:Nat),(vTs ss xs).val S=some y->kE G w xs us ->
  (∀k j x,x∈xs->C.own k j∈x.cells->(k,j)∈keys)->jI (λ_ d v=>Rep w (λb o=>G.S b o\/AK G S keys b o) d v) n ss y us
 | [],[],y,[],n,_,_,_=>trivial
 | [s],[x],y,[u],n,c,f,hk=>YL h keys n c f.1 λk j e=>hk k j x (by simp) e
 | s::s'::r,x::xs,y,u::us,n,c,f,hk=>by
  simp only[vTs,Rd.aK,zB,Rd.val,zD]at c;obtain⟨p,g,q,i,rfl⟩:=c;exact⟨YL h keys n g f.1 λk j e=>hk k j x (by simp) e,mY h keys _ i f.2 λk j z l e=>hk k j z (ar _ l) e⟩
 | [s],x::x'::xs,y,us,n,c,_,_=>by simp[vTs,Rd.val]at c
 | [s],[],y,us,n,c,_,_=>by simp[vTs,Rd.val]at c
 | [],_::_,y,us,n,c,_,_=>by simp[vTs,Rd.val]at c
 | s::s'::r,[],y,us,n,c,_,_=>by simp[vTs,Rd.val]at c
theorem kQ(h:Inv w0 G S a w):∀ {xs:List Operand} {vs:List V},(vJ xs).val S=some vs->kE G w vs (xs.map a.eval)
 | [],vs,hv=>by simp only[vJ,Rd.val,zD]at hv;subst hv;trivial
 | x::xs,vs,hv=>by
  simp only[vJ,Rd.aK,zB,Rd.val,zD]at hv;obtain⟨av,b,v,c,vs',d,rfl⟩:=hv;exact⟨yQ c (aY h b),kQ h d⟩
end reads
section ops
variable {P:Program} {w0:Bs} {G:Gh} {S:St} {a:Act} {w:World} {o:Oper} {K:Act->World->Prop} {Q:Exit->Act->World->Prop}
theorem aW{v:Value}{w':World}(hrun:(execOp a.eval o).run P w=.ok (.value v) w')(h:K (a.put o.dst v) w'):o.wp P a w K Q:=by
 unfold Oper.wp;rw[hrun];exact h
theorem Du{w':World}(hrun:(execOp a.eval o).run P w=.ok .skip w')(h:K (a.put o.dst undef) w'):o.wp P a w K Q:=by
 unfold Oper.wp;rw[hrun];exact h
theorem Inv.dst(h:Inv w0 G S a w){av:AV}{v:Value}(hv:ja G w av v):Inv w0 G (S.puts (fQ o av)) (a.put o.dst v) w:=by
 unfold fQ;cases o.dst with
 | none=>exact h
 | some d=>exact h.jh d hv
theorem ads{c:C}{v:Value}(h:mV G w c v):ja G w (akk c) v:=by
 cases c<;>first | trivial | exact h
theorem qX{x:V}{v:Value}(h:tN G w x v):ja G w (JH x) v:=by
 cases x with
 | one c=>exact ads h
 | agg cs=>exact h
theorem Bv:ja G w (.tup []) undef:=⟨[],rfl,trivial⟩
theorem GI{v:Value}(h:v.oneCell'=true):v.cells = #[v]:=by
 cases v<;>first | rfl | (simp[Value.oneCell']at h)
theorem tN.TF{x:V}{v:Value}(h:tN G w x v):∃vs:List Value,v.cells=vs.toArray/\dh G w x.cells vs:=by
 cases x with
 | one c=>exact⟨[v],GI (mV.one h),⟨h,trivial⟩⟩
 | agg cs=>obtain⟨vs,rfl,hc⟩:=h;exact⟨vs,rfl,hc⟩
theorem dh.seg{cs:List C}{vs:List Value}(h:dh G w cs vs)(off n:Nat):dh G w (seg cs off n) (Abs.seg vs off n):=by
 obtain⟨a,b⟩:=h.get;refine dh.mk (by simp[Abs.seg,a]) λi c v hc hv=>?_
 simp only[Abs.seg,amo,amn]at hc hv;split at hc
 ·rename_i hi;rw[if_pos hi]at hv;exact b _ c v hc hv
 ·cases hc
theorem dh.dO{cs cs':List C}{vs vs':List Value}(h:dh G w cs vs)(j:dh G w cs' vs')(off:Nat):dh G w (dO cs off cs') (Abs.dO vs off vs'):=by
 obtain⟨f,g⟩:=h.get;obtain⟨a,b⟩:=j.get;refine dh.mk (by simp[Abs.dO,f,a]) λi c v hc hv=>?_
 simp only[Abs.dO,List.getElem?_append,amo,amn,a8,bc,f,a]at hc hv;split at hc
 ·rename_i d;rw[if_pos d]at hv;split at hc
  ·rename_i e;rw[if_pos e]at hv;split at hc
   ·rename_i k;rw[if_pos k]at hv;exact g _ c v hc hv
   ·cases hc
  ·rename_i e;rw[if_neg e]at hv;exact b _ c v hc hv
 ·rename_i d;rw[if_neg d]at hv;exact g _ c v hc hv
theorem dh.length{cs:List C}{vs:List Value}(h:dh G w cs vs):cs.length=vs.length:=h.get.1
theorem Ve{agg:Bool}{cs:List C}{x:V}{vs:List Value}(a:mkV agg cs=some x)(hc:dh G w cs vs) :
  (agg=true->tN G w x (.agg vs.toArray))/\(agg=false->∃v,vs=[v]/\tN G w x v):=by
 unfold mkV at a;split at a
 ·cases a;exact⟨λ_=>⟨vs,rfl,hc⟩,by simp⟩
 ·cases a
  match vs,hc with
  | [v],hc=>exact⟨by simp,λ_=>⟨v,rfl,hc.1⟩⟩
 ·cases a
theorem addr_add(g o j:Nat):(⟨g,o,none⟩:Addr).add j=⟨g,o+j,none⟩:=by unfold Addr.add;split<;>simp_all
theorem yY(T:TypeId)(g off:Nat)(d:TypeDesc)(i:TypeInfo)(b:P.underlying T=some d)(hi:P.info? T=some i)(e:Jh d=true)(ls:List Value)(c:ls.length=i.size)
  (hc:∀j v,ls[j]?=some v->w.cell? ⟨g,off+j,none⟩=some v):(loadVar T ⟨g,off,none⟩).run P w=.ok (.agg ls.toArray) w:=by
 have a:(loadCells ⟨g,off,none⟩ ls.length).run P w=.ok ls.toArray w:=run_loadCells_list (P:=P) w ⟨g,off,none⟩ ls λj v hv=>by rw[addr_add];exact hc j v hv
 have hagg:(isAgg T).run P w=.ok true w:=by
  unfold isAgg;rw[Sem.run_bind,run_underlying b w];cases d<;>simp_all [Jh]
 rw[c]at a;simp[loadVar,Sem.run_bind,hagg,sizeOf,typeInfo,hi,a]
theorem qg(T:TypeId)(g off:Nat)(d:TypeDesc)(a:P.underlying T=some d)(b:Jh d=false)(v:Value)
  (hc:w.cell? ⟨g,off,none⟩=some v):(loadVar T ⟨g,off,none⟩).run P w=.ok v w:=by
 have hagg:(isAgg T).run P w=.ok false w:=by
  unfold isAgg;rw[Sem.run_bind,run_underlying a w];cases d<;>simp_all [Jh]
 simp[loadVar,Sem.run_bind,hagg,hc]
theorem ve{T:TT}(k:T.ok P=true)(h:Inv w0 G S a w){t:TypeId}{p:Operand}(b:o.op=.load t p){agg:Bool}{n:Nat}(l:lk T.shape t=some (agg,n))
  {g off:Nat} (hp:a.eval p=.pointer (some ⟨g,off,none⟩)) {cs:List C} {vs:List Value} (hc:dh G w cs vs) (u:cs.length=n)
  (hcell:∀j v,vs[j]?=some v->w.cell? ⟨g,off+j,none⟩=some v) {x:V} (m:mkV agg cs=some x)
  (c:∀a' w' G',Inv w0 G' (S.puts (fQ o (JH x))) a' w'->K a' w'):o.wp P a w K Q:=by
 obtain⟨d,i,e,hi,q,f⟩:=TT.zy k l;obtain⟨r,s⟩:=Ve m hc;have y:=hc.length;cases agg with
 | true=>
  refine aW (v:=.agg vs.toArray) (w':=w) ?_ (c _ _ _ (h.dst (qX (r rfl))));have:=yY (w:=w) t g off d i e hi f vs (by omega) hcell;unfold execOp;simp only[b,hp,Instr.loadAt,Instr.sureAddr,Sem.run_bind,Sem.run_pure,Result.andThen_ok,this]
 | false=>
  obtain⟨v,rfl,hv⟩:=s rfl;refine aW (v:=v) (w':=w) ?_ (c _ _ _ (h.dst (qX hv)));have:=qg (w:=w) t g off d e f v (hcell 0 v rfl);unfold execOp;simp only[b,hp,Instr.loadAt,Instr.sureAddr,Sem.run_bind,Sem.run_pure,Result.andThen_ok,this]
theorem afc(h:Inv w0 G S a w){d:Nat}(g:o.dst=some d){cs:List C}{ws:List W}(hv:(yA d cs).val S=some ws){vs:List Value}{e:TypeId}(hc:dh G w cs vs)
  (hrun:(execOp a.eval o).run P w=.ok (.value (.pointer (some ⟨w.heap.size,0,none⟩))) (w.alloc (.cells vs.toArray e)))
  (j:∀a' w' G',Inv w0 G' (S.puts ws) a' w'->K a' w'):o.wp P a w K Q:=by
 unfold yA at hv;split at hv
 case isTrue=>cases hv
 rename_i f;simp only[Rd.val]at hv;split at hv
 ·rename_i l;simp only[Rd.val,zD]at hv;subst hv;have hbel:Below w.heap.size w (w.alloc (.cells vs.toArray e)):=(Below.refl _ _).alloc (aD _) _;have m:=h.grow hbel;have n:Mv G G w (w.alloc (.cells vs.toArray e)):=⟨λb o c=>⟨c,hbel.cell (p:=⟨b,o,none⟩) (h.sok b o c).1⟩,λk hk=>⟨hk,λ_=>rfl⟩,λi hi=>⟨hi,rfl⟩⟩;obtain⟨G',q⟩:=m.yA d w.heap.size f l h.below.size
   (by cases r:G.ow w.heap.size with
     | none=>rfl
     | some y=>exact absurd (h.olt _ _ r).2 (Nat.lt_irrefl _))
   (λo c=>absurd (h.sok _ o c).1 (Nat.lt_irrefl _)) (heap_alloc_new w _) (hc.move n)
  refine aW hrun (j _ _ G' ?_);rw[g];exact q
 ·cases hv
theorem aa9(h:Inv w0 G S a w){x:Operand}(b:o.op=.move x\/o.op=.assign x){E:Env}{ws:List W}(hv:(eff E o).val S=some ws)
  (d:∀a' w' G',Inv w0 G' (S.puts ws) a' w'->K a' w'):o.wp P a w K Q:=by
 have c:((dZ x).bind λa=>.ret (fQ o a)).val S=some ws:=by
  rcases b with b | b<;>(unfold eff at hv;rw[b]at hv;exact hv)
 simp only[Rd.aK,zB,Rd.val,zD]at c;obtain⟨av,e,rfl⟩:=c;refine aW (v:=a.eval x) (w':=w) ?_ (d _ _ _ (h.dst (aY h e)));rcases b with b | b<;>(unfold execOp;simp only[b];rfl)
theorem ahp(h:Inv w0 G S a w){c x y:Operand}(f:o.op=.pick c x y){E:Env}{ws:List W}(hv:(eff E o).val S=some ws)
  (i:∀a' w' G',Inv w0 G' (S.puts ws) a' w'->K a' w'):o.wp P a w K Q:=by
 unfold eff at hv;rw[f]at hv;simp only[Rd.aK,zB]at hv;obtain⟨av,j,d,k,hv⟩:=hv;have e:=qQ k (aY h j);split at hv
 ·simp only[Rd.aK,zB,Rd.val,zD]at hv;obtain⟨av',g,rfl⟩:=hv;generalize b:a.eval c=cv at e;cases e
  refine aW (v:=a.eval x) (w':=w) ?_ (i _ _ _ (h.dst (aY h g)));unfold execOp;simp[f,b,asBool]
 ·simp only[Rd.aK,zB,Rd.val,zD]at hv;obtain⟨av',g,rfl⟩:=hv;generalize b:a.eval c=cv at e;cases e
  refine aW (v:=a.eval y) (w':=w) ?_ (i _ _ _ (h.dst (aY h g)));unfold execOp;simp[f,b,asBool]
 ·cases hv
theorem afe(h:Inv w0 G S a w){e:TypeId}(c:o.op=.alloc e){E:Env}(f:E.tt.ok P=true){ws:List W}(hv:(eff E o).val S=some ws)
  (g:∀a' w' G',Inv w0 G' (S.puts ws) a' w'->K a' w'):o.wp P a w K Q:=by
 unfold eff at hv;rw[c]at hv;simp only at hv;split at hv
 ·rename_i d cs j b;obtain⟨i,z,hi,b,k⟩:=TT.aaC f b;refine afc h j hv (vs:=z.cells.toList) (e:=e) (lX _ _ k) ?_ g;unfold execOp;simp[c,Instr.alloc,zeroValue,typeInfo,hi,b,newVar,newRow]
 ·cases hv
theorem ahv(h:Inv w0 G S a w){e:TypeId}{x:Operand}(c:o.op=.box e x){E:Env}{ws:List W}(hv:(eff E o).val S=some ws)
  (f:∀a' w' G',Inv w0 G' (S.puts ws) a' w'->K a' w'):o.wp P a w K Q:=by
 unfold eff at hv;rw[c]at hv;simp only at hv;split at hv
 ·rename_i d g;simp only[Rd.aK,zB]at hv;obtain⟨av,i,x',j,hv⟩:=hv;have k:=yQ j (aY h i);obtain⟨vs,b,hc⟩:=k.TF;refine afc h g hv (vs:=vs) (e:=e) hc ?_ f;unfold execOp;simp[c,Instr.box,newVar,newRow,b]
 ·cases hv
def AN(G:Gh)(k j b:Nat):Prop:=G.ow b=some (.own k j)/\∀len cap,G.ov k j≠.slice (some ⟨b,0,none⟩) len cap
theorem afi{x:O}{t:Ty}{xs:List t.den}{deep m:Bool}(h:x=.own t xs deep m):∀t xs,¬x.IsT t xs:=by
 rintro t xs (a | ⟨i,a⟩ | a | ⟨i,q,a⟩)<;>rw[h]at a<;>cases a
theorem Inv.addN(h:Inv w0 G S a w)(k j:Nat)(f:∀t xs,¬(bC (S.aQ k) j).IsT t xs):Inv w0 { G with S:=λb o=>G.S b o\/(b<w.heap.size/\AN G k j b) } S a w/\Mv G { G with S:=λb o=>G.S b o\/(b<w.heap.size/\AN G k j b) } w w:=
 h.YE _ (λb o d=>⟨d.1,λi hi=>(by rw[d.2.1]at hi;cases hi),λk' j' t xs deep m _ len cap e c=>by
  rw[d.2.1]at c;cases c
  exact absurd e (d.2.2 len cap)⟩) (λb o d=>(h.kY d.2.1).1) λb o d k' j' t xs g c=>by
  rw[d.2.1]at c;cases c
  exact f t xs g
theorem ahq(h:Inv w0 G S a w){t:TypeId}{p:Operand}(J:o.op=.load t p){E:Env}(M:E.tt.ok P=true){ws:List W}(hv:(eff E o).val S=some ws)
  (hpart:∀agg n k j i sz off ty xs m,lk E.tt.shape t=some (agg,n)->(dZ p).val S=some (.oelt k j i sz off)->bC (S.aQ k) j=.part ty xs m->(TQ o agg n k j i sz off ty xs m).val S=some ws->o.wp P a w K Q)
  (hhole:∀agg n k j i sz off ty xs,lk E.tt.shape t=some (agg,n)->(dZ p).val S=some (.oelt k j i sz off)->bC (S.aQ k) j=.tree ty xs->(VD o agg n k j i sz off ty xs (afE E o)).val S=some ws->o.wp P a w K Q)
  (N:∀a' w' G',Inv w0 G' (S.puts ws) a' w'->K a' w'):o.wp P a w K Q:=by
 unfold eff at hv;rw[J]at hv;simp only at hv;split at hv
 ·cases hv
 rename_i agg n s;simp only[Rd.aK,zB]at hv;obtain⟨av,O,hv⟩:=hv;have R:=aY h O;split at hv
 ·rename_i b off;simp only[Rd.val]at hv;split at hv
  ·rename_i cs T;simp only[Rd.val,zB]at hv;obtain⟨x,L,hv⟩:=hv;split at hv
   ·rename_i C;simp only[Rd.val,zD]at hv;subst hv;obtain⟨_,vs,e,hh,hc⟩:=h.box b cs T;refine ve M h J s (g:=G.bk b) (off:=off) R.2 (hc.seg off n) C (λj v hv=>?_) L N;rw[cell_of_row w _ _ _ _ _ hh];simp only[Abs.seg,amo,amn]at hv;split at hv
    ·simpa using hv
    ·cases hv
   ·cases hv
  ·cases hv
 ·rename_i ty x off;simp only[Rd.val,zB]at hv;obtain⟨y,U,hv⟩:=hv;split at hv
  ·rename_i C;simp only[Rd.val,zD]at hv;subst hv;obtain⟨b,of,u,vs,D⟩:=R;have hlen:(seg (ty.cells x) off n).length=n:=C;have r:∀j,j<n->∃d,(ty.cells x)[off+j]?=some d/\(seg (ty.cells x) off n)[j]?=some d:=by
    intro j r;have:j<(seg (ty.cells x) off n).length:=by omega
    refine⟨(seg (ty.cells x) off n)[j],?_,by simp[this]⟩;have e:(seg (ty.cells x) off n)[j]?=some (seg (ty.cells x) off n)[j]:=by simp[this]
    simp only[Abs.seg,amo,amn]at e;rw[if_pos r]at e;exact e
   refine ve M h J s (g:=b) (off:=of+off) u (cs:=(seg (ty.cells x) off n).map .d) (vs:=(List.range n).map λj=>vs (off+j)) ?_ (by simp[hlen]) ?_ U N
   ·refine dh.mk (by simp[hlen]) λj c v hc hv=>?_
    simp only[amh,ami]at hc hv;obtain⟨d,V,rfl⟩:=hc;obtain⟨j',f,rfl⟩:=hv;have l:j<n:=by
     have:=(zC.1 f).1;simpa using this
    have:j'=j:=by simp[l]at f;exact f.symm
    subst this;obtain⟨d',z,A⟩:=r j' l;rw[V]at A;cases A
    exact (D _ _ z).2.2
   ·intro j v hv;simp only[amh,ami]at hv;obtain⟨j',f,rfl⟩:=hv;have l:j<n:=by
     have:=(zC.1 f).1;simpa using this
    have:j'=j:=by simp[l]at f;exact f.symm
    subst this;obtain⟨d',z,A⟩:=r j' l;rw[Nat.add_assoc];exact (D _ _ z).1
  ·cases hv
 ·rename_i k j i sz off;simp only[Rd.val]at hv;split at hv
  ·rename_i ty xs deep m hown;split at hv
   case isFalse=>cases hv
   rename_i X;simp only[Rd.val,zB]at hv;obtain⟨x,L,y,U,hv⟩:=hv;split at hv
   ·rename_i C;simp only[Rd.val,zD]at hv;subst hv;obtain⟨hlk,b,len,cap,B,u⟩:=R;obtain⟨h',hm⟩:=h.addN k j (afi hown);have hO:=h.owns k j;rw[hown]at hO;rcases hO with ⟨he,_⟩ | ⟨b',cap',arr,e,vs,fps,F,hb,hcap,hmax,hasz,hfb,hc,Y,hf,hdis,_⟩
    ·rw[B]at he;cases he
    rw[B]at F;injection F with q e2 e3;injection q with q;injection q with q _ _;subst q;have hlen:(seg (ty.cells x) off n).length=n:=C;have r:∀j,j<n->∃d,(ty.cells x)[off+j]?=some d/\(seg (ty.cells x) off n)[j]?=some d:=by
     intro j r;have:j<(seg (ty.cells x) off n).length:=by omega
     refine⟨(seg (ty.cells x) off n)[j],?_,by simp[this]⟩;have e:(seg (ty.cells x) off n)[j]?=some (seg (ty.cells x) off n)[j]:=by simp[this]
     simp only[Abs.seg,amo,amn]at e;rw[if_pos r]at e;exact e
    refine ve M h' J s (g:=b) (off:=i*sz+off) u (cs:=(seg (ty.cells x) off n).map .d) (vs:=(List.range n).map λj=>vs i (off+j)) ?_ (by simp[hlen]) ?_ U N
    ·refine dh.mk (by simp[hlen]) λj' c v H hv=>?_
     simp only[amh,ami]at H hv;obtain⟨d,V,rfl⟩:=H;obtain⟨j'',f,rfl⟩:=hv;have l:j'<n:=by
      have:=(zC.1 f).1;simpa using this
     have:j''=j':=by simp[l]at f;exact f.symm
     subst this;obtain⟨d',z,A⟩:=r j'' l;rw[V]at A;cases A
     refine (Y i x _ d L z).Jl (λb o s=>.inl s) λc o Z _=>.inr ?_
     have:=hf _ _ _ Z;refine⟨(h.olt _ _ this.1).2,this.1,λlen' cap'' I=>?_⟩;rw[B]at I;injection I with q _ _;injection q with q;injection q with q _ _;exact this.2 q.symm
    ·intro j' v hv;simp only[amh,ami]at hv;obtain⟨j'',f,rfl⟩:=hv;have l:j'<n:=by
      have:=(zC.1 f).1;simpa using this
     have:j''=j':=by simp[l]at f;exact f.symm
     subst this;obtain⟨d',z,A⟩:=r j'' l;have:=hc i x _ d' L z;rw[cell_of_row w _ _ _ _ _ hb,Nat.add_assoc,<- X];exact this
   ·cases hv
  ·rename_i hown;exact hpart _ _ _ _ _ _ _ _ _ _ s O hown hv
  ·rename_i hown;exact hhole _ _ _ _ _ _ _ _ _ s O hown hv
  ·cases hv
 ·cases hv
theorem UZ(h:Inv w0 G S a w){s:TypeId}{p:Operand}{f:Nat}(t:o.op=.fieldAddr s p f){E:Env}(u:E.tt.ok P=true){ws:List W}(hv:(eff E o).val S=some ws)
  (l:∀a' w' G',Inv w0 G' (S.puts ws) a' w'->K a' w'):o.wp P a w K Q:=by
 unfold eff at hv;rw[t]at hv;simp only at hv;split at hv
 ·cases hv
 rename_i fo agg n hf;obtain⟨F,fd,d,i,y,z,hoff,A,hi,_,B,hpos⟩:=TT.X8 u hf;simp only[Rd.aK,zB]at hv;obtain⟨av,C,hv⟩:=hv;have e:=aY h C;have run:∀g off,a.eval p=.pointer (some ⟨g,off,none⟩)->(execOp a.eval o).run P w=.ok (.value (.pointer (some ⟨g,off+fo,none⟩))) w:=by
  intro g off hp;have m:i.size≠0:=by omega
  unfold execOp;simp only[t,hp,Instr.fieldAt,Sem.run_bind,run_underlying y,Result.andThen_ok,z,Instr.sureAddr,Sem.run_pure,fieldPlace,sizeOf,typeInfo,run_program,hi];simp[m,hoff,addr_add]
 split at hv
 ·rename_i b off;simp only[Rd.val,zD]at hv;subst hv;exact aW (run _ _ e.2) (l _ _ _ (h.dst (av:=.v (.one (.ptr b (off+fo)))) ⟨e.1,rfl⟩))
 ·rename_i ty x off;simp only[Rd.val,zD]at hv;subst hv;obtain⟨b,of,c,D⟩:=e;refine aW (run _ _ c) (l _ _ _ (h.dst (av:=.elt ty x (off+fo)) ⟨b,of,?_,D⟩));rw[Nat.add_assoc]
 ·rename_i k j i sz off;simp only[Rd.val,zD]at hv;subst hv;obtain⟨q,b,len,cap,r,c⟩:=e;refine aW (run _ _ c) (l _ _ _ (h.dst (av:=.oelt k j i sz (off+fo)) ⟨q,b,len,cap,r,?_⟩));rw[Nat.add_assoc]
 ·cases hv
end ops
theorem wP{α:Type}{xs:List α}{n:Int}{x:α}(h:idx xs n=some x):0<=n/\n<xs.length/\xs[n.toNat]?=some x:=by
 unfold idx at h;split at h
 ·rename_i a;have:=(zC.1 h).1;exact⟨a,by omega,h⟩
 ·cases h
theorem oM(b:ByteArray):b.data.toList.length=b.size:=by rw[Array.length_toList];rfl
theorem qP(b:ByteArray):b.toList=b.data.toList:=by
 have key:∀(n i:Nat) (r:List UInt8),b.size-i=n->ByteArray.toList.loop b i r=r.reverse++b.data.toList.drop i:=by
  intro n;induction n with
  | zero=>
   intro i r c;unfold ByteArray.toList.loop;have hi:¬i<b.size:=by omega
   rw[if_neg hi];have:b.data.toList.drop i=[]:=by
    rw[List.drop_eq_nil_iff];have:=oM b;omega
   rw[this];simp
  | succ n ih=>
   intro i r c;unfold ByteArray.toList.loop;have hi:i<b.size:=by omega
   rw[if_pos hi,ih (i+1) _ (by omega)];have a:i<b.data.toList.length:=by rw[oM];exact hi
   rw[amg a];have:b.get! i=b.data.toList[i]:=by
    have d:i<b.data.size:=hi;simp only[ByteArray.get!,Array.getElem_toList];exact getElem!_pos b.data i d
   rw[this];simp
 have:=key _ 0 [] rfl;simpa [ByteArray.toList] using this
section ops
variable {P:Program} {w0:Bs} {G:Gh} {S:St} {a:Act} {w:World} {o:Oper} {K:Act->World->Prop} {Q:Exit->Act->World->Prop}
theorem run_indexAt(T e:TypeId)(i:TypeInfo)(a:P.underlying T=some (.slice e))(hi:P.info? e=some i)(g off len cap:Nat)(k:IntKind)(n:Int)(b:0<=n)(c:n<len) :
  (Instr.indexAt T (.slice (some ⟨g,off,none⟩) len cap) (.int k n)).run P w=.ok (.pointer (some ⟨g,off+n.toNat*i.size,none⟩)) w:=by
 simp[Instr.indexAt,asIntOf,run_underlying a,b,c,sizeOf,typeInfo,hi,addr_add]
theorem UY(h:Inv w0 G S a w){T:TypeId}{x i:Operand}(H:o.op=.indexAddr T x i){E:Env}(N:E.tt.ok P=true){ws:List W}(hv:(eff E o).val S=some ws)
  (A:∀a' w' G',Inv w0 G' (S.puts ws) a' w'->K a' w'):o.wp P a w K Q:=by
 unfold eff at hv;rw[H]at hv;simp only at hv;split at hv
 ·cases hv
 rename_i t O;obtain⟨e,inf,z,R,hi,C,_⟩:=TT.jG N O;simp only[Rd.aK,zB]at hv;obtain⟨av,U,av',D,n,V,hv⟩:=hv;have p:=aY h U;obtain⟨kk,X⟩:=xC V (aY h D);have run:∀g off len cap,a.eval x=.slice (some ⟨g,off,none⟩) len cap->0<=n->n<len->(execOp a.eval o).run P w=.ok (.value (.pointer (some ⟨g,off+n.toNat*t.size,none⟩))) w:=by
  intro g off len cap F s l;have:=run_indexAt (w:=w) T e inf R hi g off len cap kk n s l;rw[C]at this;unfold execOp;simp[H,F,X,this]
 have stable:∀(xs:List t.den) (y:t.den) (v:Value),Rep w G.S (.list t xs) v->a.eval x=v->idx xs n=some y->∃v',(execOp a.eval o).run P w=.ok (.value v') w/\ja G w (.elt t y 0) v':=by
  intro xs y v hrep F q;obtain⟨s,l,r⟩:=wP q;cases hrep with
  | nil=>simp at l;omega
  | emp=>simp at l;omega
  | list _ _ b off cap vs hcap hc p=>
   refine⟨_,run b off _ cap F s l,b,off+n.toNat*t.size,rfl,λj=>vs n.toNat j,λj d I=>?_⟩;have:=hc _ _ _ _ r I;rw[Nat.add_assoc];exact⟨this.1,this.2,p _ _ _ _ r I⟩
 split at hv
 ·rename_i t' xs;split at hv
  ·rename_i f;subst f;simp only[Rd.val,zB,zD]at hv;obtain⟨y,q,rfl⟩:=hv;obtain⟨v',hrun,hrep⟩:=stable xs y _ p rfl q;exact aW hrun (A _ _ _ (h.dst hrep))
  ·cases hv
 ·rename_i k j;simp only[Rd.val]at hv;split at hv
  ·rename_i t' xs deep m hown;split at hv
   ·rename_i f;subst f;simp only[Rd.val,zB,zD]at hv;obtain⟨y,q,rfl⟩:=hv;obtain⟨s,l,r⟩:=wP q;have u:=h.owns k j;rw[hown]at u;rcases u with ⟨_,B⟩ | ⟨b,cap,arr,e',vs,fps,c,_⟩
    ·subst B;simp at l;omega
    refine aW (run b 0 xs.length cap (by rw[p.2.1];exact c) s l) (A _ _ _ (h.dst (av:=.oelt k j n.toNat t'.size 0) ⟨p.1,b,xs.length,cap,c,?_⟩));simp
   ·cases hv
  ·rename_i t' xs hown;split at hv
   ·rename_i f;subst f;simp only[Rd.val,zB,zD]at hv;obtain⟨y,q,rfl⟩:=hv;obtain⟨v',hrun,hrep⟩:=stable xs y _ (h.UM hown) p.2.1 q;exact aW hrun (A _ _ _ (h.dst hrep))
   ·cases hv
  ·rename_i t' xs m hown;split at hv
   ·rename_i f;subst f;simp only[Rd.val,zB,zD]at hv;obtain⟨y,q,rfl⟩:=hv;obtain⟨s,l,r⟩:=wP q;have u:=h.owns k j;rw[hown]at u;rcases u with ⟨_,B⟩ | ⟨b,cap,arr,e',vs,fps,c,_⟩
    ·subst B;simp at l;omega
    refine aW (run b 0 xs.length cap (by rw[p.2.1];exact c) s l) (A _ _ _ (h.dst (av:=.oelt k j n.toNat t'.size 0) ⟨p.1,b,xs.length,cap,c,?_⟩));simp
   ·cases hv
  ·rename_i t' xs i0 q0 hown;split at hv
   ·rename_i f;subst f;simp only[Rd.val,zB,zD]at hv;obtain⟨y,q,rfl⟩:=hv;obtain⟨s,l,r⟩:=wP q;have u:=h.owns k j;rw[hown]at u;obtain⟨_,_,⟨b,cap,arr,e',vs,fps,c,_⟩,_⟩:=u;refine aW (run b 0 xs.length cap (by rw[p.2.1];exact c) s l) (A _ _ _ (h.dst (av:=.oelt k j n.toNat t'.size 0) ⟨p.1,b,xs.length,cap,c,?_⟩));simp
   ·cases hv
  ·rename_i t' xs hown;split at hv
   ·rename_i f;subst f;simp only[Rd.val,zB]at hv;obtain⟨y,q,hv⟩:=hv;obtain⟨s,l,r⟩:=wP q;have u:=h.owns k j;rw[hown]at u;obtain⟨fp,J,L,Y⟩:=u;split at hv
    ·simp only[Rd.val,zD]at hv;subst hv;rcases iL.D9 (S':=λ_ _=>False) L J (λ_ _ h=>h.elim)with ⟨_,B⟩ | ⟨b,cap,arr,e',vs,fps,c,_⟩
     ·subst B;simp at l;omega
     refine aW (run b 0 xs.length cap (by rw[p.2.1];exact c) s l) (A _ _ _ (h.dst (av:=.oelt k j n.toNat t'.size 0) ⟨p.1,b,xs.length,cap,c,?_⟩));simp
    simp only[Rd.val,zD]at hv;subst hv;have M:iL w G.S t' xs n.toNat (G.ov k j) (iZ G k j):=(iL.D9 L J Y).at n.toNat;have D:=h.EJ k j (.part t' xs n.toNat) M;rcases M with ⟨_,B⟩ | ⟨b,cap,arr,e',vs,fps,c,_⟩
    ·subst B;simp at l;omega
    refine aW (run b 0 xs.length cap (by rw[p.2.1];exact c) s l) (A _ _ _ (D.dst (av:=.oelt k j n.toNat t'.size 0) ⟨p.1,b,xs.length,cap,c,?_⟩));simp
   ·cases hv
  ·cases hv
 ·cases hv
theorem ae5(h:Inv w0 G S a w){T:TypeId}{x i:Operand}(f:o.op=.index T x i){E:Env}(j:E.tt.ok P=true){ws:List W}(hv:(eff E o).val S=some ws)
  (k:∀a' w' G',Inv w0 G' (S.puts ws) a' w'->K a' w'):o.wp P a w K Q:=by
 unfold eff at hv;rw[f]at hv;simp only at hv;split at hv
 ·rename_i l;have m:=TT.LW j l;simp only[Rd.aK,zB]at hv;obtain⟨av,p,d,q,hv⟩:=hv;have g:=qQ q (aY h p);split at hv
  ·rename_i s;simp only[Rd.aK,zB,Rd.val,zD]at hv;obtain⟨av',r,n,t,c,u,rfl⟩:=hv;obtain⟨kk,y⟩:=xC t (aY h r);obtain⟨z,C,A⟩:=wP u;generalize e:a.eval x=xv at g;cases g with
   | str v=>
    refine aW (v:=.int .u8 c.toNat) (w':=w) ?_ (k _ _ _ (h.dst (Rep.int _ _)));have hc:v[n.toNat]?=some c:=by
     have b:n.toNat<v.size:=by
      have:=oM v;omega
     rw[getElem?_pos v n.toNat b];have:v.data.toList[n.toNat]?=some v[n.toNat]:=by
      have B:n.toNat<v.data.size:=b;rw[Array.getElem?_toList,getElem?_pos v.data n.toNat B];rfl
     rw[A]at this;exact this.symm
    unfold execOp;simp[f,e,y,Instr.index,asIntOf,run_underlying m,z,hc]
  ·cases hv
 ·cases hv
theorem kE.get{xs:List V}{us:List Value}(h:kE G w xs us):xs.length=us.length/\∀(i:Nat) (x:V) (u:Value),xs[i]?=some x->us[i]?=some u->tN G w x u:=by
 induction xs generalizing us with
 | nil=>cases us with
  | nil=>exact⟨rfl,λi x u b=>by simp at b⟩
  | cons u us=>exact h.elim
 | cons x xs ih=>cases us with
  | nil=>exact h.elim
  | cons u us=>
   obtain⟨c,d⟩:=ih h.2
   refine⟨by simp[c],λi y v a hv=>?_⟩
   cases i with
   | zero=>simp at a hv;subst a;subst hv;exact h.1
   | succ i=>simp at a hv;exact d i y v a hv
theorem ZE(h:Inv w0 G S a w){x:Operand}{i:Nat}(c:o.op=.extract x i){E:Env}{ws:List W}(hv:(eff E o).val S=some ws)
  (e:∀a' w' G',Inv w0 G' (S.puts ws) a' w'->K a' w'):o.wp P a w K Q:=by
 unfold eff at hv;rw[c]at hv;simp only[Rd.aK,zB]at hv;obtain⟨av,f,hv⟩:=hv;have g:=aY h f;split at hv
 ·rename_i vs;simp only[Rd.val,zB,zD]at hv;obtain⟨y,d,rfl⟩:=hv;obtain⟨us,j,b⟩:=g;obtain⟨l,k⟩:=b.get;have hi:i<us.length:=by have:=(zC.1 d).1;omega
  refine aW (v:=us[i]) (w':=w) ?_ (e _ _ _ (h.dst (qX (k i y us[i] d (by simp[hi])))));unfold execOp;simp[c,j,Instr.extract,hi]
 ·cases hv
theorem YP{p q:Str}{u v:Value}(c:Rep w G.S (.str p) u)(d:Rep w G.S (.str q) v)(f:p.length+q.length<=34359738368)(T:TypeId) :
  ∃r,(binOp .add T u v).run P w=.ok r w/\Rep w G.S (.str (p++q)) r:=by
 generalize a:D.str p=dp at c;generalize b:D.str q=dq at d;cases c<;>cases a
 cases d<;>cases b
 rename_i s s';rw[oM,oM]at f;refine⟨.string (s++s'),?_,?_⟩
 ·have:¬(((s.size+s'.size:Nat):Int)>IntKind.i64.max):=by
   have:IntKind.i64.max=9223372036854775807:=by decide
   rw[this];omega
  simp only[binOp,Op.stringOp];rw[if_neg this];rfl
 ·have e:s.data.toList++s'.data.toList=(s++s').data.toList:=by simp
  rw[e];exact .str _
theorem ags{op:BinOp}{x y z:D}{u v:Value}(a:alj op x y=some z)(b:Rep w G.S x u)(c:Rep w G.S y v)(T:TypeId)
  (e:∀p q,x=.bool p->y=.bool q->P.underlying T=some .bool) :
  ∃r,(binOp op T u v).run P w=.ok r w/\Rep w G.S z r:=by
 unfold alj at a;split at a
 ·rename_i k p k' q;split at a
  ·rename_i hk;subst hk;cases b;cases c
   unfold binI at a;split at a<;>cases a<;>refine⟨_,?_,by first | exact Rep.int _ _ | exact Rep.bool _⟩<;>simp[binOp,Op.intArith,Op.intCmp,Op.intBits]<;>rfl
  ·cases a
 ·rename_i p q;cases b with
  | str s=>
  cases c with
  | str s'=>
   unfold binS at a;split at a
   all_goals
    first
     | (cases a;refine⟨_,?_,Rep.bool _⟩;simp[binOp,Op.stringOp,qP];done)
     | (cases a;refine⟨_,?_,Rep.bool _⟩;simp only[binOp,Op.stringOp,qP];rfl)
     | cases a
 ·rename_i p q;cases b;cases c
  have d:=e p q rfl rfl;unfold binB at a;split at a
  ·cases a;exact⟨_,run_eql_bool w T p q d,Rep.bool _⟩
  ·cases a;exact⟨_,run_neq_bool w T p q d,Rep.bool _⟩
  ·cases a
 ·cases a
end ops
theorem SN(d e:D):∀(ds es:List D),ds.length=es.length->Dc (d::ds) (e::es)=(eqD d e&&Dc ds es)
 | [],[],_=>by simp[Dc]
 | _::_,_::_,_=>rfl
theorem JF:∀(b c f g:List D),b.length=c.length->f.length=g.length->Dc (b++f) (c++g)=(Dc b c&&Dc f g)
 | [],[],f,g,_,_=>by simp[Dc]
 | d::b,e::c,f,g,j,i=>by
  have a:b.length=c.length:=by simpa using j
  simp only[List.cons_append];rw[SN _ _ _ _ (by simp[a,i]),SN _ _ _ _ a,JF b c f g a i,Bool.and_assoc]
 | [],_::_,_,_,h,_=>by simp at h
 | _::_,[],_,_,h,_=>by simp at h
theorem Jd:∀ {ks:List Kd} {cs:List C} {ds:List D},Yo ks cs=some ds->cs=ds.map .d/\ds.map kd=ks
 | [],[],ds,h=>by simp only[Yo,zD]at h;subst h;exact⟨rfl,rfl⟩
 | [],_::_,ds,h=>by simp[Yo]at h
 | _::_,[],ds,h=>by simp[Yo]at h
 | k::ks,c::cs,ds,h=>by
  simp only[Yo]at h;split at h
  ·rename_i d a;split at h
   ·rename_i ds' b;cases h
    obtain⟨e,f⟩:=Jd b;unfold cKd at a;split at a
    ·split at a
     ·rename_i hk;cases a
      exact⟨by rw[e];rfl,by simp[hk,f]⟩
     ·cases a
    ·cases a
   ·cases h
  ·cases h
section eqs
variable {P:Program} {w:World} {S:Nat->Nat->Prop}
def Ky(w:World)(S:Nat->Nat->Prop)(ds:List D)(vs:List Value):Prop:=ds.length=vs.length/\∀(i:Nat) (d:D) (v:Value),ds[i]?=some d->vs[i]?=some v->Rep w S d v
theorem Ky.seg{ds:List D}{vs:List Value}(h:Ky w S ds vs)(o n:Nat):Ky w S ((ds.drop o).take n) ((vs.drop o).take n):=by
 refine⟨by simp[h.1],λi d v a hv=>?_⟩;rw[amo]at a hv;split at a
 ·rename_i hi;rw[if_pos hi]at hv;rw[amn]at a hv;exact h.2 _ d v a hv
 ·cases a
theorem Ol{d:D}{v:Value}{k:IntKind}(hk:kd d=.int k)(h:Rep w S d v):∃n,d=.int k n/\v=.int k n:=by
 cases h<;>simp only[kd]at hk<;>cases hk
 exact⟨_,rfl,rfl⟩
theorem JA{d:D}{v:Value}(hk:kd d=.bool)(h:Rep w S d v):∃b,d=.bool b/\v=.bool b:=by
 cases h<;>simp only[kd]at hk<;>cases hk
 exact⟨_,rfl,rfl⟩
theorem Oj{d:D}{v:Value}(hk:kd d=.str)(h:Rep w S d v):∃s:ByteArray,d=.str s.data.toList/\v=.string s:=by
 cases h<;>simp only[kd]at hk<;>cases hk
 exact⟨_,rfl,rfl⟩
def yZ(P:Program)(t:TypeId)(vs:List Value):Value:=match P.underlying t with
 | some (.struct _)=>.agg vs.toArray
 | _=>vs.headD undef
theorem Xe{t:TypeId}{ks:List Kd}{n:Nat}(hk:QX P n t=some ks)(e:ks.length=P.cellsOf t){vs:List Value}{off:Nat}(f:off+ks.length<=vs.length) :
  (part t vs.toArray off).run P w=.ok (yZ P t ((vs.drop off).take ks.length)) w:=by
 cases n with
 | zero=>simp[QX]at hk
 | succ n=>
  rw[QX]at hk;have one:∀d,P.underlying t=some d->Jh d=false->ks.length=1->(match d with | .struct _=>false | _=>true)=true->(part t vs.toArray off).run P w=.ok (yZ P t ((vs.drop off).take ks.length)) w:=by
   intro d a l g c;have hagg:(isAgg t).run P w=.ok false w:=by
    unfold isAgg;rw[Sem.run_bind,run_underlying a w];cases d<;>simp_all [Jh]
   have b:off<vs.length:=by omega
   have h:yZ P t ((vs.drop off).take ks.length)=vs[off]:=by
    unfold yZ;rw[a];have:((vs.drop off).take ks.length).headD undef=vs[off]:=by
     rw[g,amg b];rfl
    cases d<;>first | exact this | simp at c
   rw[h];simp[part,hagg,b]
  split at hk
  ·rename_i a;cases hk;exact one _ a rfl rfl rfl
  ·rename_i k a;cases hk;exact one _ a rfl rfl rfl
  ·rename_i a;cases hk;exact one _ a rfl rfl rfl
  ·rename_i fs a;have hagg:(isAgg t).run P w=.ok true w:=by
    unfold isAgg;rw[Sem.run_bind,run_underlying a w];rfl
   have hinfo:∃i,P.info? t=some i/\i.size=P.cellsOf t:=by
    unfold Program.underlying at a;cases hi:P.info? t with
    | none=>rw[hi]at a;cases a
    | some i=>exact⟨i,rfl,by simp[Program.cellsOf,hi]⟩
   obtain⟨i,hi,j⟩:=hinfo;unfold yZ;rw[a];simp[part,hagg,sizeOf,typeInfo,hi,j,<- e]
  ·cases hk
theorem Yd:∀(n m:Nat) (t:TypeId) (ks:List Kd) (ds es:List D) (vs us:List Value),QX P n t=some ks->ds.map kd=ks->es.map kd=ks->Ky w S ds vs->Ky w S es us ->
  (Op.equalIn (n+m) t (yZ P t vs) (yZ P t us)).run P w=.ok (Dc ds es) w
 | 0,m,t,ks,ds,es,vs,us,hk,_,_,_,_=>by simp[QX]at hk
 | n+1,m,t,ks,ds,es,vs,us,hk,s,x,hv,c=>by
  have O:n+1+m=(n+m)+1:=by omega
  rw[O];rw[QX]at hk;split at hk
  ·rename_i i;cases hk
   obtain⟨d,rfl,j⟩:=List.map_eq_singleton_iff.1 s;obtain⟨e,rfl,o⟩:=List.map_eq_singleton_iff.1 x;have p:=hv.1;match vs,p with
   | [v],_=>
   match us,c with
   | [u],c=>
    obtain⟨a,rfl,rfl⟩:=JA j (hv.2 0 _ _ rfl rfl);obtain⟨b,rfl,rfl⟩:=JA o (c.2 0 _ _ rfl rfl);simp only[yZ,i,List.headD_cons];exact run_equalIn_bool' w (n+m) t a b i
   | [],c=>simp[Ky]at c
   | _::_::_,c=>simp[Ky]at c
  ·rename_i k i;cases hk
   obtain⟨d,rfl,j⟩:=List.map_eq_singleton_iff.1 s;obtain⟨e,rfl,o⟩:=List.map_eq_singleton_iff.1 x;have p:=hv.1;match vs,p with
   | [v],_=>
   match us,c with
   | [u],c=>
    obtain⟨a,rfl,rfl⟩:=Ol j (hv.2 0 _ _ rfl rfl);obtain⟨b,rfl,rfl⟩:=Ol o (c.2 0 _ _ rfl rfl);simp only[yZ,i,List.headD_cons];exact run_equalIn_int w (n+m) t k k a b i
   | [],c=>simp[Ky]at c
   | _::_::_,c=>simp[Ky]at c
  ·rename_i i;cases hk
   obtain⟨d,rfl,j⟩:=List.map_eq_singleton_iff.1 s;obtain⟨e,rfl,o⟩:=List.map_eq_singleton_iff.1 x;have p:=hv.1;match vs,p with
   | [v],_=>
   match us,c with
   | [u],c=>
    obtain⟨a,rfl,rfl⟩:=Oj j (hv.2 0 _ _ rfl rfl);obtain⟨b,rfl,rfl⟩:=Oj o (c.2 0 _ _ rfl rfl);simp only[yZ,i,List.headD_cons];rw[run_equalIn_string w (n+m) t a b i,qP,qP];rfl
   | [],c=>simp[Ky]at c
   | _::_::_,c=>simp[Ky]at c
  ·rename_i fs i;split at hk
   ·cases hk
   rename_i H;simp only[zB]at hk;obtain⟨k,hk,q⟩:=hk;split at q
   case isFalse=>cases q
   rename_i Q;obtain rfl:=a7 q;have y:P.fieldsOf t=fs:=by simp[Program.fieldsOf,i]
   simp only[yZ,i];rw[run_equalIn_struct w (n+m) t _ _ (by rw[y];exact i) (by simpa using H),y];have key:∀(fl:List Field) (off:Nat) (kk:List Kd),Yc P (QX P n) off fl=some kk->off+kk.length<=ds.length->((ds.drop off).take kk.length).map kd=kk->((es.drop off).take kk.length).map kd=kk ->
     (Op.eqFields (n+m) vs.toArray us.toArray fl).run P w=.ok (Dc ((ds.drop off).take kk.length) ((es.drop off).take kk.length)) w:=by
    intro fl;induction fl with
    | nil=>
     intro off kk g _ _ _;simp only[Yc,zD]at g;subst g;simp[Op.eqFields,Dc]
    | cons f fl ih=>
     intro off kk g z I J;simp only[Yc]at g;split at g
     case isFalse=>cases g
     rename_i hf;simp only[zB]at g;obtain⟨h,r,g⟩:=g;split at g
     case isFalse=>cases g
     rename_i A;rw[ami]at g;obtain⟨G,K,rfl⟩:=g;have B:=hv.1;have C:=c.1;have E:ds.length=es.length:=by
      have:=congrArg List.length (s.trans x.symm);simpa using this
     rw[a8]at z;have F:∀(l:List D),(l.drop off).take (h++G).length=(l.drop off).take h.length++(l.drop (off+h.length)).take G.length:=by
      intro l;rw[a8,List.take_add,List.drop_drop]
     rw[F]at I J ⊢;rw[F];rw[List.map_append]at I J;have len1:∀(l:List D),off+(h.length+G.length)<=l.length->(((l.drop off).take h.length).map kd).length=h.length:=by
      intro l Y;simp;omega
     obtain⟨R,T⟩:=List.append_inj I (len1 ds z);obtain⟨U,V⟩:=List.append_inj J (len1 es (by omega));have W:=Xe (w:=w) r A (vs:=vs) (off:=off) (by omega);have X:=Xe (w:=w) r A (vs:=us) (off:=off) (by omega);have L:=Yd n m f.type h ((ds.drop off).take h.length) ((es.drop off).take h.length) ((vs.drop off).take h.length) ((us.drop off).take h.length) r R U (hv.seg _ _) (c.seg _ _);have M:=ih (off+h.length) G K (by omega) T V;rw[JF _ _ _ _ (by simp[E]) (by simp[E])];simp only[Op.eqFields,hf.1,ne_eq,not_false_eq_true,if_true,Sem.run_bind,hf.2,W,X,Result.andThen_ok,L];cases Dc ((ds.drop off).take h.length) ((es.drop off).take h.length)with
     | false=>simp
     | true=>simpa using M
   have B:k.length=ds.length:=by rw[<- s];simp
   have C:k.length=es.length:=by rw[<- x];simp
   have F:(ds.drop 0).take k.length=ds:=by rw[B];simp
   have N:(es.drop 0).take k.length=es:=by rw[C];simp
   have:=key fs.toList 0 k hk (by omega) (by rw[F];exact s) (by rw[N];exact x);rw[F,N]at this;exact this
  ·cases hk
end eqs
