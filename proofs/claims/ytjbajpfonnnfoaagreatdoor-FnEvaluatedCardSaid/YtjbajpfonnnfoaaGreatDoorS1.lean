import Derived.Test.YtjbajpfonnnfoaaGreatDoorAbs
import Derived.Laws.StructEq
set_option linter.unusedSimpArgs false
set_option linter.unusedVariables false
/- What the abstract evaluator's states say of the machine's; the first operations. -/
namespace Go.Abs
open Go.RowKit
theorem Rd.aH{α β:Type}(p:Rd α)(g:α->Rd β)(S:St):(p.bind g).val S=(p.val S).bind λa=>(g a).val S:=by
 induction p with
 | ret a=>rfl
 | fail=>rfl
 | gT i f ih=>exact ih _
 | gB i f ih=>exact ih _
 | gO i f ih=>exact ih _
 | gN f ih=>exact ih _
 | opt o f ih=>
  cases o with
  | none=>rfl
  | some x=>exact ih x
 | fk b p q c d=>cases b<;>assumption
theorem Rd.jg{α ρ:Type}(p:Rd α)(S:St)(k:α->Option ρ):p.runK S k=(p.val S).bind k:=by
 induction p with
 | ret a=>rfl
 | fail=>rfl
 | gT i f ih=>exact ih _
 | gB i f ih=>exact ih _
 | gO i f ih=>exact ih _
 | gN f ih=>exact ih _
 | opt o f ih=>
  cases o with
  | none=>rfl
  | some x=>exact ih x
 | fk b p q c d=>cases b<;>assumption
def Rd.tH{α:Type}:Rd α->St->List L->Option (α×List L)
 | .ret a,_,l=>some (a,l)
 | .fail,_,_=>none
 | .gT i f,S,l=>(f (S.iP i)).tH S (.t i::l)
 | .gB i f,S,l=>(f (S.fJ i)).tH S (.b i::l)
 | .gO i f,S,l=>(f (S.aI i)).tH S (.o i::l)
 | .gN f,S,l=>(f S.tmps.length).tH S l
 | .opt o f,S,l=>o.bind λx=>(f x).tH S l
 | .fk b p q,S,l=>cond b (p.tH S l) (q.tH S l)
theorem Rd.agt{α ρ:Type}(p:Rd α)(S:St)(l:List L)(k:α->List L->Option ρ) :
  p.Uu S l k=(p.tH S l).bind λx=>k x.1 x.2:=by
 induction p generalizing l with
 | ret a=>rfl
 | fail=>rfl
 | gT i f ih=>exact ih _ _
 | gB i f ih=>exact ih _ _
 | gO i f ih=>exact ih _ _
 | gN f ih=>exact ih _ _
 | opt o f ih=>
  cases o with
  | none=>rfl
  | some x=>exact ih x l
 | fk b p q c d=>cases b<;>first | exact c _ | exact d _
theorem Rd.ac7{α:Type}{p:Rd α}{S:St}:∀ {l:List L} {a:α} {rs:List L},p.tH S l=some (a,rs)->p.val S=some a:=by
 induction p with
 | ret a=>intro l b rs h;simp only[tH,zD,Prod.mk.injEq]at h;exact congrArg some h.1
 | fail=>intro l b rs h;cases h
 | gT i f ih=>intro l b rs h;exact ih _ h
 | gB i f ih=>intro l b rs h;exact ih _ h
 | gO i f ih=>intro l b rs h;exact ih _ h
 | gN f ih=>intro l b rs h;exact ih _ h
 | opt o f ih=>
  intro l b rs h;cases o with
  | none=>cases h
  | some x=>exact ih x h
 | fk b p q d e=>
  intro l c rs h;cases b with
  | false=>exact e h
  | true=>exact d h
theorem Rd.GR{α:Type}{p:Rd α}{S:St}:∀ {l:List L} {a:α} {rs:List L},p.tH S l=some (a,rs)->∀x,x∈l->x∈rs:=by
 induction p with
 | ret a=>intro l b rs h x d;simp only[tH,zD,Prod.mk.injEq]at h;exact h.2▸d
 | fail=>intro l b rs h;cases h
 | gT i f ih=>intro l b rs h x d;exact ih _ h x (ao _ d)
 | gB i f ih=>intro l b rs h x d;exact ih _ h x (ao _ d)
 | gO i f ih=>intro l b rs h x d;exact ih _ h x (ao _ d)
 | gN f ih=>intro l b rs h x d;exact ih _ h x d
 | opt o f ih=>
  intro l b rs h x d;cases o with
  | none=>cases h
  | some y=>exact ih y h x d
 | fk b p q e g=>
  intro l c rs h x d;cases b with
  | false=>exact g h x d
  | true=>exact e h x d
def agree(S S':St):L->Prop
 | .t i=>S'.iP i=S.iP i
 | .b i=>S'.fJ i=S.fJ i
 | .o i=>S'.aI i=S.aI i
theorem Rd.La{α:Type}{p:Rd α}{S S':St}(k:S'.tmps.length=S.tmps.length):∀ {l:List L} {a:α} {rs:List L},p.tH S l=some (a,rs)->(∀x,x∈rs->agree S S' x)->p.tH S' l=some (a,rs):=by
 induction p with
 | ret a=>intro l b rs h _;exact h
 | fail=>intro l b rs h;cases h
 | gT i f ih=>
  intro l b rs h d;have e:S'.iP i=S.iP i:=d (.t i) (GR (p:=f (S.iP i)) h (.t i) aq);simp only[tH,e];exact ih _ h d
 | gB i f ih=>
  intro l b rs h d;have e:S'.fJ i=S.fJ i:=d (.b i) (GR (p:=f (S.fJ i)) h (.b i) aq);simp only[tH,e];exact ih _ h d
 | gO i f ih=>
  intro l b rs h d;have e:S'.aI i=S.aI i:=d (.o i) (GR (p:=f (S.aI i)) h (.o i) aq);simp only[tH,e];exact ih _ h d
 | gN f ih=>intro l b rs h d;simp only[tH,k];exact ih _ h d
 | opt o f ih=>
  intro l b rs h d;cases o with
  | none=>cases h
  | some y=>exact ih y h d
 | fk b p q g j=>
  intro l c rs h d;cases b with
  | false=>exact j h d
  | true=>exact g h d
inductive Rep(w:World)(S:Nat->Nat->Prop):D->Value->Prop
 | int (k:IntKind) (n:Int):Rep w S (.int k n) (.int k n)
 | bool (b:Bool):Rep w S (.bool b) (.bool b)
 | str (v:ByteArray):Rep w S (.str v.data.toList) (.string v)
 | nil (t:Ty):Rep w S (.list t []) (.slice none 0 0)
 | emp (t:Ty) (a:Addr) (cap:Nat):Rep w S (.list t []) (.slice (some a) 0 cap)
 | list (t:Ty) (xs:List t.den) (b off cap:Nat) (vs:Nat->Nat->Value) (hcap:xs.length<=cap)
   (hc:∀(i:Nat) (x:t.den) (j:Nat) (d:D),xs[i]?=some x->(t.cells x)[j]?=some d ->
    w.cell? ⟨b,off+(i*t.size+j),none⟩=some (vs i j)/\S b (off+(i*t.size+j)))
   (hr:∀(i:Nat) (x:t.den) (j:Nat) (d:D),xs[i]?=some x->(t.cells x)[j]?=some d->Rep w S d (vs i j)) :
   Rep w S (.list t xs) (.slice (some ⟨b,off,none⟩) xs.length cap)
theorem Rep.move{w w':World}{S S':Nat->Nat->Prop}{d:D}{v:Value}(h:Rep w S d v)
  (f:∀b o,S b o->S' b o/\w'.cell? ⟨b,o,none⟩=w.cell? ⟨b,o,none⟩):Rep w' S' d v:=by
 induction h with
 | int k n=>exact .int k n
 | bool b=>exact .bool b
 | str v=>exact .str v
 | nil t=>exact .nil t
 | emp t a cap=>exact .emp t a cap
 | list t xs b off cap vs hcap hc g ih=>
  exact .list t xs b off cap vs hcap (λi x j d c e=>⟨(f _ _ (hc i x j d c e).2).2.trans (hc i x j d c e).1,(f _ _ (hc i x j d c e).2).1⟩) ih
theorem Rep.one{w:World}{S:Nat->Nat->Prop}{d:D}{v:Value}(h:Rep w S d v):v.oneCell'=true:=by
 cases h<;>rfl
inductive Ow(w:World)(S:Nat->Nat->Prop)(deep:Bool):D->Value->(Nat->Prop)->Prop
 | int (k:IntKind) (n:Int) (fp:Nat->Prop):Ow w S deep (.int k n) (.int k n) fp
 | bool (b:Bool) (fp:Nat->Prop):Ow w S deep (.bool b) (.bool b) fp
 | str (v:ByteArray) (fp:Nat->Prop):Ow w S deep (.str v.data.toList) (.string v) fp
 | nil (t:Ty) (fp:Nat->Prop):Ow w S deep (.list t []) (.slice none 0 0) fp
 | ro (d:D) (v:Value) (fp:Nat->Prop) (hd:deep=false) (h:Rep w S d v):Ow w S deep d v fp
 | list (t:Ty) (xs:List t.den) (b cap:Nat) (arr:Array Value) (E:TypeId) (vs:Nat->Nat->Value) (fps:Nat->Nat->Nat->Prop) (fp:Nat->Prop)
   (hb:w.heap[b]?=some (.cells arr E (0,0))) (hcap:xs.length<=cap) (hmax:cap<=maxLen) (hsz:arr.size=cap*t.size) (hfb:fp b)
   (hc:∀(i:Nat) (x:t.den) (j:Nat) (d:D),xs[i]?=some x->(t.cells x)[j]?=some d->arr[i*t.size+j]?=some (vs i j))
   (hr:∀(i:Nat) (x:t.den) (j:Nat) (d:D),xs[i]?=some x->(t.cells x)[j]?=some d->Ow w S deep d (vs i j) (fps i j))
   (hf:∀i j c,fps i j c->fp c/\c≠b)
   (hdis:∀i j i' j' c,fps i j c->fps i' j' c->i=i'/\j=j') :
   Ow w S deep (.list t xs) (.slice (some ⟨b,0,none⟩) xs.length cap) fp
theorem Ow.move{w w':World}{S S':Nat->Nat->Prop}{deep:Bool}{d:D}{v:Value}{fp:Nat->Prop}(h:Ow w S deep d v fp)
  (m:∀b o,S b o->S' b o/\w'.cell? ⟨b,o,none⟩=w.cell? ⟨b,o,none⟩) (a:∀b,fp b->w'.heap[b]?=w.heap[b]?):Ow w' S' deep d v fp:=by
 induction h with
 | int k n fp=>exact .int k n fp
 | bool b fp=>exact .bool b fp
 | str v fp=>exact .str v fp
 | nil t fp=>exact .nil t fp
 | ro d v fp f h=>exact .ro d v fp f (h.move m)
 | list t xs b cap arr E vs fps fp p hcap hmax g e hc r hf hdis ih=>
  exact .list t xs b cap arr E vs fps fp ((a b e).trans p) hcap hmax g e hc (λi x j d q f=>ih i x j d q f λc l=>a c (hf i j c l).1) hf hdis
theorem Ow.sub{w:World}{S:Nat->Nat->Prop}{deep deep':Bool}{d:D}{v:Value}{fp fp':Nat->Prop}(h:Ow w S deep d v fp)
  (a:∀b,fp b->fp' b) (f:deep'=true->deep=true):Ow w S deep' d v fp':=by
 induction h generalizing fp' with
 | int k n fp=>exact .int k n _
 | bool b fp=>exact .bool b _
 | str v fp=>exact .str v _
 | nil t fp=>exact .nil t _
 | ro d v fp e h=>
  refine .ro d v _ ?_ h;cases g:deep' with
  | false=>rfl
  | true=>rw[f g]at e;cases e
 | list t xs b cap arr E vs fps fp o hcap hmax l m hc p hf hdis ih=>
  exact .list t xs b cap arr E vs fps fp' o hcap hmax l (a b m) hc (λi x j d g f=>ih i x j d g f λ_ h=>h) (λi j c h=>⟨a c (hf i j c h).1,(hf i j c h).2⟩) hdis
theorem Ow.one{w:World}{S:Nat->Nat->Prop}{deep:Bool}{d:D}{v:Value}{fp:Nat->Prop}(h:Ow w S deep d v fp):v.oneCell'=true:=by
 cases h with
 | ro d v fp a h=>exact h.one
 | _=>rfl
theorem Ow.Jb{w:World}{S S':Nat->Nat->Prop}{deep:Bool}{d:D}{v:Value}{fp:Nat->Prop}(h:Ow w S deep d v fp)
  (p:∀b o,S b o->S' b o) (a:∀b o,fp b->(∃u,w.cell? ⟨b,o,none⟩=some u)->S' b o):Rep w S' d v:=by
 induction h with
 | int k n fp=>exact .int k n
 | bool b fp=>exact .bool b
 | str v fp=>exact .str v
 | nil t fp=>exact .nil t
 | ro d v fp f h=>exact h.move λb o q=>⟨p b o q,rfl⟩
 | list t xs b cap arr E vs fps fp r hcap hmax s g hc y hf hdis ih=>
  refine .list t xs b 0 cap vs hcap (λi x j d l f=>?_) (λi x j d l f=>ih i x j d l f λc o m=>a c o (hf i j c m).1);have e:w.cell? ⟨b,0+(i*t.size+j),none⟩=some (vs i j):=by
   simp only[Nat.zero_add,World.cell?,r];simpa using hc i x j d l f
  exact⟨e,a b _ g ⟨_,e⟩⟩
inductive sZ where
 | box (i:Nat)
 | own (k j:Nat)
structure Gh where
 bk:Nat->Nat
 ov:Nat->Nat->Value
 ow:Nat->Option sZ
 S:Nat->Nat->Prop
 lk:Nat->Prop
 lb:Nat->Prop
def l9(G:Gh)(w:World):C->Value->Prop
 | .undef,v=>v.oneCell'=true
 | .d x,v=>Rep w G.S x v
 | .nil,v=>v=.slice none 0 0
 | .own k j,v=>G.lk k/\v=G.ov k j/\v.oneCell'=true
 | .ptr b off,v=>G.lb b/\v=.pointer (some ⟨G.bk b,off,none⟩)
theorem l9.one{G:Gh}{w:World}{c:C}{v:Value}(h:l9 G w c v):v.oneCell'=true:=by
 cases c with
 | undef=>exact h
 | d x=>exact Rep.one h
 | nil=>rw[show v=_ from h];rfl
 | own k j=>exact h.2.2
 | ptr b off=>rw[show v=_ from h.2];rfl
def cu(G:Gh)(w:World):List C->List Value->Prop
 | [],[]=>True
 | c::cs,v::vs=>l9 G w c v/\cu G w cs vs
 | _,_=>False
def qV(G:Gh)(w:World):V->Value->Prop
 | .one c,v=>l9 G w c v
 | .agg cs,v=>∃vs:List Value,v=.agg vs.toArray/\cu G w cs vs
def kz(G:Gh)(w:World):List V->List Value->Prop
 | [],[]=>True
 | c::cs,v::vs=>qV G w c v/\kz G w cs vs
 | _,_=>False
def VN(G:Gh)(w:World)(t:Ty)(x:t.den)(b o:Nat):Prop:=
 ∃vs:Nat->Value,∀(j:Nat) (d:D),(t.cells x)[j]?=some d->w.cell? ⟨b,o+j,none⟩=some (vs j)/\G.S b (o+j)/\Rep w G.S d (vs j)
def jc(G:Gh)(w:World):AV->Value->Prop
 | .undef,_=>True
 | .v x,v=>qV G w x v
 | .elt t x off,v=>∃b o,v=.pointer (some ⟨b,o+off,none⟩)/\VN G w t x b o
 | .oelt k j i sz off,v=>G.lk k/\∃b len cap,G.ov k j=.slice (some ⟨b,0,none⟩) len cap/\v=.pointer (some ⟨b,i*sz+off,none⟩)
 | .cut t len n a c,v=>G.lk a/\G.lk c/\((v=.slice none 0 0/\n=0/\G.ov a 0=.slice none 0 0/\G.ov c 0=.slice none 0 0) \/
   ∃b cap,v=.slice (some ⟨b,0,none⟩) len cap/\len<=cap/\n<=len/\G.ov a 0=.slice (some ⟨b,0,none⟩) n cap/\G.ov c 0=.slice (some ⟨b,if cap=n then 0 else n*t.size,none⟩) (len-n) (cap-n))
 | .seg k,v=>G.lk k/\v=G.ov k 0
 | .pre k j n,v=>G.lk k/\((v=.slice none 0 0/\n=0/\G.ov k j=.slice none 0 0)\/∃b len cap,G.ov k j=.slice (some ⟨b,0,none⟩) len cap/\n<=len/\v=.slice (some ⟨b,0,none⟩) n cap)
 | .suf t k j m,v=>G.lk k/\∀(w':World) (S':Nat->Nat->Prop) (xs:List t.den),Rep w' S' (.list t xs) (G.ov k j)->Rep w' S' (.list t (xs.drop m)) v
 | .tup vs,v=>∃us:List Value,v=.tuple us.toArray/\kz G w vs us
def fM(G:Gh)(k j:Nat):Nat->Prop:=λb=>G.ow b=some (.own k j)
def OwT(w:World)(S:Nat->Nat->Prop)(deep m:Bool)(t:Ty)(xs:List t.den)(v:Value)(fp:Nat->Prop):Prop:=
 (v=.slice none 0 0/\xs=[]) \/
 ∃(b cap:Nat) (arr:Array Value) (E:TypeId) (vs:Nat->Nat->Value) (fps:Nat->Nat->Nat->Prop),
  v=.slice (some ⟨b,0,none⟩) xs.length cap/\w.heap[b]?=some (.cells arr E (0,0))/\xs.length<=cap/\cap<=maxLen/\arr.size=cap*t.size/\fp b /\
  (∀(i:Nat) (x:t.den) (j:Nat) (d:D),xs[i]?=some x->(t.cells x)[j]?=some d->arr[i*t.size+j]?=some (vs i j)) /\
  (∀(i:Nat) (x:t.den) (j:Nat) (d:D),xs[i]?=some x->(t.cells x)[j]?=some d->Ow w S deep d (vs i j) (fps i j)) /\
  (∀i j c,fps i j c->fp c/\c≠b) /\
  (∀i j i' j' c,fps i j c->fps i' j' c->i=i'/\j=j') /\
  (∀o,S b o->m=false/\o<xs.length*t.size)
theorem OwT.ow{w:World}{S:Nat->Nat->Prop}{deep m:Bool}{t:Ty}{xs:List t.den}{v:Value}{fp:Nat->Prop}(h:OwT w S deep m t xs v fp) :
  Ow w S deep (.list t xs) v fp:=by
 rcases h with ⟨rfl,rfl⟩ | ⟨b,cap,arr,E,vs,fps,rfl,d,hcap,hmax,a,c,hc,e,hf,hdis,_⟩
 ·exact .nil t fp
 ·exact .list t xs b cap arr E vs fps fp d hcap hmax a c hc e hf hdis
def iD(w:World)(S:Nat->Nat->Prop)(t:Ty)(xs:List t.den)(i:Nat)(v:Value)(fp:Nat->Prop):Prop:=
 (v=.slice none 0 0/\xs=[]) \/
 ∃(b cap:Nat) (arr:Array Value) (E:TypeId) (vs:Nat->Nat->Value) (fps:Nat->Nat->Nat->Prop),
  v=.slice (some ⟨b,0,none⟩) xs.length cap/\w.heap[b]?=some (.cells arr E (0,0))/\xs.length<=cap/\cap<=maxLen/\arr.size=cap*t.size/\fp b /\
  (∀(i':Nat) (x:t.den) (j:Nat) (d:D),xs[i']?=some x->(t.cells x)[j]?=some d->arr[i'*t.size+j]?=some (vs i' j)) /\
  (∀(i':Nat) (x:t.den) (j:Nat) (d:D),i<=i'->xs[i']?=some x->(t.cells x)[j]?=some d->Ow w (λ_ _=>False) true d (vs i' j) (fps i' j)) /\
  (∀i' j c,i<=i'->fps i' j c->fp c/\c≠b/\∀o,¬S c o) /\
  (∀i' j i'' j' c,i<=i'->i<=i''->fps i' j c->fps i'' j' c->i'=i''/\j=j')
theorem iD.move{w w':World}{S S':Nat->Nat->Prop}{t:Ty}{xs:List t.den}{i:Nat}{v:Value}{fp fp':Nat->Prop}(h:iD w S t xs i v fp)
  (e:∀b,fp b->fp' b/\w'.heap[b]?=w.heap[b]?) (l:∀b o,fp b->S' b o->S b o):iD w' S' t xs i v fp':=by
 rcases h with h | ⟨b,cap,arr,E,vs,fps,rfl,m,hcap,hmax,k,g,hc,n,hf,hdis⟩
 ·exact .inl h
 ·exact .inr ⟨b,cap,arr,E,vs,fps,rfl,(e b g).2.trans m,hcap,hmax,k,(e b g).1,hc,λi' x j d f p q=>(n i' x j d f p q).move (λ_ _ h=>h.elim) λc a=>(e c (hf i' j c f a).1).2,
   λi' j c f a=>⟨(e c (hf i' j c f a).1).1,(hf i' j c f a).2.1,λo r=>(hf i' j c f a).2.2 o (l c o (hf i' j c f a).1 r)⟩,hdis⟩
theorem iD.succ{w:World}{S:Nat->Nat->Prop}{t:Ty}{xs:List t.den}{i:Nat}{v:Value}{fp:Nat->Prop}(h:iD w S t xs i v fp):iD w S t xs (i+1) v fp:=by
 rcases h with h | ⟨b,cap,arr,E,vs,fps,f,g,k,l,m,n,o,p,q,a⟩
 ·exact .inl h
 ·exact .inr ⟨b,cap,arr,E,vs,fps,f,g,k,l,m,n,o,λi' x j d e=>p i' x j d (by omega),λi' j c e=>q i' j c (by omega),λi' j i'' j' c e r=>a i' j i'' j' c (by omega) (by omega)⟩
theorem iD.DT{w:World}{S':Nat->Nat->Prop}{t:Ty}{xs:List t.den}{v:Value}{fp fp':Nat->Prop}(h:Ow w (λ_ _=>False) true (.list t xs) v fp)(hf:∀c,fp c->fp' c)(m:∀b o,S' b o->¬fp b):iD w S' t xs 0 v fp':=by
 generalize a:D.list t xs=dd at h;cases h with
 | int=>cases a
 | bool=>cases a
 | str=>cases a
 | nil t'=>cases a;exact .inl ⟨rfl,rfl⟩
 | ro _ _ _ g=>cases g
 | list t' xs' b cap arr E vs fps _ n hcap hmax k l hc p e hdis=>
  cases a
  exact .inr ⟨b,cap,arr,E,vs,fps,rfl,n,hcap,hmax,k,hf _ l,hc,λi x j d _ q g=>p i x j d q g,λi j c _ f=>⟨hf _ (e i j c f).1,(e i j c f).2,λo r=>m c o r (e i j c f).1⟩,λi j i' j' c _ _=>hdis i j i' j' c⟩
theorem iD.at{w:World}{S:Nat->Nat->Prop}{t:Ty}{xs:List t.den}{v:Value}{fp:Nat->Prop}(h:iD w S t xs 0 v fp):∀i,iD w S t xs i v fp
 | 0=>h
 | i+1=>(iD.at h i).succ
def lg(w:World)(S:Nat->Nat->Prop)(dp:Bool)(t:Ty)(xs:List t.den)(cells:List Value)(lab:Nat->Prop):Prop:=
 cells.length=xs.length*t.size/\(∀v∈cells,v.oneCell'=true)/\∃(vs:Nat->Nat->Value) (fps:Nat->Nat->Nat->Prop),
  (∀(i:Nat) (x:t.den) (j:Nat) (d:D),xs[i]?=some x->(t.cells x)[j]?=some d->cells[i*t.size+j]?=some (vs i j)/\Ow w S dp d (vs i j) (fps i j)) /\
  (∀i j c,fps i j c->lab c)/\(∀i j i' j' c,fps i j c->fps i' j' c->i=i'/\j=j')
def yT(w:World)(S:Nat->Nat->Prop)(t:Ty)(ys:List t.den)(v:Value)(lab:Nat->Prop):Prop:=
 ((∃(ad:Option Addr) (cap:Nat),v=.slice ad 0 cap/\(ad=none->cap=0))/\ys=[]) \/
 ∃b off cap news,v=.slice (some ⟨b,off,none⟩) ys.length cap/\(∀p u,news[p]?=some u->w.cell? ⟨b,off+p,none⟩=some u/\S b (off+p))/\lg w S true t ys news lab
theorem lg.move{w w':World}{S S':Nat->Nat->Prop}{dp:Bool}{t:Ty}{xs:List t.den}{cells:List Value}{lab lab':Nat->Prop}(h:lg w S dp t xs cells lab)
  (l:∀b o,S b o->S' b o/\w'.cell? ⟨b,o,none⟩=w.cell? ⟨b,o,none⟩) (a:∀b,lab b->lab' b/\w'.heap[b]?=w.heap[b]?):lg w' S' dp t xs cells lab':=by
 obtain⟨m,n,vs,fps,e,f,p⟩:=h;exact⟨m,n,vs,fps,λi x j d g k=>⟨(e i x j d g k).1,(e i x j d g k).2.move l λc hc=>(a c (f i j c hc)).2⟩,λi j c hc=>(a c (f i j c hc)).1,p⟩
theorem yT.move{w w':World}{S S':Nat->Nat->Prop}{t:Ty}{xs:List t.den}{v:Value}{lab lab':Nat->Prop}(h:yT w S t xs v lab)
  (a:∀b o,S b o->S' b o/\w'.cell? ⟨b,o,none⟩=w.cell? ⟨b,o,none⟩) (e:∀b,lab b->lab' b/\w'.heap[b]?=w.heap[b]?):yT w' S' t xs v lab':=by
 rcases h with h | ⟨b,off,cap,news,f,c,g⟩
 ·exact .inl h
 ·exact .inr ⟨b,off,cap,news,f,λp u d=>⟨(a _ _ (c p u d).2).2.trans (c p u d).1,(a _ _ (c p u d).2).1⟩,g.move a e⟩
def abf(w:World)(t:Ty)(xs:List t.den)(i q:Nat)(v:Value)(fp:Nat->Prop):Prop:=
 ∃(b cap:Nat) (arr:Array Value) (E:TypeId) (vs:Nat->Nat->Value) (fps:Nat->Nat->Nat->Prop),
  v=.slice (some ⟨b,0,none⟩) xs.length cap/\w.heap[b]?=some (.cells arr E (0,0))/\xs.length<=cap/\cap<=maxLen/\arr.size=cap*t.size/\fp b /\
  (∀(i':Nat) (x:t.den) (j:Nat) (d:D),xs[i']?=some x->(t.cells x)[j]?=some d->arr[i'*t.size+j]?=some (vs i' j)) /\
  (∀(i':Nat) (x:t.den) (j:Nat) (d:D),xs[i']?=some x->(t.cells x)[j]?=some d->¬(i'=i/\j=q)->Ow w (λ_ _=>False) true d (vs i' j) (fps i' j)) /\
  (∀i' j c,fps i' j c->fp c/\c≠b) /\
  (∀i' j i'' j' c,fps i' j c->fps i'' j' c->i'=i''/\j=j')
theorem abf.move{w w':World}{t:Ty}{xs:List t.den}{i q:Nat}{v:Value}{fp:Nat->Prop}(h:abf w t xs i q v fp)
  (a:∀b,fp b->w'.heap[b]?=w.heap[b]?):abf w' t xs i q v fp:=by
 obtain⟨b,cap,arr,E,vs,fps,rfl,k,hcap,hmax,f,e,hc,l,hf,hdis⟩:=h;exact⟨b,cap,arr,E,vs,fps,rfl,(a b e).trans k,hcap,hmax,f,e,hc,λi' x j d m n o=>(l i' x j d m n o).move (λ_ _ h=>h.elim) λc g=>a c (hf i' j c g).1,hf,hdis⟩
def O.IsT(x:O)(t:Ty)(xs:List t.den):Prop:=x=.tree t xs\/(∃i,x=.part t xs i)\/x=.seg t xs\/∃i q,x=.hole t xs i q
theorem O.IsT.aef{x:O}{t:Ty}{xs:List t.den}(h:x.IsT t xs):x.dY=.own t xs true true:=by
 rcases h with rfl | ⟨i,rfl⟩ | rfl | ⟨i,q,rfl⟩<;>rfl
theorem O.Lr{x:O}{t:Ty}{xs:List t.den}{deep m:Bool}(h:x.sV=.own t xs deep m)(b:Ty)(a:List b.den)(c d:Bool):x.BZ.dY≠.own b a c d:=by
 cases x<;>simp[O.sV,O.BZ,O.dY]at h ⊢
def tq(G:Gh)(w:World)(k j:Nat):O->Prop
 | .dead=>True
 | .own t xs deep m=>OwT w G.S deep m t xs (G.ov k j) (fM G k j)
 | .ro t xs=>Rep w G.S (.list t xs) (G.ov k j)
 | .tree t xs=>∃fp:Nat->Prop,(∀b,fp b->fM G k j b)/\Ow w (λ_ _=>False) true (.list t xs) (G.ov k j) fp/\∀b o,G.S b o->¬fp b
 | .part t xs i=>iD w G.S t xs i (G.ov k j) (fM G k j)
 | .seg t xs=>yT w G.S t xs (G.ov k j) (fM G k j)
 | .hole t xs i q=>∃fp:Nat->Prop,(∀b,fp b->fM G k j b)/\abf w t xs i q (G.ov k j) fp/\∀b o,G.S b o->¬fp b
def BoxOk(G:Gh)(w:World)(i:Nat)(cs:List C):Prop:=
 G.ow (G.bk i)=some (.box i)/\∃(vs:List Value) (E:TypeId),w.heap[G.bk i]?=some (.cells vs.toArray E (0,0))/\cu G w cs vs
structure Bs where
 w:World
 S0:Nat->Nat->Prop
 F:Nat->Prop
 bx:Option (Nat×Bool)
def Bs.R(w0:Bs)(c:Nat):Prop:=w0.F c/\∀q,w0.bx≠some (c,q)
def Bs.nw(w0:Bs)(b:Nat):Prop:=w0.w.heap.size<=b\/w0.R b
theorem Bs.nw0{w:World}{S0:Nat->Nat->Prop}{b:Nat}(h:Bs.nw ⟨w,S0,λ_=>False,none⟩ b):w.heap.size<=b:=h.elim id λh=>h.1.elim
theorem Bs.nwB{w:World}{S0:Nat->Nat->Prop}{bb b:Nat}(h:Bs.nw ⟨w,S0,λc=>c=bb,some (bb,true)⟩ b):w.heap.size<=b:=h.elim id λh=>absurd (by rw[h.1]) (h.2 true)
theorem Bs.nwF{w0:Bs}{b:Nat}(h:w0.nw b)(a:b<w0.w.heap.size):w0.R b:=h.resolve_left (by omega)
structure jL(F:Nat->Prop)(B:Nat)(w w':World):Prop where
 os:w'.os=w.os
 tape:w'.tape=w.tape
 output:w'.output=w.output
 size:w.heap.size<=w'.heap.size
 block:∀k,k<B->¬F k->w'.heap[k]?=w.heap[k]?
theorem jL.trans{F:Nat->Prop}{B:Nat}{a b c:World}(h:jL F B a b)(k:jL F B b c):jL F B a c:=
 ⟨k.os.trans h.os,k.tape.trans h.tape,k.output.trans h.output,Nat.le_trans h.size k.size,λi d hf=>(k.block i d hf).trans (h.block i d hf)⟩
theorem jL.agS{F:Nat->Prop}{B:Nat}{w w':World}(h:Below w.heap.size w w')(a:B<=w.heap.size):jL F B w w':=⟨h.os,h.tape,h.output,h.size,λk hk _=>h.block k (aD hk a)⟩
theorem jL.Tm{F:Nat->Prop}{B:Nat}{w w':World}(h:jL F B w w')(a:∀c,¬F c):Below B w w':=⟨h.os,h.tape,h.output,h.size,λk hk=>h.block k hk (a k)⟩
theorem jL.refl(F:Nat->Prop)(B:Nat)(w:World):jL F B w w:=⟨rfl,rfl,rfl,ar _,λ_ _ _=>rfl⟩
structure lT(w0:Bs):Prop where
 keep:∀w',jL w0.F w0.w.heap.size w0.w w'->amb w'
 rows:∀c,w0.F c->qi<=c
theorem lT.none{w:World}{S:Nat->Nat->Prop}(h:amb w):lT ⟨w,S,λ_=>False,.none⟩:=
 ⟨λ_ a=>h.keep a.size λk hk=>a.block k (aD hk h.size) λhf=>hf,λ_ hf=>hf.elim⟩
theorem lT.box{w:World}{S:Nat->Nat->Prop}{bb:Nat}(h:amb w)(b:qi<=bb):lT ⟨w,S,λc=>c=bb,some (bb,true)⟩:=
 ⟨λ_ a=>h.keep a.size λk hk=>a.block k (aD hk h.size) λhf=>by have:k=bb:=hf;omega,λc hf=>by have:c=bb:=hf;omega⟩
theorem lT.nw{w0:Bs}(h:lT w0){b:Nat}(a:w0.nw b):qi<=b:=a.elim (λa=>Nat.le_trans (h.keep w0.w (jL.refl _ _ _)).size a) λa=>h.rows b a.1
theorem Ll(t:Ty)(x:t.den):(t.cells x).map mr=t.tys:=by
 cases t with
 | base b=>cases b<;>rfl
 | list t=>rfl
theorem Base.oQ(b:Base)(x:b.den):b.iw (b.cells x)=some x:=by
 cases b<;>first | rfl | (cases x;rfl) | (obtain⟨_,_,_,_,⟨⟩⟩:=x<;>rfl) | (obtain⟨_,⟨⟩⟩:=x<;>rfl) | (obtain⟨_,_,_,_,⟨⟩,_⟩:=x<;>rfl) | (obtain⟨_,_,⟨⟩,⟨⟩,_⟩:=x<;>rfl) | (obtain⟨⟨⟩,_,_⟩:=x<;>rfl) | (obtain⟨_,⟨⟩,_,_,_,_,_⟩:=x<;>rfl)
theorem Ty.oQ(t:Ty)(x:t.den):t.iw (t.cells x)=some x:=by
 cases t with
 | base b=>exact Base.oQ b x
 | list t=>simp[Ty.iw,Ty.cells,D.cO]
def jr(w w':World)(b:Nat):Prop:=∀(vs:List Value) (E:TypeId),w.heap[b]?=some (.cells vs.toArray E (0,0)) ->
 ∃(vs':List Value) (E':TypeId),w'.heap[b]?=some (.cells vs'.toArray E' (0,0))/\∀(i:Nat) p l c,vs[i]?=some (Value.slice p l c)->vs'[i]?=some (Value.slice p l c)
theorem jr.refl(w:World)(b:Nat):jr w w b:=λvs E h=>⟨vs,E,h,λ_ _ _ _ h=>h⟩
theorem jr.trans{a b c:World}{k:Nat}(h:jr a b k)(g:jr b c k):jr a c k:=λvs E e=>
 have ⟨d,j,m,n⟩:=h vs E e
 have ⟨f,o,q,r⟩:=g d j m
 ⟨f,o,q,λi p l c hh=>r i p l c (n i p l c hh)⟩
theorem jr.same{a b c:World}{k:Nat}(h:jr a b k)(e:c.heap[k]?=b.heap[k]?):jr a c k:=λvs E f=>
 have ⟨d,g,i,j⟩:=h vs E f
 ⟨d,g,e.trans i,j⟩
theorem Rep.det{w:World}{S S':Nat->Nat->Prop}{d d':D}{v:Value}(h:Rep w S d v)(c:Rep w S' d' v)(e:mr d=mr d'):d=d':=by
 induction h generalizing d' with
 | int k n=>cases c;rfl
 | bool b=>cases c;rfl
 | str v=>cases c;rfl
 | nil t=>cases c;cases e;rfl
 | emp t a cap=>
  generalize g:Value.slice (some a) 0 cap=v at c;cases c with
  | emp t' a' cap'=>cases e;rfl
  | list t' xs' b off cap' vs hcap hc z=>
   cases e
   have:0=xs'.length:=by injection g
   rw[List.length_eq_zero_iff.1 this.symm]
  | _=>cases g
 | list t xs b off cap vs hcap hc z ih=>
  generalize g:Value.slice (some ⟨b,off,none⟩) xs.length cap=v at c;cases c with
  | emp t' a' cap'=>
   cases e
   have:xs.length=0:=by injection g
   rw[List.length_eq_zero_iff.1 this]
  | list t' xs' b' off' cap' vs' hcap' p q=>
   cases e
   injection g with m A K;injection m with m;injection m with m B;subst m;subst B;have:xs=xs':=List.ext_getElem A λi C E=>by
    have hcells:t.cells xs[i]=t.cells xs'[i]:=List.ext_getElem (by rw[Ty.bn,Ty.bn]) λj F G=>by
     have s:xs[i]?=some xs[i]:=by simp[C]
     have o:xs'[i]?=some xs'[i]:=by simp[E]
     have r:(t.cells xs[i])[j]?=some (t.cells xs[i])[j]:=by simp[F]
     have f:(t.cells xs'[i])[j]?=some (t.cells xs'[i])[j]:=by simp[G]
     have H:=(hc i _ j _ s r).1;have I:=(p i _ j _ o f).1;have J:vs i j=vs' i j:=aR (H.symm.trans I);have u:=q i _ j _ o f;rw[<- J]at u;refine ih i _ j _ s r u ?_;have x:=congrArg (λl=>l[j]?) ((Ll t xs[i]).trans (Ll t xs'[i]).symm);simp only[List.getElem?_map,r,f,Option.map_some,zD]at x;exact x
    have y:=Ty.oQ t xs[i];rw[hcells,Ty.oQ]at y;exact (aR y).symm
   rw[this]
  | _=>cases g
structure Inv(w0:Bs)(G:Gh)(S:St)(a:Act)(w:World):Prop where
 below:jL w0.F w0.w.heap.size w0.w w
 nodef:a.defers=[]
 tsz:a.tmps.size=S.tmps.length
 bsz:S.boxes.length=S.tmps.length
 osz:S.owns.length=S.tmps.length
 tmps:∀i v,a.tmps[i]?=some v->jc G w (S.iP i) v
 olt:∀b x,G.ow b=some x->(w0.nw b\/x=.box 0/\w0.F b)/\b<w.heap.size
 sok:∀b o,G.S b o->b<w.heap.size/\∀i,G.ow b≠some (.box i)
 box:∀i cs,S.fJ i=some cs->BoxOk G w i cs
 owns:∀k j,tq G w k j (aZ (S.aI k) j)
 lk:∀k,G.lk k->S.aI k≠[]
 lb:∀i,G.lb i->S.fJ i≠none
 sfr:∀b o,G.S b o->b<w0.w.heap.size->w0.S0 b o\/w0.R b
 st:∀b o,w0.S0 b o->G.S b o/\w.cell? ⟨b,o,none⟩=w0.w.cell? ⟨b,o,none⟩
 fx:∀b y,w0.bx=some (b,y)->G.bk 0=b/\(y=true->b<w0.w.heap.size->jr w0.w w b)
structure Mv(G G':Gh)(w w':World):Prop where
 s:∀b o,G.S b o->G'.S b o/\w'.cell? ⟨b,o,none⟩=w.cell? ⟨b,o,none⟩
 k:∀k,G.lk k->G'.lk k/\∀j,G'.ov k j=G.ov k j
 b:∀i,G.lb i->G'.lb i/\G'.bk i=G.bk i
theorem l9.move{G G':Gh}{w w':World}(a:Mv G G' w w'){c:C}{v:Value}(h:l9 G w c v):l9 G' w' c v:=by
 cases c with
 | undef=>exact h
 | d x=>exact Rep.move h a.s
 | nil=>exact h
 | own k j=>exact⟨(a.k k h.1).1,by rw[(a.k k h.1).2 j];exact h.2.1,h.2.2⟩
 | ptr b off=>exact⟨(a.b b h.1).1,by rw[(a.b b h.1).2];exact h.2⟩
theorem cu.get{G:Gh}{w:World}:∀ {cs:List C} {vs:List Value},cu G w cs vs->cs.length=vs.length/\∀(i:Nat) (c:C) (v:Value),cs[i]?=some c->vs[i]?=some v->l9 G w c v
 | [],[],_=>⟨rfl,λi c v h=>by simp at h⟩
 | c::cs,v::vs,h=>by
  obtain⟨b,d⟩:=h;obtain⟨e,f⟩:=cu.get d;refine⟨by simp[e],λi c' v' hc a=>?_⟩;cases i with
  | zero=>simp at hc a;subst hc;subst a;exact b
  | succ i=>simp at hc a;exact f i c' v' hc a
theorem cu.mk{G:Gh}{w:World}:∀ {cs:List C} {vs:List Value},cs.length=vs.length->(∀(i:Nat) (c:C) (v:Value),cs[i]?=some c->vs[i]?=some v->l9 G w c v)->cu G w cs vs
 | [],[],_,_=>trivial
 | c::cs,v::vs,a,h=>⟨h 0 c v rfl rfl,cu.mk (by simpa using a) λi c' v' hc b=>h (i+1) c' v' (by simpa using hc) (by simpa using b)⟩
theorem cu.move{G G':Gh}{w w':World}(a:Mv G G' w w'){cs:List C}{vs:List Value}(h:cu G w cs vs):cu G' w' cs vs:=by
 obtain⟨b,d⟩:=h.get;exact cu.mk b λi c v hc e=>(d i c v hc e).move a
theorem cu.one{G:Gh}{w:World}{cs:List C}{vs:List Value}(h:cu G w cs vs):∀v,v∈vs->v.oneCell'=true:=by
 obtain⟨d,a⟩:=h.get;intro v b;obtain⟨i,c,rfl⟩:=List.mem_iff_getElem.1 b;have hc:i<cs.length:=by omega
 exact (a i cs[i] vs[i] (by simp[hc]) (by simp[c])).one
theorem qV.move{G G':Gh}{w w':World}(a:Mv G G' w w'){x:V}{v:Value}(h:qV G w x v):qV G' w' x v:=by
 cases x with
 | one c=>exact l9.move a h
 | agg cs=>obtain⟨vs,b,hc⟩:=h;exact⟨vs,b,hc.move a⟩
theorem kz.move{G G':Gh}{w w':World}(a:Mv G G' w w'):∀ {xs:List V} {vs:List Value},kz G w xs vs->kz G' w' xs vs
 | [],[],_=>trivial
 | _::_,_::_,h=>⟨h.1.move a,kz.move a h.2⟩
theorem VN.move{G G':Gh}{w w':World}(a:Mv G G' w w'){t:Ty}{x:t.den}{b o:Nat}(h:VN G w t x b o):VN G' w' t x b o:=by
 obtain⟨vs,h⟩:=h;refine⟨vs,λj d e=>?_⟩;obtain⟨f,c,g⟩:=h j d e;exact⟨(a.s _ _ c).2.trans f,(a.s _ _ c).1,g.move a.s⟩
theorem jc.move{G G':Gh}{w w':World}(a:Mv G G' w w'){x:AV}{v:Value}(h:jc G w x v):jc G' w' x v:=by
 cases x with
 | undef=>trivial
 | v x=>exact qV.move a h
 | elt t x off=>obtain⟨b,o,c,l⟩:=h;exact⟨b,o,c,l.move a⟩
 | oelt k j i sz off=>obtain⟨hk,b,len,cap,p,c⟩:=h;exact⟨(a.k k hk).1,b,len,cap,by rw[(a.k k hk).2 j];exact p,c⟩
 | cut t len n d e=>
  obtain⟨f,g,q⟩:=h;refine⟨(a.k d f).1,(a.k e g).1,?_⟩;rw[(a.k d f).2 0,(a.k e g).2 0];exact q
 | seg k=>exact⟨(a.k k h.1).1,by rw[(a.k k h.1).2 0];exact h.2⟩
 | pre k j n=>exact⟨(a.k k h.1).1,by rw[(a.k k h.1).2 j];exact h.2⟩
 | suf t k j m=>exact⟨(a.k k h.1).1,by rw[(a.k k h.1).2 j];exact h.2⟩
 | tup vs=>obtain⟨us,c,r⟩:=h;exact⟨us,c,r.move a⟩
theorem OwT.move{w w':World}{S S':Nat->Nat->Prop}{deep m:Bool}{t:Ty}{xs:List t.den}{v:Value}{fp fp':Nat->Prop}(h:OwT w S deep m t xs v fp)
  (k:∀b o,S b o->S' b o/\w'.cell? ⟨b,o,none⟩=w.cell? ⟨b,o,none⟩) (a:∀b,fp b->fp' b/\w'.heap[b]?=w.heap[b]?)
  (l:∀b len cap,v=.slice (some ⟨b,0,none⟩) len cap->fp b->∀o,S' b o->S b o\/(m=false/\o<xs.length*t.size)):OwT w' S' deep m t xs v fp':=by
 rcases h with h | ⟨b,cap,arr,E,vs,fps,rfl,n,hcap,hmax,g,f,hc,p,hf,hdis,q⟩
 ·exact .inl h
 ·refine .inr ⟨b,cap,arr,E,vs,fps,rfl,(a b f).2.trans n,hcap,hmax,g,(a b f).1,hc,?_,?_,hdis,?_⟩
  ·exactλi x j d r s=>(p i x j d r s).move k λc e=>(a c (hf i j c e).1).2
  ·exactλi j c e=>⟨(a c (hf i j c e).1).1,(hf i j c e).2⟩
  ·intro o u;rcases l b _ _ rfl f o u with h | h
   ·exact q o h
   ·exact h
theorem Ry(S:St)(i:Nat)(v:AV)(j:Nat):(S.iV i v).iP j=if i=j/\i<S.tmps.length then v else S.iP j:=by
 simp only[St.iP,St.iV,zE,List.getElem?_set];by_cases h:i=j
 ·subst h;by_cases a:i<S.tmps.length<;>simp[a]
 ·simp[h]
theorem Rz(S:St)(i:Nat)(v:Option (List C))(j:Nat):(S.setB i v).aI j=S.aI j:=rfl
theorem acJ(S:St)(i:Nat)(v:List O)(j:Nat):(S.bI i v).fJ j=S.fJ j:=rfl
theorem gy(S:St)(i:Nat)(v:Option (List C))(j:Nat):(S.setB i v).fJ j=if i=j/\i<S.boxes.length then v else S.fJ j:=by
 simp only[St.fJ,St.setB,zE,List.getElem?_set];by_cases h:i=j
 ·subst h;by_cases a:i<S.boxes.length<;>simp[a]
 ·simp[h]
theorem bg(S:St)(i:Nat)(v:List O)(j:Nat):(S.bI i v).aI j=if i=j/\i<S.owns.length then v else S.aI j:=by
 simp only[St.aI,St.bI,zE,List.getElem?_set];by_cases h:i=j
 ·subst h;by_cases a:i<S.owns.length<;>simp[a]
 ·simp[h]
section steps
variable {w0:Bs} {G:Gh} {S:St} {a:Act} {w:World}
theorem Inv.iR(h:Inv w0 G S a w){b k j:Nat}(d:G.ow b=some (.own k j)):w0.nw b/\b<w.heap.size:=by
 obtain⟨c,e⟩:=h.olt b _ d;rcases c with c | ⟨f,_⟩
 ·exact⟨c,e⟩
 ·cases f
theorem Inv.Px(h:Inv w0 G S a w){G':Gh}{w':World}(d:Mv G G' w w'):∀b o,w0.S0 b o->G'.S b o/\w'.cell? ⟨b,o,none⟩=w0.w.cell? ⟨b,o,none⟩:=
 λb o c=>⟨(d.s b o (h.st b o c).1).1,(d.s b o (h.st b o c).1).2.trans (h.st b o c).2⟩
theorem Inv.iV(h:Inv w0 G S a w)(d:Nat){av:AV}{v:Value}(f:jc G w av v):Inv w0 G (S.iV d av) (a.put (some d) v) w:=by
 refine⟨h.below,h.nodef,?_,by simp[St.iV,h.bsz],by simp[St.iV,h.osz],?_,h.olt,h.sok,λi cs g=>h.box i cs g,λk j=>h.owns k j,λk hk=>h.lk k hk,λi l=>h.lb i l,h.sfr,h.st,h.fx⟩
 ·simp[Act.put,St.iV,h.tsz]
 ·intro i u b;rw[Ry];simp only[Act.put,Array.getElem?_setIfInBounds]at b;by_cases e:d=i
  ·subst e;by_cases c:d<a.tmps.size
   ·simp[c]at b;subst b;have:d<S.tmps.length:=h.tsz▸c;simp[this];exact f
   ·simp[c]at b
  ·simp[e]at b ⊢;exact h.tmps i u b
theorem Inv.grow(h:Inv w0 G S a w){w':World}(e:Below w.heap.size w w'):Inv w0 G S a w':=by
 have B:=e.size;have hcell:∀b o,b<w.heap.size->w'.cell? ⟨b,o,none⟩=w.cell? ⟨b,o,none⟩:=λb o n=>e.cell (p:=⟨b,o,none⟩) n
 have f:Mv G G w w':=⟨λb o g=>⟨g,hcell b o (h.sok b o g).1⟩,λk hk=>⟨hk,λ_=>rfl⟩,λi C=>⟨C,rfl⟩⟩;refine⟨h.below.trans (.agS e h.below.size),h.nodef,h.tsz,h.bsz,h.osz,λi v D=>(h.tmps i v D).move f,λb x d=>⟨(h.olt b x d).1,by have:=(h.olt b x d).2;omega⟩,
  λb o g=>⟨by have:=(h.sok b o g).1;omega,(h.sok b o g).2⟩,?_,?_,h.lk,h.lb,h.sfr,h.Px f,λb y d=>⟨(h.fx b y d).1,λF n=>((h.fx b y d).2 F n).same (e.block b (aD n h.below.size))⟩⟩
 ·intro i cs u;obtain⟨r,vs,E,hh,hc⟩:=h.box i cs u;exact⟨r,vs,E,(e.block _ (h.olt _ _ r).2).trans hh,hc.move f⟩
 ·intro k j;have:=h.owns k j;revert this;generalize aZ (S.aI k) j=x;intro d;cases x with
  | dead=>trivial
  | own t xs deep m=>exact OwT.move d f.s (λb c=>⟨c,e.block _ (h.olt _ _ c).2⟩) (λ_ _ _ _ _ o r=>.inl r)
  | ro t xs=>exact Rep.move d f.s
  | tree t xs=>
   obtain⟨fp,l,z,A⟩:=d;exact⟨fp,l,z.move (λ_ _ h=>h.elim) λb c=>e.block _ (h.olt _ _ (l b c)).2,A⟩
  | part t xs i=>exact iD.move d (λb c=>⟨c,e.block _ (h.olt _ _ c).2⟩) λ_ _ _ h=>h
  | seg t xs=>exact yT.move d f.s λb c=>⟨c,e.block _ (h.olt _ _ c).2⟩
  | hole t xs i q=>
   obtain⟨fp,l,z,A⟩:=d;exact⟨fp,l,z.move λb c=>e.block _ (h.olt _ _ (l b c)).2,A⟩
end steps
theorem gu(os:List O)(j:Nat)(x:O)(j':Nat):aZ (os.set j x) j'=if j=j'/\j<os.length then x else aZ os j':=by
 simp only[aZ,zE,List.getElem?_set];by_cases h:j=j'
 ·subst h;by_cases a:j<os.length<;>simp[a]
 ·simp[h]
theorem Bl{S:St}{a:Act}{d:Nat}{v:Value}(b:a.tmps.size=S.tmps.length)(c:¬d<S.tmps.length):a.put (some d) v=a:=by
 simp only[Act.put];rw[Array.setIfInBounds_eq_of_size_le (by omega)]
theorem vH{S:St}{d:Nat}{v:AV}(a:¬d<S.tmps.length):S.iV d v=S:=by
 cases S;simp only[St.iV]at *;rw[List.set_eq_of_length_le (by omega)]
theorem ady{S:St}{d:Nat}{v:Option (List C)}(a:¬d<S.boxes.length):S.setB d v=S:=by
 cases S;simp only[St.setB]at *;rw[List.set_eq_of_length_le (by omega)]
theorem vI{S:St}{d:Nat}{v:List O}(a:¬d<S.owns.length):S.bI d v=S:=by
 cases S;simp only[St.bI]at *;rw[List.set_eq_of_length_le (by omega)]
section steps
variable {w0:Bs} {G:Gh} {S:St} {a:Act} {w:World}
theorem tq.same{G':Gh}{w':World}{k j:Nat}{x:O}(h:tq G w k j x)(c:G'.ov k j=G.ov k j)
  (g:∀b o,G.S b o->G'.S b o/\w'.cell? ⟨b,o,none⟩=w.cell? ⟨b,o,none⟩)
  (hown:∀t xs deep m,x=.own t xs deep m->(∀b,fM G k j b->fM G' k j b/\w'.heap[b]?=w.heap[b]?) /\
   ∀b len cap,G.ov k j=.slice (some ⟨b,0,none⟩) len cap->fM G k j b->∀o,G'.S b o->G.S b o\/(m=false/\o<xs.length*t.size))
  (htree:∀t xs,x.IsT t xs->∀b,fM G k j b->fM G' k j b/\w'.heap[b]?=w.heap[b]?/\∀o,G'.S b o->G.S b o):tq G' w' k j x:=by
 cases x with
 | dead=>trivial
 | own t xs deep m=>
  obtain⟨d,e⟩:=hown t xs deep m rfl;show OwT w' G'.S deep m t xs (G'.ov k j) (fM G' k j)
  rw[c];exact OwT.move h g d e
 | ro t xs=>
  show Rep w' G'.S (.list t xs) (G'.ov k j)
  rw[c];exact Rep.move h g
 | tree t xs=>
  obtain⟨fp,d,e,l⟩:=h;have hh:=htree t xs (.inl rfl);refine⟨fp,λb a=>(hh b (d b a)).1,?_,λb o f a=>l b o ((hh b (d b a)).2.2 o f) a⟩;rw[c];exact e.move (λ_ _ h=>h.elim) λb a=>(hh b (d b a)).2.1
 | part t xs i=>
  have hh:=htree t xs (.inr (.inl ⟨i,rfl⟩));show iD w' G'.S t xs i (G'.ov k j) (fM G' k j)
  rw[c];exact iD.move h (λb a=>⟨(hh b a).1,(hh b a).2.1⟩) λb o a f=>(hh b a).2.2 o f
 | seg t xs=>
  have hh:=htree t xs (.inr (.inr (.inl rfl)));show yT w' G'.S t xs (G'.ov k j) (fM G' k j)
  rw[c];exact yT.move h g λb a=>⟨(hh b a).1,(hh b a).2.1⟩
 | hole t xs i q=>
  have hh:=htree t xs (.inr (.inr (.inr ⟨i,q,rfl⟩)));obtain⟨fp,d,e,l⟩:=h;refine⟨fp,λb a=>(hh b (d b a)).1,?_,λb o f a=>l b o ((hh b (d b a)).2.2 o f) a⟩;rw[c];exact e.move λb a=>(hh b (d b a)).2.1
theorem Inv.VI(h:Inv w0 G S a w)(A:Nat->Nat->Prop)
  (f:∀b o,A b o->b<w.heap.size/\(∀i,G.ow b≠some (.box i))/\∀k j t xs deep m,aZ (S.aI k) j=.own t xs deep m ->
   ∀len cap,G.ov k j=.slice (some ⟨b,0,none⟩) len cap->G.ow b=some (.own k j)->m=false/\o<xs.length*t.size)
  (g:∀b o,A b o->w0.nw b) (hAT:∀b o,A b o->∀k j t xs,(aZ (S.aI k) j).IsT t xs->G.ow b≠some (.own k j)):Inv w0 { G with S:=λb o=>G.S b o\/A b o } S a w/\Mv G { G with S:=λb o=>G.S b o\/A b o } w w:=by
 have e:Mv G { G with S:=λb o=>G.S b o\/A b o } w w:=⟨λb o c=>⟨.inl c,rfl⟩,λk hk=>⟨hk,λ_=>rfl⟩,λi r=>⟨r,rfl⟩⟩;refine⟨⟨h.below,h.nodef,h.tsz,h.bsz,h.osz,λi v l=>(h.tmps i v l).move e,h.olt,?_,?_,?_,h.lk,h.lb,λb o c q=>c.elim (λc=>h.sfr b o c q) λc=>.inr (Bs.nwF (g b o c) q),h.Px e,h.fx⟩,e⟩
 ·intro b o c;rcases c with c | c
  ·exact h.sok b o c
  ·exact⟨(f b o c).1,(f b o c).2.1⟩
 ·intro i cs n;obtain⟨u,vs,E,hh,hc⟩:=h.box i cs n;exact⟨u,vs,E,hh,hc.move e⟩
 ·intro k j;refine (h.owns k j).same rfl e.s (λt xs deep m p=>⟨λb d=>⟨d,rfl⟩,λb len cap l d o c=>?_⟩) λt xs p b d=>⟨d,rfl,λo c=>?_⟩
  ·rcases c with c | c
   ·exact .inl c
   ·exact .inr ((f b o c).2.2 k j t xs deep m p len cap l d)
  ·rcases c with c | c
   ·exact c
   ·exact absurd d (hAT b o c k j t xs p)
theorem Inv.xW(h:Inv w0 G S a w)(i b:Nat)(B:i≠0)(L:S.fJ i=none)(D:w0.w.heap.size<=b)(F:G.ow b=none)(M:∀o,¬G.S b o)
  {cs:List C} {vs:List Value} {E:TypeId} (hh:w.heap[b]?=some (.cells vs.toArray E (0,0))) (hc:cu G w cs vs) :
  ∃G',Inv w0 G' ((S.setB i (some cs)).iV i (.v (.one (.ptr i 0)))) (a.put (some i) (.pointer (some ⟨b,0,none⟩))) w:=by
 have H:b<w.heap.size:=(aM.1 hh).1;by_cases l:i<S.tmps.length
 case neg=>
  refine⟨G,?_⟩
  rw[Bl h.tsz l,ady (by rw[h.bsz];exact l),vH l]
  exact h
 have I:¬G.lb i:=λN=>h.lb i N L
 let G':Gh:={ G with bk:=λx=>if x=i then b else G.bk x,ow:=λx=>if x=b then some (.box i)else G.ow x,lb:=λx=>x=i\/G.lb x };have u:Mv G G' w w:=⟨λb o p=>⟨p,rfl⟩,λk hk=>⟨hk,λ_=>rfl⟩,λx f=>⟨.inr f,by
  show (if x=i then b else G.bk x)=_
  rw[if_neg (λe:x=i=>I (e▸f))]⟩⟩
 have howb:∀x y,G.ow x=some y->G'.ow x=some y:=λx y f=>by
  show (if x=b then some (.box i)else G.ow x)=_
  rw[if_neg (λe:x=b=>by rw[e,F]at f;cases f)];exact f
 refine⟨G',?_⟩;refine Inv.iV (G:=G') (S:=S.setB i (some cs)) ?_ i (av:=.v (.one (.ptr i 0))) ⟨.inl rfl,?_⟩
 ·refine⟨h.below,h.nodef,h.tsz,by simp[St.setB,h.bsz],by simp[St.setB,h.osz],λx v O=>(h.tmps x v O).move u,?_,?_,?_,?_,h.lk,?_,h.sfr,h.Px u,λq y K=>by
   refine⟨?_,(h.fx q y K).2⟩;show (if 0=i then b else G.bk 0)=q
   rw[if_neg (λe=>B e.symm)];exact (h.fx q y K).1⟩
  ·intro x y f;by_cases r:x=b
   ·subst r;exact⟨.inl (.inl D),H⟩
   ·have:G.ow x=some y:=by
     have z:(if x=b then some (sZ.box i)else G.ow x)=some y:=f;rw[if_neg r]at z;exact z
    exact h.olt x y this
  ·intro x o p;refine⟨(h.sok x o p).1,λk=>?_⟩;have r:x≠b:=λe=>M o (e▸p)
   show (if x=b then some (sZ.box i)else G.ow x)≠_
   rw[if_neg r];exact (h.sok x o p).2 k
  ·intro x cs' d;rw[gy]at d;by_cases g:i=x
   ·subst g;rw[if_pos ⟨rfl,by rw[h.bsz];exact l⟩]at d;cases d
    refine⟨?_,vs,E,?_,hc.move u⟩
    ·show (if (if i=i then b else G.bk i)=b then some (sZ.box i)else _)=_
     simp
    ·show w.heap[if i=i then b else G.bk i]?=_
     simpa using hh
   ·rw[if_neg (λe=>g e.1)]at d;obtain⟨P,vs',E',J,n⟩:=h.box x cs' d;have A:G'.bk x=G.bk x:=by show (if x=i then b else G.bk x)=_;rw[if_neg (λe=>g e.symm)]
    exact⟨by rw[A];exact howb _ _ P,vs',E',by rw[A];exact J,n.move u⟩
  ·intro k j;refine (h.owns k j).same rfl u.s (λt xs deep m f=>⟨λc n=>⟨howb _ _ n,rfl⟩,λ_ _ _ _ _ o p=>.inl p⟩) λt xs f c n=>⟨howb _ _ n,rfl,λo p=>p⟩
  ·intro x f;rw[gy];by_cases g:i=x
   ·rw[if_pos ⟨g,by rw[h.bsz];exact l⟩];simp
   ·rw[if_neg (λe=>g e.1)];rcases f with f | f
    ·exact absurd f.symm g
    ·exact h.lb x f
 ·show Value.pointer _=.pointer (some ⟨if i=i then b else G.bk i,0,none⟩)
  simp
theorem Inv.ajN(h:Inv w0 G S a w)(i:Nat){cs cs':List C}(H:S.fJ i=some cs){vs':List Value}(hc:cu G w cs' vs')(hkeep:(∃b,w0.bx=some (b,true))->i=0->∀(vs:List Value) (E:TypeId),w.heap[G.bk i]?=some (.cells vs.toArray E (0,0))->∀(n:Nat) p l c,vs[n]?=some (Value.slice p l c)->vs'[n]?=some (Value.slice p l c)) :
  Inv w0 G (S.setB i (some cs')) a (w.setRow (G.bk i) vs'.toArray):=by
 obtain⟨A,vs,E,hh,_⟩:=h.box i cs H;have B:=h.olt _ _ A;have hoth:∀b,b≠G.bk i->(w.setRow (G.bk i) vs'.toArray).heap[b]?=w.heap[b]?:=λb N=>setRow_other w _ b _ N
 have hcell:∀b o,G.S b o->(w.setRow (G.bk i) vs'.toArray).cell? ⟨b,o,none⟩=w.cell? ⟨b,o,none⟩:=λb o q=>
  World.cell?_of_block (w:=w) (hoth b λe=>(h.sok b o q).2 i (e▸A))
 have D:Mv G G w (w.setRow (G.bk i) vs'.toArray):=⟨λb o q=>⟨q,hcell b o q⟩,λk hk=>⟨hk,λ_=>rfl⟩,λi H=>⟨H,rfl⟩⟩;have hilt:i<S.boxes.length:=by
  rcases Nat.lt_or_ge i S.boxes.length with z | z
  ·exact z
  ·simp[St.fJ,zE,zJ z]at H
 refine⟨h.below.trans ⟨rfl,rfl,rfl,by simp,λk hk F=>hoth k (λe=>by
  subst e;rcases B.1 with (f | f) | ⟨_,f⟩
  ·omega
  ·exact F f.1
  ·exact F f)⟩,h.nodef,h.tsz,by simp[St.setB,h.bsz],by simp[St.setB,h.osz],λx v O=>(h.tmps x v O).move D,?_,?_,?_,?_,h.lk,?_,h.sfr,h.Px D,λb y g=>⟨(h.fx b y g).1,λI z=>by
   by_cases eb:b=G.bk i
   ·subst eb;rcases B.1 with (f | f) | ⟨f,_⟩
    ·omega
    ·exact absurd g (f.2 y)
    ·injection f with f;exact ((h.fx _ y g).2 I z).trans λJ K M=>⟨vs',K,setRow_heap w _ _ _ K (0,0) M,hkeep ⟨_,I▸g⟩ f J K M⟩
   ·exact ((h.fx b y g).2 I z).same (hoth b eb)⟩⟩
 ·intro x y g;simpa using h.olt x y g
 ·intro x o q;simpa using h.sok x o q
 ·intro x cs'' hcs'';rw[gy]at hcs'';by_cases d:i=x
  ·subst d;rw[if_pos ⟨rfl,hilt⟩]at hcs'';cases hcs''
   exact⟨A,vs',E,setRow_heap w _ _ _ E (0,0) hh,hc.move D⟩
  ·rw[if_neg (λe=>d e.1)]at hcs'';obtain⟨u,vs'',E',L,r⟩:=h.box x cs'' hcs'';refine⟨u,vs'',E',(hoth _ λe=>?_).trans L,r.move D⟩;rw[e,A]at u;cases u
   exact d rfl
 ·intro k j;have keep:∀c,fM G k j c->fM G k j c/\(w.setRow (G.bk i) vs'.toArray).heap[c]?=w.heap[c]?:=λc r=>⟨r,hoth c λe=>by
   have hc'':G.ow c=some (.own k j):=r;rw[e,A]at hc'';cases hc''⟩
  exact (h.owns k j).same rfl D.s (λt xs deep m g=>⟨keep,λ_ _ _ _ _ o q=>.inl q⟩) λt xs g c hc=>⟨(keep c hc).1,(keep c hc).2,λo q=>q⟩
 ·intro x g;rw[gy];by_cases d:i=x
  ·rw[if_pos ⟨d,hilt⟩];simp
  ·rw[if_neg (λe=>d e.1)];exact h.lb x g
theorem Inv.tJ(h:Inv w0 G S a w)(k j:Nat)(x:O)(d:tq G w k j x):Inv w0 G (S.bI k ((S.aI k).set j x)) a w:=by
 refine⟨h.below,h.nodef,h.tsz,by simp[St.bI,h.bsz],by simp[St.bI,h.osz],h.tmps,h.olt,h.sok,h.box,?_,?_,h.lb,h.sfr,h.st,h.fx⟩
 ·intro k' j';rw[bg];by_cases hk:k=k'/\k<S.owns.length
  ·rw[if_pos hk,gu];by_cases c:j=j'/\j<(S.aI k).length
   ·rw[if_pos c];obtain⟨rfl,_⟩:=hk;obtain⟨rfl,_⟩:=c;exact d
   ·rw[if_neg c];obtain⟨rfl,_⟩:=hk;exact h.owns k j'
  ·rw[if_neg hk];exact h.owns k' j'
 ·intro k' b;rw[bg];by_cases hk:k=k'/\k<S.owns.length
  ·rw[if_pos hk];intro e;have:(S.aI k).length=0:=by simpa using congrArg List.length e
   exact h.lk k' b (by rw[<- hk.1];exact List.eq_nil_of_length_eq_zero this)
  ·rw[if_neg hk];exact h.lk k' b
theorem Inv.TF(h:Inv w0 G S a w)(b:Nat){w':World}(p:w0.nw b)(hbox:∀i,G.ow b≠some (.box i))
  (hdead:∀k j t xs deep m,G.ow b=some (.own k j)->(aZ (S.aI k) j).dY≠.own t xs deep m)
  (u:w'.os=w.os) (htape:w'.tape=w.tape) (hout:w'.output=w.output) (l:w.heap.size<=w'.heap.size)
  (hoth:∀c,c<w.heap.size->c≠b->w'.heap[c]?=w.heap[c]?)
  (B:∀o,G.S b o->w'.cell? ⟨b,o,none⟩=w.cell? ⟨b,o,none⟩):Inv w0 G S a w':=by
 have r:Mv G G w w':=⟨λc o f=>⟨f,by
  by_cases hc:c=b
  ·subst hc;exact B o f
  ·exact World.cell?_of_block (w:=w) (hoth c (h.sok c o f).1 hc)⟩,λk hk=>⟨hk,λ_=>rfl⟩,λi C=>⟨C,rfl⟩⟩
 have D:=h.below.size;refine⟨h.below.trans ⟨u,htape,hout,l,λk hk E=>hoth k (by omega) λe=>p.elim (λh=>by omega) λh=>E (e▸h.1)⟩,h.nodef,h.tsz,h.bsz,h.osz,λx v F=>(h.tmps x v F).move r,?_,?_,?_,?_,h.lk,h.lb,h.sfr,h.Px r,λq y g=>⟨(h.fx q y g).1,λH I=>((h.fx q y g).2 H I).same (hoth q (by omega) λe=>p.elim (λh=>by omega) λh=>h.2 y (e▸g))⟩⟩
 ·intro x y g;exact⟨(h.olt x y g).1,aD (h.olt x y g).2 l⟩
 ·intro x o f;exact⟨aD (h.sok x o f).1 l,(h.sok x o f).2⟩
 ·intro x cs z;obtain⟨n,vs'',E',A,d⟩:=h.box x cs z;exact⟨n,vs'',E',(hoth _ (h.olt _ _ n).2 λe=>hbox x (e▸n)).trans A,d.move r⟩
 ·intro k j;refine (h.owns k j).same rfl r.s (λt xs deep m g=>⟨λc d=>⟨d,hoth c (h.olt _ _ d).2 λe=>?_⟩,λ_ _ _ _ _ o f=>.inl f⟩) λt xs g c d=>⟨d,hoth c (h.olt _ _ d).2 λe=>?_,λo f=>f⟩
  ·exact hdead k j t xs deep m (e▸d) (by rw[g];rfl)
  ·exact hdead k j t xs true true (e▸d) g.aef
theorem Inv.ahR(h:Inv w0 G S a w)(P:Nat->Prop)[DecidablePred P](k j:Nat)
  (n:∀c,P c->w0.nw c/\c<w.heap.size/\(∀i,G.ow c≠some (.box i))/\∀k' j' t xs deep m,G.ow c=some (.own k' j')->(k',j')≠(k,j)->(aZ (S.aI k') j').dY≠.own t xs deep m) :
  Inv w0 { G with ow:=λc=>if P c then some (.own k j)else G.ow c } S a w:=by
 let G':Gh:={ G with ow:=λc=>if P c then some (.own k j)else G.ow c };have p:Mv G G' w w:=⟨λb o g=>⟨g,rfl⟩,λk hk=>⟨hk,λ_=>rfl⟩,λx e=>⟨e,rfl⟩⟩;have f:∀c,G'.ow c=if P c then some (.own k j)else G.ow c:=λ_=>rfl
 refine⟨h.below,h.nodef,h.tsz,h.bsz,h.osz,λx v u=>(h.tmps x v u).move p,?_,?_,?_,?_,h.lk,h.lb,h.sfr,h.st,h.fx⟩
 ·intro x y e;by_cases hp:P x
  ·exact⟨.inl (n x hp).1,(n x hp).2.1⟩
  ·rw[f,if_neg hp]at e;exact h.olt x y e
 ·intro x o g;refine⟨(h.sok x o g).1,λi=>?_⟩;rw[f];split
  ·simp
  ·exact (h.sok x o g).2 i
 ·intro x cs q;obtain⟨l,vs'',E',r,d⟩:=h.box x cs q;refine⟨?_,vs'',E',r,d.move p⟩;rw[f,if_neg λhp=>(n _ hp).2.2.1 x l];exact l
 ·intro k' j';have keep:∀t xs deep m,(aZ (S.aI k') j').dY=.own t xs deep m->∀c,G.ow c=some (.own k' j')->G'.ow c=some (.own k' j'):=by
   intro t xs deep m e c d;rw[f];split
   ·rename_i hp;by_cases hk:(k',j')=(k,j)
    ·cases hk;rfl
    ·exact absurd e ((n c hp).2.2.2 k' j' t xs deep m d hk)
   ·exact d
  refine (h.owns k' j').same rfl p.s (λt xs deep m e=>⟨λc d=>⟨keep t xs deep m (by rw[e];rfl) c d,rfl⟩,λ_ _ _ _ _ o g=>.inl g⟩)
   λt xs e c d=>⟨keep t xs true true e.aef c d,rfl,λo g=>g⟩
theorem Inv.nC(h:Inv w0 G S a w)(d:Nat)(os:List O)(ov:Nat->Value)(lab:Nat->Option Nat)(I:S.aI d=[])(u:d<S.tmps.length)(B:os≠[])
  (hlab:∀c j,lab c=some j->w0.nw c/\c<w.heap.size/\(∀i,G.ow c≠some (.box i))/\∀k' j' t xs deep m,G.ow c=some (.own k' j')->(aZ (S.aI k') j').dY≠.own t xs deep m)
  (C:∀j,match aZ os j with
   | .dead=>True
   | .own t xs deep m=>OwT w G.S deep m t xs (ov j) (λc=>lab c=some j)
   | .ro t xs=>Rep w G.S (.list t xs) (ov j)
   | .tree t xs=>∃fp:Nat->Prop,(∀b,fp b->lab b=some j)/\Ow w (λ_ _=>False) true (.list t xs) (ov j) fp/\∀b o,G.S b o->¬fp b
   | .part t xs i=>iD w G.S t xs i (ov j) (λc=>lab c=some j)
   | .seg t xs=>yT w G.S t xs (ov j) (λc=>lab c=some j)
   | .hole _ _ _ _=>False) :
  ∃G',Inv w0 G' (S.bI d os) a w/\Mv G G' w w/\G'.lk d/\(∀j,G'.ov d j=ov j)/\G'.bk=G.bk/\G'.S=G.S/\(∀c,G'.ow c=match lab c with | some j=>some (.own d j) | none=>G.ow c):=by
 have D:¬G.lk d:=λr=>h.lk d r I
 let G':Gh:={ G with ov:=λk j=>if k=d then ov j else G.ov k j,ow:=λc=>match lab c with | some j=>some (.own d j) | none=>G.ow c,lk:=λk=>k=d\/G.lk k };have A:Mv G G' w w:=⟨λb o n=>⟨n,rfl⟩,λk hk=>⟨.inr hk,λj=>by
  show (if k=d then ov j else G.ov k j)=_
  rw[if_neg (λe:k=d=>D (e▸hk))]⟩,λx f=>⟨f,rfl⟩⟩
 have g:∀c,G'.ow c=match lab c with | some j=>some (.own d j) | none=>G.ow c:=λ_=>rfl
 refine⟨G',⟨h.below,h.nodef,h.tsz,by simp[St.bI,h.bsz],by simp[St.bI,h.osz],λx v J=>(h.tmps x v J).move A,?_,?_,?_,?_,?_,h.lb,h.sfr,h.st,h.fx⟩,A,.inl rfl,λj=>if_pos rfl,rfl,rfl,λ_=>rfl⟩
 ·intro x y f;rw[g]at f;cases r:lab x with
  | some j=>exact⟨.inl (hlab x j r).1,(hlab x j r).2.1⟩
  | none=>rw[r]at f;exact h.olt x y f
 ·intro x o n;refine⟨(h.sok x o n).1,λi=>?_⟩;rw[g];cases r:lab x with
  | some j=>simp
  | none=>exact (h.sok x o n).2 i
 ·intro x cs E;obtain⟨z,vs'',E',F,l⟩:=h.box x cs E;refine⟨?_,vs'',E',F,l.move A⟩;rw[g];cases r:lab (G'.bk x)with
  | some j=>exact absurd z ((hlab _ j r).2.2.1 x)
  | none=>exact z
 ·intro k' j';rw[bg];by_cases hk:d=k'/\d<S.owns.length
  ·rw[if_pos hk];obtain⟨rfl,_⟩:=hk;have:=C j';revert this;generalize aZ os j'=x;intro f;cases x with
   | dead=>trivial
   | own t xs deep m=>
    show OwT w G.S deep m t xs (if d=d then ov j' else G.ov d j') (fM G' d j')
    rw[if_pos rfl];refine OwT.move f (λb o n=>⟨n,rfl⟩) (λc hc=>⟨?_,rfl⟩) (λ_ _ _ _ _ o n=>.inl n);show G'.ow c=_
    rw[g,hc]
   | ro t xs=>
    show Rep w G.S (.list t xs) (if d=d then ov j' else G.ov d j')
    rw[if_pos rfl];exact f
   | tree t xs=>
    obtain⟨fp,K,L,M⟩:=f;refine⟨fp,λc hc=>?_,?_,M⟩
    ·show G'.ow c=_
     rw[g,K c hc]
    ·show Ow w (λ_ _=>False) true (.list t xs) (if d=d then ov j' else G.ov d j') fp
     rw[if_pos rfl];exact L
   | part t xs i=>
    show iD w G.S t xs i (if d=d then ov j' else G.ov d j') (fM G' d j')
    rw[if_pos rfl];refine iD.move f (λc hc=>⟨?_,rfl⟩) λ_ _ _ h=>h
    show G'.ow c=_
    rw[g,hc]
   | seg t xs=>
    show yT w G.S t xs (if d=d then ov j' else G.ov d j') (fM G' d j')
    rw[if_pos rfl];refine yT.move f (λb o n=>⟨n,rfl⟩) λc hc=>⟨?_,rfl⟩
    show G'.ow c=_
    rw[g,hc]
   | hole t xs i q=>exact f.elim
  ·rw[if_neg hk];have H:k'≠d:=λe=>hk ⟨e.symm,by rw[h.osz];exact u⟩
   have keep:∀t xs deep m,(aZ (S.aI k') j').dY=.own t xs deep m->∀c,G.ow c=some (.own k' j')->G'.ow c=some (.own k' j'):=by
    intro t xs deep m f c l;rw[g];cases r:lab c with
    | some j=>exact absurd f ((hlab c j r).2.2.2 k' j' t xs deep m l)
    | none=>exact l
   refine (h.owns k' j').same (by show (if k'=d then ov j' else G.ov k' j')=_;rw[if_neg H]) A.s (λt xs deep m f=>⟨λc l=>⟨keep t xs deep m (by rw[f];rfl) c l,rfl⟩,λ_ _ _ _ _ o n=>.inl n⟩)
    λt xs f c l=>⟨keep t xs true true f.aef c l,rfl,λo n=>n⟩
 ·intro k' p;rw[bg];by_cases hk:d=k'/\d<S.owns.length
  ·rw[if_pos hk];exact B
  ·rw[if_neg hk];rcases p with p | p
   ·exact absurd ⟨p.symm,by rw[h.osz];exact u⟩ hk
   ·exact h.lk k' p
theorem Inv.UX(h:Inv w0 G S a w)(d:Nat)(os:List O)(ov:Nat->Value)(lab:Nat->Option Nat)(k:S.aI d=[])(e:d<S.tmps.length)(f:os≠[])
  (hlab:∀c j,lab c=some j->w0.nw c/\c<w.heap.size/\(∀i,G.ow c≠some (.box i))/\∀k' j' t xs deep m,G.ow c=some (.own k' j')->(aZ (S.aI k') j').dY≠.own t xs deep m)
  (g:∀j,match aZ os j with
   | .dead=>True
   | .own t xs deep m=>OwT w G.S deep m t xs (ov j) (λc=>lab c=some j)
   | .ro t xs=>Rep w G.S (.list t xs) (ov j)
   | .tree t xs=>∃fp:Nat->Prop,(∀b,fp b->lab b=some j)/\Ow w (λ_ _=>False) true (.list t xs) (ov j) fp/\∀b o,G.S b o->¬fp b
   | .part t xs i=>iD w G.S t xs i (ov j) (λc=>lab c=some j)
   | .seg t xs=>yT w G.S t xs (ov j) (λc=>lab c=some j)
   | .hole _ _ _ _=>False) :
  ∃G',Inv w0 G' (S.bI d os) a w/\Mv G G' w w/\G'.lk d/\(∀j,G'.ov d j=ov j):=by
 obtain⟨G',l,n,p,q,_⟩:=h.nC d os ov lab k e f hlab g;exact⟨G',l,n,p,q⟩
end steps
theorem xZ{α:Type}{l:List (Nat×α)}{k:Nat}{x:α}(h:lk l k=some x):(k,x)∈l:=by
 unfold lk at h;rw[Option.map_eq_some_iff]at h;obtain⟨p,hp,rfl⟩:=h;have c:=List.find?_some hp;have d:=List.mem_of_find?_eq_some hp;obtain⟨a,b⟩:=p;simp at c;subst c;exact d
def I7:TypeDesc->Bool
 | .struct _ | .array _ _=>true
 | _=>false
def lm:List C->List Value->Bool
 | [],[]=>true
 | .d (.int k n)::cs,.int k' n'::vs=>decide (k=k')&&decide (n=n')&&lm cs vs
 | .d (.bool b)::cs,.bool b'::vs=>b==b'&&lm cs vs
 | .d (.str s)::cs,.string v::vs=>decide (v.data.toList=s)&&lm cs vs
 | .nil::cs,.slice none 0 0::vs=>lm cs vs
 | .d (.list _ [])::cs,.slice none 0 0::vs=>lm cs vs
 | _,_=>false
def KQ(P:Program)(fd:Field)(fo:Nat)(agg:Bool)(n:Nat):Bool:=
 fd.offset==fo&&(match P.underlying fd.type,P.info? fd.type with
  | some d,some i=>I7 d==agg&&i.size==n&&decide (0<n)
  | _,_=>false)
def wW(P:Program)(F:Array Field):Nat->List (Nat×Bool×Nat)->Bool
 | _,[]=>true
 | f,(fo,agg,n)::r=>(match F[f]? with | some fd=>KQ P fd fo agg n | none=>false)&&wW P F (f+1) r
def XT(P:Program)(k:TypeId->Option (List Kd)):Nat->List Field->Option (List Kd)
 | _,[]=>some []
 | off, f :: r => if f.name ≠ "_" /\ f.offset = off then (k f.type).bind fun ks => if ks.length = P.cellsOf f.type then (XT P k (off + ks.length) r).map (ks ++ ·) else none else none
def QF(P:Program):Nat->TypeId->Option (List Kd)
 | 0,_=>none
 | n+1,t=>match P.underlying t with
  | some .bool=>some [.bool]
  | some (.int k)=>some [.int k]
  | some .string=>some [.str]
  | some (.struct fs)=>if P.stoodInHeld t then none else (XT P (QF P n) 0 fs.toList).bind λks=>if ks.length=P.cellsOf t then some ks else none
  | _=>none
def TT.ok'(P:Program)(T:TT):Bool:=
 T.ints.all (λx=>match P.underlying x.1 with
  | some (.int k)=>decide (k=x.2)
  | _=>false) &&
 T.eqs.all (λx=>decide (QF P 9 x.1=some x.2)&&!(P.eqGuardType P.depth x.1)&&(match P.underlying x.1 with
  | some (.struct _)=>true
  | _=>false)) &&
 T.elem.all (λx=>!(decide (x.2=.base .u8))||(match P.underlying x.1 with
  | some (.slice e)=>(match P.underlying e with
   | some (.int .u8)=>true
   | _=>false)
  | _=>false))
def TT.ok0(P:Program)(T:TT):Bool:=
 T.shape.all (λx=>match P.underlying x.1,P.info? x.1 with
  | some d,some i=>i.size==x.2.2&&I7 d==x.2.1
  | _,_=>false) &&
 T.zero.all (λx=>match (P.info? x.1).bind (·.zero)with
  | some z=>lm x.2 z.cells.toList
  | none=>false) &&
 T.fields.all (λx=>match P.underlying x.1 with
  | some (.struct F)=>wW P F 0 x.2&&x.2.length==F.size
  | _=>false) &&
 T.elem.all (λx=>match P.underlying x.1 with
  | some (.slice e)=>(match P.info? e with
   | some i=>i.size==x.2.size&&decide (i.bytes<=4096)&&(match i.zero with
    | some z=>z.cells.size==x.2.size&&lm ((x.2.cells x.2.zero).map .d) z.cells.toList
    | none=>false)
   | none=>false)
  | _=>false) &&
 T.strs.all (λx=>match P.underlying x with
  | some .string=>true
  | _=>false) &&
 T.bools.all (λx=>match P.underlying x with
  | some .bool=>true
  | _=>false)
def TT.ok(P:Program)(T:TT):Bool:=T.ok0 P&&T.ok' P
section tables
variable {P:Program} {T:TT}
theorem TT.aeU(h:T.ok P=true){t:Nat}{k:IntKind}(a:lk T.ints t=some k):P.underlying t=some (.int k):=by
 simp only[TT.ok,TT.ok',zI]at h;have:=List.all_eq_true.1 h.2.1.1 _ (xZ a);simp only at this;split at this
 ·rename_i k' b;rw[b,of_decide_eq_true this]
 ·cases this
theorem TT.akK(h:T.ok P=true){t:Nat}(a:lk T.elem t=some (.base .u8)){e:TypeId}(b:P.underlying t=some (.slice e)):P.underlying e=some (.int .u8):=by
 simp only[TT.ok,TT.ok',zI]at h;have:=List.all_eq_true.1 h.2.2 _ (xZ a);simp only[b,decide_true,aL,Bool.false_or]at this;split at this
 ·assumption
 ·cases this
theorem TT.akr(h:T.ok P=true){t:Nat}{ks:List Kd}(b:lk T.eqs t=some ks):QF P 9 t=some ks/\P.eqGuardType P.depth t=false/\∃fs,P.underlying t=some (.struct fs):=by
 simp only[TT.ok,TT.ok',zI]at h;have:=List.all_eq_true.1 h.2.1.2 _ (xZ b);simp only[zI,decide_eq_true_eq,Bool.not_eq_true']at this;refine⟨this.1.1,this.1.2,?_⟩;have a:=this.2;split at a
 ·rename_i fs c;exact⟨fs,c⟩
 ·cases a
theorem TT.vG(h:T.ok P=true){t:Nat}{agg:Bool}{n:Nat}(a:lk T.shape t=some (agg,n)) :
  ∃d i,P.underlying t=some d/\P.info? t=some i/\i.size=n/\I7 d=agg:=by
 replace h:=(zI _ _▸h).1;simp only[TT.ok0,zI]at h;have:=List.all_eq_true.1 h.1.1.1.1.1 _ (xZ a);simp only at this;split at this
 ·rename_i d i b c;simp at this;exact⟨d,i,b,c,this.1,this.2⟩
 ·cases this
theorem TT.aag(h:T.ok P=true){t:Nat}{cs:List C}(b:lk T.zero t=some cs) :
  ∃i z,P.info? t=some i/\i.zero=some z/\lm cs z.cells.toList=true:=by
 replace h:=(zI _ _▸h).1;simp only[TT.ok0,zI]at h;have:=List.all_eq_true.1 h.1.1.1.1.2 _ (xZ b);simp only at this;split at this
 ·rename_i z a;rw[zB]at a;obtain⟨i,c,a⟩:=a;exact⟨i,z,c,a,this⟩
 ·cases this
theorem Gg{P:Program}{F:Array Field}:∀(fs:List (Nat×Bool×Nat)) (k:Nat),wW P F k fs=true->∀(f:Nat) (fo:Nat) (agg:Bool) (n:Nat),fs[f]?=some (fo,agg,n) ->
  ∃fd,F[k+f]?=some fd/\KQ P fd fo agg n=true
 | [],k,_,f,fo,agg,n,hf=>by simp at hf
 | (fo',agg',n')::r,k,h,f,fo,agg,n,hf=>by
  simp only[wW,zI]at h;cases f with
  | zero=>
   simp at hf;obtain⟨rfl,rfl,rfl⟩:=hf;have a:=h.1;split at a
   ·rename_i fd b;exact⟨fd,b,a⟩
   ·cases a
  | succ f=>
   obtain⟨fd,a,c⟩:=Gg r (k+1) h.2 f fo agg n (by simpa using hf);exact⟨fd,by rw[show k+(f+1)=k+1+f by omega];exact a,c⟩
theorem TT.XP(h:T.ok P=true){t f fo:Nat}{agg:Bool}{n:Nat}(e:(lk T.fields t).bind (·[f]?)=some (fo,agg,n)) :
  ∃F fd d i,P.underlying t=some (.struct F)/\F[f]?=some fd/\fd.offset=fo/\P.underlying fd.type=some d/\P.info? fd.type=some i/\I7 d=agg/\i.size=n/\0<n:=by
 replace h:=(zI _ _▸h).1;simp only[TT.ok0,zI]at h;rw[zB]at e;obtain⟨fs,c,hf⟩:=e;have:=List.all_eq_true.1 h.1.1.1.2 _ (xZ c);simp only at this;split at this
 ·rename_i F g;rw[zI]at this;obtain⟨fd,j,b⟩:=Gg fs 0 this.1 f fo agg n hf;simp only[KQ,zI,beq_iff_eq]at b;obtain⟨b,a⟩:=b;split at a
  ·rename_i d i k l;simp at a;exact⟨F,fd,d,i,g,by simpa using j,b,k,l,a.1.1,a.1.2,a.2⟩
  ·cases a
 ·cases this
theorem yQ{P:Program}{F:Array Field}:∀(fs:List (Nat×Bool×Nat)) (k:Nat),wW P F k fs=true->fs.length+k=F.size ->
  (F.toList.drop k).mapM (λf=>(P.info? f.type).map λi=>(f.offset,i.size))=some (fs.map λx=>(x.1,x.2.2))
 | [],k,_,a=>by
  have:F.toList.drop k=[]:=by simp at a ⊢;omega
  rw[this];rfl
 | (fo,agg,n)::r,k,h,a=>by
  simp only[wW,zI]at h;have hk:k<F.toList.length:=by simp at a ⊢;omega
  have ih:=yQ r (k+1) h.2 (by simp at a ⊢;omega);rw[List.drop_eq_getElem_cons hk,List.mapM_cons,ih];have b:=h.1;split at b
  ·rename_i fd g;have e:F.toList[k]=fd:=by
    have:F.toList[k]?=some fd:=by simpa using g
    rw[zF hk]at this;exact aR this
   rw[e];simp only[KQ,zI,beq_iff_eq]at b;obtain⟨j,c⟩:=b;split at c
   ·rename_i d i m l;simp at c;simp[l,j,c.1.2]
   ·cases c
  ·cases b
theorem TT.acK(h:T.ok P=true){t:Nat}{fs:List (Nat×Bool×Nat)}(a:lk T.fields t=some fs) :
  ∃F,P.underlying t=some (.struct F)/\F.toList.mapM (λf=>(P.info? f.type).map λi=>(f.offset,i.size))=some (fs.map λx=>(x.1,x.2.2)):=by
 replace h:=(zI _ _▸h).1;simp only[TT.ok0,zI]at h;have:=List.all_eq_true.1 h.1.1.1.2 _ (xZ a);simp only at this;split at this
 ·rename_i F b;rw[zI]at this;exact⟨F,b,yQ fs 0 this.1 (by simpa using this.2)⟩
 ·cases this
theorem TT.jE(h:T.ok P=true){t:Nat}{ty:Ty}(b:lk T.elem t=some ty) :
  ∃e i z,P.underlying t=some (.slice e)/\P.info? e=some i/\i.size=ty.size/\i.bytes<=4096/\i.zero=some z/\z.cells.size=ty.size/\lm ((ty.cells ty.zero).map .d) z.cells.toList=true:=by
 replace h:=(zI _ _▸h).1;simp only[TT.ok0,zI]at h;have:=List.all_eq_true.1 h.1.1.2 _ (xZ b);simp only at this;split at this
 ·rename_i e c;split at this
  ·rename_i i f;simp only[zI,beq_iff_eq,decide_eq_true_eq]at this;obtain⟨⟨g,j⟩,a⟩:=this;split at a
   ·rename_i z k;simp only[zI,beq_iff_eq]at a;exact⟨e,i,z,c,f,g,j,k,a.1,a.2⟩
   ·cases a
  ·cases this
 ·cases this
theorem TT.Lu(h:T.ok P=true){t:Nat}(a:T.strs.contains t=true):P.underlying t=some .string:=by
 replace h:=(zI _ _▸h).1;simp only[TT.ok0,zI]at h;have:=List.all_eq_true.1 h.1.2 t (by simpa using a);split at this
 ·rename_i b;exact b
 ·cases this
theorem TT.ahB(h:T.ok P=true){t:Nat}(a:T.bools.contains t=true):P.underlying t=some .bool:=by
 replace h:=(zI _ _▸h).1;simp only[TT.ok0,zI]at h;have:=List.all_eq_true.1 h.2 t (by simpa using a);split at this
 ·rename_i b;exact b
 ·cases this
end tables
theorem lU{G:Gh}{w:World}:∀(cs:List C) (vs:List Value),lm cs vs=true->cu G w cs vs
 | [],[],_=>trivial
 | [],_::_,h=>by simp[lm]at h
 | c::cs,[],h=>by unfold lm at h;split at h<;>simp_all
 | c::cs,v::vs,h=>by
  unfold lm at h;split at h
  ·simp_all
  ·rename_i k n cs' k' n' vs' a d;cases a;cases d
   simp only[zI,decide_eq_true_eq]at h;obtain⟨⟨rfl,rfl⟩,e⟩:=h;exact⟨Rep.int _ _,lU _ _ e⟩
  ·rename_i b cs' b' vs' a d;cases a;cases d
   simp only[zI,beq_iff_eq]at h;obtain⟨rfl,e⟩:=h;exact⟨Rep.bool _,lU _ _ e⟩
  ·rename_i s cs' v' vs' a d;cases a;cases d
   simp only[zI,decide_eq_true_eq]at h;obtain⟨rfl,e⟩:=h;exact⟨Rep.str _,lU _ _ e⟩
  ·rename_i cs' vs' a d;cases a;cases d
   exact⟨rfl,lU _ _ h⟩
  ·rename_i t cs' vs' a d;cases a;cases d
   exact⟨Rep.nil _,lU _ _ h⟩
  ·cases h
section reads
variable {w0:Bs} {G:Gh} {S:St} {a:Act} {w:World}
theorem Inv.iP(h:Inv w0 G S a w)(t:Nat):jc G w (S.iP t) (a.tmps.getD t undef):=by
 cases b:a.tmps[t]? with
 | some v=>have:=h.tmps t v b;simpa [b] using this
 | none=>
  have c:a.tmps.size<=t:=by simpa using b
  rw[h.tsz]at c;have:S.iP t=.undef:=by simp[St.iP,zE,zJ c]
  rw[this];trivial
theorem afz{v:Value}{c:C}(h:akB v=some c):l9 G w c v:=by
 unfold akB at h;split at h<;>cases h
 ·exact Rep.int _ _
 ·exact Rep.bool _
 ·exact Rep.str _
 ·rfl
theorem aY(h:Inv w0 G S a w){x:Operand}{av:AV}(b:(dM x).val S=some av):jc G w av (a.eval x):=by
 cases x with
 | tmp t=>
  simp only[dM,Rd.val,zD]at b;subst b;exact h.iP t
 | const v=>
  simp only[dM]at b;split at b
  ·rename_i c hc;simp only[Rd.val,zD]at b;subst b;exact afz hc
  ·simp only[Rd.val,zD]at b;subst b;trivial
 | global g=>cases b
 | func f=>cases b
theorem oW{av:AV}{x:V}{v:Value}(a:(avV av).val S=some x)(h:jc G w av v):qV G w x v:=by
 unfold avV at a;split at a
 ·simp only[Rd.val,zD]at a;subst a;exact h
 ·cases a
theorem oZ{av:AV}{x:D}{v:Value}(a:(avD av).val S=some x)(h:jc G w av v):Rep w G.S x v:=by
 unfold avD at a;split at a
 ·simp only[Rd.val,zD]at a;subst a;exact h
 ·cases a
theorem wZ{av:AV}{n:Int}{v:Value}(a:(Jy av).val S=some n)(h:jc G w av v):∃k,v=.int k n:=by
 simp only[Jy,Rd.aH,zB]at a;obtain⟨d,b,a⟩:=a;have:=oZ b h;cases this<;>simp only[Rd.val,zD]at a<;>first | (subst a;exact⟨_,rfl⟩) | cases a
def AK(G:Gh)(S:St)(keys:List (Nat×Nat))(b o:Nat):Prop:=
 ∃k j t xs deep m,(k,j)∈keys/\(aZ (S.aI k) j).sV=.own t xs deep m/\G.ow b=some (.own k j)/\(∀len cap,G.ov k j=.slice (some ⟨b,0,none⟩) len cap->o<xs.length*t.size)
theorem OwT.Jb{S S':Nat->Nat->Prop}{deep m:Bool}{t:Ty}{xs:List t.den}{v:Value}{fp:Nat->Prop}(h:OwT w S deep m t xs v fp)
  (p:∀b o,S b o->S' b o) (a:∀b o,fp b->(∀len cap,v=.slice (some ⟨b,0,none⟩) len cap->o<xs.length*t.size)->S' b o):Rep w S' (.list t xs) v:=by
 rcases h with ⟨rfl,rfl⟩ | ⟨b,cap,arr,E,vs,fps,rfl,q,hcap,hmax,r,n,hc,s,hf,hdis,z⟩
 ·exact .nil t
 ·refine .list t xs b 0 cap vs hcap (λi x j d k l=>?_) (λi x j d k l=>(s i x j d k l).Jb p λc o f _=>a c o (hf i j c f).1 λlen cap e=>?_)
  ·have e:w.cell? ⟨b,0+(i*t.size+j),none⟩=some (vs i j):=by
    simp only[Nat.zero_add,World.cell?,q];simpa using hc i x j d k l
   refine⟨e,a b _ n λlen cap _=>?_⟩;have u:i<xs.length:=(zC.1 k).1;have A:j<t.size:=by
    have:=(zC.1 l).1;rwa [Ty.bn]at this
   have y:(i+1)*t.size<=xs.length*t.size:=Nat.mul_le_mul_right _ u;rw[Nat.succ_mul]at y;omega
  ·injection e with g _ _;injection g with g;injection g with g _ _;exact absurd g.symm (hf i j c f).2
theorem O.Yh{x:O}{t:Ty}{xs:List t.den}{deep m:Bool}(h:x.sV=.own t xs deep m):x=.own t xs deep m\/(x=.tree t xs/\deep=true/\m=true):=by
 cases x with
 | tree t' xs'=>cases h;exact .inr ⟨rfl,rfl,rfl⟩
 | own=>exact .inl h
 | ro=>cases h
 | dead=>cases h
 | part=>cases h
 | seg=>cases h
 | hole=>cases h
theorem OwT.DT{w:World}{S':Nat->Nat->Prop}{t:Ty}{xs:List t.den}{v:Value}{fp fp':Nat->Prop}(h:Ow w (λ_ _=>False) true (.list t xs) v fp)(hf:∀c,fp c->fp' c)(m:∀b o,S' b o->¬fp b):OwT w S' true true t xs v fp':=by
 generalize a:D.list t xs=dd at h;cases h with
 | int=>cases a
 | bool=>cases a
 | str=>cases a
 | nil t'=>cases a;exact .inl ⟨rfl,rfl⟩
 | ro _ _ _ k=>cases k
 | list t' xs' b cap arr E vs fps _ n hcap hmax l e hc p f hdis=>
  cases a
  exact .inr ⟨b,cap,arr,E,vs,fps,rfl,n,hcap,hmax,l,hf _ e,hc,λi x j d q k=>(p i x j d q k).move (λ_ _ h=>h.elim) λ_ _=>rfl,λi j c g=>⟨hf _ (f i j c g).1,(f i j c g).2⟩,hdis,λo r=>absurd e (m b o r)⟩
theorem Inv.aee(h:Inv w0 G S a w){k j:Nat}{t:Ty}{xs:List t.den}{deep m:Bool}(c:(aZ (S.aI k) j).sV=.own t xs deep m):OwT w G.S deep m t xs (G.ov k j) (fM G k j):=by
 have:=h.owns k j;rcases O.Yh c with b | ⟨b,rfl,rfl⟩
 ·rw[b]at this;exact this
 ·rw[b]at this;obtain⟨fp,d,e,f⟩:=this;exact OwT.DT e d f
theorem Inv.Nu(h:Inv w0 G S a w){k j:Nat}{t:Ty}{xs:List t.den}{deep m:Bool}(d:(aZ (S.aI k) j).sV=.own t xs deep m)(keys:List (Nat×Nat))(hk:(k,j)∈keys) :
  Rep w (λb o=>G.S b o\/AK G S keys b o) (.list t xs) (G.ov k j):=
 OwT.Jb (h.aee d) (λb o e=>.inl e) λb o f c=>.inr ⟨k,j,t,xs,deep,m,hk,d,f,c⟩
theorem Inv.KA(h:Inv w0 G S a w){k j:Nat}{t:Ty}{xs:List t.den}{deep m:Bool}(c:aZ (S.aI k) j=.own t xs deep m)(keys:List (Nat×Nat))(hk:(k,j)∈keys) :
  Rep w (λb o=>G.S b o\/AK G S keys b o) (.list t xs) (G.ov k j):=h.Nu (by rw[c];rfl) keys hk
theorem Inv.Uy(h:Inv w0 G S a w){k j:Nat}{t:Ty}{xs:List t.den}(b:aZ (S.aI k) j=.ro t xs):Rep w G.S (.list t xs) (G.ov k j):=by
 have:=h.owns k j;rw[b]at this;exact this
theorem Eg(h:Inv w0 G S a w){ty:Option Ty}{c:C}{d:D}{v:Value}(e:(cD ty c).val S=some d)(hc:l9 G w c v)(keys:List (Nat×Nat))(hk:∀k j,c=.own k j->(k,j)∈keys) :
  Rep w (λb o=>G.S b o\/AK G S keys b o) d v:=by
 cases c with
 | undef=>cases e
 | d x=>
  simp only[cD,Rd.val,zD]at e;subst e;exact Rep.move hc λb o g=>⟨.inl g,rfl⟩
 | nil=>
  simp only[cD]at e;split at e
  ·simp only[Rd.val,zD]at e;subst e;rw[show v=_ from hc];exact .nil _
  ·cases e
 | own k j=>
  simp only[cD,Rd.val]at e;rw[hc.2.1];split at e
  ·rename_i t xs deep m f;simp only[Rd.val,zD]at e;subst e;exact h.KA f keys (hk k j rfl)
  ·rename_i t xs f;simp only[Rd.val,zD]at e;subst e;exact (h.Uy f).move λb o g=>⟨.inl g,rfl⟩
  ·rename_i t xs f;simp only[Rd.val,zD]at e;subst e;exact h.Nu (by rw[f];rfl) keys (hk k j rfl)
  ·cases e
  ·cases e
  ·cases e
  ·cases e
 | ptr b off=>cases e
def aV(R:Nat->D->Value->Prop):Nat->List D->List Value->Prop
 | _,[],[]=>True
 | n,d::ds,v::vs=>R n d v/\aV R (n+1) ds vs
 | _,_,_=>False
def ShR(R:Nat->D->Value->Prop)(n:Nat)(s:Sh)(x:s.t.den)(u:Value):Prop:=
 match s.agg with
 | true=>∃vs:List Value,u=.agg vs.toArray/\aV R n (s.t.cells x) vs
 | false=>aV R n (s.t.cells x) [u]
def jG(R:Nat->D->Value->Prop):(n:Nat)->(ss:List Sh)->Tup ss->List Value->Prop
 | _,[],_,[]=>True
 | n,[s],x,[u]=>ShR R n s x u
 | n,s::s'::r,x,u::us=>ShR R n s x.1 u/\jG R (n+s.t.size) (s'::r) x.2 us
 | _,_,_,_=>False
theorem fD{cs:List C}{k j:Nat}:C.own k j∈cs->(k,j)∈aP cs:=by
 intro h;induction cs with
 | nil=>cases h
 | cons c cs ih=>
  cases h with
  | head=>simp[aP]
  | tail _ h=>
   cases c<;>simp only[aP,ba]<;>first | exact ih h | exact .inr (ih h)
theorem pV{k j:Nat}:∀ {cs:List C},(k,j)∈aP cs->C.own k j∈cs
 | [],h=>by cases h
 | c::r,h=>by
  cases c with
  | own k' j'=>
   rcases ba.1 h with h | h
   ·cases h;exact aq
   ·exact ao _ (pV h)
  | _=>exact ao _ (pV h)
theorem zY(a b:List C):aP (a++b)=aP a++aP b:=by
 induction a with
 | nil=>rfl
 | cons c cs ih=>cases c<;>simp[aP,ih]
theorem aa2(h:Inv w0 G S a w)(keys:List (Nat×Nat)):∀ {tys:List (Option Ty)} {cs:List C} {ds:List D} {vs:List Value} (n:Nat),(cDs tys cs).val S=some ds->tys.length=cs.length->cu G w cs vs ->
  (∀k j,C.own k j∈cs->(k,j)∈keys)->aV (λ_ d v=>Rep w (λb o=>G.S b o\/AK G S keys b o) d v) n ds vs
 | [],[],ds,[],n,f,_,_,_=>by
  simp only[cDs,Rd.val,zD]at f;subst f;trivial
 | ty::tys,c::cs,ds,v::vs,n,f,g,hc,hk=>by
  simp only[cDs,Rd.aH,zB,Rd.val,zD]at f;obtain⟨d,i,ds',l,rfl⟩:=f;exact⟨Eg h i hc.1 keys λk j e=>hk k j (e▸aq),aa2 h keys (n+1) l (by simpa using g) hc.2 λk j e=>hk k j (ao _ e)⟩
theorem kE(t:Ty):t.tys.length=t.size:=by simp[Ty.tys,Ty.bn]
theorem qV.cells{x:V}{v:Value}(h:qV G w x v):∃vs:List Value,cu G w x.cells vs/\(x.isAgg=true->v=.agg vs.toArray)/\(x.isAgg=false->vs=[v]):=by
 cases x with
 | one c=>exact⟨[v],⟨h,trivial⟩,by simp[V.isAgg],λ_=>rfl⟩
 | agg cs=>obtain⟨vs,a,hc⟩:=h;exact⟨vs,hc,λ_=>a,by simp[V.isAgg]⟩
theorem Yv(h:Inv w0 G S a w)(keys:List (Nat×Nat)){s:Sh}{x:V}{y:s.t.den}{v:Value}(n:Nat)(c:(vT s x).val S=some y)(i:qV G w x v)
  (hk:∀k j,C.own k j∈x.cells->(k,j)∈keys):ShR (λ_ d v=>Rep w (λb o=>G.S b o\/AK G S keys b o) d v) n s y v:=by
 simp only[vT]at c;split at c
 ·rename_i e;simp only[Rd.aH,zB,Rd.val]at c;obtain⟨ds,l,z,m,f⟩:=c;simp only[zD]at f;subst f;obtain⟨vs,hc,p,q⟩:=i.cells;have:=aa2 h keys n l (by rw[kE];exact e.2.symm) hc hk;rw[<- Ty.dU m]at this;unfold ShR;cases g:s.agg with
  | true=>exact⟨vs,p (by rw[e.1,g]),this⟩
  | false=>rw[q (by rw[e.1,g])]at this;exact this
 ·cases c
theorem mQ(h:Inv w0 G S a w)(keys:List (Nat×Nat)):∀ {ss:List Sh} {xs:List V} {y:Tup ss} {us:List Value} (n:Nat),(vTs ss xs).val S=some y->kz G w xs us ->
  (∀k j x,x∈xs->C.own k j∈x.cells->(k,j)∈keys)->jG (λ_ d v=>Rep w (λb o=>G.S b o\/AK G S keys b o) d v) n ss y us
 | [],[],y,[],n,_,_,_=>trivial
 | [s],[x],y,[u],n,c,f,hk=>Yv h keys n c f.1 λk j e=>hk k j x (by simp) e
 | s::s'::r,x::xs,y,u::us,n,c,f,hk=>by
  simp only[vTs,Rd.aH,zB,Rd.val,zD]at c;obtain⟨p,g,q,i,rfl⟩:=c;exact⟨Yv h keys n g f.1 λk j e=>hk k j x (by simp) e,mQ h keys _ i f.2 λk j z l e=>hk k j z (ao _ l) e⟩
 | [s],x::x'::xs,y,us,n,c,_,_=>by simp[vTs,Rd.val]at c
 | [s],[],y,us,n,c,_,_=>by simp[vTs,Rd.val]at c
 | [],_::_,y,us,n,c,_,_=>by simp[vTs,Rd.val]at c
 | s::s'::r,[],y,us,n,c,_,_=>by simp[vTs,Rd.val]at c
theorem kL(h:Inv w0 G S a w):∀ {xs:List Operand} {vs:List V},(vw xs).val S=some vs->kz G w vs (xs.map a.eval)
 | [],vs,b=>by simp only[vw,Rd.val,zD]at b;subst b;trivial
 | x::xs,vs,b=>by
  simp only[vw,Rd.aH,zB,Rd.val,zD]at b;obtain⟨av,c,v,d,vs',e,rfl⟩:=b;exact⟨oW d (aY h c),kL h e⟩
end reads
section ops
variable {P:Program} {w0:Bs} {G:Gh} {S:St} {a:Act} {w:World} {o:Oper} {K:Act->World->Prop} {Q:Exit->Act->World->Prop}
theorem aW{v:Value}{w':World}(hrun:(execOp a.eval o).run P w=.ok (.value v) w')(h:K (a.put o.dst v) w'):o.wp P a w K Q:=by
 unfold Oper.wp;rw[hrun];exact h
theorem CY{w':World}(hrun:(execOp a.eval o).run P w=.ok .skip w')(h:K (a.put o.dst undef) w'):o.wp P a w K Q:=by
 unfold Oper.wp;rw[hrun];exact h
theorem Inv.dst(h:Inv w0 G S a w){av:AV}{v:Value}(b:jc G w av v):Inv w0 G (S.puts (fF o av)) (a.put o.dst v) w:=by
 unfold fF;cases o.dst with
 | none=>exact h
 | some d=>exact h.iV d b
theorem acX{c:C}{v:Value}(h:l9 G w c v):jc G w (ajC c) v:=by
 cases c<;>first | trivial | exact h
theorem rf{x:V}{v:Value}(h:qV G w x v):jc G w (Jw x) v:=by
 cases x with
 | one c=>exact acX h
 | agg cs=>exact h
theorem AU:jc G w (.tup []) undef:=⟨[],rfl,trivial⟩
theorem Gl{v:Value}(h:v.oneCell'=true):v.cells = #[v]:=by
 cases v<;>first | rfl | (simp[Value.oneCell']at h)
theorem qV.SX{x:V}{v:Value}(h:qV G w x v):∃vs:List Value,v.cells=vs.toArray/\cu G w x.cells vs:=by
 cases x with
 | one c=>exact⟨[v],Gl (l9.one h),⟨h,trivial⟩⟩
 | agg cs=>obtain⟨vs,rfl,hc⟩:=h;exact⟨vs,rfl,hc⟩
theorem cu.seg{cs:List C}{vs:List Value}(h:cu G w cs vs)(off n:Nat):cu G w (seg cs off n) (Abs.seg vs off n):=by
 obtain⟨b,d⟩:=h.get;refine cu.mk (by simp[Abs.seg,b]) λi c v hc a=>?_
 simp only[Abs.seg,List.getElem?_take,List.getElem?_drop]at hc a;split at hc
 ·rename_i e;rw[if_pos e]at a;exact d _ c v hc a
 ·cases hc
theorem cu.dN{cs cs':List C}{vs vs':List Value}(h:cu G w cs vs)(k:cu G w cs' vs')(off:Nat):cu G w (dN cs off cs') (Abs.dN vs off vs'):=by
 obtain⟨g,j⟩:=h.get;obtain⟨b,d⟩:=k.get;refine cu.mk (by simp[Abs.dN,g,b]) λi c v hc a=>?_
 simp only[Abs.dN,List.getElem?_append,List.getElem?_take,List.getElem?_drop,a6,a8,g,b]at hc a;split at hc
 ·rename_i e;rw[if_pos e]at a;split at hc
  ·rename_i f;rw[if_pos f]at a;split at hc
   ·rename_i l;rw[if_pos l]at a;exact j _ c v hc a
   ·cases hc
  ·rename_i f;rw[if_neg f]at a;exact d _ c v hc a
 ·rename_i e;rw[if_neg e]at a;exact j _ c v hc a
theorem cu.length{cs:List C}{vs:List Value}(h:cu G w cs vs):cs.length=vs.length:=h.get.1
theorem UY{agg:Bool}{cs:List C}{x:V}{vs:List Value}(a:mkV agg cs=some x)(hc:cu G w cs vs) :
  (agg=true->qV G w x (.agg vs.toArray))/\(agg=false->∃v,vs=[v]/\qV G w x v):=by
 unfold mkV at a;split at a
 ·cases a;exact⟨λ_=>⟨vs,rfl,hc⟩,by simp⟩
 ·cases a
  match vs,hc with
  | [v],hc=>exact⟨by simp,λ_=>⟨v,rfl,hc.1⟩⟩
 ·cases a
theorem addr_add(g o j:Nat):(⟨g,o,none⟩:Addr).add j=⟨g,o+j,none⟩:=by unfold Addr.add;split<;>simp_all
theorem ql(T:TypeId)(g off:Nat)(d:TypeDesc)(i:TypeInfo)(b:P.underlying T=some d)(c:P.info? T=some i)(h:I7 d=true)(ls:List Value)(e:ls.length=i.size)
  (hc:∀j v,ls[j]?=some v->w.cell? ⟨g,off+j,none⟩=some v):(loadVar T ⟨g,off,none⟩).run P w=.ok (.agg ls.toArray) w:=by
 have a:(loadCells ⟨g,off,none⟩ ls.length).run P w=.ok ls.toArray w:=run_loadCells_list (P:=P) w ⟨g,off,none⟩ ls λj v f=>by rw[addr_add];exact hc j v f
 have hagg:(isAgg T).run P w=.ok true w:=by
  unfold isAgg;rw[Sem.run_bind,run_underlying b w];cases d<;>simp_all [I7]
 rw[e]at a;simp[loadVar,Sem.run_bind,hagg,sizeOf,typeInfo,c,a]
theorem qj(T:TypeId)(g off:Nat)(d:TypeDesc)(a:P.underlying T=some d)(b:I7 d=false)(v:Value)
  (hc:w.cell? ⟨g,off,none⟩=some v):(loadVar T ⟨g,off,none⟩).run P w=.ok v w:=by
 have hagg:(isAgg T).run P w=.ok false w:=by
  unfold isAgg;rw[Sem.run_bind,run_underlying a w];cases d<;>simp_all [I7]
 simp[loadVar,Sem.run_bind,hagg,hc]
theorem uS{T:TT}(k:T.ok P=true)(h:Inv w0 G S a w){t:TypeId}{p:Operand}(b:o.op=.load t p){agg:Bool}{n:Nat}(l:lk T.shape t=some (agg,n))
  {g off:Nat} (hp:a.eval p=.pointer (some ⟨g,off,none⟩)) {cs:List C} {vs:List Value} (hc:cu G w cs vs) (z:cs.length=n)
  (hcell:∀j v,vs[j]?=some v->w.cell? ⟨g,off+j,none⟩=some v) {x:V} (m:mkV agg cs=some x)
  (c:∀a' w' G',Inv w0 G' (S.puts (fF o (Jw x))) a' w'->K a' w'):o.wp P a w K Q:=by
 obtain⟨d,i,e,q,r,f⟩:=TT.vG k l;obtain⟨s,u⟩:=UY m hc;have A:=hc.length;cases agg with
 | true=>
  refine aW (v:=.agg vs.toArray) (w':=w) ?_ (c _ _ _ (h.dst (rf (s rfl))));have:=ql (w:=w) t g off d i e q f vs (by omega) hcell;unfold execOp;simp only[b,hp,Instr.loadAt,Instr.sureAddr,Sem.run_bind,Sem.run_pure,Result.andThen_ok,this]
 | false=>
  obtain⟨v,rfl,y⟩:=u rfl;refine aW (v:=v) (w':=w) ?_ (c _ _ _ (h.dst (rf y)));have:=qj (w:=w) t g off d e f v (hcell 0 v rfl);unfold execOp;simp only[b,hp,Instr.loadAt,Instr.sureAddr,Sem.run_bind,Sem.run_pure,Result.andThen_ok,this]
theorem aez(h:Inv w0 G S a w){d:Nat}(j:o.dst=some d){cs:List C}{ws:List W}(c:(xW d cs).val S=some ws){vs:List Value}{e:TypeId}(hc:cu G w cs vs)
  (hrun:(execOp a.eval o).run P w=.ok (.value (.pointer (some ⟨w.heap.size,0,none⟩))) (w.alloc (.cells vs.toArray e)))
  (l:∀a' w' G',Inv w0 G' (S.puts ws) a' w'->K a' w'):o.wp P a w K Q:=by
 unfold xW at c;split at c
 case isTrue=>cases c
 rename_i g;simp only[Rd.val]at c;split at c
 ·rename_i m;simp only[Rd.val,zD]at c;subst c;have hbel:Below w.heap.size w (w.alloc (.cells vs.toArray e)):=(Below.refl _ _).alloc (ar _) _;have n:=h.grow hbel;have q:Mv G G w (w.alloc (.cells vs.toArray e)):=⟨λb o f=>⟨f,hbel.cell (p:=⟨b,o,none⟩) (h.sok b o f).1⟩,λk hk=>⟨hk,λ_=>rfl⟩,λi r=>⟨r,rfl⟩⟩;obtain⟨G',s⟩:=n.xW d w.heap.size g m h.below.size
   (by cases t:G.ow w.heap.size with
     | none=>rfl
     | some y=>exact absurd (h.olt _ _ t).2 (Nat.lt_irrefl _))
   (λo f=>absurd (h.sok _ o f).1 (Nat.lt_irrefl _)) (heap_alloc_new w _) (hc.move q)
  refine aW hrun (l _ _ G' ?_);rw[j];exact s
 ·cases c
theorem aaJ(h:Inv w0 G S a w){x:Operand}(b:o.op=.move x\/o.op=.assign x){E:Env}{ws:List W}(d:(eff E o).val S=some ws)
  (e:∀a' w' G',Inv w0 G' (S.puts ws) a' w'->K a' w'):o.wp P a w K Q:=by
 have c:((dM x).bind λa=>.ret (fF o a)).val S=some ws:=by
  rcases b with b | b<;>(unfold eff at d;rw[b]at d;exact d)
 simp only[Rd.aH,zB,Rd.val,zD]at c;obtain⟨av,f,rfl⟩:=c;refine aW (v:=a.eval x) (w':=w) ?_ (e _ _ _ (h.dst (aY h f)));rcases b with b | b<;>(unfold execOp;simp only[b];rfl)
theorem agJ(h:Inv w0 G S a w){c x y:Operand}(g:o.op=.pick c x y){E:Env}{ws:List W}(b:(eff E o).val S=some ws)
  (j:∀a' w' G',Inv w0 G' (S.puts ws) a' w'->K a' w'):o.wp P a w K Q:=by
 unfold eff at b;rw[g]at b;simp only[Rd.aH,zB]at b;obtain⟨av,k,d,l,b⟩:=b;have f:=oZ l (aY h k);split at b
 ·simp only[Rd.aH,zB,Rd.val,zD]at b;obtain⟨av',i,rfl⟩:=b;generalize e:a.eval c=cv at f;cases f
  refine aW (v:=a.eval x) (w':=w) ?_ (j _ _ _ (h.dst (aY h i)));unfold execOp;simp[g,e,asBool]
 ·simp only[Rd.aH,zB,Rd.val,zD]at b;obtain⟨av',i,rfl⟩:=b;generalize e:a.eval c=cv at f;cases f
  refine aW (v:=a.eval y) (w':=w) ?_ (j _ _ _ (h.dst (aY h i)));unfold execOp;simp[g,e,asBool]
 ·cases b
theorem aeB(h:Inv w0 G S a w){e:TypeId}(f:o.op=.alloc e){E:Env}(g:E.tt.ok P=true){ws:List W}(b:(eff E o).val S=some ws)
  (j:∀a' w' G',Inv w0 G' (S.puts ws) a' w'->K a' w'):o.wp P a w K Q:=by
 unfold eff at b;rw[f]at b;simp only at b;split at b
 ·rename_i d cs k c;obtain⟨i,z,l,c,m⟩:=TT.aag g c;refine aez h k b (vs:=z.cells.toList) (e:=e) (lU _ _ m) ?_ j;unfold execOp;simp[f,Instr.alloc,zeroValue,typeInfo,l,c,newVar,newRow]
 ·cases b
theorem agP(h:Inv w0 G S a w){e:TypeId}{x:Operand}(f:o.op=.box e x){E:Env}{ws:List W}(b:(eff E o).val S=some ws)
  (g:∀a' w' G',Inv w0 G' (S.puts ws) a' w'->K a' w'):o.wp P a w K Q:=by
 unfold eff at b;rw[f]at b;simp only at b;split at b
 ·rename_i d i;simp only[Rd.aH,zB]at b;obtain⟨av,j,x',k,b⟩:=b;have l:=oW k (aY h j);obtain⟨vs,c,hc⟩:=l.SX;refine aez h i b (vs:=vs) (e:=e) hc ?_ g;unfold execOp;simp[f,Instr.box,newVar,newRow,c]
 ·cases b
def AN(G:Gh)(k j b:Nat):Prop:=G.ow b=some (.own k j)/\∀len cap,G.ov k j≠.slice (some ⟨b,0,none⟩) len cap
theorem aeC{x:O}{t:Ty}{xs:List t.den}{deep m:Bool}(h:x=.own t xs deep m):∀t xs,¬x.IsT t xs:=by
 rintro t xs (a | ⟨i,a⟩ | a | ⟨i,q,a⟩)<;>rw[h]at a<;>cases a
theorem Inv.addN(h:Inv w0 G S a w)(k j:Nat)(g:∀t xs,¬(aZ (S.aI k) j).IsT t xs):Inv w0 { G with S:=λb o=>G.S b o\/(b<w.heap.size/\AN G k j b) } S a w/\Mv G { G with S:=λb o=>G.S b o\/(b<w.heap.size/\AN G k j b) } w w:=
 h.VI _ (λb o d=>⟨d.1,λi f=>(by rw[d.2.1]at f;cases f),λk' j' t xs deep m _ len cap e c=>by
  rw[d.2.1]at c;cases c
  exact absurd e (d.2.2 len cap)⟩) (λb o d=>(h.iR d.2.1).1) λb o d k' j' t xs l c=>by
  rw[d.2.1]at c;cases c
  exact g t xs l
theorem agL(h:Inv w0 G S a w){t:TypeId}{p:Operand}(L:o.op=.load t p){E:Env}(N:E.tt.ok P=true){ws:List W}(f:(eff E o).val S=some ws)
  (hpart:∀agg n k j i sz off ty xs m,lk E.tt.shape t=some (agg,n)->(dM p).val S=some (.oelt k j i sz off)->aZ (S.aI k) j=.part ty xs m->(Tv o agg n k j i sz off ty xs m).val S=some ws->o.wp P a w K Q)
  (hhole:∀agg n k j i sz off ty xs,lk E.tt.shape t=some (agg,n)->(dM p).val S=some (.oelt k j i sz off)->aZ (S.aI k) j=.tree ty xs->(Vm o agg n k j i sz off ty xs (aeT E o)).val S=some ws->o.wp P a w K Q)
  (O:∀a' w' G',Inv w0 G' (S.puts ws) a' w'->K a' w'):o.wp P a w K Q:=by
 unfold eff at f;rw[L]at f;simp only at f;split at f
 ·cases f
 rename_i agg n u;simp only[Rd.aH,zB]at f;obtain⟨av,R,f⟩:=f;have T:=aY h R;split at f
 ·rename_i b off;simp only[Rd.val]at f;split at f
  ·rename_i cs U;simp only[Rd.val,zB]at f;obtain⟨x,M,f⟩:=f;split at f
   ·rename_i D;simp only[Rd.val,zD]at f;subst f;obtain⟨_,vs,e,hh,hc⟩:=h.box b cs U;refine uS N h L u (g:=G.bk b) (off:=off) T.2 (hc.seg off n) D (λj v f=>?_) M O;rw[cell_of_row w _ _ _ _ _ hh];simp only[Abs.seg,List.getElem?_take,List.getElem?_drop]at f;split at f
    ·simpa using f
    ·cases f
   ·cases f
  ·cases f
 ·rename_i ty x off;simp only[Rd.val,zB]at f;obtain⟨y,V,f⟩:=f;split at f
  ·rename_i D;simp only[Rd.val,zD]at f;subst f;obtain⟨b,of,z,vs,F⟩:=T;have hlen:(seg (ty.cells x) off n).length=n:=D;have s:∀j,j<n->∃d,(ty.cells x)[off+j]?=some d/\(seg (ty.cells x) off n)[j]?=some d:=by
    intro j s;have:j<(seg (ty.cells x) off n).length:=by omega
    refine⟨(seg (ty.cells x) off n)[j],?_,by simp[this]⟩;have e:(seg (ty.cells x) off n)[j]?=some (seg (ty.cells x) off n)[j]:=by simp[this]
    simp only[Abs.seg,List.getElem?_take,List.getElem?_drop]at e;rw[if_pos s]at e;exact e
   refine uS N h L u (g:=b) (off:=of+off) z (cs:=(seg (ty.cells x) off n).map .d) (vs:=(List.range n).map λj=>vs (off+j)) ?_ (by simp[hlen]) ?_ V O
   ·refine cu.mk (by simp[hlen]) λj c v hc f=>?_
    simp only[List.getElem?_map,Option.map_eq_some_iff]at hc f;obtain⟨d,X,rfl⟩:=hc;obtain⟨j',l,rfl⟩:=f;have q:j<n:=by
     have:=(zC.1 l).1;simpa using this
    have:j'=j:=by simp[q]at l;exact l.symm
    subst this;obtain⟨d',A,B⟩:=s j' q;rw[X]at B;cases B
    exact (F _ _ A).2.2
   ·intro j v f;simp only[List.getElem?_map,Option.map_eq_some_iff]at f;obtain⟨j',l,rfl⟩:=f;have q:j<n:=by
     have:=(zC.1 l).1;simpa using this
    have:j'=j:=by simp[q]at l;exact l.symm
    subst this;obtain⟨d',A,B⟩:=s j' q;rw[Nat.add_assoc];exact (F _ _ A).1
  ·cases f
 ·rename_i k j i sz off;simp only[Rd.val]at f;split at f
  ·rename_i ty xs deep m hown;split at f
   case isFalse=>cases f
   rename_i Y;simp only[Rd.val,zB]at f;obtain⟨x,M,y,V,f⟩:=f;split at f
   ·rename_i D;simp only[Rd.val,zD]at f;subst f;obtain⟨hlk,b,len,cap,C,z⟩:=T;obtain⟨h',hm⟩:=h.addN k j (aeC hown);have hO:=h.owns k j;rw[hown]at hO;rcases hO with ⟨he,_⟩ | ⟨b',cap',arr,e,vs,fps,H,hb,hcap,hmax,hasz,hfb,hc,Z,hf,hdis,_⟩
    ·rw[C]at he;cases he
    rw[C]at H;injection H with r e2 e3;injection r with r;injection r with r _ _;subst r;have hlen:(seg (ty.cells x) off n).length=n:=D;have s:∀j,j<n->∃d,(ty.cells x)[off+j]?=some d/\(seg (ty.cells x) off n)[j]?=some d:=by
     intro j s;have:j<(seg (ty.cells x) off n).length:=by omega
     refine⟨(seg (ty.cells x) off n)[j],?_,by simp[this]⟩;have e:(seg (ty.cells x) off n)[j]?=some (seg (ty.cells x) off n)[j]:=by simp[this]
     simp only[Abs.seg,List.getElem?_take,List.getElem?_drop]at e;rw[if_pos s]at e;exact e
    refine uS N h' L u (g:=b) (off:=i*sz+off) z (cs:=(seg (ty.cells x) off n).map .d) (vs:=(List.range n).map λj=>vs i (off+j)) ?_ (by simp[hlen]) ?_ V O
    ·refine cu.mk (by simp[hlen]) λj' c v I f=>?_
     simp only[List.getElem?_map,Option.map_eq_some_iff]at I f;obtain⟨d,X,rfl⟩:=I;obtain⟨j'',l,rfl⟩:=f;have q:j'<n:=by
      have:=(zC.1 l).1;simpa using this
     have:j''=j':=by simp[q]at l;exact l.symm
     subst this;obtain⟨d',A,B⟩:=s j'' q;rw[X]at B;cases B
     refine (Z i x _ d M A).Jb (λb o u=>.inl u) λc o hcc _=>.inr ?_
     have:=hf _ _ _ hcc;refine⟨(h.olt _ _ this.1).2,this.1,λlen' cap'' J=>?_⟩;rw[C]at J;injection J with r _ _;injection r with r;injection r with r _ _;exact this.2 r.symm
    ·intro j' v f;simp only[List.getElem?_map,Option.map_eq_some_iff]at f;obtain⟨j'',l,rfl⟩:=f;have q:j'<n:=by
      have:=(zC.1 l).1;simpa using this
     have:j''=j':=by simp[q]at l;exact l.symm
     subst this;obtain⟨d',A,B⟩:=s j'' q;have:=hc i x _ d' M A;rw[cell_of_row w _ _ _ _ _ hb,Nat.add_assoc,<- Y];exact this
   ·cases f
  ·rename_i hown;exact hpart _ _ _ _ _ _ _ _ _ _ u R hown f
  ·rename_i hown;exact hhole _ _ _ _ _ _ _ _ _ u R hown f
  ·cases f
 ·cases f
theorem UI(h:Inv w0 G S a w){s:TypeId}{p:Operand}{f:Nat}(u:o.op=.fieldAddr s p f){E:Env}(y:E.tt.ok P=true){ws:List W}(c:(eff E o).val S=some ws)
  (m:∀a' w' G',Inv w0 G' (S.puts ws) a' w'->K a' w'):o.wp P a w K Q:=by
 unfold eff at c;rw[u]at c;simp only at c;split at c
 ·cases c
 rename_i fo agg n hf;obtain⟨F,fd,d,i,z,A,hoff,B,C,_,D,hpos⟩:=TT.XP y hf;simp only[Rd.aH,zB]at c;obtain⟨av,H,c⟩:=c;have l:=aY h H;have run:∀g off,a.eval p=.pointer (some ⟨g,off,none⟩)->(execOp a.eval o).run P w=.ok (.value (.pointer (some ⟨g,off+fo,none⟩))) w:=by
  intro g off hp;have q:i.size≠0:=by omega
  unfold execOp;simp only[u,hp,Instr.fieldAt,Sem.run_bind,run_underlying z,Result.andThen_ok,A,Instr.sureAddr,Sem.run_pure,fieldPlace,sizeOf,typeInfo,run_program,C];simp[q,hoff,addr_add]
 split at c
 ·rename_i b off;simp only[Rd.val,zD]at c;subst c;exact aW (run _ _ l.2) (m _ _ _ (h.dst (av:=.v (.one (.ptr b (off+fo)))) ⟨l.1,rfl⟩))
 ·rename_i ty x off;simp only[Rd.val,zD]at c;subst c;obtain⟨b,of,e,I⟩:=l;refine aW (run _ _ e) (m _ _ _ (h.dst (av:=.elt ty x (off+fo)) ⟨b,of,?_,I⟩));rw[Nat.add_assoc]
 ·rename_i k j i sz off;simp only[Rd.val,zD]at c;subst c;obtain⟨r,b,len,cap,t,e⟩:=l;refine aW (run _ _ e) (m _ _ _ (h.dst (av:=.oelt k j i sz (off+fo)) ⟨r,b,len,cap,t,?_⟩));rw[Nat.add_assoc]
 ·cases c
end ops
theorem wG{α:Type}{xs:List α}{n:Int}{x:α}(h:idx xs n=some x):0<=n/\n<xs.length/\xs[n.toNat]?=some x:=by
 unfold idx at h;split at h
 ·rename_i a;have:=(zC.1 h).1;exact⟨a,by omega,h⟩
 ·cases h
theorem oJ(b:ByteArray):b.data.toList.length=b.size:=by rw[Array.length_toList];rfl
theorem qU(b:ByteArray):b.toList=b.data.toList:=by
 have key:∀(n i:Nat) (r:List UInt8),b.size-i=n->ByteArray.toList.loop b i r=r.reverse++b.data.toList.drop i:=by
  intro n;induction n with
  | zero=>
   intro i r d;unfold ByteArray.toList.loop;have a:¬i<b.size:=by omega
   rw[if_neg a];have:b.data.toList.drop i=[]:=by
    rw[List.drop_eq_nil_iff];have:=oJ b;omega
   rw[this];simp
  | succ n ih=>
   intro i r d;unfold ByteArray.toList.loop;have a:i<b.size:=by omega
   rw[if_pos a,ih (i+1) _ (by omega)];have c:i<b.data.toList.length:=by rw[oJ];exact a
   rw[List.drop_eq_getElem_cons c];have:b.get! i=b.data.toList[i]:=by
    have e:i<b.data.size:=a;simp only[ByteArray.get!,Array.getElem_toList];exact getElem!_pos b.data i e
   rw[this];simp
 have:=key _ 0 [] rfl;simpa [ByteArray.toList] using this
section ops
variable {P:Program} {w0:Bs} {G:Gh} {S:St} {a:Act} {w:World} {o:Oper} {K:Act->World->Prop} {Q:Exit->Act->World->Prop}
theorem run_indexAt(T e:TypeId)(i:TypeInfo)(a:P.underlying T=some (.slice e))(b:P.info? e=some i)(g off len cap:Nat)(k:IntKind)(n:Int)(c:0<=n)(d:n<len) :
  (Instr.indexAt T (.slice (some ⟨g,off,none⟩) len cap) (.int k n)).run P w=.ok (.pointer (some ⟨g,off+n.toNat*i.size,none⟩)) w:=by
 simp[Instr.indexAt,asIntOf,run_underlying a,c,d,sizeOf,typeInfo,b,addr_add]
theorem UH(h:Inv w0 G S a w){T:TypeId}{x i:Operand}(I:o.op=.indexAddr T x i){E:Env}(O:E.tt.ok P=true){ws:List W}(c:(eff E o).val S=some ws)
  (B:∀a' w' G',Inv w0 G' (S.puts ws) a' w'->K a' w'):o.wp P a w K Q:=by
 unfold eff at c;rw[I]at c;simp only at c;split at c
 ·cases c
 rename_i t R;obtain⟨e,inf,z,U,V,D,_⟩:=TT.jE O R;simp only[Rd.aH,zB]at c;obtain⟨av,X,av',F,n,Y,c⟩:=c;have q:=aY h X;obtain⟨kk,Z⟩:=wZ Y (aY h F);have run:∀g off len cap,a.eval x=.slice (some ⟨g,off,none⟩) len cap->0<=n->n<len->(execOp a.eval o).run P w=.ok (.value (.pointer (some ⟨g,off+n.toNat*t.size,none⟩))) w:=by
  intro g off len cap H u p;have:=run_indexAt (w:=w) T e inf U V g off len cap kk n u p;rw[D]at this;unfold execOp;simp[I,H,Z,this]
 have stable:∀(xs:List t.den) (y:t.den) (v:Value),Rep w G.S (.list t xs) v->a.eval x=v->idx xs n=some y->∃v',(execOp a.eval o).run P w=.ok (.value v') w/\jc G w (.elt t y 0) v':=by
  intro xs y v hrep H r;obtain⟨u,p,s⟩:=wG r;cases hrep with
  | nil=>simp at p;omega
  | emp=>simp at p;omega
  | list _ _ b off cap vs hcap hc q=>
   refine⟨_,run b off _ cap H u p,b,off+n.toNat*t.size,rfl,λj=>vs n.toNat j,λj d J=>?_⟩;have:=hc _ _ _ _ s J;rw[Nat.add_assoc];exact⟨this.1,this.2,q _ _ _ _ s J⟩
 split at c
 ·rename_i t' xs;split at c
  ·rename_i l;subst l;simp only[Rd.val,zB,zD]at c;obtain⟨y,r,rfl⟩:=c;obtain⟨v',hrun,hrep⟩:=stable xs y _ q rfl r;exact aW hrun (B _ _ _ (h.dst hrep))
  ·cases c
 ·rename_i k j;simp only[Rd.val]at c;split at c
  ·rename_i t' xs deep m hown;split at c
   ·rename_i l;subst l;simp only[Rd.val,zB,zD]at c;obtain⟨y,r,rfl⟩:=c;obtain⟨u,p,s⟩:=wG r;have A:=h.owns k j;rw[hown]at A;rcases A with ⟨_,C⟩ | ⟨b,cap,arr,e',vs,fps,f,_⟩
    ·subst C;simp at p;omega
    refine aW (run b 0 xs.length cap (by rw[q.2.1];exact f) u p) (B _ _ _ (h.dst (av:=.oelt k j n.toNat t'.size 0) ⟨q.1,b,xs.length,cap,f,?_⟩));simp
   ·cases c
  ·rename_i t' xs hown;split at c
   ·rename_i l;subst l;simp only[Rd.val,zB,zD]at c;obtain⟨y,r,rfl⟩:=c;obtain⟨v',hrun,hrep⟩:=stable xs y _ (h.Uy hown) q.2.1 r;exact aW hrun (B _ _ _ (h.dst hrep))
   ·cases c
  ·rename_i t' xs m hown;split at c
   ·rename_i l;subst l;simp only[Rd.val,zB,zD]at c;obtain⟨y,r,rfl⟩:=c;obtain⟨u,p,s⟩:=wG r;have A:=h.owns k j;rw[hown]at A;rcases A with ⟨_,C⟩ | ⟨b,cap,arr,e',vs,fps,f,_⟩
    ·subst C;simp at p;omega
    refine aW (run b 0 xs.length cap (by rw[q.2.1];exact f) u p) (B _ _ _ (h.dst (av:=.oelt k j n.toNat t'.size 0) ⟨q.1,b,xs.length,cap,f,?_⟩));simp
   ·cases c
  ·rename_i t' xs i0 q0 hown;split at c
   ·rename_i l;subst l;simp only[Rd.val,zB,zD]at c;obtain⟨y,r,rfl⟩:=c;obtain⟨u,p,s⟩:=wG r;have A:=h.owns k j;rw[hown]at A;obtain⟨_,_,⟨b,cap,arr,e',vs,fps,f,_⟩,_⟩:=A;refine aW (run b 0 xs.length cap (by rw[q.2.1];exact f) u p) (B _ _ _ (h.dst (av:=.oelt k j n.toNat t'.size 0) ⟨q.1,b,xs.length,cap,f,?_⟩));simp
   ·cases c
  ·rename_i t' xs hown;split at c
   ·rename_i l;subst l;simp only[Rd.val,zB]at c;obtain⟨y,r,c⟩:=c;obtain⟨u,p,s⟩:=wG r;have A:=h.owns k j;rw[hown]at A;obtain⟨fp,L,M,q3⟩:=A;split at c
    ·simp only[Rd.val,zD]at c;subst c;rcases iD.DT (S':=λ_ _=>False) M L (λ_ _ h=>h.elim)with ⟨_,C⟩ | ⟨b,cap,arr,e',vs,fps,f,_⟩
     ·subst C;simp at p;omega
     refine aW (run b 0 xs.length cap (by rw[q.2.1];exact f) u p) (B _ _ _ (h.dst (av:=.oelt k j n.toNat t'.size 0) ⟨q.1,b,xs.length,cap,f,?_⟩));simp
    simp only[Rd.val,zD]at c;subst c;have N:iD w G.S t' xs n.toNat (G.ov k j) (fM G k j):=(iD.DT M L q3).at n.toNat;have F:=h.tJ k j (.part t' xs n.toNat) N;rcases N with ⟨_,C⟩ | ⟨b,cap,arr,e',vs,fps,f,_⟩
    ·subst C;simp at p;omega
    refine aW (run b 0 xs.length cap (by rw[q.2.1];exact f) u p) (B _ _ _ (F.dst (av:=.oelt k j n.toNat t'.size 0) ⟨q.1,b,xs.length,cap,f,?_⟩));simp
   ·cases c
  ·cases c
 ·cases c
theorem aer(h:Inv w0 G S a w){T:TypeId}{x i:Operand}(g:o.op=.index T x i){E:Env}(k:E.tt.ok P=true){ws:List W}(b:(eff E o).val S=some ws)
  (l:∀a' w' G',Inv w0 G' (S.puts ws) a' w'->K a' w'):o.wp P a w K Q:=by
 unfold eff at b;rw[g]at b;simp only at b;split at b
 ·rename_i m;have p:=TT.Lu k m;simp only[Rd.aH,zB]at b;obtain⟨av,q,d,r,b⟩:=b;have j:=oZ r (aY h q);split at b
  ·rename_i s;simp only[Rd.aH,zB,Rd.val,zD]at b;obtain⟨av',t,n,u,c,y,rfl⟩:=b;obtain⟨kk,z⟩:=wZ u (aY h t);obtain⟨A,D,B⟩:=wG y;generalize f:a.eval x=xv at j;cases j with
   | str v=>
    refine aW (v:=.int .u8 c.toNat) (w':=w) ?_ (l _ _ _ (h.dst (Rep.int _ _)));have hc:v[n.toNat]?=some c:=by
     have e:n.toNat<v.size:=by
      have:=oJ v;omega
     rw[getElem?_pos v n.toNat e];have:v.data.toList[n.toNat]?=some v[n.toNat]:=by
      have C:n.toNat<v.data.size:=e;rw[Array.getElem?_toList,getElem?_pos v.data n.toNat C];rfl
     rw[B]at this;exact this.symm
    unfold execOp;simp[g,f,z,Instr.index,asIntOf,run_underlying p,A,hc]
  ·cases b
 ·cases b
theorem kz.get{xs:List V}{us:List Value}(h:kz G w xs us):xs.length=us.length/\∀(i:Nat) (x:V) (u:Value),xs[i]?=some x->us[i]?=some u->qV G w x u:=by
 induction xs generalizing us with
 | nil=>cases us with
  | nil=>exact⟨rfl,λi x u c=>by simp at c⟩
  | cons u us=>exact h.elim
 | cons x xs ih=>cases us with
  | nil=>exact h.elim
  | cons u us=>
   obtain⟨d,e⟩:=ih h.2
   refine⟨by simp[d],λi y v a b=>?_⟩
   cases i with
   | zero=>simp at a b;subst a;subst b;exact h.1
   | succ i=>simp at a b;exact e i y v a b
theorem Zj(h:Inv w0 G S a w){x:Operand}{i:Nat}(d:o.op=.extract x i){E:Env}{ws:List W}(b:(eff E o).val S=some ws)
  (g:∀a' w' G',Inv w0 G' (S.puts ws) a' w'->K a' w'):o.wp P a w K Q:=by
 unfold eff at b;rw[d]at b;simp only[Rd.aH,zB]at b;obtain⟨av,j,b⟩:=b;have k:=aY h j;split at b
 ·rename_i vs;simp only[Rd.val,zB,zD]at b;obtain⟨y,e,rfl⟩:=b;obtain⟨us,l,c⟩:=k;obtain⟨n,m⟩:=c.get;have f:i<us.length:=by have:=(zC.1 e).1;omega
  refine aW (v:=us[i]) (w':=w) ?_ (g _ _ _ (h.dst (rf (m i y us[i] e (by simp[f])))));unfold execOp;simp[d,l,Instr.extract,f]
 ·cases b
theorem Yz{p q:Str}{u v:Value}(c:Rep w G.S (.str p) u)(d:Rep w G.S (.str q) v)(f:p.length+q.length<=34359738368)(T:TypeId) :
  ∃r,(binOp .add T u v).run P w=.ok r w/\Rep w G.S (.str (p++q)) r:=by
 generalize a:D.str p=dp at c;generalize b:D.str q=dq at d;cases c<;>cases a
 cases d<;>cases b
 rename_i s s';rw[oJ,oJ]at f;refine⟨.string (s++s'),?_,?_⟩
 ·have:¬(((s.size+s'.size:Nat):Int)>IntKind.i64.max):=by
   have:IntKind.i64.max=9223372036854775807:=by decide
   rw[this];omega
  simp only[binOp,Op.stringOp];rw[if_neg this];rfl
 ·have e:s.data.toList++s'.data.toList=(s++s').data.toList:=by simp
  rw[e];exact .str _
theorem afF{op:BinOp}{x y z:D}{u v:Value}(a:akC op x y=some z)(b:Rep w G.S x u)(c:Rep w G.S y v)(T:TypeId)
  (e:∀p q,x=.bool p->y=.bool q->P.underlying T=some .bool) :
  ∃r,(binOp op T u v).run P w=.ok r w/\Rep w G.S z r:=by
 unfold akC at a;split at a
 ·rename_i k p k' q;split at a
  ·rename_i hk;subst hk;cases b;cases c
   unfold binI at a;split at a<;>cases a<;>refine⟨_,?_,by first | exact Rep.int _ _ | exact Rep.bool _⟩<;>simp[binOp,Op.intArith,Op.intCmp,Op.intBits]<;>rfl
  ·cases a
 ·rename_i p q;cases b with
  | str s=>
  cases c with
  | str s'=>
   unfold binS at a;split at a
   all_goals
    first
     | (cases a;refine⟨_,?_,Rep.bool _⟩;simp[binOp,Op.stringOp,qU];done)
     | (cases a;refine⟨_,?_,Rep.bool _⟩;simp only[binOp,Op.stringOp,qU];rfl)
     | cases a
 ·rename_i p q;cases b;cases c
  have d:=e p q rfl rfl;unfold binB at a;split at a
  ·cases a;exact⟨_,run_eql_bool w T p q d,Rep.bool _⟩
  ·cases a;exact⟨_,run_neq_bool w T p q d,Rep.bool _⟩
  ·cases a
 ·cases a
end ops
theorem RU(d e:D):∀(ds es:List D),ds.length=es.length->Cf (d::ds) (e::es)=(eqD d e&&Cf ds es)
 | [],[],_=>by simp[Cf]
 | _::_,_::_,_=>rfl
theorem Ju:∀(b c f g:List D),b.length=c.length->f.length=g.length->Cf (b++f) (c++g)=(Cf b c&&Cf f g)
 | [],[],f,g,_,_=>by simp[Cf]
 | d::b,e::c,f,g,j,i=>by
  have a:b.length=c.length:=by simpa using j
  simp only[List.cons_append];rw[RU _ _ _ _ (by simp[a,i]),RU _ _ _ _ a,Ju b c f g a i,Bool.and_assoc]
 | [],_::_,_,_,h,_=>by simp at h
 | _::_,[],_,_,h,_=>by simp at h
theorem IY:∀ {ks:List Kd} {cs:List C} {ds:List D},X9 ks cs=some ds->cs=ds.map .d/\ds.map kd=ks
 | [],[],ds,h=>by simp only[X9,zD]at h;subst h;exact⟨rfl,rfl⟩
 | [],_::_,ds,h=>by simp[X9]at h
 | _::_,[],ds,h=>by simp[X9]at h
 | k::ks,c::cs,ds,h=>by
  simp only[X9]at h;split at h
  ·rename_i d a;split at h
   ·rename_i ds' b;cases h
    obtain⟨e,f⟩:=IY b;unfold cKd at a;split at a
    ·split at a
     ·rename_i hk;cases a
      exact⟨by rw[e];rfl,by simp[hk,f]⟩
     ·cases a
    ·cases a
   ·cases h
  ·cases h
section eqs
variable {P:Program} {w:World} {S:Nat->Nat->Prop}
def J6(w:World)(S:Nat->Nat->Prop)(ds:List D)(vs:List Value):Prop:=ds.length=vs.length/\∀(i:Nat) (d:D) (v:Value),ds[i]?=some d->vs[i]?=some v->Rep w S d v
theorem J6.seg{ds:List D}{vs:List Value}(h:J6 w S ds vs)(o n:Nat):J6 w S ((ds.drop o).take n) ((vs.drop o).take n):=by
 refine⟨by simp[h.1],λi d v a b=>?_⟩;rw[List.getElem?_take]at a b;split at a
 ·rename_i c;rw[if_pos c]at b;rw[List.getElem?_drop]at a b;exact h.2 _ d v a b
 ·cases a
theorem NW{d:D}{v:Value}{k:IntKind}(hk:kd d=.int k)(h:Rep w S d v):∃n,d=.int k n/\v=.int k n:=by
 cases h<;>simp only[kd]at hk<;>cases hk
 exact⟨_,rfl,rfl⟩
theorem Jp{d:D}{v:Value}(hk:kd d=.bool)(h:Rep w S d v):∃b,d=.bool b/\v=.bool b:=by
 cases h<;>simp only[kd]at hk<;>cases hk
 exact⟨_,rfl,rfl⟩
theorem NV{d:D}{v:Value}(hk:kd d=.str)(h:Rep w S d v):∃s:ByteArray,d=.str s.data.toList/\v=.string s:=by
 cases h<;>simp only[kd]at hk<;>cases hk
 exact⟨_,rfl,rfl⟩
def yM(P:Program)(t:TypeId)(vs:List Value):Value:=match P.underlying t with
 | some (.struct _)=>.agg vs.toArray
 | _=>vs.headD undef
theorem WO{t:TypeId}{ks:List Kd}{n:Nat}(hk:QF P n t=some ks)(f:ks.length=P.cellsOf t){vs:List Value}{off:Nat}(g:off+ks.length<=vs.length) :
  (part t vs.toArray off).run P w=.ok (yM P t ((vs.drop off).take ks.length)) w:=by
 cases n with
 | zero=>simp[QF]at hk
 | succ n=>
  rw[QF]at hk;have one:∀d,P.underlying t=some d->I7 d=false->ks.length=1->(match d with | .struct _=>false | _=>true)=true->(part t vs.toArray off).run P w=.ok (yM P t ((vs.drop off).take ks.length)) w:=by
   intro d a m h e;have hagg:(isAgg t).run P w=.ok false w:=by
    unfold isAgg;rw[Sem.run_bind,run_underlying a w];cases d<;>simp_all [I7]
   have b:off<vs.length:=by omega
   have j:yM P t ((vs.drop off).take ks.length)=vs[off]:=by
    unfold yM;rw[a];have:((vs.drop off).take ks.length).headD undef=vs[off]:=by
     rw[h,List.drop_eq_getElem_cons b];rfl
    cases d<;>first | exact this | simp at e
   rw[j];simp[part,hagg,b]
  split at hk
  ·rename_i a;cases hk;exact one _ a rfl rfl rfl
  ·rename_i k a;cases hk;exact one _ a rfl rfl rfl
  ·rename_i a;cases hk;exact one _ a rfl rfl rfl
  ·rename_i fs a;have hagg:(isAgg t).run P w=.ok true w:=by
    unfold isAgg;rw[Sem.run_bind,run_underlying a w];rfl
   have hinfo:∃i,P.info? t=some i/\i.size=P.cellsOf t:=by
    unfold Program.underlying at a;cases c:P.info? t with
    | none=>rw[c]at a;cases a
    | some i=>exact⟨i,rfl,by simp[Program.cellsOf,c]⟩
   obtain⟨i,c,l⟩:=hinfo;unfold yM;rw[a];simp[part,hagg,sizeOf,typeInfo,c,l,<- f]
  ·cases hk
theorem XU:∀(n m:Nat) (t:TypeId) (ks:List Kd) (ds es:List D) (vs us:List Value),QF P n t=some ks->ds.map kd=ks->es.map kd=ks->J6 w S ds vs->J6 w S es us ->
  (Op.equalIn (n+m) t (yM P t vs) (yM P t us)).run P w=.ok (Cf ds es) w
 | 0,m,t,ks,ds,es,vs,us,hk,_,_,_,_=>by simp[QF]at hk
 | n+1,m,t,ks,ds,es,vs,us,hk,x,y,q,c=>by
  have Q:n+1+m=(n+m)+1:=by omega
  rw[Q];rw[QF]at hk;split at hk
  ·rename_i i;cases hk
   obtain⟨d,rfl,j⟩:=List.map_eq_singleton_iff.1 x;obtain⟨e,rfl,o⟩:=List.map_eq_singleton_iff.1 y;have p:=q.1;match vs,p with
   | [v],_=>
   match us,c with
   | [u],c=>
    obtain⟨a,rfl,rfl⟩:=Jp j (q.2 0 _ _ rfl rfl);obtain⟨b,rfl,rfl⟩:=Jp o (c.2 0 _ _ rfl rfl);simp only[yM,i,List.headD_cons];exact run_equalIn_bool' w (n+m) t a b i
   | [],c=>simp[J6]at c
   | _::_::_,c=>simp[J6]at c
  ·rename_i k i;cases hk
   obtain⟨d,rfl,j⟩:=List.map_eq_singleton_iff.1 x;obtain⟨e,rfl,o⟩:=List.map_eq_singleton_iff.1 y;have p:=q.1;match vs,p with
   | [v],_=>
   match us,c with
   | [u],c=>
    obtain⟨a,rfl,rfl⟩:=NW j (q.2 0 _ _ rfl rfl);obtain⟨b,rfl,rfl⟩:=NW o (c.2 0 _ _ rfl rfl);simp only[yM,i,List.headD_cons];exact run_equalIn_int w (n+m) t k k a b i
   | [],c=>simp[J6]at c
   | _::_::_,c=>simp[J6]at c
  ·rename_i i;cases hk
   obtain⟨d,rfl,j⟩:=List.map_eq_singleton_iff.1 x;obtain⟨e,rfl,o⟩:=List.map_eq_singleton_iff.1 y;have p:=q.1;match vs,p with
   | [v],_=>
   match us,c with
   | [u],c=>
    obtain⟨a,rfl,rfl⟩:=NV j (q.2 0 _ _ rfl rfl);obtain⟨b,rfl,rfl⟩:=NV o (c.2 0 _ _ rfl rfl);simp only[yM,i,List.headD_cons];rw[run_equalIn_string w (n+m) t a b i,qU,qU];rfl
   | [],c=>simp[J6]at c
   | _::_::_,c=>simp[J6]at c
  ·rename_i fs i;split at hk
   ·cases hk
   rename_i I;simp only[zB]at hk;obtain⟨k,hk,r⟩:=hk;split at r
   case isFalse=>cases r
   rename_i R;obtain rfl:=aR r;have z:P.fieldsOf t=fs:=by simp[Program.fieldsOf,i]
   simp only[yM,i];rw[run_equalIn_struct w (n+m) t _ _ (by rw[z];exact i) (by simpa using I),z];have key:∀(fl:List Field) (off:Nat) (kk:List Kd),XT P (QF P n) off fl=some kk->off+kk.length<=ds.length->((ds.drop off).take kk.length).map kd=kk->((es.drop off).take kk.length).map kd=kk ->
     (Op.eqFields (n+m) vs.toArray us.toArray fl).run P w=.ok (Cf ((ds.drop off).take kk.length) ((es.drop off).take kk.length)) w:=by
    intro fl;induction fl with
    | nil=>
     intro off kk g _ _ _;simp only[XT,zD]at g;subst g;simp[Op.eqFields,Cf]
    | cons f fl ih=>
     intro off kk g A J K;simp only[XT]at g;split at g
     case isFalse=>cases g
     rename_i hf;simp only[zB]at g;obtain⟨h,s,g⟩:=g;split at g
     case isFalse=>cases g
     rename_i B;rw[Option.map_eq_some_iff]at g;obtain⟨H,L,rfl⟩:=g;have C:=q.1;have E:=c.1;have F:ds.length=es.length:=by
      have:=congrArg List.length (x.trans y.symm);simpa using this
     rw[a6]at A;have G:∀(l:List D),(l.drop off).take (h++H).length=(l.drop off).take h.length++(l.drop (off+h.length)).take H.length:=by
      intro l;rw[a6,List.take_add,List.drop_drop]
     rw[G]at J K ⊢;rw[G];rw[List.map_append]at J K;have len1:∀(l:List D),off+(h.length+H.length)<=l.length->(((l.drop off).take h.length).map kd).length=h.length:=by
      intro l Z;simp;omega
     obtain⟨T,U⟩:=List.append_inj J (len1 ds A);obtain⟨V,W⟩:=List.append_inj K (len1 es (by omega));have X:=WO (w:=w) s B (vs:=vs) (off:=off) (by omega);have Y:=WO (w:=w) s B (vs:=us) (off:=off) (by omega);have M:=XU n m f.type h ((ds.drop off).take h.length) ((es.drop off).take h.length) ((vs.drop off).take h.length) ((us.drop off).take h.length) s T V (q.seg _ _) (c.seg _ _);have N:=ih (off+h.length) H L (by omega) U W;rw[Ju _ _ _ _ (by simp[F]) (by simp[F])];simp only[Op.eqFields,hf.1,ne_eq,not_false_eq_true,if_true,Sem.run_bind,hf.2,X,Y,Result.andThen_ok,M];cases Cf ((ds.drop off).take h.length) ((es.drop off).take h.length)with
     | false=>simp
     | true=>simpa using N
   have C:k.length=ds.length:=by rw[<- x];simp
   have E:k.length=es.length:=by rw[<- y];simp
   have G:(ds.drop 0).take k.length=ds:=by rw[C];simp
   have O:(es.drop 0).take k.length=es:=by rw[E];simp
   have:=key fs.toList 0 k hk (by omega) (by rw[G];exact x) (by rw[O];exact y);rw[G,O]at this;exact this
  ·cases hk
end eqs
