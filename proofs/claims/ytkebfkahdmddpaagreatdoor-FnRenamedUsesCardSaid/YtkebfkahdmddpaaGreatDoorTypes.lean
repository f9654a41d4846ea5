import Derived.WalkKit
import Derived.Test.YtkebfkahdmddpaaGreatDoorProg
import Derived.Lib.LaidTab
import Derived.Lib.ItoaNum
import Derived.Shelf.Strconv.Itoa3
import Derived.KernelRfl
/- Typed data for the Go structures of the program, and the universe of one-cell data. Written by gentypes.py. -/
theorem aa{α:Type _}(a b:α):(bif false then a else b)=b:=rfl
theorem ac{α:Type _}(a b:α):(bif true then a else b)=a:=rfl
theorem ae{p:Prop}[Decidable p](h:¬p):decide p=false:=decide_eq_false h
theorem al{p:Prop}[Decidable p](h:p):decide p=true:=decide_eq_true h
theorem aq{α:Type _}{a:α}(y:α){l:List α}(h:a ∈ l):a ∈ y::l:=List.mem_cons_of_mem y h
theorem aw{α:Type _}{a:α}{l:List α}:a ∈ a::l:=List.mem_cons_self
theorem az(n:Nat):n<=n:=Nat.le_refl n
theorem aD(n:Nat):((n:Int)).toNat=n:=Int.toNat_natCast n
theorem aE{n m k:Nat}(h:n<m)(g:m<=k):n<k:=Nat.lt_of_lt_of_le h g
theorem aL:(false=true)=False:=Bool.false_eq_true
theorem aM:(!true)=false:=rfl
theorem aR{α:Type _}{l:Array α}{i:Nat}{a:α}:l[i]?=some a ↔ ∃ h:i<l.size,l[i]=a:=Array.getElem?_eq_some_iff
theorem a6{α:Type _}{a b:α}(h:some a=some b):a=b:=Option.some.inj h
theorem a7{α:Type _}{a b:List α}:(a++b).length=a.length+b.length:=List.length_append
theorem a8{α:Type _}(a b c:List α):a++b++c=a++(b++c):=List.append_assoc a b c
theorem ba{α:Type _}{i:Nat}{l:List α}:(l.take i).length=min i l.length:=List.length_take
theorem bc{α:Type _}{a b:α}{l:List α}:a ∈ b::l ↔ a=b\/a ∈ l:=List.mem_cons
theorem zA{α β:Type _}(a:α)(f:α->Option β):(some a).bind f=f a:=rfl
theorem zB{α β:Type _}{o:Option α}{f:α->Option β}{b:β}:o.bind f=some b↔∃a,o=some a/\f a=some b:=Option.bind_eq_some_iff
theorem zC{α:Type _}{l:List α}{i:Nat}{a:α}:l[i]?=some a↔∃h:i<l.length,l[i]=a:=List.getElem?_eq_some_iff
theorem zD{α:Type _}(a b:α):(some a=some b)=(a=b):=Option.some.injEq a b
theorem zE{α:Type _}{l:List α}{i:Nat}{a:α}:l.getD i a=l[i]?.getD a:=List.getD_eq_getElem?_getD
theorem zF{α:Type _}{l:List α}{i:Nat}(h:i<l.length):l[i]?=some l[i]:=List.getElem?_eq_getElem h
theorem zG{α:Type _}{l:List α}{i:Nat}{a:α}(h:l[i]?=some a):a∈l:=List.mem_of_getElem? h
theorem zH{α β:Type _}{f:α->β}{l:List α}{b:β}{bs:List β}:l.map f=b::bs↔∃a c,l=a::c/\f a=b/\c.map f=bs:=List.map_eq_cons_iff
theorem zI(a b:Bool):((a&&b)=true)=(a=true/\b=true):=Bool.and_eq_true a b
theorem zJ{α:Type _}{l:List α}{i:Nat}(h:l.length<=i):l[i]?=none:=List.getElem?_eq_none h
namespace Go.Abs
abbrev Str:=List UInt8
structure iQ where
 cell:Int
 row:Int
structure dm where
 cells:List Int
 orig:List iQ
structure bJ where
 kind:Int
 n:Int
 step:Int
 text:Str
 list:List bJ
 columns:List Str
 rows:List dm
structure aA where
 kind:Int
 n:Int
 pos:Int
 text:Str
structure af where
 kind:Int
 n:Int
 text:Str
 args:List af
structure aj where
 id:Int
 version:Int
 kind:Int
 name:Str
 code:Str
 n:Int
structure aC where
 cells:List aj
structure bM where
 b:List Int
 i:Int
 h:Int
structure aO where
 kind:Int
 name:Str
 expr:af
 value:bJ
 pos:Int
structure GRd where
 toks:List aA
 i:Int
 stop:Int
 bad:Int
structure aS where
 toks:List aA
 i:Int
 bad:Int
def jB(x:bJ):bJ:=⟨x.kind,x.n,x.step,x.text,x.list,x.columns,x.rows⟩
def ah(x:af):af:=⟨x.kind,x.n,x.text,x.args⟩
theorem aH(x:af):ah x=x:=by cases x;simp[ah]
def jW(x:aO):aO:=⟨x.kind,x.name,ah x.expr,jB x.value,x.pos⟩
inductive Base where
 | int | u8 | bool | str | origin | row | val | token | expr | cell | notebook | cur | part | rd | psr
 deriving DecidableEq
inductive Ty where
 | base (b:Base)
 | list (t:Ty)
 deriving DecidableEq
abbrev Base.den:Base->Type
 | .int=>Int | .u8=>Int | .bool=>Bool | .str=>Str
 | .origin=>iQ
 | .row=>dm
 | .val=>bJ
 | .token=>aA
 | .expr=>af
 | .cell=>aj
 | .notebook=>aC
 | .cur=>bM
 | .part=>aO
 | .rd=>GRd
 | .psr=>aS
abbrev Ty.den:Ty->Type
 | .base b=>b.den
 | .list t=>List t.den
inductive D where
 | int (k:IntKind) (n:Int)
 | bool (b:Bool)
 | str (s:Str)
 | list (t:Ty) (xs:List t.den)
def D.eF(t:Ty):D->Option (List t.den)
 | .list t' xs=>if h:t'=t then some (h▸xs)else none
 | _=>none
theorem D.dJ{t:Ty}{d:D}{xs:List t.den}(h:d.eF t=some xs):d=.list t xs:=by
 cases d with
 | list t' ys=>
  simp only[D.eF]at h;split at h
  ·rename_i e;subst e;simp at h;rw[h]
  ·cases h
 | _=>simp[D.eF]at h
def Base.size:Base->Nat
 | .int=>1 | .u8=>1 | .bool=>1 | .str=>1
 | .origin=>2
 | .row=>2
 | .val=>7
 | .token=>4
 | .expr=>4
 | .cell=>6
 | .notebook=>1
 | .cur=>3
 | .part=>14
 | .rd=>4
 | .psr=>3
def Base.cells:(b:Base)->b.den->List D
 | .int,n=>[.int .i64 n] | .u8,c=>[.int .u8 c] | .bool,b=>[.bool b] | .str,s=>[.str s]
 | .origin,x=>[.int .i64 x.cell,.int .i64 x.row]
 | .row,x=>[.list (.base .int) x.cells,.list (.base .origin) x.orig]
 | .val,x=>[.int .i64 x.kind,.int .i64 x.n,.int .i64 x.step,.str x.text,.list (.base .val) x.list,.list (.base .str) x.columns,.list (.base .row) x.rows]
 | .token,x=>[.int .i64 x.kind,.int .i64 x.n,.int .i64 x.pos,.str x.text]
 | .expr,x=>[.int .i64 x.kind,.int .i64 x.n,.str x.text,.list (.base .expr) x.args]
 | .cell,x=>[.int .i64 x.id,.int .i64 x.version,.int .i64 x.kind,.str x.name,.str x.code,.int .i64 x.n]
 | .notebook,x=>[.list (.base .cell) x.cells]
 | .cur,x=>[.list (.base .u8) x.b,.int .i64 x.i,.int .i64 x.h]
 | .part,x=>[.int .i64 x.kind,.str x.name,.int .i64 x.expr.kind,.int .i64 x.expr.n,.str x.expr.text,.list (.base .expr) x.expr.args,.int .i64 x.value.kind,.int .i64 x.value.n,.int .i64 x.value.step,.str x.value.text,.list (.base .val) x.value.list,.list (.base .str) x.value.columns,.list (.base .row) x.value.rows,.int .i64 x.pos]
 | .rd,x=>[.list (.base .token) x.toks,.int .i64 x.i,.int .i64 x.stop,.int .i64 x.bad]
 | .psr,x=>[.list (.base .token) x.toks,.int .i64 x.i,.int .i64 x.bad]
theorem Base.bn(b:Base)(x:b.den):(b.cells x).length=b.size:=by cases b<;>rfl
def vU:List D->Option iQ
 | [.int .i64 a0,.int .i64 a]=>some ⟨a0,a⟩
 | _=>none
theorem NF{ds:List D}{x:iQ}(h:vU ds=some x):Base.cells .origin x=ds:=by
 unfold vU at h;split at h
 ·simp only[Option.some.injEq]at h;subst h;rfl
 ·cases h
def ND:List D->Option dm
 | [a,b]=>(a.eF (.base .int)).bind fun a0=>(b.eF (.base .origin)).bind fun c=>some ⟨a0,c⟩
 | _=>none
theorem WS{ds:List D}{x:dm}(h:ND ds=some x):Base.cells .row x=ds:=by
 unfold ND at h;split at h
 ·simp only[Option.bind_eq_some_iff,Option.some.injEq]at h;obtain⟨a0,a,c,b,rfl⟩:=h;simp only[Base.cells,D.dJ a,D.dJ b]
 ·cases h
def NC:List D->Option bJ
 | [.int .i64 a0,.int .i64 a,.int .i64 b,.str c,d,e,f]=>(d.eF (.base .val)).bind fun g=>(e.eF (.base .str)).bind fun h=>(f.eF (.base .row)).bind fun i=>some ⟨a0,a,b,c,g,h,i⟩
 | _=>none
theorem WR{ds:List D}{x:bJ}(h:NC ds=some x):Base.cells .val x=ds:=by
 unfold NC at h;split at h
 ·simp only[Option.bind_eq_some_iff,Option.some.injEq]at h;obtain⟨d,a,e,b,f,c,rfl⟩:=h;simp only[Base.cells,D.dJ a,D.dJ b,D.dJ c]
 ·cases h
def zY:List D->Option aA
 | [.int .i64 a0,.int .i64 a,.int .i64 b,.str c]=>some ⟨a0,a,b,c⟩
 | _=>none
theorem P9{ds:List D}{x:aA}(h:zY ds=some x):Base.cells .token x=ds:=by
 unfold zY at h;split at h
 ·simp only[Option.some.injEq]at h;subst h;rfl
 ·cases h
def FP:List D->Option af
 | [.int .i64 a0,.int .i64 a,.str b,c]=>(c.eF (.base .expr)).bind fun d=>some ⟨a0,a,b,d⟩
 | _=>none
theorem UF{ds:List D}{x:af}(h:FP ds=some x):Base.cells .expr x=ds:=by
 unfold FP at h;split at h
 ·simp only[Option.bind_eq_some_iff,Option.some.injEq]at h;obtain⟨b,a,rfl⟩:=h;simp only[Base.cells,D.dJ a]
 ·cases h
def of_cell:List D->Option aj
 | [.int .i64 a0,.int .i64 a,.int .i64 b,.str c,.str d,.int .i64 e]=>some ⟨a0,a,b,c,d,e⟩
 | _=>none
theorem UG{ds:List D}{x:aj}(h:of_cell ds=some x):Base.cells .cell x=ds:=by
 unfold of_cell at h;split at h
 ·simp only[Option.some.injEq]at h;subst h;rfl
 ·cases h
def qy:List D->Option aC
 | [a]=>(a.eF (.base .cell)).bind fun a0=>some ⟨a0⟩
 | _=>none
theorem Ib{ds:List D}{x:aC}(h:qy ds=some x):Base.cells .notebook x=ds:=by
 unfold qy at h;split at h
 ·simp only[Option.bind_eq_some_iff,Option.some.injEq]at h;obtain⟨a0,a,rfl⟩:=h;simp only[Base.cells,D.dJ a]
 ·cases h
def NG:List D->Option bM
 | [a,.int .i64 b,.int .i64 c]=>(a.eF (.base .u8)).bind fun a0=>some ⟨a0,b,c⟩
 | _=>none
theorem WV{ds:List D}{x:bM}(h:NG ds=some x):Base.cells .cur x=ds:=by
 unfold NG at h;split at h
 ·simp only[Option.bind_eq_some_iff,Option.some.injEq]at h;obtain⟨a0,a,rfl⟩:=h;simp only[Base.cells,D.dJ a]
 ·cases h
def FO:List D->Option aO
 | [.int .i64 a0,.str h,.int .i64 i,.int .i64 j,.str k,l,.int .i64 m,.int .i64 n,.int .i64 o,.str p,a,b,c,.int .i64 d]=>(l.eF (.base .expr)).bind fun q=>(a.eF (.base .val)).bind fun e=>(b.eF (.base .str)).bind fun f=>(c.eF (.base .row)).bind fun g=>some ⟨a0,h,⟨i,j,k,q⟩,⟨m,n,o,p,e,f,g⟩,d⟩
 | _=>none
theorem UE{ds:List D}{x:aO}(h:FO ds=some x):Base.cells .part x=ds:=by
 unfold FO at h;split at h
 ·simp only[Option.bind_eq_some_iff,Option.some.injEq]at h;obtain⟨i,d,e,a,f,b,g,c,rfl⟩:=h;simp only[Base.cells,D.dJ d,D.dJ a,D.dJ b,D.dJ c]
 ·cases h
def WT:List D->Option GRd
 | [a,.int .i64 b,.int .i64 c,.int .i64 d]=>(a.eF (.base .token)).bind fun a0=>some ⟨a0,b,c,d⟩
 | _=>none
theorem Zg{ds:List D}{x:GRd}(h:WT ds=some x):Base.cells .rd x=ds:=by
 unfold WT at h;split at h
 ·simp only[Option.bind_eq_some_iff,Option.some.injEq]at h;obtain⟨a0,a,rfl⟩:=h;simp only[Base.cells,D.dJ a]
 ·cases h
def NE:List D->Option aS
 | [a,.int .i64 b,.int .i64 c]=>(a.eF (.base .token)).bind fun a0=>some ⟨a0,b,c⟩
 | _=>none
theorem WU{ds:List D}{x:aS}(h:NE ds=some x):Base.cells .psr x=ds:=by
 unfold NE at h;split at h
 ·simp only[Option.bind_eq_some_iff,Option.some.injEq]at h;obtain⟨a0,a,rfl⟩:=h;simp only[Base.cells,D.dJ a]
 ·cases h
def Base.iO:(b:Base)->List D->Option b.den
 | .int,ds=>match ds with | [.int .i64 n]=>some n | _=>none
 | .u8,ds=>match ds with | [.int .u8 n]=>some n | _=>none
 | .bool,ds=>match ds with | [.bool b]=>some b | _=>none
 | .str,ds=>match ds with | [.str s]=>some s | _=>none
 | .origin,ds=>vU ds
 | .row,ds=>ND ds
 | .val,ds=>NC ds
 | .token,ds=>zY ds
 | .expr,ds=>FP ds
 | .cell,ds=>of_cell ds
 | .notebook,ds=>qy ds
 | .cur,ds=>NG ds
 | .part,ds=>FO ds
 | .rd,ds=>WT ds
 | .psr,ds=>NE ds
theorem Base.eG{b:Base}{ds:List D}{x:b.den}(h:b.iO ds=some x):b.cells x=ds:=by
 cases b
 case int=>simp only[Base.iO]at h;split at h<;>simp_all [Base.cells]
 case u8=>simp only[Base.iO]at h;split at h<;>simp_all [Base.cells]
 case bool=>simp only[Base.iO]at h;split at h<;>simp_all [Base.cells]
 case str=>simp only[Base.iO]at h;split at h<;>simp_all [Base.cells]
 case origin=>exact NF h
 case row=>exact WS h
 case val=>exact WR h
 case token=>exact P9 h
 case expr=>exact UF h
 case cell=>exact UG h
 case notebook=>exact Ib h
 case cur=>exact WV h
 case part=>exact UE h
 case rd=>exact Zg h
 case psr=>exact WU h
def Base.zero:(b:Base)->b.den
 | .int=>(0:Int) | .u8=>(0:Int) | .bool=>false | .str=>([]:Str)
 | .origin=>⟨0,0⟩
 | .row=>⟨[],[]⟩
 | .val=>⟨0,0,0,[],[],[],[]⟩
 | .token=>⟨0,0,0,[]⟩
 | .expr=>⟨0,0,[],[]⟩
 | .cell=>⟨0,0,0,[],[],0⟩
 | .notebook=>⟨[]⟩
 | .cur=>⟨[],0,0⟩
 | .part=>⟨0,[],⟨0,0,[],[]⟩,⟨0,0,0,[],[],[],[]⟩,0⟩
 | .rd=>⟨[],0,0,0⟩
 | .psr=>⟨[],0,0⟩
def Ty.size:Ty->Nat
 | .base b=>b.size
 | .list _=>1
def Ty.cells:(t:Ty)->t.den->List D
 | .base b,x=>b.cells x
 | .list t,xs=>[.list t xs]
theorem Ty.bn(t:Ty)(x:t.den):(t.cells x).length=t.size:=by
 cases t with
 | base b=>exact Base.bn b x
 | list t=>rfl
def Ty.iO:(t:Ty)->List D->Option t.den
 | .base b,ds=>b.iO ds
 | .list t,ds=>match ds with | [d]=>d.eF t | _=>none
theorem Ty.eG{t:Ty}{ds:List D}{x:t.den}(h:t.iO ds=some x):t.cells x=ds:=by
 cases t with
 | base b=>exact Base.eG h
 | list t=>
  simp only[Ty.iO]at h;split at h
  ·simp only[Ty.cells,D.dJ h]
  ·cases h
def Ty.zero:(t:Ty)->t.den
 | .base b=>b.zero
 | .list t=>([]:List t.den)
theorem Ty.size_pos(t:Ty):0<t.size:=by
 cases t with
 | base b=>cases b<;>decide
 | list t=>exact Nat.one_pos
end Go.Abs
/- What the code asks of the world beside its arguments: three variables of the library hold what they were laid with. -/
namespace Go.Abs
open Go.Proofs
noncomputable def pM : Nat := max (max (max ((Tryz.prog.globalNamed "internal/strconv.uint64pow10").getD 0) ((Tryz.prog.globalNamed "strconv.ErrSyntax").getD 0)) ((Tryz.prog.globalNamed "strconv.ErrRange").getD 0)) ((Tryz.prog.globalNamed "internal/bytealg.MaxLen").getD 0) + 1
def amb (w : World) : Prop := (pM <= w.heap.size /\ ∃ m, w.cell? ⟨(Tryz.prog.globalNamed "internal/bytealg.MaxLen").getD 0, 0, none⟩ = some (.int .i64 m)) /\ Go.Lib.TabIs Tryz.prog w "internal/strconv.uint64pow10" .u64 Go.Lib.pow10Tab /\ (∃ tp p, w.var? Tryz.prog "strconv.ErrSyntax" = some #[.iface tp p]) /\ ∃ tp p, w.var? Tryz.prog "strconv.ErrRange" = some #[.iface tp p]
theorem amb.size{w:World}(h:amb w):pM<=w.heap.size:=h.1.1
theorem amb.aiD {w : World} (h : amb w) : ∃ m, w.cell? ⟨(Tryz.prog.globalNamed "internal/bytealg.MaxLen").getD 0, 0, none⟩ = some (.int .i64 m) := h.1.2
theorem Lc{w w':World}{n:String}(b:∀k,k<pM->w'.heap[k]?=w.heap[k]?)(a:(Tryz.prog.globalNamed n).getD 0<pM):w'.var? Tryz.prog n=w.var? Tryz.prog n:=by
 unfold World.var?;cases c:Tryz.prog.globalNamed n with
 | none=>rfl
 | some g=>
  rw[c]at a;simp only[Option.bind_some];rw[b g a]
theorem amb.keep{w w':World}(h:amb w)(hs:w.heap.size<=w'.heap.size)(hk:∀k,k<pM->w'.heap[k]?=w.heap[k]?):amb w':=by
 have l1 : (Tryz.prog.globalNamed "internal/strconv.uint64pow10").getD 0 < pM := by unfold pM; omega
 have l2 : (Tryz.prog.globalNamed "strconv.ErrSyntax").getD 0 < pM := by unfold pM; omega
 have l3 : (Tryz.prog.globalNamed "strconv.ErrRange").getD 0 < pM := by unfold pM; omega
 have l4 : (Tryz.prog.globalNamed "internal/bytealg.MaxLen").getD 0 < pM := by unfold pM; omega
 refine⟨⟨Nat.le_trans h.1.1 hs,?_⟩,?_,?_,?_⟩
 ·obtain⟨m,hm⟩:=h.1.2;refine⟨m,?_⟩;unfold World.cell? at hm ⊢;simp only at hm ⊢;rw[hk _ l4];exact hm
 ·have:=h.2.1;unfold Go.Lib.TabIs at this ⊢;rw[Lc hk l1];exact this
 ·rw[Lc hk l2];exact h.2.2.1
 ·rw[Lc hk l3];exact h.2.2.2
theorem amb.tab {w : World} (h : amb w) : Go.Lib.TabIs Tryz.prog w "internal/strconv.uint64pow10" .u64 Go.Lib.pow10Tab := h.2.1
end Go.Abs
/- The abstract evaluator: what a function of the program computes, over typed data, by the model's own code. -/
namespace Go.Abs
noncomputable section
inductive C where
 | undef
 | d (x:D)
 | nil
 | own (k j:Nat)
 | ptr (b off:Nat)
inductive V where
 | one (c:C)
 | agg (cs:List C)
inductive AV where
 | undef
 | v (x:V)
 | elt (t:Ty) (x:t.den) (off:Nat)
 | oelt (k j i sz off:Nat)
 | cut (t:Ty) (len n k1 k2:Nat)
 | seg (k:Nat)
 | pre (k j n:Nat)
 | suf (t:Ty) (k j m:Nat)
 | tup (vs:List V)
inductive O where
 | dead
 | own (t:Ty) (xs:List t.den) (deep m:Bool)
 | ro (t:Ty) (xs:List t.den)
 | tree (t:Ty) (xs:List t.den)
 | part (t:Ty) (xs:List t.den) (i:Nat)
 | seg (t:Ty) (xs:List t.den)
structure St where
 tmps:List AV
 boxes:List (Option (List C))
 owns:List (List O)
inductive W where
 | t (i:Nat) (v:AV)
 | b (i:Nat) (cs:List C)
 | o (k:Nat) (os:List O)
 | upd (k j:Nat) (x:O)
 | ro (k j:Nat)
 | nomut (k j:Nat)
def St.iG(S:St)(i:Nat):AV:=S.tmps.getD i .undef
def St.fE(S:St)(i:Nat):Option (List C):=S.boxes.getD i none
def St.aI(S:St)(k:Nat):List O:=S.owns.getD k []
def St.iY(S:St)(i:Nat)(v:AV):St:={ S with tmps:=S.tmps.set i v }
def St.setB(S:St)(i:Nat)(v:Option (List C)):St:={ S with boxes:=S.boxes.set i v }
def St.cO(S:St)(i:Nat)(v:List O):St:={ S with owns:=S.owns.set i v }
def O.Ce:O->O
 | .own t xs _ _=>.ro t xs
 | .tree t xs=>.ro t xs
 | o=>o
def O.C9:O->O
 | .own t xs deep _=>.own t xs deep false
 | .tree t xs=>.own t xs true false
 | o=>o
def O.tH:O->O
 | .tree t xs=>.own t xs true true
 | o=>o
def O.gQ:O->O
 | .tree t xs=>.own t xs true true
 | .part t xs _=>.own t xs true true
 | .seg t xs=>.own t xs true true
 | o=>o
def aY(os:List O)(j:Nat):O:=os.getD j .dead
def St.put(S:St):W->St
 | .t i v=>S.iY i v
 | .b i cs=>S.setB i (some cs)
 | .o k os=>S.cO k os
 | .upd k j x=>S.cO k ((S.aI k).set j x)
 | .ro k j=>S.cO k ((S.aI k).set j (aY (S.aI k) j).Ce)
 | .nomut k j=>S.cO k ((S.aI k).set j (aY (S.aI k) j).C9)
def St.puts(S:St):List W->St
 | []=>S
 | x::r=>(S.put x).puts r
inductive L where
 | t (i:Nat)
 | b (i:Nat)
 | o (k:Nat)
 deriving DecidableEq
def W.loc:W->L
 | .t i _=>.t i
 | .b i _=>.b i
 | .o k _ | .upd k _ _ | .ro k _ | .nomut k _=>.o k
inductive Rd(α:Type):Type 1 where
 | ret (a:α)
 | fail
 | gT (i:Nat) (f:AV->Rd α)
 | gB (i:Nat) (f:Option (List C)->Rd α)
 | gO (k:Nat) (f:List O->Rd α)
 | gN (f:Nat->Rd α)
 | opt {β:Type} (o:Option β) (f:β->Rd α)
def Rd.bind{α β:Type}:Rd α->(α->Rd β)->Rd β
 | .ret a,g=>g a
 | .fail,_=>.fail
 | .gT i f,g=>.gT i fun x=>(f x).bind g
 | .gB i f,g=>.gB i fun x=>(f x).bind g
 | .gO i f,g=>.gO i fun x=>(f x).bind g
 | .gN f,g=>.gN fun x=>(f x).bind g
 | .opt o f,g=>.opt o fun x=>(f x).bind g
def Rd.runK{α ρ:Type}:Rd α->St->(α->Option ρ)->Option ρ
 | .ret a,_,k=>k a
 | .fail,_,_=>none
 | .gT i f,S,k=>(f (S.iG i)).runK S k
 | .gB i f,S,k=>(f (S.fE i)).runK S k
 | .gO i f,S,k=>(f (S.aI i)).runK S k
 | .gN f,S,k=>(f S.tmps.length).runK S k
 | .opt o f,S,k=>o.bind fun x=>(f x).runK S k
def Rd.abD{α ρ:Type}:Rd α->St->List L->(α->List L->Option ρ)->Option ρ
 | .ret a,_,l,k=>k a l
 | .fail,_,_,_=>none
 | .gT i f,S,l,k=>(f (S.iG i)).abD S (.t i::l) k
 | .gB i f,S,l,k=>(f (S.fE i)).abD S (.b i::l) k
 | .gO i f,S,l,k=>(f (S.aI i)).abD S (.o i::l) k
 | .gN _,_,_,_=>none
 | .opt o f,S,l,k=>o.bind fun x=>(f x).abD S l k
def Rd.val{α:Type}:Rd α->St->Option α
 | .ret a,_=>some a
 | .fail,_=>none
 | .gT i f,S=>(f (S.iG i)).val S
 | .gB i f,S=>(f (S.fE i)).val S
 | .gO i f,S=>(f (S.aI i)).val S
 | .gN f,S=>(f S.tmps.length).val S
 | .opt o f,S=>o.bind fun x=>(f x).val S
inductive Kd where
 | int (k:IntKind)
 | bool
 | str
 | list (t:Ty)
 deriving DecidableEq
def kd:D->Kd
 | .int k _=>.int k
 | .bool _=>.bool
 | .str _=>.str
 | .list t _=>.list t
structure TT where
 shape:List (Nat×Bool×Nat)
 zero:List (Nat×List C)
 fields:List (Nat×List (Nat×Bool×Nat))
 elem:List (Nat×Ty)
 ints:List (Nat×IntKind)
 strs:List Nat
 bools:List Nat
 eqs:List (Nat×List Kd)
structure Sh where
 agg:Bool
 t:Ty
abbrev Tup:List Sh->Type
 | []=>Unit
 | [s]=>s.t.den
 | s::r=>s.t.den×Tup r
structure Fsp where
 fid:Nat
 ps:List Sh
 rs:List Sh
 ex:Bool
 sh:Bool:=false
 fn:Tup ps->Option (Tup rs)
structure Msp where
 fid:Nat
 sh:Sh
 fn:sh.t.den->Int->Option (sh.t.den×Int)
structure Srt where
 fid:Nat
 g:Nat
 T:Nat
 t:Ty
 fn:List t.den->Option (List t.den)
structure Isp where
 fid:Nat
 t:Ty
 fn:List t.den->Option (List t.den)
structure Env where
 tt:TT
 fs:List Fsp
 ms:List Msp:=[]
 bs:List Fsp:=[]
 ns:List Fsp:=[]
 ss:List Fsp:=[]
 so:List Srt:=[]
 trees:Bool:=false
 pre:List (Nat×List (Nat×Nat)):=[]
 cuts:List (Nat×Nat×Nat×Nat×Nat):=[]
 abQ:List Nat:=[]
 is:List Isp:=[]
def lZ:D->Option Ty
 | .list t _=>some t
 | _=>none
def Ty.tys(t:Ty):List (Option Ty):=(t.cells t.zero).map lZ
def Ty.flat(t:Ty):Bool:=t.tys.all (·.isNone)
def cD(ty:Option Ty):C->Rd D
 | .d x=>.ret x
 | .nil=>match ty with
  | some t=>.ret (.list t [])
  | none=>.fail
 | .own k j=>.gO k fun os=>match aY os j with
  | .own t xs _ _=>.ret (.list t xs)
  | .ro t xs=>.ret (.list t xs)
  | .tree t xs=>.ret (.list t xs)
  | .part _ _ _=>.fail
  | .seg _ _=>.fail
  | .dead=>.fail
 | _=>.fail
def cDs:List (Option Ty)->List C->Rd (List D)
 | ty::tys,c::cs=>(cD ty c).bind fun d=>(cDs tys cs).bind fun ds=>.ret (d::ds)
 | _,_=>.ret []
def V.cells:V->List C
 | .one c=>[c]
 | .agg cs=>cs
def V.isAgg:V->Bool
 | .one _=>false
 | .agg _=>true
def vT(s:Sh)(v:V):Rd s.t.den:=
 if v.isAgg=s.agg/\v.cells.length=s.t.size then (cDs s.t.tys v.cells).bind fun ds=>.opt (s.t.iO ds) .ret else .fail
def avV:AV->Rd V
 | .v x=>.ret x
 | _=>.fail
def vTs:(ss:List Sh)->List V->Rd (Tup ss)
 | [],[]=>.ret ()
 | [s],[v]=>vT s v
 | s::s'::r,v::vs=>(vT s v).bind fun x=>(vTs (s'::r) vs).bind fun y=>.ret (x,y)
 | _,_=>.fail
def aiT:Value->Option C
 | .int k n=>some (.d (.int k n))
 | .bool b=>some (.d (.bool b))
 | .string s=>some (.d (.str s.data.toList))
 | .slice none 0 0=>some .nil
 | _=>none
def dX:Operand->Rd AV
 | .tmp t=>.gT t .ret
 | .const v=>match aiT v with
  | some c=>.ret (.v (.one c))
  | none=>.ret .undef
 | _=>.fail
def lk{α:Type}(l:List (Nat×α))(k:Nat):Option α:=(l.find? fun x=>x.1==k).map (·.2)
def seg{α:Type}(cs:List α)(off n:Nat):List α:=(cs.drop off).take n
def mkV(agg:Bool)(cs:List C):Option V:=
 match agg,cs with
 | true,cs=>some (.agg cs)
 | false,[c]=>some (.one c)
 | false,_=>none
def aia:C->AV
 | .undef=>.undef
 | c=>.v (.one c)
def JM:V->AV
 | .one c=>aia c
 | v=>.v v
def dS{α:Type}(cs:List α)(off:Nat)(vs:List α):List α:=cs.take off++vs++cs.drop (off+vs.length)
def idx{α:Type}(xs:List α)(n:Int):Option α:=if 0<=n then xs[n.toNat]? else none
def gd(n:Nat):Option Unit:=if n<=34359738368 then some ()else none
def mk(n:Int):Option Nat:=if 0<=n/\n<=34359738368 then some n.toNat else none
def binI(op:BinOp)(k:IntKind)(a b:Int):Option D:=
 match op with
 | .add=>some (.int k (k.wrap (a+b)))
 | .sub=>some (.int k (k.wrap (a-b)))
 | .mul=>some (.int k (k.wrap (a*b)))
 | .eql=>some (.bool (a==b))
 | .neq=>some (.bool (a != b))
 | .lss=>some (.bool (a<b))
 | .leq=>some (.bool (a<=b))
 | .gtr=>some (.bool (a>b))
 | .geq=>some (.bool (a>=b))
 | .and=>some (.int k (k.wrap ((BitVec.ofInt k.bits a &&& BitVec.ofInt k.bits b).toNat:Int)))
 | .or=>some (.int k (k.wrap ((BitVec.ofInt k.bits a ||| BitVec.ofInt k.bits b).toNat:Int)))
 | .xor=>some (.int k (k.wrap ((BitVec.ofInt k.bits a ^^^ BitVec.ofInt k.bits b).toNat:Int)))
 | _=>none
def quoI(k:IntKind)(a b:Int):Option Int:=if b=0 then none else some (k.wrap (a.tdiv b))
def abL(a b:Int):Option Int:=if b=0 then none else some (a.tmod b)
def shlI(k:IntKind)(a b:Int):Option Int:=if b<0 then none else some (k.wrap (a*2 ^ min b.toNat k.bits))
def shrI(k:IntKind)(a b:Int):Option Int:=if b<0 then none else some (a.fdiv (2 ^ min b.toNat k.bits))
def binS(op:BinOp)(a b:Str):Option D:=
 match op with
 | .eql=>some (.bool (a==b))
 | .neq=>some (.bool (!(a==b)))
 | .lss=>some (.bool (Op.bytesLess a b))
 | .leq=>some (.bool (Op.bytesLess a b||a==b))
 | .gtr=>some (.bool (!(Op.bytesLess a b||a==b)))
 | .geq=>some (.bool (!(Op.bytesLess a b)))
 | _=>none
def binB(op:BinOp)(a b:Bool):Option D:=
 match op with
 | .eql=>some (.bool (a==b))
 | .neq=>some (.bool (!(a==b)))
 | _=>none
def isBool:D->Bool
 | .bool _=>true
 | _=>false
def aiU(op:BinOp):D->D->Option D
 | .int k a,.int k' b=>if k=k' then binI op k a b else none
 | .str a,.str b=>binS op a b
 | .bool a,.bool b=>binB op a b
 | _,_=>none
def avD:AV->Rd D
 | .v (.one (.d x))=>.ret x
 | _=>.fail
def JO(a:AV):Rd Int:=(avD a).bind fun
 | .int _ n=>.ret n
 | _=>.fail
def cKd(k:Kd):C->Option D
 | .d x=>if kd x=k then some x else none
 | _=>none
def XW:List Kd->List C->Option (List D)
 | [],[]=>some []
 | k::ks,c::cs=>match cKd k c with
  | some d=>match XW ks cs with
   | some ds=>some (d::ds)
   | none=>none
  | none=>none
 | _,_=>none
def eqD:D->D->Bool
 | .int _ a,.int _ b=>a==b
 | .bool a,.bool b=>a==b
 | .str a,.str b=>a==b
 | _,_=>false
def CJ:List D->List D->Bool
 | [d],[e]=>eqD d e
 | d::ds,e::es=>eqD d e&&CJ ds es
 | _,_=>true
def aK:List C->List (Nat×Nat)
 | []=>[]
 | .own k j::r=>(k,j)::aK r
 | _::r=>aK r
def Dp:C->Rd Bool
 | .d (.list _ _)=>.ret false
 | .d _=>.ret true
 | .nil=>.ret true
 | .own k j=>.gO k fun os=>match aY os j with
  | .own _ _ deep _=>.ret deep
  | .tree _ _=>.ret true
  | _=>.ret false
 | _=>.fail
def vk:List C->Rd Bool
 | []=>.ret true
 | c::r=>(Dp c).bind fun b=>(vk r).bind fun b'=>.ret (b&&b')
def fresh(d:Nat)(os:List O):Rd (List W):=.gO d fun
 | []=>.ret [.o d os]
 | _=>.fail
def xR(d:Nat)(cs:List C):Rd (List W):=if d=0 then .fail else .gB d fun
 | none=>.ret [.b d cs,.t d (.v (.one (.ptr d 0)))]
 | some _=>.fail
def fA(o:Oper)(v:AV):List W:=match o.dst with
 | some d=>[.t d v]
 | none=>[]
def Nw:List (Nat×Operand)->Nat->Rd (List V)
 | [],_=>.ret []
 | (i,x)::r,n=>if i=n then (dX x).bind fun a=>(avV a).bind fun v=>(Nw r (n+1)).bind fun vs=>.ret (v::vs)else .fail
def vEl(t:Ty)(v:V):Rd t.den:=
 if v.cells.length=t.size then (cDs t.tys v.cells).bind fun ds=>.opt (t.iO ds) .ret else .fail
def aa9(t:Ty):List V->Rd (List t.den)
 | []=>.ret []
 | v::r=>(vEl t v).bind fun x=>(aa9 t r).bind fun xs=>.ret (x::xs)
def mkV'(agg:Bool)(cs:List C):V:=
 match agg,cs with
 | false,[c]=>.one c
 | _,cs=>.agg cs
def abH(d:Nat)(ex:Bool)(i:Nat):D->C
 | .list t xs=>if ex then .own d i else .d (.list t xs)
 | x=>.d x
def Jr(d:Nat)(ex:Bool):Nat->List D->List C
 | _,[]=>[]
 | i,x::r=>abH d ex i x::Jr d ex (i+1) r
def vP(d:Nat)(ex:Bool):Nat->(ss:List Sh)->Tup ss->List V
 | _,[],_=>[]
 | n,[s],y=>[mkV' s.agg (Jr d ex n (s.t.cells y))]
 | n,s::s'::r,y=>mkV' s.agg (Jr d ex n (s.t.cells y.1))::vP d ex (n+s.t.size) (s'::r) y.2
def dn:(ss:List Sh)->Tup ss->List D
 | [],_=>[]
 | [s],y=>s.t.cells y
 | s::s'::r,y=>s.t.cells y.1++dn (s'::r) y.2
def isList:D->Bool
 | .list _ _=>true
 | _=>false
def FM(tr:Bool)(ds:List D):List O:=ds.map fun
 | .list t xs=>if tr then .tree t xs else .own t xs true true
 | _=>.dead
def y9:List D->List C->Rd (List W)
 | [],[]=>.ret []
 | d::ds,c::cs=>(y9 ds cs).bind fun ws=>match c with
  | .own k j=>.gO k fun os=>match aY os j,d with
   | .tree _ _,.list t xs=>.ret (.upd k j (.tree t xs)::ws)
   | _,_=>.fail
  | .nil=>.ret ws
  | .d (.list _ _)=>.fail
  | .d _=>.ret ws
  | _=>.fail
 | _,_=>.fail
def yM:List V->AV
 | [v]=>JM v
 | vs=>.tup vs
def AB:List Operand->Rd (List V)
 | []=>.ret []
 | x::r=>(dX x).bind fun a=>(avV a).bind fun v=>(AB r).bind fun vs=>.ret (v::vs)
def nodupB(l:List (Nat×Nat)):Bool:=
 match l with
 | []=>true
 | x::r=>!(r.any fun y=>y.1==x.1&&y.2==x.2)&&nodupB r
def listOf(t:Ty)(c:C):Rd (List t.den):=(cD (some t) c).bind fun d=>.opt (d.eF t) .ret
def bytesOf(xs:List Int):Str:=xs.map fun n=>UInt8.ofNat n.toNat
def jX(s:Str):List (Ty.base .u8).den:=s.map fun c=>(c.toNat:Int)
def y8:{c:Sh}->{rs:List Sh}->Tup (c::rs)->c.t.den
 | _,[],x=>x
 | _,_::_,x=>x.1
def QT:{c:Sh}->{rs:List Sh}->Tup (c::rs)->Tup rs
 | _,[],_=>()
 | _,_::_,x=>x.2
def abT(ds:List D):List O:=ds.map fun
 | .list t xs=>.own t xs false true
 | _=>.dead
def aaq(o:Oper)(sh:Bool)(rs:List Sh)(y:Tup rs):Rd (List W):=match o.dst with
 | none=>.ret []
 | some d=>if (sh&&(dn rs y).any isList)=true then
   (fresh d (abT (dn rs y))).bind fun ws=>.ret (ws++[.t d (yM (vP d true 0 rs y))])
  else .ret [.t d (yM (vP d false 0 rs y))]
def aeQ(o:Oper)(tr:Bool)(rs:List Sh)(y:Tup rs):Rd (List W):=match o.dst with
 | none=>.ret []
 | some d=>if (dn rs y).any isList=true then
   (fresh d (FM tr (dn rs y))).bind fun ws=>.ret (ws++[.t d (yM (vP d true 0 rs y))])
  else .ret [.t d (yM (vP d true 0 rs y))]
def ae8(o:Oper)(ex tr sh:Bool)(b n:Nat)(keys:List (Nat×Nat)):(rs:List Sh)->Tup rs->Rd (List W)
 | [],_=>.fail
 | c::rs,y=>if c.agg=true then if c.t.size=n then if nodupB keys then
   (bif ex then aeQ o tr rs (QT y)else aaq o sh rs (QT y)).bind fun ws=>.ret (keys.map (fun q=>W.nomut q.1 q.2)++(.b b ((c.t.cells (y8 y)).map .d)::ws))
  else .fail else .fail else .fail
def aiK(E:Env)(o:Oper)(c:Call)(f:Nat):Rd (List W):=
 match E.is.find? (fun s=>s.fid==f),c.args.toList with
 | some s,[x]=>(dX x).bind fun ax=>(avV ax).bind fun
  | .one (.own k j)=>.gO k fun os=>match aY os j with
   | .own t xs deep true=>if h:t=s.t then .opt (s.fn (h▸xs)) fun ys=>.ret (.upd k j (.own s.t ys deep true)::fA o (.tup []))else .fail
   | _=>.fail
  | _=>.fail
 | _,_=>.fail
def aiJ(E:Env)(o:Oper)(c:Call)(f:Nat):Rd (List W):=
 match E.ss.find? (fun s=>s.fid==f)with
 | some s=>(AB c.args.toList).bind fun vs=>(vTs s.ps vs).bind fun z=>.opt (s.fn z) fun y=>if nodupB (aK (vs.flatMap V.cells))then
   (aaq o true s.rs y).bind fun ws=>.ret ((aK (vs.flatMap V.cells)).map (fun q=>W.nomut q.1 q.2)++ws)
  else .fail
 | none=>aiK E o c f
def aiL(E:Env)(o:Oper)(c:Call)(f:Nat):Rd (List W):=
 match E.bs.find? (fun s=>s.fid==f),c.args.toList with
 | some s,x::xs=>(dX x).bind fun
  | .v (.one (.ptr b 0))=>.gB b fun
   | some cs=>(AB xs).bind fun vs=>(vTs s.ps (.agg cs::vs)).bind fun z=>.opt (s.fn z) fun y=>ae8 o s.ex E.trees s.sh b cs.length (aK ((V.agg cs::vs).flatMap V.cells)) s.rs y
   | none=>.fail
  | _=>.fail
 | _,_=>match E.ns.find? (fun s=>s.fid==f),o.dst with
  | some s,some d=>(AB c.args.toList).bind fun vs=>(vTs s.ps vs).bind fun z=>.opt (s.fn z) fun y=>if nodupB (aK (vs.flatMap V.cells))then
    (xR d ((dn s.rs y).map .d)).bind fun ws=>.ret ((aK (vs.flatMap V.cells)).map (fun q=>W.nomut q.1 q.2)++ws)
   else .fail
  | _,_=>aiJ E o c f
def TL(o:Oper)(agg:Bool)(n k j i sz off:Nat)(t:Ty)(xs:List t.den)(m:Nat):Rd (List W):=
 match o.dst with
 | some d=>if agg=true/\off=0/\n=t.size/\t.size=sz then .opt (if i=m then xs[i]? else none) fun x=>
   (fresh d (FM true (t.cells x))).bind fun ws=>.ret (.upd k j (.part t xs (m+1))::(ws++[.t d (.v (.agg (Jr d true 0 (t.cells x))))]))
  else .fail
 | none=>.fail
def cutAt{α:Type}(xs:List α)(n:Int):Option Nat:=if 0<=n/\n<=xs.length then some n.toNat else none
def ah6(E:Env)(o:Oper):Bool:=match o.dst with
 | some d=>E.abQ.contains d
 | none=>false
def adO(E:Env)(o:Oper)(T k j:Nat)(lo hi:Option Int):Rd (List W):=match lo,hi with
 | none,some h=>.gO k fun os=>match aY os j with
  | .own t xs _ true=>if (lk E.tt.elem T)=some t then .opt (cutAt xs h) fun m=>.ret (fA o (.pre k j m))else .fail
  | _=>.fail
 | some l,none=>.gO k fun os=>match aY os j with
  | .own t xs _ _=>if (lk E.tt.elem T)=some t then .opt (cutAt xs l) fun m=>.ret (fA o (.suf t k j m))else .fail
  | _=>.fail
 | _,_=>.fail
def ac9(d:Nat)(t:Ty)(ax:AV)(f:Ty)(a b c:Nat):Rd (List W):=.gO a fun os=>match aY os b with
 | .own g ys _ _=>if e:g=t then if f=t/\t.flat=true then match ax with
  | .v (.one (.own k j))=>.gO k fun os=>match aY os j with
   | .own t' xs deep m=>if h:t'=t then if nodupB [(k,j),(a,b)]=true then .opt (gd ((h▸xs:List t.den).length+((e▸ys:List t.den).drop c).length)) fun _=>
     (fresh d [.own t ((h▸xs:List t.den)++(e▸ys:List t.den).drop c) deep m]).bind fun ws=>.ret (.upd k j .dead::ws++[.t d (.v (.one (.own d 0)))])
    else .fail
    else .fail
   | _=>.fail
  | _=>.fail
  else .fail
  else .fail
 | _=>.fail
def adh(d:Nat)(t:Ty)(ax:AV)(b:Nat):Rd (List W):=.gO b fun os=>match aY os 0 with
 | .seg c ys=>if a:c=t then match ax with
  | .v (.one .nil)=>.opt (gd (a▸ys:List t.den).length) fun _=>(fresh d [.own t (a▸ys:List t.den) true true]).bind fun ws=>.ret (.upd b 0 .dead::ws++[.t d (.v (.one (.own d 0)))])
  | .v (.one (.own k j))=>.gO k fun os=>match aY os j with
   | .own t' xs deep m=>if h:t'=t then .opt (gd ((h▸xs:List t.den).length+(a▸ys:List t.den).length)) fun _=>
     (fresh d [.own t ((h▸xs:List t.den)++(a▸ys:List t.den)) deep m]).bind fun ws=>.ret (.upd k j .dead :: .upd b 0 .dead::ws++[.t d (.v (.one (.own d 0)))])
    else .fail
   | _=>.fail
  | _=>.fail
  else .fail
 | _=>.fail
def C.plain:C->Bool
 | .d (.list _ _)=>false
 | .d _=>true
 | _=>false
def eff(E:Env)(o:Oper):Rd (List W):=
 match o.op with
 | .move x | .assign x=>(dX x).bind fun a=>.ret (fA o a)
 | .pick c a b=>(dX c).bind fun c=>(avD c).bind fun
  | .bool true=>(dX a).bind fun v=>.ret (fA o v)
  | .bool false=>(dX b).bind fun v=>.ret (fA o v)
  | _=>.fail
 | .alloc e=>match o.dst,lk E.tt.zero e with
  | some d,some cs=>xR d cs
  | _,_=>.fail
 | .box _ x=>match o.dst with
  | some d=>(dX x).bind fun a=>(avV a).bind fun v=>xR d v.cells
  | none=>.fail
 | .load t p=>match lk E.tt.shape t with
  | none=>.fail
  | some (agg,n)=>(dX p).bind fun
   | .v (.one (.ptr b off))=>.gB b fun
    | some cs=>.opt (mkV agg (seg cs off n)) fun v=>if (seg cs off n).length=n then .ret (fA o (JM v))else .fail
    | none=>.fail
   | .elt t x off=>.opt (mkV agg ((seg (t.cells x) off n).map .d)) fun v=>if (seg (t.cells x) off n).length=n then .ret (fA o (JM v))else .fail
   | .oelt k j i sz off=>.gO k fun os=>match aY os j with
    | .own t xs _ _=>if t.size=sz then .opt (xs[i]?) fun x=>.opt (mkV agg ((seg (t.cells x) off n).map .d)) fun v=>if (seg (t.cells x) off n).length=n then .ret (fA o (JM v))else .fail
     else .fail
    | .part t xs m=>TL o agg n k j i sz off t xs m
    | _=>.fail
   | _=>.fail
 | .store t p x=>match lk E.tt.shape t with
  | none=>.fail
  | some (_,n)=>(dX x).bind fun a=>(avV a).bind fun v=>if v.cells.length=n then (dX p).bind fun
   | .v (.one (.ptr b off))=>.gB b fun
    | some cs=>if off+n<=cs.length/\(b != 0||(seg cs off n).all C.plain)=true then .ret (.b b (dS cs off v.cells)::fA o (.tup []))else .fail
    | none=>.fail
   | .oelt k j i sz off=>.gO k fun os=>match aY os j with
    | .own t xs deep true=>.opt (xs[i]?) fun x=>
     if t.size=sz/\off+n<=t.size then
      (cDs (seg t.tys off n) v.cells).bind fun ds=>(vk v.cells).bind fun dp=>.opt (t.iO (dS (t.cells x) off ds)) fun y=>
       if nodupB ((k,j)::aK v.cells)then
        .ret (((aK v.cells).map fun q=>.ro q.1 q.2)++(.upd k j (.own t (xs.set i y) (deep&&dp) true)::fA o (.tup [])))
       else .fail
     else .fail
    | _=>.fail
   | _=>.fail
   else .fail
 | .fieldAddr s p f=>match (lk E.tt.fields s).bind (·[f]?)with
  | none=>.fail
  | some (fo,_,_)=>(dX p).bind fun
   | .v (.one (.ptr b off))=>.ret (fA o (.v (.one (.ptr b (off+fo)))))
   | .elt t x off=>.ret (fA o (.elt t x (off+fo)))
   | .oelt k j i sz off=>.ret (fA o (.oelt k j i sz (off+fo)))
   | _=>.fail
 | .field s x f=>match (lk E.tt.fields s).bind (·[f]?)with
  | none=>.fail
  | some (fo,agg,n)=>(dX x).bind fun
   | .v (.agg cs)=>.opt (mkV agg (seg cs fo n)) fun v=>if (seg cs fo n).length=n then .ret (fA o (JM v))else .fail
   | _=>.fail
 | .indexAddr T x i=>match lk E.tt.elem T with
  | none=>.fail
  | some t=>(dX x).bind fun a=>(dX i).bind fun ai=>(JO ai).bind fun n=>match a with
   | .v (.one (.d (.list t' xs)))=>if t'=t then .opt (idx xs n) fun y=>.ret (fA o (.elt t' y 0))else .fail
   | .v (.one (.own k j))=>.gO k fun os=>match aY os j with
    | .own t' xs _ _=>if t'=t then .opt (idx xs n) fun _=>.ret (fA o (.oelt k j n.toNat t.size 0))else .fail
    | .ro t' xs=>if t'=t then .opt (idx xs n) fun y=>.ret (fA o (.elt t' y 0))else .fail
    | .part t' xs _=>if t'=t then .opt (idx xs n) fun _=>.ret (fA o (.oelt k j n.toNat t.size 0))else .fail
    | .tree t' xs=>if t'=t then .opt (idx xs n) fun _=>.ret (.upd k j (.part t' xs n.toNat)::fA o (.oelt k j n.toNat t.size 0))else .fail
    | _=>.fail
   | _=>.fail
 | .index T x i=>if E.tt.strs.contains T then (dX x).bind fun a=>(avD a).bind fun
   | .str s=>(dX i).bind fun ai=>(JO ai).bind fun n=>.opt (idx s n) fun c=>.ret (fA o (.v (.one (.d (.int .u8 c.toNat)))))
   | _=>.fail
  else .fail
 | .extract x i=>(dX x).bind fun
  | .tup vs=>.opt (vs[i]?) fun v=>.ret (fA o (JM v))
  | _=>.fail
 | .binOp op T x y _=>(dX x).bind fun a=>(dX y).bind fun b=>match a,b with
  | .v (.agg cs),.v (.agg cs')=>match lk E.tt.eqs T with
   | none=>.fail
   | some ks=>match XW ks cs,XW ks cs' with
    | some ds,some ds'=>match op with
     | .eql=>.ret (fA o (.v (.one (.d (.bool (CJ ds ds'))))))
     | .neq=>.ret (fA o (.v (.one (.d (.bool (!(CJ ds ds')))))))
     | _=>.fail
    | _,_=>.fail
  | a,b=>(avD a).bind fun dx=>(avD b).bind fun dy=>match op,dx,dy with
   | .quo,.int k p,.int k' q=>if k=k' then .opt (quoI k p q) fun z=>.ret (fA o (.v (.one (.d (.int k z)))))else .fail
   | .rem,.int k p,.int k' q=>if k=k' then .opt (abL p q) fun z=>.ret (fA o (.v (.one (.d (.int k z)))))else .fail
   | .shl,.int k p,.int _ q=>.opt (shlI k p q) fun z=>.ret (fA o (.v (.one (.d (.int k z)))))
   | .shr,.int k p,.int _ q=>.opt (shrI k p q) fun z=>.ret (fA o (.v (.one (.d (.int k z)))))
   | .add,.str p,.str q=>.opt (gd (p.length+q.length)) fun _=>.ret (fA o (.v (.one (.d (.str (p++q))))))
   | op,dx,dy=>if isBool dx->E.tt.bools.contains T then .opt (aiU op dx dy) fun z=>.ret (fA o (.v (.one (.d z))))else .fail
 | .unOp op _ x=>(dX x).bind fun a=>(avD a).bind fun
  | .bool b=>match op with
   | .not=>.ret (fA o (.v (.one (.d (.bool (!b))))))
   | _=>.fail
  | .int k n=>match op with
   | .neg=>.ret (fA o (.v (.one (.d (.int k (k.wrap (0-n)))))))
   | _=>.fail
  | _=>.fail
 | .convert u T x=>(dX x).bind fun a=>match lk E.tt.ints u,lk E.tt.ints T with
  | some _,some k=>(JO a).bind fun n=>.ret (fA o (.v (.one (.d (.int k (k.wrap n))))))
  | _,_=>if E.tt.strs.contains T=true/\lk E.tt.elem u=some (.base .u8)then match a with
    | .v (.one c)=>(listOf (.base .u8) c).bind fun xs=>.ret (fA o (.v (.one (.d (.str (bytesOf xs))))))
    | _=>.fail
   else .fail
 | .nilCheck x=>(dX x).bind fun
  | .v (.one (.ptr b off))=>.ret (fA o (.v (.one (.ptr b off))))
  | _=>.fail
 | .build T parts=>match lk E.tt.zero T,lk E.tt.fields T with
  | some z,some fs=>(fillA fs parts.toList z).bind fun cs=>.ret (fA o (.v (.agg cs)))
  | _,_=>.fail
 | .buildSlice T n parts=>match o.dst,lk E.tt.elem T with
  | some d,some t=>(Nw parts.toList 0).bind fun vs=>if vs.length=n/\n*t.size<=16777216 then
    (aa9 t vs).bind fun xs=>(vk (vs.flatMap V.cells)).bind fun dp=>
     if nodupB (aK (vs.flatMap V.cells))then
      (fresh d [.own t xs dp true]).bind fun ws=>.ret (((aK (vs.flatMap V.cells)).map fun q=>.ro q.1 q.2)++ws++[.t d (.v (.one (.own d 0)))])
     else .fail
   else .fail
  | _,_=>.fail
 | .makeSlice T l c=>match o.dst,lk E.tt.elem T with
  | some d,some t=>match l,c with
   | .tmp i,.tmp j=>if i=j then (dX l).bind fun a=>(JO a).bind fun n=>.opt (mk n) fun m=>
     (fresh d [.own t (List.replicate m t.zero) true true]).bind fun ws=>.ret (ws++[.t d (.v (.one (.own d 0)))])
    else .fail
   | _,_=>.fail
  | _,_=>.fail
 | .call c=>match c.callee with
  | .builtin .len=>match c.args.toList,c.argTypes.toList with
   | [x],[T]=>(dX x).bind fun
    | .v (.one (.d (.str s)))=>if E.tt.strs.contains T then .ret (fA o (.v (.one (.d (.int .i64 s.length)))))else .fail
    | .v (.one (.d (.list _ xs)))=>if (lk E.tt.elem T).isSome then .ret (fA o (.v (.one (.d (.int .i64 xs.length)))))else .fail
    | .v (.one .nil)=>if (lk E.tt.elem T).isSome then .ret (fA o (.v (.one (.d (.int .i64 0)))))else .fail
    | .v (.one (.own k j))=>if (lk E.tt.elem T).isSome then .gO k fun os=>match aY os j with
     | .own _ xs _ _ | .ro _ xs | .tree _ xs=>.ret (fA o (.v (.one (.d (.int .i64 xs.length)))))
     | _=>.fail
     else .fail
    | _=>.fail
   | _,_=>.fail
  | .builtin .append=>match o.dst,c.args.toList,c.argTypes.toList with
   | some d,[x,y],[T,T']=>if T=T' then match lk E.tt.elem T with
    | none=>.fail
    | some t=>(dX x).bind fun ax=>(dX y).bind fun ay=>match ay with
     | .seg g=>adh d t ax g
     | .suf w g A B=>ac9 d t ax w g A B
     | ay=>(avV ay).bind fun vy=>match vy with
      | .agg _=>.fail
      | .one cy=>(listOf t cy).bind fun ys=>(if t.flat then .ret true else Dp cy).bind fun dp=>match ax with
       | .v (.one .nil)=>.opt (gd ys.length) fun _=>
        (fresh d [.own t ys dp true]).bind fun ws=>.ret ((if t.flat then []else (aK [cy]).map fun q=>.ro q.1 q.2)++ws++[.t d (.v (.one (.own d 0)))])
       | .v (.one (.own k j))=>.gO k fun os=>match (aY os j).tH with
        | .own t' xs deep m=>if h:t'=t then
          if nodupB ((k,j)::aK [cy])then
           .opt (gd ((h▸xs:List t.den).length+ys.length)) fun _=>
            (fresh d [.own t ((h▸xs:List t.den)++ys) (deep&&dp) m]).bind fun ws=>
             .ret (.upd k j .dead::(if t.flat then []else (aK [cy]).map fun q=>.ro q.1 q.2)++ws++[.t d (.v (.one (.own d 0)))])
          else .fail
         else .fail
        | _=>.fail
       | .pre k j n=>.gO k fun os=>match aY os j with
        | .own t' xs deep true=>if h:t'=t then
          if nodupB ((k,j)::aK [cy])then
           .opt (gd (((h▸xs:List t.den).take n).length+ys.length)) fun _=>
            (fresh d [.own t ((h▸xs:List t.den).take n++ys) (deep&&dp) true]).bind fun ws=>
             .ret (.upd k j .dead::(if t.flat then []else (aK [cy]).map fun q=>.ro q.1 q.2)++ws++[.t d (.v (.one (.own d 0)))])
          else .fail
         else .fail
        | _=>.fail
       | _=>.fail
    else if lk E.tt.elem T=some (.base .u8)/\E.tt.strs.contains T'=true then (dX x).bind fun ax=>(dX y).bind fun ay=>(avD ay).bind fun
     | .str s=>match ax with
      | .v (.one .nil)=>.opt (gd (jX s).length) fun _=>
       (fresh d [.own (.base .u8) (jX s) true true]).bind fun ws=>.ret (ws++[.t d (.v (.one (.own d 0)))])
      | .v (.one (.own k j))=>.gO k fun os=>match aY os j with
       | .own t' xs deep m=>if h:t'=.base .u8 then
         .opt (gd ((h▸xs:List (Ty.base .u8).den).length+(jX s).length)) fun _=>
          (fresh d [.own (.base .u8) ((h▸xs:List (Ty.base .u8).den)++jX s) deep m]).bind fun ws=>
           .ret (.upd k j .dead::ws++[.t d (.v (.one (.own d 0)))])
        else .fail
       | _=>.fail
      | _=>.fail
     | _=>.fail
    else .fail
   | _,_,_=>.fail
  | .builtin .max=>match c.args.toList with
   | [x,y]=>(dX x).bind fun a=>(avD a).bind fun
    | .int .i64 m=>(dX y).bind fun b=>(avD b).bind fun
     | .int .i64 n=>.ret (fA o (.v (.one (.d (.int .i64 (if n>m then n else m))))))
     | _=>.fail
    | _=>.fail
   | _=>.fail
  | .builtin .min=>match c.args.toList with
   | [x,y]=>(dX x).bind fun a=>(avD a).bind fun
    | .int .i64 m=>(dX y).bind fun b=>(avD b).bind fun
     | .int .i64 n=>.ret (fA o (.v (.one (.d (.int .i64 (if n<m then n else m))))))
     | _=>.fail
    | _=>.fail
   | _=>.fail
  | .value (.func f)=>match E.fs.find? (fun s=>s.fid==f)with
   | none=>match E.ms.find? (fun m=>m.fid==f),c.args.toList with
    | some m,[x,y]=>(dX x).bind fun ax=>(avV ax).bind fun v=>(dX y).bind fun ay=>(avD ay).bind fun
     | .int .i64 n=>(vT m.sh v).bind fun z=>.opt (m.fn z n) fun r=>
      if nodupB (aK v.cells)then (y9 (m.sh.t.cells r.1) v.cells).bind fun ws=>.ret (ws++fA o (.v (.one (.d (.int .i64 r.2)))))
      else .fail
     | _=>.fail
    | _,_=>aiL E o c f
   | some s=>(AB c.args.toList).bind fun vs=>(vTs s.ps vs).bind fun x=>.opt (s.fn x) fun y=>
    let keys:=aK (vs.flatMap V.cells)
    if s.ex||nodupB keys then
     let cut:List W:=if s.ex then []else keys.map fun q=>.nomut q.1 q.2
     match o.dst with
     | none=>.ret cut
     | some d=>
      if s.ex&&(dn s.rs y).any isList then
       (fresh d (FM E.trees (dn s.rs y))).bind fun ws=>.ret (ws++[.t d (yM (vP d s.ex 0 s.rs y))])
      else .ret (cut++[.t d (yM (vP d s.ex 0 s.rs y))])
    else .fail
  | _=>.fail
 | .slice T x lo hi mx=>match mx with
  | some _=>.fail
  | none=>(dX x).bind fun a=>(bnd lo).bind fun lo=>(bnd hi).bind fun hi=>match a with
   | .v (.one (.d (.str s)))=>if E.tt.strs.contains T then .opt (cutL s lo hi) fun r=>.ret (fA o (.v (.one (.d (.str r)))))else .fail
   | .v (.one (.d (.list t xs)))=>if (lk E.tt.elem T)=some t then .opt (cutL xs lo hi) fun r=>.ret (fA o (.v (.one (.d (.list t r)))))else .fail
   | .v (.one (.own k j))=>if ah6 E o=true then adO E o T k j lo hi else .gO k fun os=>match aY os j with
    | .own t xs _ m=>if (lk E.tt.elem T)=some t then .opt (cutL xs lo hi) fun r=>.ret (match m with | true=>.nomut k j::fA o (.v (.one (.d (.list t r)))) | false=>fA o (.v (.one (.d (.list t r)))))else .fail
    | .ro t xs=>if (lk E.tt.elem T)=some t then .opt (cutL xs lo hi) fun r=>.ret (fA o (.v (.one (.d (.list t r)))))else .fail
    | _=>.fail
   | .cut t _ n g D=>if (lk E.tt.elem T)=some t then match lo,hi with
     | none,some h=>.opt (if h=(n:Int)then some ()else none) fun _=>.ret (fA o (.seg g))
     | some l,none=>.opt (if l=(n:Int)then some ()else none) fun _=>.ret (fA o (.seg D))
     | _,_=>.fail
    else .fail
   | _=>.fail
 | _=>.fail
where
 fillA (fs:List (Nat×Bool×Nat)):List (Nat×Operand)->List C->Rd (List C)
  | [],z=>.ret z
  | (i,x)::r,z=>match fs[i]? with
   | none=>.fail
   | some (fo,_,n)=>(dX x).bind fun a=>(avV a).bind fun v=>
    if v.cells.length=n/\fo+n<=z.length then fillA fs r (dS z fo v.cells)else .fail
 bnd:Option Operand->Rd (Option Int)
  | none=>.ret none
  | some x=>(dX x).bind fun a=>(JO a).bind fun n=>.ret (some n)
 cutL {α:Type} (xs:List α) (lo hi:Option Int):Option (List α):=
  let l:=lo.getD 0
  let h:=hi.getD xs.length
  if 0<=l/\l<=h/\h<=xs.length then some ((xs.take h.toNat).drop l.toNat)else none
def fork{ρ:Type}(t:Nat)(S:St)(k:St->Option ρ):Option ρ:=
 match S.iG t with
 | .v (.one (.d (.bool b)))=>cond b (k (S.iY t (.v (.one (.d (.bool true)))))) (k (S.iY t (.v (.one (.d (.bool false))))))
 | _=>k S
def JH{ρ:Type}(x:Option Nat)(S:St)(k:St->Option ρ):Option ρ:=
 match x with
 | none=>k S
 | some t=>fork t S k
def ZJ(ops:Array Oper)(o:Oper):Option Nat:=match o.guard with
 | none=>none
 | some (j,_)=>(ops[j]?).bind (·.dst)
def adQ(o:Oper):Option Nat:=match o.op with
 | .pick (.tmp c) _ _=>some c
 | _=>none
def Tq(ops:Array Oper)(o:Oper):Rd Bool:=match o.guard with
 | none=>.ret true
 | some (j,want)=>match (ops[j]?).bind (·.dst)with
  | none=>.fail
  | some t=>.gT t fun
   | .v (.one (.d (.bool b)))=>.ret (b==want)
   | .tup []=>.ret false
   | _=>.fail
def EH(E:Env)(ops:Array Oper)(o:Oper):Rd (List W):=
 (Tq ops o).bind fun
  | true=>eff E o
  | false=>.ret (fA o (.tup []))
def EJ(E:Env)(d:Oper):List Oper->Option (Srt×Operand×Nat×Nat×Nat×Oper)
 | e::h::_=>match d.op,d.dst,e.op,e.dst,h.op with
  | .makeInterface T x,some a,.makeFunc (.func g) first cap,some i,.call c=>match c.callee,first.toList,cap.toList,c.args.toList with
   | .value (.func f),[],[.tmp b],[.tmp j,.tmp k]=>
    if d.guard.isNone&&e.guard.isNone&&h.guard.isNone&&(j==a)&&(k==i)&&(a != i)&&(b != a)then
     (E.so.find? fun s=>s.fid==f&&s.g==g&&s.T==T).map fun s=>(s,x,b,a,i,h)
    else none
   | _,_,_,_=>none
  | _,_,_,_,_=>none
 | _=>none
def KT(q:Srt×Operand×Nat×Nat×Nat×Oper):Rd (List W):=
 (dX q.2.1).bind fun ax=>(avV ax).bind fun
  | .one (.own k j)=>.gT q.2.2.1 fun
   | .v (.one (.ptr bi 0))=>.gB bi fun
    | some [.own k' j']=>if k=k'/\j=j' then .gO k fun os=>match aY os j with
     | .own t xs deep true=>if h:t=q.1.t then .opt (q.1.fn (h▸xs)) fun ys=>.gN fun n=>if q.2.2.2.1<n/\q.2.2.2.2.1<n then
       .ret ([.upd k j (.own q.1.t ys deep true),.t q.2.2.2.1 .undef,.t q.2.2.2.2.1 .undef]++fA q.2.2.2.2.2 (.tup []))else .fail
      else .fail
     | _=>.fail
     else .fail
    | _=>.fail
   | _=>.fail
  | _=>.fail
def PZ{ρ:Type}(E:Env)(ops:Array Oper):Nat->List Oper->St->(St->Option ρ)->Option ρ
 | _,[],S,k=>k S
 | n+1,_::r,S,k=>PZ E ops n r S k
 | 0,o::r,S,k=>match EJ E o r with
  | some q=>(KT q).runK S fun ws=>PZ E ops 2 r (S.puts ws) k
  | none=>JH (ZJ ops o) S fun S=>JH (adQ o) S fun S=>(EH E ops o).runK S fun ws=>PZ E ops 0 r (S.puts ws) k
def aiw{ρ:Type}(E:Env)(ops:Array Oper)(l:List Oper)(S:St)(k:St->Option ρ):Option ρ:=PZ E ops 0 l S k
structure Lg where
 i:Nat
 reads:List L
 writes:List L
def opsL{ρ:Type}(E:Env)(ops:Array Oper):List (Oper×Nat)->St->List Lg->(St->List Lg->Option ρ)->Option ρ
 | [],S,g,k=>k S g
 | (o,i)::r,S,g,k=>JH (ZJ ops o) S fun S=>JH (adQ o) S fun S=>
   (EH E ops o).abD S [] fun ws rs=>opsL E ops r (S.puts ws) ({ i,reads:=rs,writes:=ws.map W.loc } :: g) k
def meets(a b:List L):Bool:=a.any fun x=>b.any fun y=>decide (x=y)
def Lg.free(a b:Lg):Bool:=!meets a.writes b.reads&&!meets a.writes b.writes&&!meets b.writes a.reads
def Aa(acc:List Nat)(o:Oper):Nat:=o.after.toList.foldl (fun s e=>if Region.binds .any e then s ||| 2 ^ e.on ||| acc.getD e.on 0 else s) 0
def masks:List Nat->List Oper->List Nat
 | acc,[]=>acc
 | acc,o::r=>masks (acc++[Aa acc o]) r
def Cc(bf:List Nat):List Lg->Bool
 | []=>true
 | a::r=>(r.all fun b=>(bf.getD a.i 0).testBit b.i||b.free a)&&Cc bf r
def IJ(l:List (Oper×Nat)):Bool:=l.all fun x=>x.1.after.toList.all fun e=>!Region.binds .any e||decide (e.on<x.2)
def adP(E:Env)(id:Nat):List (Nat×Nat):=(lk E.pre id).getD []
def abU{ρ:Type}(E:Env)(ops:Array Oper)(id:Nat)(S:St)(k:St->Option ρ):Option ρ:=
 opsL E ops ops.toList.zipIdx (S.puts ((adP E id).map fun q=>W.nomut q.1 q.2)) [] fun S' g=>if IJ ops.toList.zipIdx&&Cc (masks [] ops.toList) g then k S' else none
def aeY(s i a b:Nat):Rd (List W):=.gT s fun
 | .v (.one (.own k j))=>.gO k fun os=>match aY os j with
  | .own t xs true _=>.gT i fun ai=>(JO ai).bind fun n=>.opt (cutAt xs n) fun m=>
   (fresh a [.seg t (xs.take m)]).bind fun c=>(fresh b [.seg t (xs.drop m)]).bind fun d=>.gN fun N=>
    if a≠b/\a≠k/\b≠k/\a<N/\b<N then .ret (.upd k j .dead::(c++(d++[.t s (.cut t xs.length m a b)])))else .fail
  | _=>.fail
 | _=>.fail
def agA{ρ:Type}(E:Env)(id:Nat)(S:St)(k:St->Option ρ):Option ρ:=match lk E.cuts id with
 | none=>k S
 | some (s,i,a,b)=>(aeY s i a b).runK S fun ws=>k (S.puts ws)
inductive Ex where
 | normal
 | exit (id:Nat)
 | ret
inductive Sr where
 | ro (t:Ty)
 | own (t:Ty) (deep m:Bool) (key:Nat)
 | part (t:Ty) (key:Nat)
abbrev Sr.den:Sr->Type
 | .ro t=>t.den
 | .own t _ _ _=>List t.den
 | .part t _=>List t.den×Nat
inductive It where
 | t (i:Nat) (s:Sr)
 | b (b off:Nat) (s:Sr)
def It.sr:It->Sr
 | .t _ s=>s
 | .b _ _ s=>s
structure LA where
 n:Nat
 its:List It
 boxes:List (Nat×Nat)
 ptrs:List (Nat×Nat×Nat)
 als:List (Nat×Nat×Nat):=[]
 bls:List (Nat×Nat×Nat×Nat):=[]
 tls:List (Nat×Nat):=[]
abbrev Its:List It->Type
 | []=>Unit
 | [x]=>x.sr.den
 | x::r=>x.sr.den×Its r
def adk:Ty->Bool
 | .base .int=>true
 | .base .u8=>true
 | .base .bool=>true
 | .base .str=>true
 | .list _=>true
 | _=>false
def avC:AV->Rd C
 | .v (.one c)=>.ret c
 | _=>.fail
def acs(s:Sr)(c:C):Rd s.den:=
 match s with
 | .ro t=>if adk t then (cDs t.tys [c]).bind fun ds=>.opt (t.iO ds) .ret else .fail
 | .own t deep m _=>match c with
  | .nil=>.ret ([]:List t.den)
  | .own k j=>.gO k fun os=>match aY os j with
   | .own t' xs deep' m'=>if h:t'=t then if (deep->deep')/\(m->m')then .ret (h▸xs:List t.den)else .fail else .fail
   | .tree t' xs=>if h:t'=t then .ret (h▸xs:List t.den)else .fail
   | _=>.fail
  | _=>.fail
 | .part t _=>match c with
  | .own k j=>.gO k fun os=>match aY os j with
   | .tree t' xs=>if h:t'=t then .ret ((h▸xs:List t.den),(0:Nat))else .fail
   | .part t' xs i=>if h:t'=t then .ret ((h▸xs:List t.den),i)else .fail
   | _=>.fail
  | _=>.fail
def cAt:It->Rd C
 | .t i _=>.gT i avC
 | .b b off _=>.gB b fun
  | some cs=>.opt (cs[off]?) .ret
  | none=>.fail
def aeJ(x:It):Rd x.sr.den:=(cAt x).bind fun c=>acs x.sr c
def aaT:(l:List It)->Rd (Its l)
 | []=>.ret ()
 | [x]=>aeJ x
 | x::y::r=>(aeJ x).bind fun a=>(aaT (y::r)).bind fun b=>.ret (a,b)
def keysOf:List It->Rd (List (Nat×Nat)×List (Nat×Nat))
 | []=>.ret ([],[])
 | x::r=>(cAt x).bind fun c=>(keysOf r).bind fun p=>
  match x.sr with
  | .own _ _ _ _=>.ret (aK [c]++p.1,p.2)
  | .part _ _=>.ret (aK [c]++p.1,p.2)
  | .ro _=>.ret (p.1,aK [c]++p.2)
def GN:List (Nat×Nat)->Rd Unit
 | []=>.ret ()
 | (b,n)::r=>.gB b fun
  | some cs=>if cs.length=n then GN r else .fail
  | none=>.fail
def Nr:List (Nat×Nat×Nat)->Rd Unit
 | []=>.ret ()
 | (i,b,off)::r=>.gT i fun
  | .v (.one (.ptr b' off'))=>if b'=b/\off'=off then Nr r else .fail
  | _=>.fail
def aa5:List (Nat×Nat×Nat)->Rd Unit
 | []=>.ret ()
 | (i,b,off)::r=>.gT i fun
  | .v (.one (.own k j))=>.gB b fun
   | some cs=>match cs[off]? with
    | some (.own k' j')=>if k=k'/\j=j' then aa5 r else .fail
    | _=>.fail
   | none=>.fail
  | _=>.fail
def aa4:List (Nat×Nat×Nat×Nat)->Rd Unit
 | []=>.ret ()
 | (b',off',b,off)::r=>.gB b' fun
  | some cs'=>.gB b fun
   | some cs=>match cs'[off']?,cs[off]? with
    | some (.own k' j'),some (.own k j)=>if k=k'/\j=j' then aa4 r else .fail
    | _,_=>.fail
   | none=>.fail
  | none=>.fail
def aae:List (Nat×Nat)->Rd Unit
 | []=>.ret ()
 | (i,i')::r=>.gT i fun
  | .v (.one (.own k j))=>.gT i' fun
   | .v (.one (.own k' j'))=>if k=k'/\j=j' then aae r else .fail
   | _=>.fail
  | _=>.fail
def dQ:List It->List Nat
 | []=>[]
 | x::r=>match x.sr with
  | .own _ _ _ key=>key::dQ r
  | .part _ key=>key::dQ r
  | .ro _=>dQ r
def DY:List Nat->Bool
 | []=>true
 | x::r=>!(r.any fun y=>y==x)&&DY r
def LA.get(la:LA):Rd (Its la.its):=.gN fun n=>if n=la.n/\DY (dQ la.its)=true/\(dQ la.its).all (fun k=>decide (k<la.n))=true/\la.ptrs.all (fun p=>la.boxes.any fun q=>q.1==p.2.1)=true/\la.its.all (fun it=>match it with
      | .b bx _ _=>la.boxes.any fun q=>q.1==bx
      | _=>true)=true then
  (GN la.boxes).bind fun _=>(Nr la.ptrs).bind fun _=>(aa5 la.als).bind fun _=>(aa4 la.bls).bind fun _=>(aae la.tls).bind fun _=>(keysOf la.its).bind fun p=>
   if nodupB p.1&&p.1.all (fun x=>!p.2.any fun y=>y.1==x.1&&y.2==x.2)then aaT la.its else .fail
 else .fail
def LA.base(la:LA):St:=
 { tmps:=la.ptrs.foldl (fun l p=>l.set p.1 (.v (.one (.ptr p.2.1 p.2.2)))) (List.replicate la.n .undef),boxes:=la.boxes.foldl (fun l p=>l.set p.1 (some (List.replicate p.2 .undef))) (List.replicate la.n none),owns:=List.replicate la.n [] }
def dOf(t:Ty)(x:t.den):C:=match t.cells x with
 | [d]=>.d d
 | _=>.undef
def St.tV(S:St)(it:It)(c:C):St:=match it with
 | .t i _=>S.iY i (.v (.one c))
 | .b b off _=>match S.fE b with
  | some cs=>S.setB b (some (cs.set off c))
  | none=>S
def St.Np(S:St)(it:It)(x:it.sr.den):St:=
 match it.sr,x with
 | .ro t,x=>S.tV it (dOf t x)
 | .own t deep m key,xs=>(S.cO key [.own t xs deep m]).tV it (.own key 0)
 | .part t key,(xs,i)=>(S.cO key [.part t xs i]).tV it (.own key 0)
def St.aaw(S:St):(l:List It)->Its l->St
 | [],_=>S
 | [x],a=>S.Np x a
 | x::y::r,(a,b)=>(S.Np x a).aaw (y::r) b
def St.Ia(S:St):List (Nat×Nat×Nat)->St
 | []=>S
 | (i,b,off)::r=>match S.fE b with
  | some cs=>match cs[off]? with
   | some (.own k j)=>(S.iY i (.v (.one (.own k j)))).Ia r
   | _=>S.Ia r
  | none=>S.Ia r
def St.H9(S:St):List (Nat×Nat×Nat×Nat)->St
 | []=>S
 | (b',off',b,off)::r=>match S.fE b',S.fE b with
  | some cs',some cs=>match cs[off]? with
   | some (.own k j)=>(S.setB b' (some (cs'.set off' (.own k j)))).H9 r
   | _=>S.H9 r
  | _,_=>S.H9 r
def St.Nl(S:St):List (Nat×Nat)->St
 | []=>S
 | (i,i')::r=>match S.iG i' with
  | .v (.one (.own k j))=>(S.iY i (.v (.one (.own k j)))).Nl r
  | _=>S.Nl r
def LA.put(la:LA)(x:Its la.its):St:=(((la.base.aaw la.its x).Ia la.als).H9 la.bls).Nl la.tls
def iter{X ρ:Type}(f:X->Option (X⊕ρ)):Nat->X->Option ρ
 | 0,_=>none
 | n+1,x=>match f x with
  | none=>none
  | some (.inl y)=>iter f n y
  | some (.inr r)=>some r
open Classical in
def ak{X ρ:Type}(f:X->Option (X⊕ρ))(x:X):Option ρ:=
 if h:∃n r,iter f n x=some r then some h.choose_spec.choose else none
def ael{X ρ:Type}(p:Option (X⊕ρ))(f:X->Option ρ):Option ρ:=p.bind fun j=>match j with
 | .inl x=>f x
 | .inr r=>some r
def oz:Code->Option Nat
 | .region id _ _=>some id
 | .seq a b=>(oz a).or (oz b)
 | .cond _ a b=>(oz a).or (oz b)
 | .block _ c=>oz c
 | .loop c=>oz c
 | .scope c=>oz c
 | _=>none
def den(E:Env)(an:List (Nat×LA)):Code->{ρ:Type}->St->(Ex->St->Option ρ)->Option ρ
 | .skip,_,S,k=>k .normal S
 | .label _,_,S,k=>k .normal S
 | .region id ops false,_,S,k=>agA E id S fun S=>aiw E ops ops.toList S fun S=>k .normal S
 | .region id ops true,_,S,k=>agA E id S fun S=>abU E ops id S fun S=>k .normal S
 | .seq a b,_,S,k=>match (oz b).bind fun i=>lk an (i+1000000)with
  | none=>den E an a S fun e S=>match e with
   | .normal=>den E an b S k
   | e=>k e S
  | some la=>ael (den E an a S fun e S=>match e with
   | .normal=>la.get.runK S fun x=>some (.inl x)
   | e=>(k e S).bind fun r=>some (.inr r)) fun x=>den E an b (la.put x) k
 | .cond c a b,_,S,k=>match c with
  | .tmp t=>fork t S fun S=>match S.iG t with
   | .v (.one (.d (.bool true)))=>den E an a S k
   | .v (.one (.d (.bool false)))=>den E an b S k
   | _=>none
  | _=>none
 | .block id c,_,S,k=>den E an c S fun e S=>match e with
  | .exit i=>if i=id then k .normal S else k (.exit i) S
  | e=>k e S
 | .loop c,_,S,k=>match (oz c).bind (lk an)with
  | none=>none
  | some la=>la.get.runK S fun f=>ak (fun x=>den E an c (la.put x) fun e S=>match e with
    | .normal=>la.get.runK S fun y=>some (.inl y)
    | e=>(k e S).bind fun r=>some (.inr r)) f
 | .exit id,_,S,k=>k (.exit id) S
 | .ret,_,S,k=>k .ret S
 | .scope _,_,_,_=>none
 | .goto _,_,_,_=>none
 | .rangeFunc ..,_,_,_=>none
 | .refuse _,_,_,_=>none
def agu(s:Sh)(x:s.t.den):V:=mkV' s.agg ((s.t.cells x).map .d)
def Gz:(ss:List Sh)->Tup ss->List V
 | [],_=>[]
 | [s],x=>[agu s x]
 | s::s'::r,(x,y)=>agu s x::Gz (s'::r) y
def yc(n:Nat)(vs:List V):St:=
 { tmps:=(vs.map .v)++List.replicate (n-vs.length) .undef,boxes:=List.replicate (vs.length+(n-vs.length)) none,owns:=List.replicate (vs.length+(n-vs.length)) [] }
def xZ(n:Nat)(cs:List C)(vs:List V):St:=
 { tmps:=(.v (.one (.ptr 0 0))::vs.map .v)++List.replicate (n-(vs.length+1)) .undef,boxes:=some cs::List.replicate (vs.length+(n-(vs.length+1))) none,owns:=List.replicate (vs.length+1+(n-(vs.length+1))) [] }
def resV(E:Env):ResultVar->Rd V
 | .tmp t=>.gT t avV
 | .cell p ty=>match lk E.tt.shape ty with
  | none=>.fail
  | some (agg,n)=>.gT p fun
   | .v (.one (.ptr b off))=>.gB b fun
    | some cs=>.opt (mkV agg (seg cs off n)) fun v=>if (seg cs off n).length=n then .ret v else .fail
    | none=>.fail
   | _=>.fail
def DK(E:Env):List ResultVar->Rd (List V)
 | []=>.ret []
 | x::r=>(resV E x).bind fun v=>(DK E r).bind fun vs=>.ret (v::vs)
def agt(cs:List C):Rd Bool:=(vk cs).bind fun b=>.ret (b&&nodupB (aK cs))
def finish(E:Env)(fn:Func)(rs:List Sh)(ex:Bool):Rd (Tup rs):=
 (DK E fn.results.toList).bind fun vs=>(if ex then agt (vs.flatMap V.cells)else .ret true).bind fun ok=>if ok then vTs rs vs else .fail
def ZO(E:Env)(an:List (Nat×LA))(fn:Func)(ps rs:List Sh)(ex:Bool)(x:Tup ps):Option (Tup rs):=
 match fn.body with
 | none=>none
 | some c=>den E an c (yc fn.ntmps (Gz ps x)) fun e S=>match e with
  | .exit _=>none
  | _=>(finish E fn rs ex).runK S some
def ah9:List Sh->Bool
 | c::_=>c.agg
 | []=>false
def cSh:C->Rd Bool
 | .d (.list _ _)=>.ret false
 | .d _=>.ret true
 | .nil=>.ret true
 | .own k j=>.gO k fun os=>match aY os j with
  | .own _ _ _ true=>.ret true
  | _=>.ret false
 | _=>.ret false
def agB:List C->Rd Bool
 | []=>.ret true
 | c::r=>(cSh c).bind fun b=>(agB r).bind fun b'=>.ret (b&&b')
def Uo(cs:List C):Rd Bool:=(agB cs).bind fun b=>.ret (b&&nodupB (aK cs))
def BU(E:Env)(fn:Func)(rs:List Sh):Rd (Tup rs):=
 (DK E fn.results.toList).bind fun vs=>(Uo (vs.flatMap V.cells)).bind fun ok=>if ok then vTs rs vs else .fail
def aiM(E:Env)(an:List (Nat×LA))(fn:Func)(ps rs:List Sh)(x:Tup ps):Option (Tup rs):=
 match fn.body with
 | none=>none
 | some c=>den E an c (yc fn.ntmps (Gz ps x)) fun e S=>match e with
  | .exit _=>none
  | _=>(BU E fn rs).runK S some
def BX(E:Env)(fn:Func)(rs:List Sh)(ex sh:Bool):Rd (Tup rs):=if ah9 rs=true then .gB 0 fun
 | some cs=>if aK cs=[]then (DK E fn.results.toList).bind fun vs=>(if ex then agt (vs.flatMap V.cells)else if sh then Uo (vs.flatMap V.cells)else .ret true).bind fun ok=>if ok then vTs rs (.agg cs::vs)else .fail
  else .fail
 | none=>.fail
 else .fail
def sameBox:List Sh->List Sh->Bool
 | p::_,r::_=>p.agg&&decide (p.t=r.t)
 | _,_=>false
def aiO(E:Env)(an:List (Nat×LA))(fn:Func)(ps rs:List Sh)(ex sh:Bool)(x:Tup ps):Option (Tup rs):=
 match fn.body,Gz ps x with
 | some c,.agg cs::vs=>if ex=true->sameBox ps rs=true then den E an c (xZ fn.ntmps cs vs) fun e S=>match e with
  | .exit _=>none
  | _=>(BX E fn rs ex sh).runK S some
  else none
 | _,_=>none
def BV(fn:Func)(rs:List Sh):Rd (Tup rs):=if ah9 rs=true then match fn.results.toList with
 | [.tmp t]=>.gT t fun
  | .v (.one (.ptr b 0))=>.gB b fun
   | some cs=>if aK cs=[]then vTs rs [.agg cs]else .fail
   | none=>.fail
  | _=>.fail
 | _=>.fail
 else .fail
def aiN(E:Env)(an:List (Nat×LA))(fn:Func)(ps rs:List Sh)(x:Tup ps):Option (Tup rs):=
 match fn.body with
 | none=>none
 | some c=>den E an c (yc fn.ntmps (Gz ps x)) fun e S=>match e with
  | .exit _=>none
  | _=>(BV fn rs).runK S some
end
end Go.Abs
