import Derived.WalkKit
import Derived.Test.YtbbmkcioplbhbaaGreatDoorProg
import Derived.Lib.LaidTab
import Derived.Lib.ItoaNum
import Derived.Shelf.Strconv.Itoa3
import Derived.KernelRfl
/- Typed data for the Go structures of the program, and the universe of one-cell data. Written by gentypes.py. -/
theorem aa{α:Type _}(a b:α):(bif false then a else b)=b:=rfl
theorem ac{α:Type _}(a b:α):(bif true then a else b)=a:=rfl
theorem ae{p:Prop}[Decidable p](h:¬p):decide p=false:=decide_eq_false h
theorem al{p:Prop}[Decidable p](h:p):decide p=true:=decide_eq_true h
theorem aq{α:Type _}{a:α}(y:α){l:List α}(h:a ∈ l):a ∈ y::l:=List.mem_cons_of_mem y h
theorem ar{α:Type _}{a:α}{l:List α}:a ∈ a::l:=List.mem_cons_self
theorem aw(n:Nat):n<=n:=Nat.le_refl n
theorem az(n:Nat):((n:Int)).toNat=n:=Int.toNat_natCast n
theorem aD{n m k:Nat}(h:n<m)(g:m<=k):n<k:=Nat.lt_of_lt_of_le h g
theorem aE:(false=true)=False:=Bool.false_eq_true
theorem aL:(!true)=false:=rfl
theorem aM{α:Type _}{l:Array α}{i:Nat}{a:α}:l[i]?=some a ↔ ∃ h:i<l.size,l[i]=a:=Array.getElem?_eq_some_iff
theorem aR{α:Type _}{a b:α}(h:some a=some b):a=b:=Option.some.inj h
theorem a6{α:Type _}{a b:List α}:(a++b).length=a.length+b.length:=List.length_append
theorem a7{α:Type _}(a b c:List α):a++b++c=a++(b++c):=List.append_assoc a b c
theorem a8{α:Type _}{i:Nat}{l:List α}:(l.take i).length=min i l.length:=List.length_take
theorem ba{α:Type _}{a b:α}{l:List α}:a ∈ b::l ↔ a=b\/a ∈ l:=List.mem_cons
theorem zA{α β:Type _}(a:α)(f:α->Option β):(some a).bind f=f a:=rfl
theorem zB{α β:Type _}{o:Option α}{f:α->Option β}{b:β}:o.bind f=some b↔∃a,o=some a/\f a=some b:=Option.bind_eq_some_iff
theorem zC{α:Type _}{l:List α}{i:Nat}{a:α}:l[i]?=some a↔∃h:i<l.length,l[i]=a:=List.getElem?_eq_some_iff
theorem zD{α:Type _}(a b:α):(some a=some b)=(a=b):=Option.some.injEq a b
theorem zE{α:Type _}{l:List α}{i:Nat}{a:α}:l.getD i a=l[i]?.getD a:=List.getD_eq_getElem?_getD
theorem zF{α:Type _}{l:List α}{i:Nat}(h:i<l.length):l[i]?=some l[i]:=List.getElem?_eq_getElem h
theorem zG{α:Type _}{l:List α}{i:Nat}{a:α}(h:l[i]?=some a):a∈l:=List.mem_of_getElem? h
theorem zH{α β:Type _}{f:α->β}{l:List α}{b:β}{bs:List β}:l.map f=b::bs↔∃a c,l=a::c/\f a=b/\c.map f=bs:=List.map_eq_cons_iff
theorem zI(a b:Bool):((a&&b)=true)=(a=true/\b=true):=Bool.and_eq_true a b
theorem zJ{α:Type _}{l:List α}{i:Nat}(h:l.length<=i):l[i]?=none:=List.getElem?_eq_none h
namespace Go.Abs
abbrev Str:=List UInt8
structure bQ where
 cell:Int
 row:Int
structure bD where
 cells:List Int
 orig:List bQ
structure aC where
 kind:Int
 n:Int
 step:Int
 text:Str
 list:List aC
 columns:List Str
 rows:List bD
structure aJ where
 kind:Int
 n:Int
 pos:Int
 text:Str
structure af where
 kind:Int
 n:Int
 text:Str
 args:List af
structure aN where
 kind:Int
 n:Int
 time:Int
 text:Str
 result:aC
structure ah where
 id:Int
 version:Int
 kind:Int
 name:Str
 code:Str
 n:Int
structure dZ where
 kind:Int
 pos:Int
 cell:ah
structure aK where
 cell:Int
 version:Int
 reads:List aN
structure afB where
 parent:Int
 edits:List dZ
 undo:List dZ
structure ak where
 cells:List ah
structure Tz where
 notebook:ak
 nodes:List afB
 pos:Int
structure GOp where
 time:Int
 by_:Int
 kind:Int
 seen:List Int
 edit:dZ
 src:Str
 dst:Str
 cell:Int
 version:Int
 reads:List aN
structure aO where
 notebook:ak
 tapes:List aK
 renames:List GOp
structure bG where
 kind:Int
 name:Str
 expr:af
 value:aC
 pos:Int
structure GRd where
 toks:List aJ
 i:Int
 stop:Int
 bad:Int
structure aW where
 toks:List aJ
 i:Int
 bad:Int
def dB(x:aC):aC:=⟨x.kind,x.n,x.step,x.text,x.list,x.columns,x.rows⟩
theorem dn(x:aC):dB x=x:=by cases x;simp[dB]
def aj(x:af):af:=⟨x.kind,x.n,x.text,x.args⟩
theorem aS(x:af):aj x=x:=by cases x;simp[aj]
def iW(x:aN):aN:=⟨x.kind,x.n,x.time,x.text,dB x.result⟩
theorem eG(x:aN):iW x=x:=by cases x;simp[iW,dn]
def jO(x:bG):bG:=⟨x.kind,x.name,aj x.expr,dB x.value,x.pos⟩
theorem jk(x:bG):jO x=x:=by cases x;simp[jO,aS,dn]
inductive Base where
 | int | u8 | bool | str | origin | row | val | token | expr | read | cell | edit | tape | node | notebook | history | op | document | part | rd | psr
 deriving DecidableEq
inductive Ty where
 | base (b:Base)
 | list (t:Ty)
 deriving DecidableEq
abbrev Base.den:Base->Type
 | .int=>Int | .u8=>Int | .bool=>Bool | .str=>Str
 | .origin=>bQ
 | .row=>bD
 | .val=>aC
 | .token=>aJ
 | .expr=>af
 | .read=>aN
 | .cell=>ah
 | .edit=>dZ
 | .tape=>aK
 | .node=>afB
 | .notebook=>ak
 | .history=>Tz
 | .op=>GOp
 | .document=>aO
 | .part=>bG
 | .rd=>GRd
 | .psr=>aW
abbrev Ty.den:Ty->Type
 | .base b=>b.den
 | .list t=>List t.den
inductive D where
 | int (k:IntKind) (n:Int)
 | bool (b:Bool)
 | str (s:Str)
 | list (t:Ty) (xs:List t.den)
def D.dh(t:Ty):D->Option (List t.den)
 | .list t' xs=>if h:t'=t then some (h▸xs)else none
 | _=>none
theorem D.bP{t:Ty}{d:D}{xs:List t.den}(h:d.dh t=some xs):d=.list t xs:=by
 cases d with
 | list t' ys=>
  simp only[D.dh]at h;split at h
  ·rename_i e;subst e;simp at h;rw[h]
  ·cases h
 | _=>simp[D.dh]at h
def Base.size:Base->Nat
 | .int=>1 | .u8=>1 | .bool=>1 | .str=>1
 | .origin=>2
 | .row=>2
 | .val=>7
 | .token=>4
 | .expr=>4
 | .read=>11
 | .cell=>6
 | .edit=>8
 | .tape=>3
 | .node=>3
 | .notebook=>1
 | .history=>3
 | .op=>17
 | .document=>3
 | .part=>14
 | .rd=>4
 | .psr=>3
def Base.cells:(b:Base)->b.den->List D
 | .int,n=>[.int .i64 n] | .u8,c=>[.int .u8 c] | .bool,b=>[.bool b] | .str,s=>[.str s]
 | .origin,x=>[.int .i64 x.cell,.int .i64 x.row]
 | .row,x=>[.list (.base .int) x.cells,.list (.base .origin) x.orig]
 | .val,x=>[.int .i64 x.kind,.int .i64 x.n,.int .i64 x.step,.str x.text,.list (.base .val) x.list,.list (.base .str) x.columns,.list (.base .row) x.rows]
 | .token,x=>[.int .i64 x.kind,.int .i64 x.n,.int .i64 x.pos,.str x.text]
 | .expr,x=>[.int .i64 x.kind,.int .i64 x.n,.str x.text,.list (.base .expr) x.args]
 | .read,x=>[.int .i64 x.kind,.int .i64 x.n,.int .i64 x.time,.str x.text,.int .i64 x.result.kind,.int .i64 x.result.n,.int .i64 x.result.step,.str x.result.text,.list (.base .val) x.result.list,.list (.base .str) x.result.columns,.list (.base .row) x.result.rows]
 | .cell,x=>[.int .i64 x.id,.int .i64 x.version,.int .i64 x.kind,.str x.name,.str x.code,.int .i64 x.n]
 | .edit,x=>[.int .i64 x.kind,.int .i64 x.pos,.int .i64 x.cell.id,.int .i64 x.cell.version,.int .i64 x.cell.kind,.str x.cell.name,.str x.cell.code,.int .i64 x.cell.n]
 | .tape,x=>[.int .i64 x.cell,.int .i64 x.version,.list (.base .read) x.reads]
 | .node,x=>[.int .i64 x.parent,.list (.base .edit) x.edits,.list (.base .edit) x.undo]
 | .notebook,x=>[.list (.base .cell) x.cells]
 | .history,x=>[.list (.base .cell) x.notebook.cells,.list (.base .node) x.nodes,.int .i64 x.pos]
 | .op,x=>[.int .i64 x.time,.int .i64 x.by_,.int .i64 x.kind,.list (.base .int) x.seen,.int .i64 x.edit.kind,.int .i64 x.edit.pos,.int .i64 x.edit.cell.id,.int .i64 x.edit.cell.version,.int .i64 x.edit.cell.kind,.str x.edit.cell.name,.str x.edit.cell.code,.int .i64 x.edit.cell.n,.str x.src,.str x.dst,.int .i64 x.cell,.int .i64 x.version,.list (.base .read) x.reads]
 | .document,x=>[.list (.base .cell) x.notebook.cells,.list (.base .tape) x.tapes,.list (.base .op) x.renames]
 | .part,x=>[.int .i64 x.kind,.str x.name,.int .i64 x.expr.kind,.int .i64 x.expr.n,.str x.expr.text,.list (.base .expr) x.expr.args,.int .i64 x.value.kind,.int .i64 x.value.n,.int .i64 x.value.step,.str x.value.text,.list (.base .val) x.value.list,.list (.base .str) x.value.columns,.list (.base .row) x.value.rows,.int .i64 x.pos]
 | .rd,x=>[.list (.base .token) x.toks,.int .i64 x.i,.int .i64 x.stop,.int .i64 x.bad]
 | .psr,x=>[.list (.base .token) x.toks,.int .i64 x.i,.int .i64 x.bad]
theorem Base.aZ(b:Base)(x:b.den):(b.cells x).length=b.size:=by cases b<;>rfl
def xG:List D->Option bQ
 | [.int .i64 a0,.int .i64 a]=>some ⟨a0,a⟩
 | _=>none
theorem QB{ds:List D}{x:bQ}(h:xG ds=some x):Base.cells .origin x=ds:=by
 unfold xG at h;split at h
 ·simp only[Option.some.injEq]at h;subst h;rfl
 ·cases h
def Qz:List D->Option bD
 | [a,b]=>(a.dh (.base .int)).bind fun a0=>(b.dh (.base .origin)).bind fun c=>some ⟨a0,c⟩
 | _=>none
theorem aaB{ds:List D}{x:bD}(h:Qz ds=some x):Base.cells .row x=ds:=by
 unfold Qz at h;split at h
 ·simp only[Option.bind_eq_some_iff,Option.some.injEq]at h;obtain⟨a0,a,b,h1,rfl⟩:=h;simp only[Base.cells,D.bP a,D.bP h1]
 ·cases h
def Qy:List D->Option aC
 | [.int .i64 a0,.int .i64 a,.int .i64 b,.str c,d,e,f]=>(d.dh (.base .val)).bind fun g=>(e.dh (.base .str)).bind fun h=>(f.dh (.base .row)).bind fun i=>some ⟨a0,a,b,c,g,h,i⟩
 | _=>none
theorem aaA{ds:List D}{x:aC}(h:Qy ds=some x):Base.cells .val x=ds:=by
 unfold Qy at h;split at h
 ·simp only[Option.bind_eq_some_iff,Option.some.injEq]at h;obtain⟨d,a,e,b,f,c,rfl⟩:=h;simp only[Base.cells,D.bP a,D.bP b,D.bP c]
 ·cases h
def BZ:List D->Option aJ
 | [.int .i64 a0,.int .i64 a,.int .i64 b,.str c]=>some ⟨a0,a,b,c⟩
 | _=>none
theorem Ul{ds:List D}{x:aJ}(h:BZ ds=some x):Base.cells .token x=ds:=by
 unfold BZ at h;split at h
 ·simp only[Option.some.injEq]at h;subst h;rfl
 ·cases h
def Iz:List D->Option af
 | [.int .i64 a0,.int .i64 a,.str b,c]=>(c.dh (.base .expr)).bind fun d=>some ⟨a0,a,b,d⟩
 | _=>none
theorem X8{ds:List D}{x:af}(h:Iz ds=some x):Base.cells .expr x=ds:=by
 unfold Iz at h;split at h
 ·simp only[Option.bind_eq_some_iff,Option.some.injEq]at h;obtain⟨b,a,rfl⟩:=h;simp only[Base.cells,D.bP a]
 ·cases h
def Iu:List D->Option aN
 | [.int .i64 a0,.int .i64 c,.int .i64 d,.str e,.int .i64 f,.int .i64 g,.int .i64 h,.str i,j,k,a]=>(j.dh (.base .val)).bind fun l=>(k.dh (.base .str)).bind fun m=>(a.dh (.base .row)).bind fun b=>some ⟨a0,c,d,e,⟨f,g,h,i,l,m,b⟩⟩
 | _=>none
theorem X5{ds:List D}{x:aN}(h:Iu ds=some x):Base.cells .read x=ds:=by
 unfold Iu at h;split at h
 ·simp only[Option.bind_eq_some_iff,Option.some.injEq]at h;obtain⟨e,b,f,c,d,a,rfl⟩:=h;simp only[Base.cells,D.bP b,D.bP c,D.bP a]
 ·cases h
def of_cell:List D->Option ah
 | [.int .i64 a0,.int .i64 a,.int .i64 b,.str c,.str d,.int .i64 e]=>some ⟨a0,a,b,c,d,e⟩
 | _=>none
theorem Ya{ds:List D}{x:ah}(h:of_cell ds=some x):Base.cells .cell x=ds:=by
 unfold of_cell at h;split at h
 ·simp only[Option.some.injEq]at h;subst h;rfl
 ·cases h
def IA:List D->Option dZ
 | [.int .i64 a0,.int .i64 a,.int .i64 b,.int .i64 c,.int .i64 d,.str e,.str f,.int .i64 g]=>some ⟨a0,a,⟨b,c,d,e,f,g⟩⟩
 | _=>none
theorem X9{ds:List D}{x:dZ}(h:IA ds=some x):Base.cells .edit x=ds:=by
 unfold IA at h;split at h
 ·simp only[Option.some.injEq]at h;subst h;rfl
 ·cases h
def Ir:List D->Option aK
 | [.int .i64 a0,.int .i64 a,b]=>(b.dh (.base .read)).bind fun c=>some ⟨a0,a,c⟩
 | _=>none
theorem X4{ds:List D}{x:aK}(h:Ir ds=some x):Base.cells .tape x=ds:=by
 unfold Ir at h;split at h
 ·simp only[Option.bind_eq_some_iff,Option.some.injEq]at h;obtain⟨a,h2,rfl⟩:=h;simp only[Base.cells,D.bP h2]
 ·cases h
def Iy:List D->Option afB
 | [.int .i64 a0,a,b]=>(a.dh (.base .edit)).bind fun c=>(b.dh (.base .edit)).bind fun d=>some ⟨a0,c,d⟩
 | _=>none
theorem X7{ds:List D}{x:afB}(h:Iy ds=some x):Base.cells .node x=ds:=by
 unfold Iy at h;split at h
 ·simp only[Option.bind_eq_some_iff,Option.some.injEq]at h;obtain⟨a,h1,b,h2,rfl⟩:=h;simp only[Base.cells,D.bP h1,D.bP h2]
 ·cases h
def qM:List D->Option ak
 | [a]=>(a.dh (.base .cell)).bind fun a0=>some ⟨a0⟩
 | _=>none
theorem J7{ds:List D}{x:ak}(h:qM ds=some x):Base.cells .notebook x=ds:=by
 unfold qM at h;split at h
 ·simp only[Option.bind_eq_some_iff,Option.some.injEq]at h;obtain⟨a0,a,rfl⟩:=h;simp only[Base.cells,D.bP a]
 ·cases h
def uy:List D->Option Tz
 | [a,b,.int .i64 c]=>(a.dh (.base .cell)).bind fun a0=>(b.dh (.base .node)).bind fun d=>some ⟨⟨a0⟩,d,c⟩
 | _=>none
theorem NH{ds:List D}{x:Tz}(h:uy ds=some x):Base.cells .history x=ds:=by
 unfold uy at h;split at h
 ·simp only[Option.bind_eq_some_iff,Option.some.injEq]at h;obtain⟨a0,a,b,h1,rfl⟩:=h;simp only[Base.cells,D.bP a,D.bP h1]
 ·cases h
def aaE:List D->Option GOp
 | [.int .i64 a0,.int .i64 i,.int .i64 j,k,.int .i64 l,.int .i64 m,.int .i64 n,.int .i64 o,.int .i64 p,.str q,.str a,.int .i64 b,.str c,.str d,.int .i64 e,.int .i64 f,g]=>(k.dh (.base .int)).bind fun r=>(g.dh (.base .read)).bind fun h=>some ⟨a0,i,j,r,⟨l,m,⟨n,o,p,q,a,b⟩⟩,c,d,e,f,h⟩
 | _=>none
theorem adw{ds:List D}{x:GOp}(h:aaE ds=some x):Base.cells .op x=ds:=by
 unfold aaE at h;split at h
 ·simp only[Option.bind_eq_some_iff,Option.some.injEq]at h;obtain⟨d,b,c,a,rfl⟩:=h;simp only[Base.cells,D.bP b,D.bP a]
 ·cases h
def qN:List D->Option aO
 | [a,b,c]=>(a.dh (.base .cell)).bind fun a0=>(b.dh (.base .tape)).bind fun d=>(c.dh (.base .op)).bind fun e=>some ⟨⟨a0⟩,d,e⟩
 | _=>none
theorem J8{ds:List D}{x:aO}(h:qN ds=some x):Base.cells .document x=ds:=by
 unfold qN at h;split at h
 ·simp only[Option.bind_eq_some_iff,Option.some.injEq]at h;obtain⟨a0,a,b,h1,c,h2,rfl⟩:=h;simp only[Base.cells,D.bP a,D.bP h1,D.bP h2]
 ·cases h
def Iw:List D->Option bG
 | [.int .i64 a0,.str h,.int .i64 i,.int .i64 j,.str k,l,.int .i64 m,.int .i64 n,.int .i64 o,.str p,a,b,c,.int .i64 d]=>(l.dh (.base .expr)).bind fun q=>(a.dh (.base .val)).bind fun e=>(b.dh (.base .str)).bind fun f=>(c.dh (.base .row)).bind fun g=>some ⟨a0,h,⟨i,j,k,q⟩,⟨m,n,o,p,e,f,g⟩,d⟩
 | _=>none
theorem X6{ds:List D}{x:bG}(h:Iw ds=some x):Base.cells .part x=ds:=by
 unfold Iw at h;split at h
 ·simp only[Option.bind_eq_some_iff,Option.some.injEq]at h;obtain⟨i,d,e,a,f,b,g,c,rfl⟩:=h;simp only[Base.cells,D.bP d,D.bP a,D.bP b,D.bP c]
 ·cases h
def aaC:List D->Option GRd
 | [a,.int .i64 b,.int .i64 c,.int .i64 d]=>(a.dh (.base .token)).bind fun a0=>some ⟨a0,b,c,d⟩
 | _=>none
theorem adv{ds:List D}{x:GRd}(h:aaC ds=some x):Base.cells .rd x=ds:=by
 unfold aaC at h;split at h
 ·simp only[Option.bind_eq_some_iff,Option.some.injEq]at h;obtain⟨a0,a,rfl⟩:=h;simp only[Base.cells,D.bP a]
 ·cases h
def QA:List D->Option aW
 | [a,.int .i64 b,.int .i64 c]=>(a.dh (.base .token)).bind fun a0=>some ⟨a0,b,c⟩
 | _=>none
theorem aaD{ds:List D}{x:aW}(h:QA ds=some x):Base.cells .psr x=ds:=by
 unfold QA at h;split at h
 ·simp only[Option.bind_eq_some_iff,Option.some.injEq]at h;obtain⟨a0,a,rfl⟩:=h;simp only[Base.cells,D.bP a]
 ·cases h
def Base.fC:(b:Base)->List D->Option b.den
 | .int,ds=>match ds with | [.int .i64 n]=>some n | _=>none
 | .u8,ds=>match ds with | [.int .u8 n]=>some n | _=>none
 | .bool,ds=>match ds with | [.bool b]=>some b | _=>none
 | .str,ds=>match ds with | [.str s]=>some s | _=>none
 | .origin,ds=>xG ds
 | .row,ds=>Qz ds
 | .val,ds=>Qy ds
 | .token,ds=>BZ ds
 | .expr,ds=>Iz ds
 | .read,ds=>Iu ds
 | .cell,ds=>of_cell ds
 | .edit,ds=>IA ds
 | .tape,ds=>Ir ds
 | .node,ds=>Iy ds
 | .notebook,ds=>qM ds
 | .history,ds=>uy ds
 | .op,ds=>aaE ds
 | .document,ds=>qN ds
 | .part,ds=>Iw ds
 | .rd,ds=>aaC ds
 | .psr,ds=>QA ds
theorem Base.dD{b:Base}{ds:List D}{x:b.den}(h:b.fC ds=some x):b.cells x=ds:=by
 cases b
 case int=>simp only[Base.fC]at h;split at h<;>simp_all [Base.cells]
 case u8=>simp only[Base.fC]at h;split at h<;>simp_all [Base.cells]
 case bool=>simp only[Base.fC]at h;split at h<;>simp_all [Base.cells]
 case str=>simp only[Base.fC]at h;split at h<;>simp_all [Base.cells]
 case origin=>exact QB h
 case row=>exact aaB h
 case val=>exact aaA h
 case token=>exact Ul h
 case expr=>exact X8 h
 case read=>exact X5 h
 case cell=>exact Ya h
 case edit=>exact X9 h
 case tape=>exact X4 h
 case node=>exact X7 h
 case notebook=>exact J7 h
 case history=>exact NH h
 case op=>exact adw h
 case document=>exact J8 h
 case part=>exact X6 h
 case rd=>exact adv h
 case psr=>exact aaD h
def Base.zero:(b:Base)->b.den
 | .int=>(0:Int) | .u8=>(0:Int) | .bool=>false | .str=>([]:Str)
 | .origin=>⟨0,0⟩
 | .row=>⟨[],[]⟩
 | .val=>⟨0,0,0,[],[],[],[]⟩
 | .token=>⟨0,0,0,[]⟩
 | .expr=>⟨0,0,[],[]⟩
 | .read=>⟨0,0,0,[],⟨0,0,0,[],[],[],[]⟩⟩
 | .cell=>⟨0,0,0,[],[],0⟩
 | .edit=>⟨0,0,⟨0,0,0,[],[],0⟩⟩
 | .tape=>⟨0,0,[]⟩
 | .node=>⟨0,[],[]⟩
 | .notebook=>⟨[]⟩
 | .history=>⟨⟨[]⟩,[],0⟩
 | .op=>⟨0,0,0,[],⟨0,0,⟨0,0,0,[],[],0⟩⟩,[],[],0,0,[]⟩
 | .document=>⟨⟨[]⟩,[],[]⟩
 | .part=>⟨0,[],⟨0,0,[],[]⟩,⟨0,0,0,[],[],[],[]⟩,0⟩
 | .rd=>⟨[],0,0,0⟩
 | .psr=>⟨[],0,0⟩
def Ty.size:Ty->Nat
 | .base b=>b.size
 | .list _=>1
def Ty.cells:(t:Ty)->t.den->List D
 | .base b,x=>b.cells x
 | .list t,xs=>[.list t xs]
theorem Ty.aZ(t:Ty)(x:t.den):(t.cells x).length=t.size:=by
 cases t with
 | base b=>exact Base.aZ b x
 | list t=>rfl
def Ty.fC:(t:Ty)->List D->Option t.den
 | .base b,ds=>b.fC ds
 | .list t,ds=>match ds with | [d]=>d.dh t | _=>none
theorem Ty.dD{t:Ty}{ds:List D}{x:t.den}(h:t.fC ds=some x):t.cells x=ds:=by
 cases t with
 | base b=>exact Base.dD h
 | list t=>
  simp only[Ty.fC]at h;split at h
  ·simp only[Ty.cells,D.bP h]
  ·cases h
def Ty.zero:(t:Ty)->t.den
 | .base b=>b.zero
 | .list t=>([]:List t.den)
theorem Ty.size_pos(t:Ty):0<t.size:=by
 cases t with
 | base b=>cases b<;>decide
 | list t=>exact Nat.one_pos
end Go.Abs
/- What the code asks of the world beside its arguments: three variables of the library hold what they were laid with. -/
namespace Go.Abs
open Go.Proofs
noncomputable def qi : Nat := max (max (max ((Tryz.prog.globalNamed "internal/strconv.uint64pow10").getD 0) ((Tryz.prog.globalNamed "strconv.ErrSyntax").getD 0)) ((Tryz.prog.globalNamed "strconv.ErrRange").getD 0)) ((Tryz.prog.globalNamed "internal/bytealg.MaxLen").getD 0) + 1
def amb (w : World) : Prop := (qi <= w.heap.size /\ ∃ m, w.cell? ⟨(Tryz.prog.globalNamed "internal/bytealg.MaxLen").getD 0, 0, none⟩ = some (.int .i64 m)) /\ Go.Lib.TabIs Tryz.prog w "internal/strconv.uint64pow10" .u64 Go.Lib.pow10Tab /\ (∃ tp p, w.var? Tryz.prog "strconv.ErrSyntax" = some #[.iface tp p]) /\ ∃ tp p, w.var? Tryz.prog "strconv.ErrRange" = some #[.iface tp p]
theorem amb.size{w:World}(h:amb w):qi<=w.heap.size:=h.1.1
theorem amb.aoZ {w : World} (h : amb w) : ∃ m, w.cell? ⟨(Tryz.prog.globalNamed "internal/bytealg.MaxLen").getD 0, 0, none⟩ = some (.int .i64 m) := h.1.2
theorem OE{w w':World}{n:String}(b:∀k,k<qi->w'.heap[k]?=w.heap[k]?)(a:(Tryz.prog.globalNamed n).getD 0<qi):w'.var? Tryz.prog n=w.var? Tryz.prog n:=by
 unfold World.var?;cases c:Tryz.prog.globalNamed n with
 | none=>rfl
 | some g=>
  rw[c]at a;simp only[Option.bind_some];rw[b g a]
theorem amb.keep{w w':World}(h:amb w)(hs:w.heap.size<=w'.heap.size)(hk:∀k,k<qi->w'.heap[k]?=w.heap[k]?):amb w':=by
 have l1 : (Tryz.prog.globalNamed "internal/strconv.uint64pow10").getD 0 < qi := by unfold qi; omega
 have l2 : (Tryz.prog.globalNamed "strconv.ErrSyntax").getD 0 < qi := by unfold qi; omega
 have l3 : (Tryz.prog.globalNamed "strconv.ErrRange").getD 0 < qi := by unfold qi; omega
 have l4 : (Tryz.prog.globalNamed "internal/bytealg.MaxLen").getD 0 < qi := by unfold qi; omega
 refine⟨⟨Nat.le_trans h.1.1 hs,?_⟩,?_,?_,?_⟩
 ·obtain⟨m,hm⟩:=h.1.2;refine⟨m,?_⟩;unfold World.cell? at hm ⊢;simp only at hm ⊢;rw[hk _ l4];exact hm
 ·have:=h.2.1;unfold Go.Lib.TabIs at this ⊢;rw[OE hk l1];exact this
 ·rw[OE hk l2];exact h.2.2.1
 ·rw[OE hk l3];exact h.2.2.2
theorem amb.tab {w : World} (h : amb w) : Go.Lib.TabIs Tryz.prog w "internal/strconv.uint64pow10" .u64 Go.Lib.pow10Tab := h.2.1
end Go.Abs
