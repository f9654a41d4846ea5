import Derived.WalkKit
import Derived.Test.YtapgeemjgckgaaaGreatDoorProg
import Derived.Lib.LaidTab
import Derived.Lib.ItoaNum
import Derived.Shelf.Strconv.Itoa3
import Derived.KernelRfl
/- Typed data for the Go structures of the program, and the universe of one-cell data. Written by gentypes.py. -/
theorem aa{α:Type _}(a b:α):(bif false then a else b)=b:=rfl
theorem ac{α:Type _}(a b:α):(bif true then a else b)=a:=rfl
theorem ae{p:Prop}[Decidable p](h:¬p):decide p=false:=decide_eq_false h
theorem al{p:Prop}[Decidable p](h:p):decide p=true:=decide_eq_true h
theorem aq{α:Type _}{a:α}(y:α){l:List α}(h:a ∈ l):a ∈ y::l:=List.mem_cons_of_mem y h
theorem ar{α:Type _}{a:α}{l:List α}:a ∈ a::l:=List.mem_cons_self
theorem aw(n:Nat):n<=n:=Nat.le_refl n
theorem az(n:Nat):((n:Int)).toNat=n:=Int.toNat_natCast n
theorem aD{n m k:Nat}(h:n<m)(g:m<=k):n<k:=Nat.lt_of_lt_of_le h g
theorem aE:(false=true)=False:=Bool.false_eq_true
theorem aL:(!true)=false:=rfl
theorem aM{α:Type _}{l:Array α}{i:Nat}{a:α}:l[i]?=some a ↔ ∃ h:i<l.size,l[i]=a:=Array.getElem?_eq_some_iff
theorem aR{α:Type _}{a b:α}(h:some a=some b):a=b:=Option.some.inj h
theorem a6{α:Type _}{a b:List α}:(a++b).length=a.length+b.length:=List.length_append
theorem a7{α:Type _}(a b c:List α):a++b++c=a++(b++c):=List.append_assoc a b c
theorem a8{α:Type _}{i:Nat}{l:List α}:(l.take i).length=min i l.length:=List.length_take
theorem ba{α:Type _}{a b:α}{l:List α}:a ∈ b::l ↔ a=b\/a ∈ l:=List.mem_cons
theorem zA{α β:Type _}(a:α)(f:α->Option β):(some a).bind f=f a:=rfl
theorem zB{α β:Type _}{o:Option α}{f:α->Option β}{b:β}:o.bind f=some b↔∃a,o=some a/\f a=some b:=Option.bind_eq_some_iff
theorem zC{α:Type _}{l:List α}{i:Nat}{a:α}:l[i]?=some a↔∃h:i<l.length,l[i]=a:=List.getElem?_eq_some_iff
theorem zD{α:Type _}(a b:α):(some a=some b)=(a=b):=Option.some.injEq a b
theorem zE{α:Type _}{l:List α}{i:Nat}{a:α}:l.getD i a=l[i]?.getD a:=List.getD_eq_getElem?_getD
theorem zF{α:Type _}{l:List α}{i:Nat}(h:i<l.length):l[i]?=some l[i]:=List.getElem?_eq_getElem h
theorem zG{α:Type _}{l:List α}{i:Nat}{a:α}(h:l[i]?=some a):a∈l:=List.mem_of_getElem? h
theorem zH{α β:Type _}{f:α->β}{l:List α}{b:β}{bs:List β}:l.map f=b::bs↔∃a c,l=a::c/\f a=b/\c.map f=bs:=List.map_eq_cons_iff
theorem zI(a b:Bool):((a&&b)=true)=(a=true/\b=true):=Bool.and_eq_true a b
theorem zJ{α:Type _}{l:List α}{i:Nat}(h:l.length<=i):l[i]?=none:=List.getElem?_eq_none h
namespace Go.Abs
abbrev Str:=List UInt8
structure bK where
 cell:Int
 row:Int
structure bF where
 cells:List Int
 orig:List bK
structure aC where
 kind:Int
 n:Int
 step:Int
 text:Str
 list:List aC
 columns:List Str
 rows:List bF
structure aK where
 kind:Int
 n:Int
 pos:Int
 text:Str
structure af where
 kind:Int
 n:Int
 text:Str
 args:List af
structure dh where
 name:Str
 n:Int
structure aN where
 kind:Int
 n:Int
 time:Int
 text:Str
 result:aC
structure aj where
 id:Int
 version:Int
 kind:Int
 name:Str
 code:Str
 n:Int
structure akn where
 kind:Int
 pos:Int
 cell:aj
structure aB where
 cell:Int
 version:Int
 reads:List aN
structure au where
 cells:List aj
structure dJ where
 clock:Int
 seed:Int
 files:List dh
structure aO where
 cell:Int
 version:Int
 stamp:Int
 inputs:List Int
 value:aC
 has:Bool
structure bM where
 notebook:au
 world:dJ
 tapes:List aB
 entries:List aO
 next:Int
 limit:Int
 work:Int
structure bG where
 kind:Int
 name:Str
 expr:af
 value:aC
 pos:Int
structure GRd where
 toks:List aK
 i:Int
 stop:Int
 bad:Int
structure aV where
 toks:List aK
 i:Int
 bad:Int
def bW(x:aC):aC:=⟨x.kind,x.n,x.step,x.text,x.list,x.columns,x.rows⟩
theorem bT(x:aC):bW x=x:=by cases x;simp[bW]
def ah(x:af):af:=⟨x.kind,x.n,x.text,x.args⟩
theorem aQ(x:af):ah x=x:=by cases x;simp[ah]
def iU(x:aN):aN:=⟨x.kind,x.n,x.time,x.text,bW x.result⟩
theorem dQ(x:aN):iU x=x:=by cases x;simp[iU,bT]
def kF(x:aO):aO:=⟨x.cell,x.version,x.stamp,x.inputs,bW x.value,x.has⟩
theorem dX(x:aO):kF x=x:=by cases x;simp[kF,bT]
def kQ(x:bG):bG:=⟨x.kind,x.name,ah x.expr,bW x.value,x.pos⟩
theorem iy(x:bG):kQ x=x:=by cases x;simp[kQ,aQ,bT]
inductive Base where
 | int | u8 | bool | str | origin | row | val | token | expr | file | read | cell | edit | tape | notebook | world | entry | engine | part | rd | psr
 deriving DecidableEq
inductive Ty where
 | base (b:Base)
 | list (t:Ty)
 deriving DecidableEq
abbrev Base.den:Base->Type
 | .int=>Int | .u8=>Int | .bool=>Bool | .str=>Str
 | .origin=>bK
 | .row=>bF
 | .val=>aC
 | .token=>aK
 | .expr=>af
 | .file=>dh
 | .read=>aN
 | .cell=>aj
 | .edit=>akn
 | .tape=>aB
 | .notebook=>au
 | .world=>dJ
 | .entry=>aO
 | .engine=>bM
 | .part=>bG
 | .rd=>GRd
 | .psr=>aV
abbrev Ty.den:Ty->Type
 | .base b=>b.den
 | .list t=>List t.den
inductive D where
 | int (k:IntKind) (n:Int)
 | bool (b:Bool)
 | str (s:Str)
 | list (t:Ty) (xs:List t.den)
def D.cZ(t:Ty):D->Option (List t.den)
 | .list t' xs=>if h:t'=t then some (h▸xs)else none
 | _=>none
theorem D.bJ{t:Ty}{d:D}{xs:List t.den}(h:d.cZ t=some xs):d=.list t xs:=by
 cases d with
 | list t' ys=>
  simp only[D.cZ]at h;split at h
  ·rename_i e;subst e;simp at h;rw[h]
  ·cases h
 | _=>simp[D.cZ]at h
def Base.size:Base->Nat
 | .int=>1 | .u8=>1 | .bool=>1 | .str=>1
 | .origin=>2
 | .row=>2
 | .val=>7
 | .token=>4
 | .expr=>4
 | .file=>2
 | .read=>11
 | .cell=>6
 | .edit=>8
 | .tape=>3
 | .notebook=>1
 | .world=>3
 | .entry=>12
 | .engine=>9
 | .part=>14
 | .rd=>4
 | .psr=>3
def Base.cells:(b:Base)->b.den->List D
 | .int,n=>[.int .i64 n] | .u8,c=>[.int .u8 c] | .bool,b=>[.bool b] | .str,s=>[.str s]
 | .origin,x=>[.int .i64 x.cell,.int .i64 x.row]
 | .row,x=>[.list (.base .int) x.cells,.list (.base .origin) x.orig]
 | .val,x=>[.int .i64 x.kind,.int .i64 x.n,.int .i64 x.step,.str x.text,.list (.base .val) x.list,.list (.base .str) x.columns,.list (.base .row) x.rows]
 | .token,x=>[.int .i64 x.kind,.int .i64 x.n,.int .i64 x.pos,.str x.text]
 | .expr,x=>[.int .i64 x.kind,.int .i64 x.n,.str x.text,.list (.base .expr) x.args]
 | .file,x=>[.str x.name,.int .i64 x.n]
 | .read,x=>[.int .i64 x.kind,.int .i64 x.n,.int .i64 x.time,.str x.text,.int .i64 x.result.kind,.int .i64 x.result.n,.int .i64 x.result.step,.str x.result.text,.list (.base .val) x.result.list,.list (.base .str) x.result.columns,.list (.base .row) x.result.rows]
 | .cell,x=>[.int .i64 x.id,.int .i64 x.version,.int .i64 x.kind,.str x.name,.str x.code,.int .i64 x.n]
 | .edit,x=>[.int .i64 x.kind,.int .i64 x.pos,.int .i64 x.cell.id,.int .i64 x.cell.version,.int .i64 x.cell.kind,.str x.cell.name,.str x.cell.code,.int .i64 x.cell.n]
 | .tape,x=>[.int .i64 x.cell,.int .i64 x.version,.list (.base .read) x.reads]
 | .notebook,x=>[.list (.base .cell) x.cells]
 | .world,x=>[.int .i64 x.clock,.int .i64 x.seed,.list (.base .file) x.files]
 | .entry,x=>[.int .i64 x.cell,.int .i64 x.version,.int .i64 x.stamp,.list (.base .int) x.inputs,.int .i64 x.value.kind,.int .i64 x.value.n,.int .i64 x.value.step,.str x.value.text,.list (.base .val) x.value.list,.list (.base .str) x.value.columns,.list (.base .row) x.value.rows,.bool x.has]
 | .engine,x=>[.list (.base .cell) x.notebook.cells,.int .i64 x.world.clock,.int .i64 x.world.seed,.list (.base .file) x.world.files,.list (.base .tape) x.tapes,.list (.base .entry) x.entries,.int .i64 x.next,.int .i64 x.limit,.int .i64 x.work]
 | .part,x=>[.int .i64 x.kind,.str x.name,.int .i64 x.expr.kind,.int .i64 x.expr.n,.str x.expr.text,.list (.base .expr) x.expr.args,.int .i64 x.value.kind,.int .i64 x.value.n,.int .i64 x.value.step,.str x.value.text,.list (.base .val) x.value.list,.list (.base .str) x.value.columns,.list (.base .row) x.value.rows,.int .i64 x.pos]
 | .rd,x=>[.list (.base .token) x.toks,.int .i64 x.i,.int .i64 x.stop,.int .i64 x.bad]
 | .psr,x=>[.list (.base .token) x.toks,.int .i64 x.i,.int .i64 x.bad]
theorem Base.aZ(b:Base)(x:b.den):(b.cells x).length=b.size:=by cases b<;>rfl
def xU:List D->Option bK
 | [.int .i64 a0,.int .i64 a]=>some ⟨a0,a⟩
 | _=>none
theorem Qu{ds:List D}{x:bK}(h:xU ds=some x):Base.cells .origin x=ds:=by
 unfold xU at h;split at h
 ·simp only[Option.some.injEq]at h;subst h;rfl
 ·cases h
def Qr:List D->Option bF
 | [a,b]=>(a.cZ (.base .int)).bind fun a0=>(b.cZ (.base .origin)).bind fun c=>some ⟨a0,c⟩
 | _=>none
theorem aap{ds:List D}{x:bF}(h:Qr ds=some x):Base.cells .row x=ds:=by
 unfold Qr at h;split at h
 ·simp only[Option.bind_eq_some_iff,Option.some.injEq]at h;obtain⟨a0,a,c,b,rfl⟩:=h;simp only[Base.cells,D.bJ a,D.bJ b]
 ·cases h
def Qq:List D->Option aC
 | [.int .i64 a0,.int .i64 a,.int .i64 b,.str c,d,e,f]=>(d.cZ (.base .val)).bind fun g=>(e.cZ (.base .str)).bind fun h=>(f.cZ (.base .row)).bind fun i=>some ⟨a0,a,b,c,g,h,i⟩
 | _=>none
theorem aao{ds:List D}{x:aC}(h:Qq ds=some x):Base.cells .val x=ds:=by
 unfold Qq at h;split at h
 ·simp only[Option.bind_eq_some_iff,Option.some.injEq]at h;obtain⟨d,a,e,b,f,c,rfl⟩:=h;simp only[Base.cells,D.bJ a,D.bJ b,D.bJ c]
 ·cases h
def BV:List D->Option aK
 | [.int .i64 a0,.int .i64 a,.int .i64 b,.str c]=>some ⟨a0,a,b,c⟩
 | _=>none
theorem Uc{ds:List D}{x:aK}(h:BV ds=some x):Base.cells .token x=ds:=by
 unfold BV at h;split at h
 ·simp only[Option.some.injEq]at h;subst h;rfl
 ·cases h
def IC:List D->Option af
 | [.int .i64 a0,.int .i64 a,.str b,c]=>(c.cZ (.base .expr)).bind fun d=>some ⟨a0,a,b,d⟩
 | _=>none
theorem XM{ds:List D}{x:af}(h:IC ds=some x):Base.cells .expr x=ds:=by
 unfold IC at h;split at h
 ·simp only[Option.bind_eq_some_iff,Option.some.injEq]at h;obtain⟨b,a,rfl⟩:=h;simp only[Base.cells,D.bJ a]
 ·cases h
def IB:List D->Option dh
 | [.str a0,.int .i64 a]=>some ⟨a0,a⟩
 | _=>none
theorem XL{ds:List D}{x:dh}(h:IB ds=some x):Base.cells .file x=ds:=by
 unfold IB at h;split at h
 ·simp only[Option.some.injEq]at h;subst h;rfl
 ·cases h
def Iz:List D->Option aN
 | [.int .i64 a0,.int .i64 c,.int .i64 d,.str e,.int .i64 f,.int .i64 g,.int .i64 h,.str i,j,k,a]=>(j.cZ (.base .val)).bind fun l=>(k.cZ (.base .str)).bind fun m=>(a.cZ (.base .row)).bind fun b=>some ⟨a0,c,d,e,⟨f,g,h,i,l,m,b⟩⟩
 | _=>none
theorem XJ{ds:List D}{x:aN}(h:Iz ds=some x):Base.cells .read x=ds:=by
 unfold Iz at h;split at h
 ·simp only[Option.bind_eq_some_iff,Option.some.injEq]at h;obtain⟨e,b,f,c,d,a,rfl⟩:=h;simp only[Base.cells,D.bJ b,D.bJ c,D.bJ a]
 ·cases h
def of_cell:List D->Option aj
 | [.int .i64 a0,.int .i64 a,.int .i64 b,.str c,.str d,.int .i64 e]=>some ⟨a0,a,b,c,d,e⟩
 | _=>none
theorem XP{ds:List D}{x:aj}(h:of_cell ds=some x):Base.cells .cell x=ds:=by
 unfold of_cell at h;split at h
 ·simp only[Option.some.injEq]at h;subst h;rfl
 ·cases h
def IE:List D->Option akn
 | [.int .i64 a0,.int .i64 a,.int .i64 b,.int .i64 c,.int .i64 d,.str e,.str f,.int .i64 g]=>some ⟨a0,a,⟨b,c,d,e,f,g⟩⟩
 | _=>none
theorem XO{ds:List D}{x:akn}(h:IE ds=some x):Base.cells .edit x=ds:=by
 unfold IE at h;split at h
 ·simp only[Option.some.injEq]at h;subst h;rfl
 ·cases h
def Iy:List D->Option aB
 | [.int .i64 a0,.int .i64 a,b]=>(b.cZ (.base .read)).bind fun c=>some ⟨a0,a,c⟩
 | _=>none
theorem XI{ds:List D}{x:aB}(h:Iy ds=some x):Base.cells .tape x=ds:=by
 unfold Iy at h;split at h
 ·simp only[Option.bind_eq_some_iff,Option.some.injEq]at h;obtain⟨b,a,rfl⟩:=h;simp only[Base.cells,D.bJ a]
 ·cases h
def qA:List D->Option au
 | [a]=>(a.cZ (.base .cell)).bind fun a0=>some ⟨a0⟩
 | _=>none
theorem Kq{ds:List D}{x:au}(h:qA ds=some x):Base.cells .notebook x=ds:=by
 unfold qA at h;split at h
 ·simp only[Option.bind_eq_some_iff,Option.some.injEq]at h;obtain⟨a0,a,rfl⟩:=h;simp only[Base.cells,D.bJ a]
 ·cases h
def BU:List D->Option dJ
 | [.int .i64 a0,.int .i64 a,b]=>(b.cZ (.base .file)).bind fun c=>some ⟨a0,a,c⟩
 | _=>none
theorem Ub{ds:List D}{x:dJ}(h:BU ds=some x):Base.cells .world x=ds:=by
 unfold BU at h;split at h
 ·simp only[Option.bind_eq_some_iff,Option.some.injEq]at h;obtain⟨b,a,rfl⟩:=h;simp only[Base.cells,D.bJ a]
 ·cases h
def BX:List D->Option aO
 | [.int .i64 a0,.int .i64 d,.int .i64 e,f,.int .i64 g,.int .i64 h,.int .i64 i,.str j,k,l,a,.bool b]=>(f.cZ (.base .int)).bind fun m=>(k.cZ (.base .val)).bind fun n=>(l.cZ (.base .str)).bind fun o=>(a.cZ (.base .row)).bind fun c=>some ⟨a0,d,e,m,⟨g,h,i,j,n,o,c⟩,b⟩
 | _=>none
theorem Ud{ds:List D}{x:aO}(h:BX ds=some x):Base.cells .entry x=ds:=by
 unfold BX at h;split at h
 ·simp only[Option.bind_eq_some_iff,Option.some.injEq]at h;obtain⟨f,b,g,c,i,d,e,a,rfl⟩:=h;simp only[Base.cells,D.bJ b,D.bJ c,D.bJ d,D.bJ a]
 ·cases h
def xX:List D->Option bM
 | [a,.int .i64 b,.int .i64 c,d,e,f,.int .i64 g,.int .i64 h,.int .i64 i]=>(a.cZ (.base .cell)).bind fun a0=>(d.cZ (.base .file)).bind fun j=>(e.cZ (.base .tape)).bind fun k=>(f.cZ (.base .entry)).bind fun l=>some ⟨⟨a0⟩,⟨b,c,j⟩,k,l,g,h,i⟩
 | _=>none
theorem Qv{ds:List D}{x:bM}(h:xX ds=some x):Base.cells .engine x=ds:=by
 unfold xX at h;split at h
 ·simp only[Option.bind_eq_some_iff,Option.some.injEq]at h;obtain⟨a0,a,e,b,f,c,g,d,rfl⟩:=h;simp only[Base.cells,D.bJ a,D.bJ b,D.bJ c,D.bJ d]
 ·cases h
def IA:List D->Option bG
 | [.int .i64 a0,.str h,.int .i64 i,.int .i64 j,.str k,l,.int .i64 m,.int .i64 n,.int .i64 o,.str p,a,b,c,.int .i64 d]=>(l.cZ (.base .expr)).bind fun q=>(a.cZ (.base .val)).bind fun e=>(b.cZ (.base .str)).bind fun f=>(c.cZ (.base .row)).bind fun g=>some ⟨a0,h,⟨i,j,k,q⟩,⟨m,n,o,p,e,f,g⟩,d⟩
 | _=>none
theorem XK{ds:List D}{x:bG}(h:IA ds=some x):Base.cells .part x=ds:=by
 unfold IA at h;split at h
 ·simp only[Option.bind_eq_some_iff,Option.some.injEq]at h;obtain⟨i,d,e,a,f,b,g,c,rfl⟩:=h;simp only[Base.cells,D.bJ d,D.bJ a,D.bJ b,D.bJ c]
 ·cases h
def aaq:List D->Option GRd
 | [a,.int .i64 b,.int .i64 c,.int .i64 d]=>(a.cZ (.base .token)).bind fun a0=>some ⟨a0,b,c,d⟩
 | _=>none
theorem adi{ds:List D}{x:GRd}(h:aaq ds=some x):Base.cells .rd x=ds:=by
 unfold aaq at h;split at h
 ·simp only[Option.bind_eq_some_iff,Option.some.injEq]at h;obtain⟨a0,a,rfl⟩:=h;simp only[Base.cells,D.bJ a]
 ·cases h
def Qs:List D->Option aV
 | [a,.int .i64 b,.int .i64 c]=>(a.cZ (.base .token)).bind fun a0=>some ⟨a0,b,c⟩
 | _=>none
theorem aar{ds:List D}{x:aV}(h:Qs ds=some x):Base.cells .psr x=ds:=by
 unfold Qs at h;split at h
 ·simp only[Option.bind_eq_some_iff,Option.some.injEq]at h;obtain⟨a0,a,rfl⟩:=h;simp only[Base.cells,D.bJ a]
 ·cases h
def Base.fC:(b:Base)->List D->Option b.den
 | .int,ds=>match ds with | [.int .i64 n]=>some n | _=>none
 | .u8,ds=>match ds with | [.int .u8 n]=>some n | _=>none
 | .bool,ds=>match ds with | [.bool b]=>some b | _=>none
 | .str,ds=>match ds with | [.str s]=>some s | _=>none
 | .origin,ds=>xU ds
 | .row,ds=>Qr ds
 | .val,ds=>Qq ds
 | .token,ds=>BV ds
 | .expr,ds=>IC ds
 | .file,ds=>IB ds
 | .read,ds=>Iz ds
 | .cell,ds=>of_cell ds
 | .edit,ds=>IE ds
 | .tape,ds=>Iy ds
 | .notebook,ds=>qA ds
 | .world,ds=>BU ds
 | .entry,ds=>BX ds
 | .engine,ds=>xX ds
 | .part,ds=>IA ds
 | .rd,ds=>aaq ds
 | .psr,ds=>Qs ds
theorem Base.dA{b:Base}{ds:List D}{x:b.den}(h:b.fC ds=some x):b.cells x=ds:=by
 cases b
 case int=>simp only[Base.fC]at h;split at h<;>simp_all [Base.cells]
 case u8=>simp only[Base.fC]at h;split at h<;>simp_all [Base.cells]
 case bool=>simp only[Base.fC]at h;split at h<;>simp_all [Base.cells]
 case str=>simp only[Base.fC]at h;split at h<;>simp_all [Base.cells]
 case origin=>exact Qu h
 case row=>exact aap h
 case val=>exact aao h
 case token=>exact Uc h
 case expr=>exact XM h
 case file=>exact XL h
 case read=>exact XJ h
 case cell=>exact XP h
 case edit=>exact XO h
 case tape=>exact XI h
 case notebook=>exact Kq h
 case world=>exact Ub h
 case entry=>exact Ud h
 case engine=>exact Qv h
 case part=>exact XK h
 case rd=>exact adi h
 case psr=>exact aar h
def Base.zero:(b:Base)->b.den
 | .int=>(0:Int) | .u8=>(0:Int) | .bool=>false | .str=>([]:Str)
 | .origin=>⟨0,0⟩
 | .row=>⟨[],[]⟩
 | .val=>⟨0,0,0,[],[],[],[]⟩
 | .token=>⟨0,0,0,[]⟩
 | .expr=>⟨0,0,[],[]⟩
 | .file=>⟨[],0⟩
 | .read=>⟨0,0,0,[],⟨0,0,0,[],[],[],[]⟩⟩
 | .cell=>⟨0,0,0,[],[],0⟩
 | .edit=>⟨0,0,⟨0,0,0,[],[],0⟩⟩
 | .tape=>⟨0,0,[]⟩
 | .notebook=>⟨[]⟩
 | .world=>⟨0,0,[]⟩
 | .entry=>⟨0,0,0,[],⟨0,0,0,[],[],[],[]⟩,false⟩
 | .engine=>⟨⟨[]⟩,⟨0,0,[]⟩,[],[],0,0,0⟩
 | .part=>⟨0,[],⟨0,0,[],[]⟩,⟨0,0,0,[],[],[],[]⟩,0⟩
 | .rd=>⟨[],0,0,0⟩
 | .psr=>⟨[],0,0⟩
def Ty.size:Ty->Nat
 | .base b=>b.size
 | .list _=>1
def Ty.cells:(t:Ty)->t.den->List D
 | .base b,x=>b.cells x
 | .list t,xs=>[.list t xs]
theorem Ty.aZ(t:Ty)(x:t.den):(t.cells x).length=t.size:=by
 cases t with
 | base b=>exact Base.aZ b x
 | list t=>rfl
def Ty.fC:(t:Ty)->List D->Option t.den
 | .base b,ds=>b.fC ds
 | .list t,ds=>match ds with | [d]=>d.cZ t | _=>none
theorem Ty.dA{t:Ty}{ds:List D}{x:t.den}(h:t.fC ds=some x):t.cells x=ds:=by
 cases t with
 | base b=>exact Base.dA h
 | list t=>
  simp only[Ty.fC]at h;split at h
  ·simp only[Ty.cells,D.bJ h]
  ·cases h
def Ty.zero:(t:Ty)->t.den
 | .base b=>b.zero
 | .list t=>([]:List t.den)
theorem Ty.size_pos(t:Ty):0<t.size:=by
 cases t with
 | base b=>cases b<;>decide
 | list t=>exact Nat.one_pos
end Go.Abs
/- What the code asks of the world beside its arguments: three variables of the library hold what they were laid with. -/
namespace Go.Abs
open Go.Proofs
noncomputable def pO : Nat := max (max (max ((Tryz.prog.globalNamed "internal/strconv.uint64pow10").getD 0) ((Tryz.prog.globalNamed "strconv.ErrSyntax").getD 0)) ((Tryz.prog.globalNamed "strconv.ErrRange").getD 0)) ((Tryz.prog.globalNamed "internal/bytealg.MaxLen").getD 0) + 1
def amb (w : World) : Prop := (pO <= w.heap.size /\ ∃ m, w.cell? ⟨(Tryz.prog.globalNamed "internal/bytealg.MaxLen").getD 0, 0, none⟩ = some (.int .i64 m)) /\ Go.Lib.TabIs Tryz.prog w "internal/strconv.uint64pow10" .u64 Go.Lib.pow10Tab /\ (∃ tp p, w.var? Tryz.prog "strconv.ErrSyntax" = some #[.iface tp p]) /\ ∃ tp p, w.var? Tryz.prog "strconv.ErrRange" = some #[.iface tp p]
theorem amb.size{w:World}(h:amb w):pO<=w.heap.size:=h.1.1
theorem amb.aoI {w : World} (h : amb w) : ∃ m, w.cell? ⟨(Tryz.prog.globalNamed "internal/bytealg.MaxLen").getD 0, 0, none⟩ = some (.int .i64 m) := h.1.2
theorem Ox{w w':World}{n:String}(b:∀k,k<pO->w'.heap[k]?=w.heap[k]?)(a:(Tryz.prog.globalNamed n).getD 0<pO):w'.var? Tryz.prog n=w.var? Tryz.prog n:=by
 unfold World.var?;cases c:Tryz.prog.globalNamed n with
 | none=>rfl
 | some g=>
  rw[c]at a;simp only[Option.bind_some];rw[b g a]
theorem amb.keep{w w':World}(h:amb w)(hs:w.heap.size<=w'.heap.size)(hk:∀k,k<pO->w'.heap[k]?=w.heap[k]?):amb w':=by
 have l1 : (Tryz.prog.globalNamed "internal/strconv.uint64pow10").getD 0 < pO := by unfold pO; omega
 have l2 : (Tryz.prog.globalNamed "strconv.ErrSyntax").getD 0 < pO := by unfold pO; omega
 have l3 : (Tryz.prog.globalNamed "strconv.ErrRange").getD 0 < pO := by unfold pO; omega
 have l4 : (Tryz.prog.globalNamed "internal/bytealg.MaxLen").getD 0 < pO := by unfold pO; omega
 refine⟨⟨Nat.le_trans h.1.1 hs,?_⟩,?_,?_,?_⟩
 ·obtain⟨m,hm⟩:=h.1.2;refine⟨m,?_⟩;unfold World.cell? at hm ⊢;simp only at hm ⊢;rw[hk _ l4];exact hm
 ·have:=h.2.1;unfold Go.Lib.TabIs at this ⊢;rw[Ox hk l1];exact this
 ·rw[Ox hk l2];exact h.2.2.1
 ·rw[Ox hk l3];exact h.2.2.2
theorem amb.tab {w : World} (h : amb w) : Go.Lib.TabIs Tryz.prog w "internal/strconv.uint64pow10" .u64 Go.Lib.pow10Tab := h.2.1
end Go.Abs
