import Derived.WalkKit
import Derived.Test.YtngjomkjlonfpaaGreatDoorProg
import Derived.Lib.LaidTab
import Derived.Lib.ItoaNum
import Derived.Shelf.Strconv.Itoa3
import Derived.KernelRfl
/- Typed data for the Go structures of the program, and the universe of one-cell data. Written by gentypes.py. -/
theorem aa{α:Type _}(a b:α):(bif false then a else b)=b:=rfl
theorem ac{α:Type _}(a b:α):(bif true then a else b)=a:=rfl
theorem ae{p:Prop}[Decidable p](h:¬p):decide p=false:=decide_eq_false h
theorem aq{p:Prop}[Decidable p](h:p):decide p=true:=decide_eq_true h
theorem ar{α:Type _}{a:α}(y:α){l:List α}(h:a ∈ l):a ∈ y::l:=List.mem_cons_of_mem y h
theorem aw{α:Type _}{a:α}{l:List α}:a ∈ a::l:=List.mem_cons_self
theorem az(n:Nat):n<=n:=Nat.le_refl n
theorem aD(n:Nat):((n:Int)).toNat=n:=Int.toNat_natCast n
theorem aE{n m k:Nat}(h:n<m)(g:m<=k):n<k:=Nat.lt_of_lt_of_le h g
theorem aL:(false=true)=False:=Bool.false_eq_true
theorem aM:(!true)=false:=rfl
theorem aR{α:Type _}{l:Array α}{i:Nat}{a:α}:l[i]?=some a ↔ ∃ h:i<l.size,l[i]=a:=Array.getElem?_eq_some_iff
theorem a6{α:Type _}{a b:α}(h:some a=some b):a=b:=Option.some.inj h
theorem a7{α:Type _}{a b:List α}:(a++b).length=a.length+b.length:=List.length_append
theorem a8{α:Type _}(a b c:List α):a++b++c=a++(b++c):=List.append_assoc a b c
theorem ba{α:Type _}{i:Nat}{l:List α}:(l.take i).length=min i l.length:=List.length_take
theorem bc{α:Type _}{a b:α}{l:List α}:a ∈ b::l ↔ a=b\/a ∈ l:=List.mem_cons
theorem zA{α β:Type _}(a:α)(f:α->Option β):(some a).bind f=f a:=rfl
theorem zB{α β:Type _}{o:Option α}{f:α->Option β}{b:β}:o.bind f=some b↔∃a,o=some a/\f a=some b:=Option.bind_eq_some_iff
theorem zC{α:Type _}{l:List α}{i:Nat}{a:α}:l[i]?=some a↔∃h:i<l.length,l[i]=a:=List.getElem?_eq_some_iff
theorem zD{α:Type _}(a b:α):(some a=some b)=(a=b):=Option.some.injEq a b
theorem zE{α:Type _}{l:List α}{i:Nat}{a:α}:l.getD i a=l[i]?.getD a:=List.getD_eq_getElem?_getD
theorem zF{α:Type _}{l:List α}{i:Nat}(h:i<l.length):l[i]?=some l[i]:=List.getElem?_eq_getElem h
theorem zG{α:Type _}{l:List α}{i:Nat}{a:α}(h:l[i]?=some a):a∈l:=List.mem_of_getElem? h
theorem zH{α β:Type _}{f:α->β}{l:List α}{b:β}{bs:List β}:l.map f=b::bs↔∃a c,l=a::c/\f a=b/\c.map f=bs:=List.map_eq_cons_iff
theorem zI(a b:Bool):((a&&b)=true)=(a=true/\b=true):=Bool.and_eq_true a b
theorem zJ{α:Type _}{l:List α}{i:Nat}(h:l.length<=i):l[i]?=none:=List.getElem?_eq_none h
namespace Go.Abs
abbrev Str:=List UInt8
structure dN where
 cell:Int
 row:Int
structure cO where
 cells:List Int
 orig:List dN
structure aQ where
 kind:Int
 n:Int
 step:Int
 text:Str
 list:List aQ
 columns:List Str
 rows:List cO
structure aJ where
 kind:Int
 n:Int
 pos:Int
 text:Str
structure af where
 kind:Int
 n:Int
 text:Str
 args:List af
structure aN where
 kind:Int
 n:Int
 time:Int
 text:Str
 result:aQ
structure ah where
 id:Int
 version:Int
 kind:Int
 name:Str
 code:Str
 n:Int
structure dR where
 kind:Int
 pos:Int
 cell:ah
structure aK where
 cell:Int
 version:Int
 reads:List aN
structure afW where
 parent:Int
 edits:List dR
 undo:List dR
structure ak where
 cells:List ah
structure Ug where
 notebook:ak
 nodes:List afW
 pos:Int
structure GOp where
 time:Int
 by_:Int
 kind:Int
 seen:List Int
 edit:dR
 src:Str
 dst:Str
 cell:Int
 version:Int
 reads:List aN
structure aB where
 notebook:ak
 tapes:List aK
 renames:List GOp
structure bW where
 b:List Int
 i:Int
 h:Int
structure bF where
 kind:Int
 name:Str
 expr:af
 value:aQ
 pos:Int
structure GRd where
 toks:List aJ
 i:Int
 stop:Int
 bad:Int
structure aV where
 toks:List aJ
 i:Int
 bad:Int
def dG(x:aQ):aQ:=⟨x.kind,x.n,x.step,x.text,x.list,x.columns,x.rows⟩
theorem jr(x:aQ):dG x=x:=by cases x;simp[dG]
def aj(x:af):af:=⟨x.kind,x.n,x.text,x.args⟩
theorem aO(x:af):aj x=x:=by cases x;simp[aj]
def lY(x:aN):aN:=⟨x.kind,x.n,x.time,x.text,dG x.result⟩
theorem qH(x:aN):lY x=x:=by cases x;simp[lY,jr]
def lC(x:bF):bF:=⟨x.kind,x.name,aj x.expr,dG x.value,x.pos⟩
inductive Base where
 | int | u8 | bool | str | origin | row | val | token | expr | read | cell | edit | tape | node | notebook | history | op | document | cur | part | rd | psr
 deriving DecidableEq
inductive Ty where
 | base (b:Base)
 | list (t:Ty)
 deriving DecidableEq
abbrev Base.den:Base->Type
 | .int=>Int | .u8=>Int | .bool=>Bool | .str=>Str
 | .origin=>dN
 | .row=>cO
 | .val=>aQ
 | .token=>aJ
 | .expr=>af
 | .read=>aN
 | .cell=>ah
 | .edit=>dR
 | .tape=>aK
 | .node=>afW
 | .notebook=>ak
 | .history=>Ug
 | .op=>GOp
 | .document=>aB
 | .cur=>bW
 | .part=>bF
 | .rd=>GRd
 | .psr=>aV
abbrev Ty.den:Ty->Type
 | .base b=>b.den
 | .list t=>List t.den
inductive D where
 | int (k:IntKind) (n:Int)
 | bool (b:Bool)
 | str (s:Str)
 | list (t:Ty) (xs:List t.den)
def D.dD(t:Ty):D->Option (List t.den)
 | .list t' xs=>if h:t'=t then some (h▸xs)else none
 | _=>none
theorem D.bU{t:Ty}{d:D}{xs:List t.den}(h:d.dD t=some xs):d=.list t xs:=by
 cases d with
 | list t' ys=>
  simp only[D.dD]at h;split at h
  ·rename_i e;subst e;simp at h;rw[h]
  ·cases h
 | _=>simp[D.dD]at h
def Base.size:Base->Nat
 | .int=>1 | .u8=>1 | .bool=>1 | .str=>1
 | .origin=>2
 | .row=>2
 | .val=>7
 | .token=>4
 | .expr=>4
 | .read=>11
 | .cell=>6
 | .edit=>8
 | .tape=>3
 | .node=>3
 | .notebook=>1
 | .history=>3
 | .op=>17
 | .document=>3
 | .cur=>3
 | .part=>14
 | .rd=>4
 | .psr=>3
def Base.cells:(b:Base)->b.den->List D
 | .int,n=>[.int .i64 n] | .u8,c=>[.int .u8 c] | .bool,b=>[.bool b] | .str,s=>[.str s]
 | .origin,x=>[.int .i64 x.cell,.int .i64 x.row]
 | .row,x=>[.list (.base .int) x.cells,.list (.base .origin) x.orig]
 | .val,x=>[.int .i64 x.kind,.int .i64 x.n,.int .i64 x.step,.str x.text,.list (.base .val) x.list,.list (.base .str) x.columns,.list (.base .row) x.rows]
 | .token,x=>[.int .i64 x.kind,.int .i64 x.n,.int .i64 x.pos,.str x.text]
 | .expr,x=>[.int .i64 x.kind,.int .i64 x.n,.str x.text,.list (.base .expr) x.args]
 | .read,x=>[.int .i64 x.kind,.int .i64 x.n,.int .i64 x.time,.str x.text,.int .i64 x.result.kind,.int .i64 x.result.n,.int .i64 x.result.step,.str x.result.text,.list (.base .val) x.result.list,.list (.base .str) x.result.columns,.list (.base .row) x.result.rows]
 | .cell,x=>[.int .i64 x.id,.int .i64 x.version,.int .i64 x.kind,.str x.name,.str x.code,.int .i64 x.n]
 | .edit,x=>[.int .i64 x.kind,.int .i64 x.pos,.int .i64 x.cell.id,.int .i64 x.cell.version,.int .i64 x.cell.kind,.str x.cell.name,.str x.cell.code,.int .i64 x.cell.n]
 | .tape,x=>[.int .i64 x.cell,.int .i64 x.version,.list (.base .read) x.reads]
 | .node,x=>[.int .i64 x.parent,.list (.base .edit) x.edits,.list (.base .edit) x.undo]
 | .notebook,x=>[.list (.base .cell) x.cells]
 | .history,x=>[.list (.base .cell) x.notebook.cells,.list (.base .node) x.nodes,.int .i64 x.pos]
 | .op,x=>[.int .i64 x.time,.int .i64 x.by_,.int .i64 x.kind,.list (.base .int) x.seen,.int .i64 x.edit.kind,.int .i64 x.edit.pos,.int .i64 x.edit.cell.id,.int .i64 x.edit.cell.version,.int .i64 x.edit.cell.kind,.str x.edit.cell.name,.str x.edit.cell.code,.int .i64 x.edit.cell.n,.str x.src,.str x.dst,.int .i64 x.cell,.int .i64 x.version,.list (.base .read) x.reads]
 | .document,x=>[.list (.base .cell) x.notebook.cells,.list (.base .tape) x.tapes,.list (.base .op) x.renames]
 | .cur,x=>[.list (.base .u8) x.b,.int .i64 x.i,.int .i64 x.h]
 | .part,x=>[.int .i64 x.kind,.str x.name,.int .i64 x.expr.kind,.int .i64 x.expr.n,.str x.expr.text,.list (.base .expr) x.expr.args,.int .i64 x.value.kind,.int .i64 x.value.n,.int .i64 x.value.step,.str x.value.text,.list (.base .val) x.value.list,.list (.base .str) x.value.columns,.list (.base .row) x.value.rows,.int .i64 x.pos]
 | .rd,x=>[.list (.base .token) x.toks,.int .i64 x.i,.int .i64 x.stop,.int .i64 x.bad]
 | .psr,x=>[.list (.base .token) x.toks,.int .i64 x.i,.int .i64 x.bad]
theorem Base.bP(b:Base)(x:b.den):(b.cells x).length=b.size:=by cases b<;>rfl
def yE:List D->Option dN
 | [.int .i64 a0,.int .i64 a]=>some ⟨a0,a⟩
 | _=>none
theorem QZ{ds:List D}{x:dN}(h:yE ds=some x):Base.cells .origin x=ds:=by
 unfold yE at h;split at h
 ·simp only[Option.some.injEq]at h;subst h;rfl
 ·cases h
def QX:List D->Option cO
 | [a,b]=>(a.dD (.base .int)).bind fun a0=>(b.dD (.base .origin)).bind fun c=>some ⟨a0,c⟩
 | _=>none
theorem aaK{ds:List D}{x:cO}(h:QX ds=some x):Base.cells .row x=ds:=by
 unfold QX at h;split at h
 ·simp only[Option.bind_eq_some_iff,Option.some.injEq]at h;obtain⟨a0,a,b,h1,rfl⟩:=h;simp only[Base.cells,D.bU a,D.bU h1]
 ·cases h
def QW:List D->Option aQ
 | [.int .i64 a0,.int .i64 a,.int .i64 b,.str c,d,e,f]=>(d.dD (.base .val)).bind fun g=>(e.dD (.base .str)).bind fun h=>(f.dD (.base .row)).bind fun i=>some ⟨a0,a,b,c,g,h,i⟩
 | _=>none
theorem aaJ{ds:List D}{x:aQ}(h:QW ds=some x):Base.cells .val x=ds:=by
 unfold QW at h;split at h
 ·simp only[Option.bind_eq_some_iff,Option.some.injEq]at h;obtain⟨d,a,e,b,f,c,rfl⟩:=h;simp only[Base.cells,D.bU a,D.bU b,D.bU c]
 ·cases h
def CZ:List D->Option aJ
 | [.int .i64 a0,.int .i64 a,.int .i64 b,.str c]=>some ⟨a0,a,b,c⟩
 | _=>none
theorem UW{ds:List D}{x:aJ}(h:CZ ds=some x):Base.cells .token x=ds:=by
 unfold CZ at h;split at h
 ·simp only[Option.some.injEq]at h;subst h;rfl
 ·cases h
def Ja:List D->Option af
 | [.int .i64 a0,.int .i64 a,.str b,c]=>(c.dD (.base .expr)).bind fun d=>some ⟨a0,a,b,d⟩
 | _=>none
theorem Yp{ds:List D}{x:af}(h:Ja ds=some x):Base.cells .expr x=ds:=by
 unfold Ja at h;split at h
 ·simp only[Option.bind_eq_some_iff,Option.some.injEq]at h;obtain⟨b,a,rfl⟩:=h;simp only[Base.cells,D.bU a]
 ·cases h
def I7:List D->Option aN
 | [.int .i64 a0,.int .i64 c,.int .i64 d,.str e,.int .i64 f,.int .i64 g,.int .i64 h,.str i,j,k,a]=>(j.dD (.base .val)).bind fun l=>(k.dD (.base .str)).bind fun m=>(a.dD (.base .row)).bind fun b=>some ⟨a0,c,d,e,⟨f,g,h,i,l,m,b⟩⟩
 | _=>none
theorem Ym{ds:List D}{x:aN}(h:I7 ds=some x):Base.cells .read x=ds:=by
 unfold I7 at h;split at h
 ·simp only[Option.bind_eq_some_iff,Option.some.injEq]at h;obtain⟨e,b,f,c,d,a,rfl⟩:=h;simp only[Base.cells,D.bU b,D.bU c,D.bU a]
 ·cases h
def of_cell:List D->Option ah
 | [.int .i64 a0,.int .i64 a,.int .i64 b,.str c,.str d,.int .i64 e]=>some ⟨a0,a,b,c,d,e⟩
 | _=>none
theorem Yr{ds:List D}{x:ah}(h:of_cell ds=some x):Base.cells .cell x=ds:=by
 unfold of_cell at h;split at h
 ·simp only[Option.some.injEq]at h;subst h;rfl
 ·cases h
def Jb:List D->Option dR
 | [.int .i64 a0,.int .i64 a,.int .i64 b,.int .i64 c,.int .i64 d,.str e,.str f,.int .i64 g]=>some ⟨a0,a,⟨b,c,d,e,f,g⟩⟩
 | _=>none
theorem Yq{ds:List D}{x:dR}(h:Jb ds=some x):Base.cells .edit x=ds:=by
 unfold Jb at h;split at h
 ·simp only[Option.some.injEq]at h;subst h;rfl
 ·cases h
def I5:List D->Option aK
 | [.int .i64 a0,.int .i64 a,b]=>(b.dD (.base .read)).bind fun c=>some ⟨a0,a,c⟩
 | _=>none
theorem Yl{ds:List D}{x:aK}(h:I5 ds=some x):Base.cells .tape x=ds:=by
 unfold I5 at h;split at h
 ·simp only[Option.bind_eq_some_iff,Option.some.injEq]at h;obtain⟨a,h2,rfl⟩:=h;simp only[Base.cells,D.bU h2]
 ·cases h
def I9:List D->Option afW
 | [.int .i64 a0,a,b]=>(a.dD (.base .edit)).bind fun c=>(b.dD (.base .edit)).bind fun d=>some ⟨a0,c,d⟩
 | _=>none
theorem Yo{ds:List D}{x:afW}(h:I9 ds=some x):Base.cells .node x=ds:=by
 unfold I9 at h;split at h
 ·simp only[Option.bind_eq_some_iff,Option.some.injEq]at h;obtain⟨a,h1,b,h2,rfl⟩:=h;simp only[Base.cells,D.bU h1,D.bU h2]
 ·cases h
def rM:List D->Option ak
 | [a]=>(a.dD (.base .cell)).bind fun a0=>some ⟨a0⟩
 | _=>none
theorem KQ{ds:List D}{x:ak}(h:rM ds=some x):Base.cells .notebook x=ds:=by
 unfold rM at h;split at h
 ·simp only[Option.bind_eq_some_iff,Option.some.injEq]at h;obtain⟨a0,a,rfl⟩:=h;simp only[Base.cells,D.bU a]
 ·cases h
def vI:List D->Option Ug
 | [a,b,.int .i64 c]=>(a.dD (.base .cell)).bind fun a0=>(b.dD (.base .node)).bind fun d=>some ⟨⟨a0⟩,d,c⟩
 | _=>none
theorem Ol{ds:List D}{x:Ug}(h:vI ds=some x):Base.cells .history x=ds:=by
 unfold vI at h;split at h
 ·simp only[Option.bind_eq_some_iff,Option.some.injEq]at h;obtain⟨a0,a,b,h1,rfl⟩:=h;simp only[Base.cells,D.bU a,D.bU h1]
 ·cases h
def aaN:List D->Option GOp
 | [.int .i64 a0,.int .i64 i,.int .i64 j,k,.int .i64 l,.int .i64 m,.int .i64 n,.int .i64 o,.int .i64 p,.str q,.str a,.int .i64 b,.str c,.str d,.int .i64 e,.int .i64 f,g]=>(k.dD (.base .int)).bind fun r=>(g.dD (.base .read)).bind fun h=>some ⟨a0,i,j,r,⟨l,m,⟨n,o,p,q,a,b⟩⟩,c,d,e,f,h⟩
 | _=>none
theorem adS{ds:List D}{x:GOp}(h:aaN ds=some x):Base.cells .op x=ds:=by
 unfold aaN at h;split at h
 ·simp only[Option.bind_eq_some_iff,Option.some.injEq]at h;obtain⟨d,b,c,a,rfl⟩:=h;simp only[Base.cells,D.bU b,D.bU a]
 ·cases h
def rP:List D->Option aB
 | [a,b,c]=>(a.dD (.base .cell)).bind fun a0=>(b.dD (.base .tape)).bind fun d=>(c.dD (.base .op)).bind fun e=>some ⟨⟨a0⟩,d,e⟩
 | _=>none
theorem KR{ds:List D}{x:aB}(h:rP ds=some x):Base.cells .document x=ds:=by
 unfold rP at h;split at h
 ·simp only[Option.bind_eq_some_iff,Option.some.injEq]at h;obtain⟨a0,a,b,h1,c,h2,rfl⟩:=h;simp only[Base.cells,D.bU a,D.bU h1,D.bU h2]
 ·cases h
def Q5:List D->Option bW
 | [a,.int .i64 b,.int .i64 c]=>(a.dD (.base .u8)).bind fun a0=>some ⟨a0,b,c⟩
 | _=>none
theorem aaO{ds:List D}{x:bW}(h:Q5 ds=some x):Base.cells .cur x=ds:=by
 unfold Q5 at h;split at h
 ·simp only[Option.bind_eq_some_iff,Option.some.injEq]at h;obtain⟨a0,a,rfl⟩:=h;simp only[Base.cells,D.bU a]
 ·cases h
def I8:List D->Option bF
 | [.int .i64 a0,.str h,.int .i64 i,.int .i64 j,.str k,l,.int .i64 m,.int .i64 n,.int .i64 o,.str p,a,b,c,.int .i64 d]=>(l.dD (.base .expr)).bind fun q=>(a.dD (.base .val)).bind fun e=>(b.dD (.base .str)).bind fun f=>(c.dD (.base .row)).bind fun g=>some ⟨a0,h,⟨i,j,k,q⟩,⟨m,n,o,p,e,f,g⟩,d⟩
 | _=>none
theorem Yn{ds:List D}{x:bF}(h:I8 ds=some x):Base.cells .part x=ds:=by
 unfold I8 at h;split at h
 ·simp only[Option.bind_eq_some_iff,Option.some.injEq]at h;obtain⟨i,d,e,a,f,b,g,c,rfl⟩:=h;simp only[Base.cells,D.bU d,D.bU a,D.bU b,D.bU c]
 ·cases h
def aaL:List D->Option GRd
 | [a,.int .i64 b,.int .i64 c,.int .i64 d]=>(a.dD (.base .token)).bind fun a0=>some ⟨a0,b,c,d⟩
 | _=>none
theorem adR{ds:List D}{x:GRd}(h:aaL ds=some x):Base.cells .rd x=ds:=by
 unfold aaL at h;split at h
 ·simp only[Option.bind_eq_some_iff,Option.some.injEq]at h;obtain⟨a0,a,rfl⟩:=h;simp only[Base.cells,D.bU a]
 ·cases h
def QY:List D->Option aV
 | [a,.int .i64 b,.int .i64 c]=>(a.dD (.base .token)).bind fun a0=>some ⟨a0,b,c⟩
 | _=>none
theorem aaM{ds:List D}{x:aV}(h:QY ds=some x):Base.cells .psr x=ds:=by
 unfold QY at h;split at h
 ·simp only[Option.bind_eq_some_iff,Option.some.injEq]at h;obtain⟨a0,a,rfl⟩:=h;simp only[Base.cells,D.bU a]
 ·cases h
def Base.jD:(b:Base)->List D->Option b.den
 | .int,ds=>match ds with | [.int .i64 n]=>some n | _=>none
 | .u8,ds=>match ds with | [.int .u8 n]=>some n | _=>none
 | .bool,ds=>match ds with | [.bool b]=>some b | _=>none
 | .str,ds=>match ds with | [.str s]=>some s | _=>none
 | .origin,ds=>yE ds
 | .row,ds=>QX ds
 | .val,ds=>QW ds
 | .token,ds=>CZ ds
 | .expr,ds=>Ja ds
 | .read,ds=>I7 ds
 | .cell,ds=>of_cell ds
 | .edit,ds=>Jb ds
 | .tape,ds=>I5 ds
 | .node,ds=>I9 ds
 | .notebook,ds=>rM ds
 | .history,ds=>vI ds
 | .op,ds=>aaN ds
 | .document,ds=>rP ds
 | .cur,ds=>Q5 ds
 | .part,ds=>I8 ds
 | .rd,ds=>aaL ds
 | .psr,ds=>QY ds
theorem Base.fV{b:Base}{ds:List D}{x:b.den}(h:b.jD ds=some x):b.cells x=ds:=by
 cases b
 case int=>simp only[Base.jD]at h;split at h<;>simp_all [Base.cells]
 case u8=>simp only[Base.jD]at h;split at h<;>simp_all [Base.cells]
 case bool=>simp only[Base.jD]at h;split at h<;>simp_all [Base.cells]
 case str=>simp only[Base.jD]at h;split at h<;>simp_all [Base.cells]
 case origin=>exact QZ h
 case row=>exact aaK h
 case val=>exact aaJ h
 case token=>exact UW h
 case expr=>exact Yp h
 case read=>exact Ym h
 case cell=>exact Yr h
 case edit=>exact Yq h
 case tape=>exact Yl h
 case node=>exact Yo h
 case notebook=>exact KQ h
 case history=>exact Ol h
 case op=>exact adS h
 case document=>exact KR h
 case cur=>exact aaO h
 case part=>exact Yn h
 case rd=>exact adR h
 case psr=>exact aaM h
def Base.zero:(b:Base)->b.den
 | .int=>(0:Int) | .u8=>(0:Int) | .bool=>false | .str=>([]:Str)
 | .origin=>⟨0,0⟩
 | .row=>⟨[],[]⟩
 | .val=>⟨0,0,0,[],[],[],[]⟩
 | .token=>⟨0,0,0,[]⟩
 | .expr=>⟨0,0,[],[]⟩
 | .read=>⟨0,0,0,[],⟨0,0,0,[],[],[],[]⟩⟩
 | .cell=>⟨0,0,0,[],[],0⟩
 | .edit=>⟨0,0,⟨0,0,0,[],[],0⟩⟩
 | .tape=>⟨0,0,[]⟩
 | .node=>⟨0,[],[]⟩
 | .notebook=>⟨[]⟩
 | .history=>⟨⟨[]⟩,[],0⟩
 | .op=>⟨0,0,0,[],⟨0,0,⟨0,0,0,[],[],0⟩⟩,[],[],0,0,[]⟩
 | .document=>⟨⟨[]⟩,[],[]⟩
 | .cur=>⟨[],0,0⟩
 | .part=>⟨0,[],⟨0,0,[],[]⟩,⟨0,0,0,[],[],[],[]⟩,0⟩
 | .rd=>⟨[],0,0,0⟩
 | .psr=>⟨[],0,0⟩
def Ty.size:Ty->Nat
 | .base b=>b.size
 | .list _=>1
def Ty.cells:(t:Ty)->t.den->List D
 | .base b,x=>b.cells x
 | .list t,xs=>[.list t xs]
theorem Ty.bP(t:Ty)(x:t.den):(t.cells x).length=t.size:=by
 cases t with
 | base b=>exact Base.bP b x
 | list t=>rfl
def Ty.jD:(t:Ty)->List D->Option t.den
 | .base b,ds=>b.jD ds
 | .list t,ds=>match ds with | [d]=>d.dD t | _=>none
theorem Ty.fV{t:Ty}{ds:List D}{x:t.den}(h:t.jD ds=some x):t.cells x=ds:=by
 cases t with
 | base b=>exact Base.fV h
 | list t=>
  simp only[Ty.jD]at h;split at h
  ·simp only[Ty.cells,D.bU h]
  ·cases h
def Ty.zero:(t:Ty)->t.den
 | .base b=>b.zero
 | .list t=>([]:List t.den)
theorem Ty.size_pos(t:Ty):0<t.size:=by
 cases t with
 | base b=>cases b<;>decide
 | list t=>exact Nat.one_pos
end Go.Abs
/- What the code asks of the world beside its arguments: three variables of the library hold what they were laid with. -/
namespace Go.Abs
open Go.Proofs
noncomputable def qQ : Nat := max (max (max ((Tryz.prog.globalNamed "internal/strconv.uint64pow10").getD 0) ((Tryz.prog.globalNamed "strconv.ErrSyntax").getD 0)) ((Tryz.prog.globalNamed "strconv.ErrRange").getD 0)) ((Tryz.prog.globalNamed "internal/bytealg.MaxLen").getD 0) + 1
def amb (w : World) : Prop := (qQ <= w.heap.size /\ ∃ m, w.cell? ⟨(Tryz.prog.globalNamed "internal/bytealg.MaxLen").getD 0, 0, none⟩ = some (.int .i64 m)) /\ Go.Lib.TabIs Tryz.prog w "internal/strconv.uint64pow10" .u64 Go.Lib.pow10Tab /\ (∃ tp p, w.var? Tryz.prog "strconv.ErrSyntax" = some #[.iface tp p]) /\ ∃ tp p, w.var? Tryz.prog "strconv.ErrRange" = some #[.iface tp p]
theorem amb.size{w:World}(h:amb w):qQ<=w.heap.size:=h.1.1
theorem amb.aph {w : World} (h : amb w) : ∃ m, w.cell? ⟨(Tryz.prog.globalNamed "internal/bytealg.MaxLen").getD 0, 0, none⟩ = some (.int .i64 m) := h.1.2
theorem O9{w w':World}{n:String}(b:∀k,k<qQ->w'.heap[k]?=w.heap[k]?)(a:(Tryz.prog.globalNamed n).getD 0<qQ):w'.var? Tryz.prog n=w.var? Tryz.prog n:=by
 unfold World.var?;cases c:Tryz.prog.globalNamed n with
 | none=>rfl
 | some g=>
  rw[c]at a;simp only[Option.bind_some];rw[b g a]
theorem amb.keep{w w':World}(h:amb w)(hs:w.heap.size<=w'.heap.size)(hk:∀k,k<qQ->w'.heap[k]?=w.heap[k]?):amb w':=by
 have l1 : (Tryz.prog.globalNamed "internal/strconv.uint64pow10").getD 0 < qQ := by unfold qQ; omega
 have l2 : (Tryz.prog.globalNamed "strconv.ErrSyntax").getD 0 < qQ := by unfold qQ; omega
 have l3 : (Tryz.prog.globalNamed "strconv.ErrRange").getD 0 < qQ := by unfold qQ; omega
 have l4 : (Tryz.prog.globalNamed "internal/bytealg.MaxLen").getD 0 < qQ := by unfold qQ; omega
 refine⟨⟨Nat.le_trans h.1.1 hs,?_⟩,?_,?_,?_⟩
 ·obtain⟨m,hm⟩:=h.1.2;refine⟨m,?_⟩;unfold World.cell? at hm ⊢;simp only at hm ⊢;rw[hk _ l4];exact hm
 ·have:=h.2.1;unfold Go.Lib.TabIs at this ⊢;rw[O9 hk l1];exact this
 ·rw[O9 hk l2];exact h.2.2.1
 ·rw[O9 hk l3];exact h.2.2.2
theorem amb.tab {w : World} (h : amb w) : Go.Lib.TabIs Tryz.prog w "internal/strconv.uint64pow10" .u64 Go.Lib.pow10Tab := h.2.1
end Go.Abs
