import Derived.WalkKit
import Derived.Test.YtjbajpfonnnfoaaGreatDoorProg
import Derived.KernelRfl
/- Typed data for the Go structures of the program, and the universe of one-cell data. Written by gentypes.py. -/
theorem aa{α:Type _}(a b:α):(bif false then a else b)=b:=rfl
theorem ac{α:Type _}(a b:α):(bif true then a else b)=a:=rfl
theorem ae{p:Prop}[Decidable p](h:¬p):decide p=false:=decide_eq_false h
theorem aq{p:Prop}[Decidable p](h:p):decide p=true:=decide_eq_true h
theorem ar{α:Type _}{a:α}(y:α){l:List α}(h:a ∈ l):a ∈ y::l:=List.mem_cons_of_mem y h
theorem aw{α:Type _}{a:α}{l:List α}:a ∈ a::l:=List.mem_cons_self
theorem aD(n:Nat):n<=n:=Nat.le_refl n
theorem aE(n:Nat):((n:Int)).toNat=n:=Int.toNat_natCast n
theorem aL{n m k:Nat}(h:n<m)(g:m<=k):n<k:=Nat.lt_of_lt_of_le h g
theorem aM:(false=true)=False:=Bool.false_eq_true
theorem aR:(!true)=false:=rfl
theorem a6{α:Type _}{l:Array α}{i:Nat}{a:α}:l[i]?=some a ↔ ∃ h:i<l.size,l[i]=a:=Array.getElem?_eq_some_iff
theorem a7{α:Type _}{a b:α}(h:some a=some b):a=b:=Option.some.inj h
theorem a8{α:Type _}{a b:List α}:(a++b).length=a.length+b.length:=List.length_append
theorem ba{α:Type _}(a b c:List α):a++b++c=a++(b++c):=List.append_assoc a b c
theorem bc{α:Type _}{i:Nat}{l:List α}:(l.take i).length=min i l.length:=List.length_take
theorem bh{α:Type _}{a b:α}{l:List α}:a ∈ b::l ↔ a=b\/a ∈ l:=List.mem_cons
theorem o5{α:Type _}(l:List α)(i:Nat)(a:α):l.toArray.setIfInBounds i a=(l.set i a).toArray:=List.setIfInBounds_toArray l i a
theorem F6{α:Type _}{x:α}{l:List α}{a:α}:(x::l).set 0 a=a::l:=rfl
theorem amc{α:Type _}{x:α}{l:List α}{i:Nat}{a:α}:(x::l).set (i+1) a=x::l.set i a:=rfl
theorem amd{α:Type _}{a b:α}:a ∈ [b] ↔ a=b:=List.mem_singleton
theorem amf{α:Type _}{p:α->Bool}{l:List α}:l.all p=true ↔ ∀x,x ∈ l->p x=true:=List.all_eq_true
theorem amg{α:Type _}{i:Nat}{l:List α}(h:i<l.length):l.drop i=l[i]::l.drop (i+1):=List.drop_eq_getElem_cons h
theorem amh{α β:Type _}{f:α->β}{l:List α}{i:Nat}:(l.map f)[i]?=Option.map f l[i]?:=List.getElem?_map
theorem ami{β α:Type _}{b:β}{x:Option α}{f:α->β}:x.map f=some b ↔ ∃a,x=some a /\ f a=b:=Option.map_eq_some_iff
theorem amj{α:Type _}{b:α}(s:List α){t:List α}(h:b ∈ t):b ∈ s++t:=List.mem_append_right s h
theorem amk{α:Type _}{b:α}{s:List α}(t:List α)(h:b ∈ s):b ∈ s++t:=List.mem_append_left t h
theorem aml(n:Nat):¬n<0:=Nat.not_lt_zero n
theorem amn{α:Type _}{l:List α}{i j:Nat}:(l.drop i)[j]?=l[i+j]?:=List.getElem?_drop
theorem amo{α:Type _}{l:List α}{i j:Nat}:(l.take i)[j]?=if j<i then l[j]? else none:=List.getElem?_take
theorem amq{n m k:Nat}(h:n<=m)(g:m<=k):n<=k:=Nat.le_trans h g
theorem amr{α:Type _}{a:α}{l:List α}:(a::l).length=l.length+1:=rfl
theorem amv{α β:Type _}{l:List α}(f:α->β):(l.map f).length=l.length:=List.length_map f
theorem amw(n:Nat):0+n=n:=Nat.zero_add n
theorem amx{α:Type _}{i:Nat}{l:List α}:(l.drop i).length=l.length-i:=List.length_drop
theorem amy(b:Bool):(true&&b)=b:=Bool.true_and b
theorem amz{α:Type _}{l:List α}{i j:Nat}{a:α}:(l.set i a)[j]?=if i=j then if i<l.length then some a else none else l[j]?:=List.getElem?_set
theorem amA{α:Type _}(l:List α):l++[]=l:=List.append_nil l
theorem amB{α:Type _}{l:List α}(h:l.length=0):l=[]:=List.eq_nil_of_length_eq_zero h
theorem amC{α:Type _}{p:α->Bool}{a:α}{l:List α}(h:l.find? p=some a):a ∈ l:=List.mem_of_find?_eq_some h
theorem amD{α:Type _}{s t:List α}{i:Nat}(h:s.length<=i):(s++t)[i]?=t[i-s.length]?:=List.getElem?_append_right h
theorem amE{α:Type _}{s t:List α}{i:Nat}(h:i<s.length):(s++t)[i]?=s[i]?:=List.getElem?_append_left h
theorem zA{α β:Type _}(a:α)(f:α->Option β):(some a).bind f=f a:=rfl
theorem zB{α β:Type _}{o:Option α}{f:α->Option β}{b:β}:o.bind f=some b↔∃a,o=some a/\f a=some b:=Option.bind_eq_some_iff
theorem zC{α:Type _}{l:List α}{i:Nat}{a:α}:l[i]?=some a↔∃h:i<l.length,l[i]=a:=List.getElem?_eq_some_iff
theorem zD{α:Type _}(a b:α):(some a=some b)=(a=b):=Option.some.injEq a b
theorem zE{α:Type _}{l:List α}{i:Nat}{a:α}:l.getD i a=l[i]?.getD a:=List.getD_eq_getElem?_getD
theorem zF{α:Type _}{l:List α}{i:Nat}(h:i<l.length):l[i]?=some l[i]:=List.getElem?_eq_getElem h
theorem zG{α:Type _}{l:List α}{i:Nat}{a:α}(h:l[i]?=some a):a∈l:=List.mem_of_getElem? h
theorem zH{α β:Type _}{f:α->β}{l:List α}{b:β}{bs:List β}:l.map f=b::bs↔∃a c,l=a::c/\f a=b/\c.map f=bs:=List.map_eq_cons_iff
theorem zI(a b:Bool):((a&&b)=true)=(a=true/\b=true):=Bool.and_eq_true a b
theorem zJ{α:Type _}{l:List α}{i:Nat}(h:l.length<=i):l[i]?=none:=List.getElem?_eq_none h
namespace Go.Abs
abbrev Str:=List UInt8
structure aj where
 cell:Int
 row:Int
structure aB where
 cells:List Int
 orig:List aj
structure af where
 kind:Int
 n:Int
 step:Int
 text:Str
 list:List af
 columns:List Str
 rows:List aB
structure ak where
 kind:Int
 n:Int
 text:Str
 args:List ak
structure fJ where
 name:Str
 n:Int
structure aG where
 kind:Int
 n:Int
 time:Int
 text:Str
 result:af
structure au where
 name:Str
 value:af
structure Bo where
 id:Int
 version:Int
 kind:Int
 name:Str
 code:Str
 n:Int
structure abK where
 kind:Int
 pos:Int
 cell:Bo
structure nY where
 cell:Int
 version:Int
 reads:List aG
structure iE where
 cells:List Bo
structure GOp where
 time:Int
 by_:Int
 kind:Int
 seen:List Int
 edit:abK
 src:Str
 dst:Str
 cell:Int
 version:Int
 reads:List aG
structure jV where
 notebook:iE
 tapes:List nY
 renames:List GOp
structure bT where
 clock:Int
 seed:Int
 files:List fJ
structure aS where
 b:List Int
 i:Int
 h:Int
structure fB where
 value:af
 reads:List aG
 steps:Int
structure aA where
 tape:List aG
 w:bT
 cell:Int
 version:Int
 reads:List aG
 steps:Int
 over:Bool
def ah(x:af):af:=⟨x.kind,x.n,x.step,x.text,x.list,x.columns,x.rows⟩
theorem aC(x:af):ah x=x:=by cases x;simp[ah]
def aH(x:ak):ak:=⟨x.kind,x.n,x.text,x.args⟩
theorem bV(x:ak):aH x=x:=by cases x;simp[aH]
def yc(x:aG):aG:=⟨x.kind,x.n,x.time,x.text,ah x.result⟩
theorem BJ(x:aG):yc x=x:=by cases x;simp[yc,aC]
def BK(x:au):au:=⟨x.name,ah x.value⟩
theorem UN(x:au):BK x=x:=by cases x;simp[BK,aC]
def Ir(x:fB):fB:=⟨ah x.value,x.reads,x.steps⟩
inductive Base where
 | int | u8 | bool | str | origin | row | val | expr | file | read | binding | cell | edit | tape | notebook | op | document | world | cur | outcome | iy
 deriving DecidableEq
inductive Ty where
 | base (b:Base)
 | list (t:Ty)
 deriving DecidableEq
abbrev Base.den:Base->Type
 | .int=>Int | .u8=>Int | .bool=>Bool | .str=>Str
 | .origin=>aj
 | .row=>aB
 | .val=>af
 | .expr=>ak
 | .file=>fJ
 | .read=>aG
 | .binding=>au
 | .cell=>Bo
 | .edit=>abK
 | .tape=>nY
 | .notebook=>iE
 | .op=>GOp
 | .document=>jV
 | .world=>bT
 | .cur=>aS
 | .outcome=>fB
 | .iy=>aA
abbrev Ty.den:Ty->Type
 | .base b=>b.den
 | .list t=>List t.den
inductive D where
 | int (k:IntKind) (n:Int)
 | bool (b:Bool)
 | str (s:Str)
 | list (t:Ty) (xs:List t.den)
def D.cZ(t:Ty):D->Option (List t.den)
 | .list t' xs=>if h:t'=t then some (h▸xs)else none
 | _=>none
theorem D.bD{t:Ty}{d:D}{xs:List t.den}(h:d.cZ t=some xs):d=.list t xs:=by
 cases d with
 | list t' ys=>
  simp only[D.cZ]at h;split at h
  ·rename_i e;subst e;simp at h;rw[h]
  ·cases h
 | _=>simp[D.cZ]at h
def Base.size:Base->Nat
 | .int=>1 | .u8=>1 | .bool=>1 | .str=>1
 | .origin=>2
 | .row=>2
 | .val=>7
 | .expr=>4
 | .file=>2
 | .read=>11
 | .binding=>8
 | .cell=>6
 | .edit=>8
 | .tape=>3
 | .notebook=>1
 | .op=>17
 | .document=>3
 | .world=>3
 | .cur=>3
 | .outcome=>9
 | .iy=>9
def Base.cells:(b:Base)->b.den->List D
 | .int,n=>[.int .i64 n] | .u8,c=>[.int .u8 c] | .bool,b=>[.bool b] | .str,s=>[.str s]
 | .origin,x=>[.int .i64 x.cell,.int .i64 x.row]
 | .row,x=>[.list (.base .int) x.cells,.list (.base .origin) x.orig]
 | .val,x=>[.int .i64 x.kind,.int .i64 x.n,.int .i64 x.step,.str x.text,.list (.base .val) x.list,.list (.base .str) x.columns,.list (.base .row) x.rows]
 | .expr,x=>[.int .i64 x.kind,.int .i64 x.n,.str x.text,.list (.base .expr) x.args]
 | .file,x=>[.str x.name,.int .i64 x.n]
 | .read,x=>[.int .i64 x.kind,.int .i64 x.n,.int .i64 x.time,.str x.text,.int .i64 x.result.kind,.int .i64 x.result.n,.int .i64 x.result.step,.str x.result.text,.list (.base .val) x.result.list,.list (.base .str) x.result.columns,.list (.base .row) x.result.rows]
 | .binding,x=>[.str x.name,.int .i64 x.value.kind,.int .i64 x.value.n,.int .i64 x.value.step,.str x.value.text,.list (.base .val) x.value.list,.list (.base .str) x.value.columns,.list (.base .row) x.value.rows]
 | .cell,x=>[.int .i64 x.id,.int .i64 x.version,.int .i64 x.kind,.str x.name,.str x.code,.int .i64 x.n]
 | .edit,x=>[.int .i64 x.kind,.int .i64 x.pos,.int .i64 x.cell.id,.int .i64 x.cell.version,.int .i64 x.cell.kind,.str x.cell.name,.str x.cell.code,.int .i64 x.cell.n]
 | .tape,x=>[.int .i64 x.cell,.int .i64 x.version,.list (.base .read) x.reads]
 | .notebook,x=>[.list (.base .cell) x.cells]
 | .op,x=>[.int .i64 x.time,.int .i64 x.by_,.int .i64 x.kind,.list (.base .int) x.seen,.int .i64 x.edit.kind,.int .i64 x.edit.pos,.int .i64 x.edit.cell.id,.int .i64 x.edit.cell.version,.int .i64 x.edit.cell.kind,.str x.edit.cell.name,.str x.edit.cell.code,.int .i64 x.edit.cell.n,.str x.src,.str x.dst,.int .i64 x.cell,.int .i64 x.version,.list (.base .read) x.reads]
 | .document,x=>[.list (.base .cell) x.notebook.cells,.list (.base .tape) x.tapes,.list (.base .op) x.renames]
 | .world,x=>[.int .i64 x.clock,.int .i64 x.seed,.list (.base .file) x.files]
 | .cur,x=>[.list (.base .u8) x.b,.int .i64 x.i,.int .i64 x.h]
 | .outcome,x=>[.int .i64 x.value.kind,.int .i64 x.value.n,.int .i64 x.value.step,.str x.value.text,.list (.base .val) x.value.list,.list (.base .str) x.value.columns,.list (.base .row) x.value.rows,.list (.base .read) x.reads,.int .i64 x.steps]
 | .iy,x=>[.list (.base .read) x.tape,.int .i64 x.w.clock,.int .i64 x.w.seed,.list (.base .file) x.w.files,.int .i64 x.cell,.int .i64 x.version,.list (.base .read) x.reads,.int .i64 x.steps,.bool x.over]
theorem Base.bn(b:Base)(x:b.den):(b.cells x).length=b.size:=by cases b<;>rfl
def wJ:List D->Option aj
 | [.int .i64 a0,.int .i64 a]=>some ⟨a0,a⟩
 | _=>none
theorem NS{ds:List D}{x:aj}(h:wJ ds=some x):Base.cells .origin x=ds:=by
 unfold wJ at h;split at h
 ·simp only[Option.some.injEq]at h;subst h;rfl
 ·cases h
def NR:List D->Option aB
 | [a,b]=>(a.cZ (.base .int)).bind λa0=>(b.cZ (.base .origin)).bind λc=>some ⟨a0,c⟩
 | _=>none
theorem Xl{ds:List D}{x:aB}(h:NR ds=some x):Base.cells .row x=ds:=by
 unfold NR at h;split at h
 ·simp only[Option.bind_eq_some_iff,Option.some.injEq]at h;obtain⟨a0,a,c,b,rfl⟩:=h;simp only[Base.cells,D.bD a,D.bD b]
 ·cases h
def NQ:List D->Option af
 | [.int .i64 a0,.int .i64 a,.int .i64 b,.str c,d,e,f]=>(d.cZ (.base .val)).bind λg=>(e.cZ (.base .str)).bind λh=>(f.cZ (.base .row)).bind λi=>some ⟨a0,a,b,c,g,h,i⟩
 | _=>none
theorem Xk{ds:List D}{x:af}(h:NQ ds=some x):Base.cells .val x=ds:=by
 unfold NQ at h;split at h
 ·simp only[Option.bind_eq_some_iff,Option.some.injEq]at h;obtain⟨d,a,e,b,f,c,rfl⟩:=h;simp only[Base.cells,D.bD a,D.bD b,D.bD c]
 ·cases h
def FT:List D->Option ak
 | [.int .i64 a0,.int .i64 a,.str b,c]=>(c.cZ (.base .expr)).bind λd=>some ⟨a0,a,b,d⟩
 | _=>none
theorem U5{ds:List D}{x:ak}(h:FT ds=some x):Base.cells .expr x=ds:=by
 unfold FT at h;split at h
 ·simp only[Option.bind_eq_some_iff,Option.some.injEq]at h;obtain⟨b,a,rfl⟩:=h;simp only[Base.cells,D.bD a]
 ·cases h
def FQ:List D->Option fJ
 | [.str a0,.int .i64 a]=>some ⟨a0,a⟩
 | _=>none
theorem U4{ds:List D}{x:fJ}(h:FQ ds=some x):Base.cells .file x=ds:=by
 unfold FQ at h;split at h
 ·simp only[Option.some.injEq]at h;subst h;rfl
 ·cases h
def FM:List D->Option aG
 | [.int .i64 a0,.int .i64 c,.int .i64 d,.str e,.int .i64 f,.int .i64 g,.int .i64 h,.str i,j,k,a]=>(j.cZ (.base .val)).bind λl=>(k.cZ (.base .str)).bind λm=>(a.cZ (.base .row)).bind λb=>some ⟨a0,c,d,e,⟨f,g,h,i,l,m,b⟩⟩
 | _=>none
theorem U2{ds:List D}{x:aG}(h:FM ds=some x):Base.cells .read x=ds:=by
 unfold FM at h;split at h
 ·simp only[Option.bind_eq_some_iff,Option.some.injEq]at h;obtain⟨e,b,f,c,d,a,rfl⟩:=h;simp only[Base.cells,D.bD b,D.bD c,D.bD a]
 ·cases h
def rX:List D->Option au
 | [.str a0,.int .i64 a,.int .i64 b,.int .i64 c,.str d,e,f,g]=>(e.cZ (.base .val)).bind λh=>(f.cZ (.base .str)).bind λi=>(g.cZ (.base .row)).bind λj=>some ⟨a0,⟨a,b,c,d,h,i,j⟩⟩
 | _=>none
theorem JY{ds:List D}{x:au}(h:rX ds=some x):Base.cells .binding x=ds:=by
 unfold rX at h;split at h
 ·simp only[Option.bind_eq_some_iff,Option.some.injEq]at h;obtain⟨d,a,e,b,f,c,rfl⟩:=h;simp only[Base.cells,D.bD a,D.bD b,D.bD c]
 ·cases h
def of_cell:List D->Option Bo
 | [.int .i64 a0,.int .i64 a,.int .i64 b,.str c,.str d,.int .i64 e]=>some ⟨a0,a,b,c,d,e⟩
 | _=>none
theorem U7{ds:List D}{x:Bo}(h:of_cell ds=some x):Base.cells .cell x=ds:=by
 unfold of_cell at h;split at h
 ·simp only[Option.some.injEq]at h;subst h;rfl
 ·cases h
def FU:List D->Option abK
 | [.int .i64 a0,.int .i64 a,.int .i64 b,.int .i64 c,.int .i64 d,.str e,.str f,.int .i64 g]=>some ⟨a0,a,⟨b,c,d,e,f,g⟩⟩
 | _=>none
theorem U6{ds:List D}{x:abK}(h:FU ds=some x):Base.cells .edit x=ds:=by
 unfold FU at h;split at h
 ·simp only[Option.some.injEq]at h;subst h;rfl
 ·cases h
def FK:List D->Option nY
 | [.int .i64 a0,.int .i64 a,b]=>(b.cZ (.base .read)).bind λc=>some ⟨a0,a,c⟩
 | _=>none
theorem U1{ds:List D}{x:nY}(h:FK ds=some x):Base.cells .tape x=ds:=by
 unfold FK at h;split at h
 ·simp only[Option.bind_eq_some_iff,Option.some.injEq]at h;obtain⟨b,a,rfl⟩:=h;simp only[Base.cells,D.bD a]
 ·cases h
def pO:List D->Option iE
 | [a]=>(a.cZ (.base .cell)).bind λa0=>some ⟨a0⟩
 | _=>none
theorem IB{ds:List D}{x:iE}(h:pO ds=some x):Base.cells .notebook x=ds:=by
 unfold pO at h;split at h
 ·simp only[Option.bind_eq_some_iff,Option.some.injEq]at h;obtain⟨a0,a,rfl⟩:=h;simp only[Base.cells,D.bD a]
 ·cases h
def Xm:List D->Option GOp
 | [.int .i64 a0,.int .i64 i,.int .i64 j,k,.int .i64 l,.int .i64 m,.int .i64 n,.int .i64 o,.int .i64 p,.str q,.str a,.int .i64 b,.str c,.str d,.int .i64 e,.int .i64 f,g]=>(k.cZ (.base .int)).bind λr=>(g.cZ (.base .read)).bind λh=>some ⟨a0,i,j,r,⟨l,m,⟨n,o,p,q,a,b⟩⟩,c,d,e,f,h⟩
 | _=>none
theorem ZG{ds:List D}{x:GOp}(h:Xm ds=some x):Base.cells .op x=ds:=by
 unfold Xm at h;split at h
 ·simp only[Option.bind_eq_some_iff,Option.some.injEq]at h;obtain⟨d,b,c,a,rfl⟩:=h;simp only[Base.cells,D.bD b,D.bD a]
 ·cases h
def pR:List D->Option jV
 | [a,b,c]=>(a.cZ (.base .cell)).bind λa0=>(b.cZ (.base .tape)).bind λd=>(c.cZ (.base .op)).bind λe=>some ⟨⟨a0⟩,d,e⟩
 | _=>none
theorem IC{ds:List D}{x:jV}(h:pR ds=some x):Base.cells .document x=ds:=by
 unfold pR at h;split at h
 ·simp only[Option.bind_eq_some_iff,Option.some.injEq]at h;obtain⟨a0,a,d,b,e,c,rfl⟩:=h;simp only[Base.cells,D.bD a,D.bD b,D.bD c]
 ·cases h
def Ar:List D->Option bT
 | [.int .i64 a0,.int .i64 a,b]=>(b.cZ (.base .file)).bind λc=>some ⟨a0,a,c⟩
 | _=>none
theorem Qz{ds:List D}{x:bT}(h:Ar ds=some x):Base.cells .world x=ds:=by
 unfold Ar at h;split at h
 ·simp only[Option.bind_eq_some_iff,Option.some.injEq]at h;obtain⟨b,a,rfl⟩:=h;simp only[Base.cells,D.bD a]
 ·cases h
def NT:List D->Option aS
 | [a,.int .i64 b,.int .i64 c]=>(a.cZ (.base .u8)).bind λa0=>some ⟨a0,b,c⟩
 | _=>none
theorem Xn{ds:List D}{x:aS}(h:NT ds=some x):Base.cells .cur x=ds:=by
 unfold NT at h;split at h
 ·simp only[Option.bind_eq_some_iff,Option.some.injEq]at h;obtain⟨a0,a,rfl⟩:=h;simp only[Base.cells,D.bD a]
 ·cases h
def rW:List D->Option fB
 | [.int .i64 a0,.int .i64 a,.int .i64 b,.str c,d,e,f,g,.int .i64 h]=>(d.cZ (.base .val)).bind λi=>(e.cZ (.base .str)).bind λj=>(f.cZ (.base .row)).bind λk=>(g.cZ (.base .read)).bind λl=>some ⟨⟨a0,a,b,c,i,j,k⟩,l,h⟩
 | _=>none
theorem JX{ds:List D}{x:fB}(h:rW ds=some x):Base.cells .outcome x=ds:=by
 unfold rW at h;split at h
 ·simp only[Option.bind_eq_some_iff,Option.some.injEq]at h;obtain⟨e,a,f,b,g,c,i,d,rfl⟩:=h;simp only[Base.cells,D.bD a,D.bD b,D.bD c,D.bD d]
 ·cases h
def FP:List D->Option aA
 | [a,.int .i64 b,.int .i64 c,d,.int .i64 e,.int .i64 f,g,.int .i64 h,.bool i]=>(a.cZ (.base .read)).bind λa0=>(d.cZ (.base .file)).bind λj=>(g.cZ (.base .read)).bind λk=>some ⟨a0,⟨b,c,j⟩,e,f,k,h,i⟩
 | _=>none
theorem U3{ds:List D}{x:aA}(h:FP ds=some x):Base.cells .iy x=ds:=by
 unfold FP at h;split at h
 ·simp only[Option.bind_eq_some_iff,Option.some.injEq]at h;obtain⟨a0,a,d,b,e,c,rfl⟩:=h;simp only[Base.cells,D.bD a,D.bD b,D.bD c]
 ·cases h
def Base.ig:(b:Base)->List D->Option b.den
 | .int,ds=>match ds with | [.int .i64 n]=>some n | _=>none
 | .u8,ds=>match ds with | [.int .u8 n]=>some n | _=>none
 | .bool,ds=>match ds with | [.bool b]=>some b | _=>none
 | .str,ds=>match ds with | [.str s]=>some s | _=>none
 | .origin,ds=>wJ ds
 | .row,ds=>NR ds
 | .val,ds=>NQ ds
 | .expr,ds=>FT ds
 | .file,ds=>FQ ds
 | .read,ds=>FM ds
 | .binding,ds=>rX ds
 | .cell,ds=>of_cell ds
 | .edit,ds=>FU ds
 | .tape,ds=>FK ds
 | .notebook,ds=>pO ds
 | .op,ds=>Xm ds
 | .document,ds=>pR ds
 | .world,ds=>Ar ds
 | .cur,ds=>NT ds
 | .outcome,ds=>rW ds
 | .iy,ds=>FP ds
theorem Base.eH{b:Base}{ds:List D}{x:b.den}(h:b.ig ds=some x):b.cells x=ds:=by
 cases b
 case int=>simp only[Base.ig]at h;split at h<;>simp_all [Base.cells]
 case u8=>simp only[Base.ig]at h;split at h<;>simp_all [Base.cells]
 case bool=>simp only[Base.ig]at h;split at h<;>simp_all [Base.cells]
 case str=>simp only[Base.ig]at h;split at h<;>simp_all [Base.cells]
 case origin=>exact NS h
 case row=>exact Xl h
 case val=>exact Xk h
 case expr=>exact U5 h
 case file=>exact U4 h
 case read=>exact U2 h
 case binding=>exact JY h
 case cell=>exact U7 h
 case edit=>exact U6 h
 case tape=>exact U1 h
 case notebook=>exact IB h
 case op=>exact ZG h
 case document=>exact IC h
 case world=>exact Qz h
 case cur=>exact Xn h
 case outcome=>exact JX h
 case iy=>exact U3 h
def Base.zero:(b:Base)->b.den
 | .int=>(0:Int) | .u8=>(0:Int) | .bool=>false | .str=>([]:Str)
 | .origin=>⟨0,0⟩
 | .row=>⟨[],[]⟩
 | .val=>⟨0,0,0,[],[],[],[]⟩
 | .expr=>⟨0,0,[],[]⟩
 | .file=>⟨[],0⟩
 | .read=>⟨0,0,0,[],⟨0,0,0,[],[],[],[]⟩⟩
 | .binding=>⟨[],⟨0,0,0,[],[],[],[]⟩⟩
 | .cell=>⟨0,0,0,[],[],0⟩
 | .edit=>⟨0,0,⟨0,0,0,[],[],0⟩⟩
 | .tape=>⟨0,0,[]⟩
 | .notebook=>⟨[]⟩
 | .op=>⟨0,0,0,[],⟨0,0,⟨0,0,0,[],[],0⟩⟩,[],[],0,0,[]⟩
 | .document=>⟨⟨[]⟩,[],[]⟩
 | .world=>⟨0,0,[]⟩
 | .cur=>⟨[],0,0⟩
 | .outcome=>⟨⟨0,0,0,[],[],[],[]⟩,[],0⟩
 | .iy=>⟨[],⟨0,0,[]⟩,0,0,[],0,false⟩
def Ty.size:Ty->Nat
 | .base b=>b.size
 | .list _=>1
def Ty.cells:(t:Ty)->t.den->List D
 | .base b,x=>b.cells x
 | .list t,xs=>[.list t xs]
theorem Ty.bn(t:Ty)(x:t.den):(t.cells x).length=t.size:=by
 cases t with
 | base b=>exact Base.bn b x
 | list t=>rfl
def Ty.ig:(t:Ty)->List D->Option t.den
 | .base b,ds=>b.ig ds
 | .list t,ds=>match ds with | [d]=>d.cZ t | _=>none
theorem Ty.eH{t:Ty}{ds:List D}{x:t.den}(h:t.ig ds=some x):t.cells x=ds:=by
 cases t with
 | base b=>exact Base.eH h
 | list t=>
  simp only[Ty.ig]at h;split at h
  ·simp only[Ty.cells,D.bD h]
  ·cases h
def Ty.zero:(t:Ty)->t.den
 | .base b=>b.zero
 | .list t=>([]:List t.den)
theorem Ty.size_pos(t:Ty):0<t.size:=by
 cases t with
 | base b=>cases b<;>decide
 | list t=>exact Nat.one_pos
end Go.Abs
/- What the code asks of the world beside its arguments: a variable of the library holds a number. -/
namespace Go.Abs
open Go.Proofs
noncomputable def nT : Nat := (Tryz.prog.globalNamed "internal/bytealg.MaxLen").getD 0 + 1
def amb (w : World) : Prop := nT <= w.heap.size /\ ∃ m, w.cell? ⟨(Tryz.prog.globalNamed "internal/bytealg.MaxLen").getD 0, 0, none⟩ = some (.int .i64 m)
theorem amb.size{w:World}(h:amb w):nT<=w.heap.size:=h.1
theorem amb.akR {w : World} (h : amb w) : ∃ m, w.cell? ⟨(Tryz.prog.globalNamed "internal/bytealg.MaxLen").getD 0, 0, none⟩ = some (.int .i64 m) := h.2
theorem amb.keep{w w':World}(h:amb w)(hs:w.heap.size<=w'.heap.size)(hk:∀k,k<nT->w'.heap[k]?=w.heap[k]?):amb w':=by
 have l4 : (Tryz.prog.globalNamed "internal/bytealg.MaxLen").getD 0 < nT := by unfold nT; omega
 refine⟨Nat.le_trans h.1 hs,?_⟩;obtain⟨m,hm⟩:=h.2;refine⟨m,?_⟩;unfold World.cell? at hm ⊢;simp only at hm ⊢;rw[hk _ l4];exact hm
