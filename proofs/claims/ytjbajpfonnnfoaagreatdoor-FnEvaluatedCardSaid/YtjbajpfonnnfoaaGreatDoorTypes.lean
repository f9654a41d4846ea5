import Derived.WalkKit
import Derived.Test.YtjbajpfonnnfoaaGreatDoorProg
import Derived.KernelRfl
/- Typed data for the Go structures of the program, and the universe of one-cell data. Written by gentypes.py. -/
theorem aa{α:Type _}(a b:α):(bif false then a else b)=b:=rfl
theorem ab{α:Type _}(a b:α):(bif true then a else b)=a:=rfl
theorem ac{p:Prop}[Decidable p](h:¬p):decide p=false:=decide_eq_false h
theorem ae{p:Prop}[Decidable p](h:p):decide p=true:=decide_eq_true h
theorem ao{α:Type _}{a:α}(y:α){l:List α}(h:a ∈ l):a ∈ y::l:=List.mem_cons_of_mem y h
theorem aq{α:Type _}{a:α}{l:List α}:a ∈ a::l:=List.mem_cons_self
theorem ar(n:Nat):n<=n:=Nat.le_refl n
theorem aw(n:Nat):((n:Int)).toNat=n:=Int.toNat_natCast n
theorem aD{n m k:Nat}(h:n<m)(g:m<=k):n<k:=Nat.lt_of_lt_of_le h g
theorem aE:(false=true)=False:=Bool.false_eq_true
theorem aL:(!true)=false:=rfl
theorem aM{α:Type _}{l:Array α}{i:Nat}{a:α}:l[i]?=some a ↔ ∃ h:i<l.size,l[i]=a:=Array.getElem?_eq_some_iff
theorem aR{α:Type _}{a b:α}(h:some a=some b):a=b:=Option.some.inj h
theorem a6{α:Type _}{a b:List α}:(a++b).length=a.length+b.length:=List.length_append
theorem a7{α:Type _}(a b c:List α):a++b++c=a++(b++c):=List.append_assoc a b c
theorem a8{α:Type _}{i:Nat}{l:List α}:(l.take i).length=min i l.length:=List.length_take
theorem ba{α:Type _}{a b:α}{l:List α}:a ∈ b::l ↔ a=b\/a ∈ l:=List.mem_cons
theorem zA{α β:Type _}(a:α)(f:α->Option β):(some a).bind f=f a:=rfl
theorem zB{α β:Type _}{o:Option α}{f:α->Option β}{b:β}:o.bind f=some b↔∃a,o=some a/\f a=some b:=Option.bind_eq_some_iff
theorem zC{α:Type _}{l:List α}{i:Nat}{a:α}:l[i]?=some a↔∃h:i<l.length,l[i]=a:=List.getElem?_eq_some_iff
theorem zD{α:Type _}(a b:α):(some a=some b)=(a=b):=Option.some.injEq a b
theorem zE{α:Type _}{l:List α}{i:Nat}{a:α}:l.getD i a=l[i]?.getD a:=List.getD_eq_getElem?_getD
theorem zF{α:Type _}{l:List α}{i:Nat}(h:i<l.length):l[i]?=some l[i]:=List.getElem?_eq_getElem h
theorem zG{α:Type _}{l:List α}{i:Nat}{a:α}(h:l[i]?=some a):a∈l:=List.mem_of_getElem? h
theorem zH{α β:Type _}{f:α->β}{l:List α}{b:β}{bs:List β}:l.map f=b::bs↔∃a c,l=a::c/\f a=b/\c.map f=bs:=List.map_eq_cons_iff
theorem zI(a b:Bool):((a&&b)=true)=(a=true/\b=true):=Bool.and_eq_true a b
theorem zJ{α:Type _}{l:List α}{i:Nat}(h:l.length<=i):l[i]?=none:=List.getElem?_eq_none h
namespace Go.Abs
abbrev Str:=List UInt8
structure aj where
 cell:Int
 row:Int
structure aB where
 cells:List Int
 orig:List aj
structure af where
 kind:Int
 n:Int
 step:Int
 text:Str
 list:List af
 columns:List Str
 rows:List aB
structure au where
 kind:Int
 n:Int
 text:Str
 args:List au
structure fP where
 name:Str
 n:Int
structure aG where
 kind:Int
 n:Int
 time:Int
 text:Str
 result:af
structure ak where
 name:Str
 value:af
structure AP where
 id:Int
 version:Int
 kind:Int
 name:Str
 code:Str
 n:Int
structure abg where
 kind:Int
 pos:Int
 cell:AP
structure nS where
 cell:Int
 version:Int
 reads:List aG
structure iH where
 cells:List AP
structure GOp where
 time:Int
 by_:Int
 kind:Int
 seen:List Int
 edit:abg
 src:Str
 dst:Str
 cell:Int
 version:Int
 reads:List aG
structure jT where
 notebook:iH
 tapes:List nS
 renames:List GOp
structure bV where
 clock:Int
 seed:Int
 files:List fP
structure aS where
 b:List Int
 i:Int
 h:Int
structure dX where
 value:af
 reads:List aG
 steps:Int
structure aA where
 tape:List aG
 w:bV
 cell:Int
 version:Int
 reads:List aG
 steps:Int
 over:Bool
def ah(x:af):af:=⟨x.kind,x.n,x.step,x.text,x.list,x.columns,x.rows⟩
theorem aC(x:af):ah x=x:=by cases x;simp[ah]
def aN(x:au):au:=⟨x.kind,x.n,x.text,x.args⟩
theorem dA(x:au):aN x=x:=by cases x;simp[aN]
def xM(x:aG):aG:=⟨x.kind,x.n,x.time,x.text,ah x.result⟩
theorem Bh(x:aG):xM x=x:=by cases x;simp[xM,aC]
def qY(x:ak):ak:=⟨x.name,ah x.value⟩
theorem UA(x:ak):qY x=x:=by cases x;simp[qY,aC]
def Bj(x:dX):dX:=⟨ah x.value,x.reads,x.steps⟩
inductive Base where
 | int | u8 | bool | str | origin | row | val | expr | file | read | binding | cell | edit | tape | notebook | op | document | world | cur | outcome | iE
 deriving DecidableEq
inductive Ty where
 | base (b:Base)
 | list (t:Ty)
 deriving DecidableEq
abbrev Base.den:Base->Type
 | .int=>Int | .u8=>Int | .bool=>Bool | .str=>Str
 | .origin=>aj
 | .row=>aB
 | .val=>af
 | .expr=>au
 | .file=>fP
 | .read=>aG
 | .binding=>ak
 | .cell=>AP
 | .edit=>abg
 | .tape=>nS
 | .notebook=>iH
 | .op=>GOp
 | .document=>jT
 | .world=>bV
 | .cur=>aS
 | .outcome=>dX
 | .iE=>aA
abbrev Ty.den:Ty->Type
 | .base b=>b.den
 | .list t=>List t.den
inductive D where
 | int (k:IntKind) (n:Int)
 | bool (b:Bool)
 | str (s:Str)
 | list (t:Ty) (xs:List t.den)
def D.cO(t:Ty):D->Option (List t.den)
 | .list t' xs=>if h:t'=t then some (h▸xs)else none
 | _=>none
theorem D.bG{t:Ty}{d:D}{xs:List t.den}(h:d.cO t=some xs):d=.list t xs:=by
 cases d with
 | list t' ys=>
  simp only[D.cO]at h;split at h
  ·rename_i e;subst e;simp at h;rw[h]
  ·cases h
 | _=>simp[D.cO]at h
def Base.size:Base->Nat
 | .int=>1 | .u8=>1 | .bool=>1 | .str=>1
 | .origin=>2
 | .row=>2
 | .val=>7
 | .expr=>4
 | .file=>2
 | .read=>11
 | .binding=>8
 | .cell=>6
 | .edit=>8
 | .tape=>3
 | .notebook=>1
 | .op=>17
 | .document=>3
 | .world=>3
 | .cur=>3
 | .outcome=>9
 | .iE=>9
def Base.cells:(b:Base)->b.den->List D
 | .int,n=>[.int .i64 n] | .u8,c=>[.int .u8 c] | .bool,b=>[.bool b] | .str,s=>[.str s]
 | .origin,x=>[.int .i64 x.cell,.int .i64 x.row]
 | .row,x=>[.list (.base .int) x.cells,.list (.base .origin) x.orig]
 | .val,x=>[.int .i64 x.kind,.int .i64 x.n,.int .i64 x.step,.str x.text,.list (.base .val) x.list,.list (.base .str) x.columns,.list (.base .row) x.rows]
 | .expr,x=>[.int .i64 x.kind,.int .i64 x.n,.str x.text,.list (.base .expr) x.args]
 | .file,x=>[.str x.name,.int .i64 x.n]
 | .read,x=>[.int .i64 x.kind,.int .i64 x.n,.int .i64 x.time,.str x.text,.int .i64 x.result.kind,.int .i64 x.result.n,.int .i64 x.result.step,.str x.result.text,.list (.base .val) x.result.list,.list (.base .str) x.result.columns,.list (.base .row) x.result.rows]
 | .binding,x=>[.str x.name,.int .i64 x.value.kind,.int .i64 x.value.n,.int .i64 x.value.step,.str x.value.text,.list (.base .val) x.value.list,.list (.base .str) x.value.columns,.list (.base .row) x.value.rows]
 | .cell,x=>[.int .i64 x.id,.int .i64 x.version,.int .i64 x.kind,.str x.name,.str x.code,.int .i64 x.n]
 | .edit,x=>[.int .i64 x.kind,.int .i64 x.pos,.int .i64 x.cell.id,.int .i64 x.cell.version,.int .i64 x.cell.kind,.str x.cell.name,.str x.cell.code,.int .i64 x.cell.n]
 | .tape,x=>[.int .i64 x.cell,.int .i64 x.version,.list (.base .read) x.reads]
 | .notebook,x=>[.list (.base .cell) x.cells]
 | .op,x=>[.int .i64 x.time,.int .i64 x.by_,.int .i64 x.kind,.list (.base .int) x.seen,.int .i64 x.edit.kind,.int .i64 x.edit.pos,.int .i64 x.edit.cell.id,.int .i64 x.edit.cell.version,.int .i64 x.edit.cell.kind,.str x.edit.cell.name,.str x.edit.cell.code,.int .i64 x.edit.cell.n,.str x.src,.str x.dst,.int .i64 x.cell,.int .i64 x.version,.list (.base .read) x.reads]
 | .document,x=>[.list (.base .cell) x.notebook.cells,.list (.base .tape) x.tapes,.list (.base .op) x.renames]
 | .world,x=>[.int .i64 x.clock,.int .i64 x.seed,.list (.base .file) x.files]
 | .cur,x=>[.list (.base .u8) x.b,.int .i64 x.i,.int .i64 x.h]
 | .outcome,x=>[.int .i64 x.value.kind,.int .i64 x.value.n,.int .i64 x.value.step,.str x.value.text,.list (.base .val) x.value.list,.list (.base .str) x.value.columns,.list (.base .row) x.value.rows,.list (.base .read) x.reads,.int .i64 x.steps]
 | .iE,x=>[.list (.base .read) x.tape,.int .i64 x.w.clock,.int .i64 x.w.seed,.list (.base .file) x.w.files,.int .i64 x.cell,.int .i64 x.version,.list (.base .read) x.reads,.int .i64 x.steps,.bool x.over]
theorem Base.bn(b:Base)(x:b.den):(b.cells x).length=b.size:=by cases b<;>rfl
def wB:List D->Option aj
 | [.int .i64 a,.int .i64 b]=>some ⟨a,b⟩
 | _=>none
theorem ND{ds:List D}{x:aj}(h:wB ds=some x):Base.cells .origin x=ds:=by
 unfold wB at h;split at h
 ·simp only[Option.some.injEq]at h;subst h;rfl
 ·cases h
def NC:List D->Option aB
 | [a,b]=>(a.cO (.base .int)).bind λc=>(b.cO (.base .origin)).bind λd=>some ⟨c,d⟩
 | _=>none
theorem WZ{ds:List D}{x:aB}(h:NC ds=some x):Base.cells .row x=ds:=by
 unfold NC at h;split at h
 ·simp only[Option.bind_eq_some_iff,Option.some.injEq]at h;obtain⟨c,a,d,b,rfl⟩:=h;simp only[Base.cells,D.bG a,D.bG b]
 ·cases h
def Nz:List D->Option af
 | [.int .i64 a,.int .i64 b,.int .i64 c,.str d,e,f,g]=>(e.cO (.base .val)).bind λh=>(f.cO (.base .str)).bind λi=>(g.cO (.base .row)).bind λj=>some ⟨a,b,c,d,h,i,j⟩
 | _=>none
theorem WY{ds:List D}{x:af}(h:Nz ds=some x):Base.cells .val x=ds:=by
 unfold Nz at h;split at h
 ·simp only[Option.bind_eq_some_iff,Option.some.injEq]at h;obtain⟨d,a,e,b,f,c,rfl⟩:=h;simp only[Base.cells,D.bG a,D.bG b,D.bG c]
 ·cases h
def Fh:List D->Option au
 | [.int .i64 a,.int .i64 b,.str c,d]=>(d.cO (.base .expr)).bind λe=>some ⟨a,b,c,e⟩
 | _=>none
theorem UO{ds:List D}{x:au}(h:Fh ds=some x):Base.cells .expr x=ds:=by
 unfold Fh at h;split at h
 ·simp only[Option.bind_eq_some_iff,Option.some.injEq]at h;obtain⟨b,a,rfl⟩:=h;simp only[Base.cells,D.bG a]
 ·cases h
def Fg:List D->Option fP
 | [.str a,.int .i64 b]=>some ⟨a,b⟩
 | _=>none
theorem UN{ds:List D}{x:fP}(h:Fg ds=some x):Base.cells .file x=ds:=by
 unfold Fg at h;split at h
 ·simp only[Option.some.injEq]at h;subst h;rfl
 ·cases h
def Fb:List D->Option aG
 | [.int .i64 c,.int .i64 d,.int .i64 e,.str f,.int .i64 g,.int .i64 h,.int .i64 i,.str j,k,l,a]=>(k.cO (.base .val)).bind λm=>(l.cO (.base .str)).bind λn=>(a.cO (.base .row)).bind λb=>some ⟨c,d,e,f,⟨g,h,i,j,m,n,b⟩⟩
 | _=>none
theorem UL{ds:List D}{x:aG}(h:Fb ds=some x):Base.cells .read x=ds:=by
 unfold Fb at h;split at h
 ·simp only[Option.bind_eq_some_iff,Option.some.injEq]at h;obtain⟨e,b,f,c,d,a,rfl⟩:=h;simp only[Base.cells,D.bG b,D.bG c,D.bG a]
 ·cases h
def rZ:List D->Option ak
 | [.str a,.int .i64 b,.int .i64 c,.int .i64 d,.str e,f,g,h]=>(f.cO (.base .val)).bind λi=>(g.cO (.base .str)).bind λj=>(h.cO (.base .row)).bind λk=>some ⟨a,⟨b,c,d,e,i,j,k⟩⟩
 | _=>none
theorem JO{ds:List D}{x:ak}(h:rZ ds=some x):Base.cells .binding x=ds:=by
 unfold rZ at h;split at h
 ·simp only[Option.bind_eq_some_iff,Option.some.injEq]at h;obtain⟨d,a,e,b,f,c,rfl⟩:=h;simp only[Base.cells,D.bG a,D.bG b,D.bG c]
 ·cases h
def of_cell:List D->Option AP
 | [.int .i64 a,.int .i64 b,.int .i64 c,.str d,.str e,.int .i64 f]=>some ⟨a,b,c,d,e,f⟩
 | _=>none
theorem UR{ds:List D}{x:AP}(h:of_cell ds=some x):Base.cells .cell x=ds:=by
 unfold of_cell at h;split at h
 ·simp only[Option.some.injEq]at h;subst h;rfl
 ·cases h
def Fj:List D->Option abg
 | [.int .i64 a,.int .i64 b,.int .i64 c,.int .i64 d,.int .i64 e,.str f,.str g,.int .i64 h]=>some ⟨a,b,⟨c,d,e,f,g,h⟩⟩
 | _=>none
theorem UQ{ds:List D}{x:abg}(h:Fj ds=some x):Base.cells .edit x=ds:=by
 unfold Fj at h;split at h
 ·simp only[Option.some.injEq]at h;subst h;rfl
 ·cases h
def Fa:List D->Option nS
 | [.int .i64 a,.int .i64 b,c]=>(c.cO (.base .read)).bind λd=>some ⟨a,b,d⟩
 | _=>none
theorem UK{ds:List D}{x:nS}(h:Fa ds=some x):Base.cells .tape x=ds:=by
 unfold Fa at h;split at h
 ·simp only[Option.bind_eq_some_iff,Option.some.injEq]at h;obtain⟨b,a,rfl⟩:=h;simp only[Base.cells,D.bG a]
 ·cases h
def pO:List D->Option iH
 | [a]=>(a.cO (.base .cell)).bind λb=>some ⟨b⟩
 | _=>none
theorem Ik{ds:List D}{x:iH}(h:pO ds=some x):Base.cells .notebook x=ds:=by
 unfold pO at h;split at h
 ·simp only[Option.bind_eq_some_iff,Option.some.injEq]at h;obtain⟨b,a,rfl⟩:=h;simp only[Base.cells,D.bG a]
 ·cases h
def W9:List D->Option GOp
 | [.int .i64 i,.int .i64 j,.int .i64 k,l,.int .i64 m,.int .i64 n,.int .i64 o,.int .i64 p,.int .i64 q,.str r,.str a,.int .i64 b,.str c,.str d,.int .i64 e,.int .i64 f,g]=>(l.cO (.base .int)).bind λs=>(g.cO (.base .read)).bind λh=>some ⟨i,j,k,s,⟨m,n,⟨o,p,q,r,a,b⟩⟩,c,d,e,f,h⟩
 | _=>none
theorem Zl{ds:List D}{x:GOp}(h:W9 ds=some x):Base.cells .op x=ds:=by
 unfold W9 at h;split at h
 ·simp only[Option.bind_eq_some_iff,Option.some.injEq]at h;obtain⟨d,b,c,a,rfl⟩:=h;simp only[Base.cells,D.bG b,D.bG a]
 ·cases h
def pR:List D->Option jT
 | [a,b,c]=>(a.cO (.base .cell)).bind λd=>(b.cO (.base .tape)).bind λe=>(c.cO (.base .op)).bind λf=>some ⟨⟨d⟩,e,f⟩
 | _=>none
theorem Il{ds:List D}{x:jT}(h:pR ds=some x):Base.cells .document x=ds:=by
 unfold pR at h;split at h
 ·simp only[Option.bind_eq_some_iff,Option.some.injEq]at h;obtain⟨d,a,e,b,f,c,rfl⟩:=h;simp only[Base.cells,D.bG a,D.bG b,D.bG c]
 ·cases h
def Aa:List D->Option bV
 | [.int .i64 a,.int .i64 b,c]=>(c.cO (.base .file)).bind λd=>some ⟨a,b,d⟩
 | _=>none
theorem Qk{ds:List D}{x:bV}(h:Aa ds=some x):Base.cells .world x=ds:=by
 unfold Aa at h;split at h
 ·simp only[Option.bind_eq_some_iff,Option.some.injEq]at h;obtain⟨b,a,rfl⟩:=h;simp only[Base.cells,D.bG a]
 ·cases h
def NE:List D->Option aS
 | [a,.int .i64 b,.int .i64 c]=>(a.cO (.base .u8)).bind λd=>some ⟨d,b,c⟩
 | _=>none
theorem Xa{ds:List D}{x:aS}(h:NE ds=some x):Base.cells .cur x=ds:=by
 unfold NE at h;split at h
 ·simp only[Option.bind_eq_some_iff,Option.some.injEq]at h;obtain⟨b,a,rfl⟩:=h;simp only[Base.cells,D.bG a]
 ·cases h
def rY:List D->Option dX
 | [.int .i64 a,.int .i64 b,.int .i64 c,.str d,e,f,g,h,.int .i64 i]=>(e.cO (.base .val)).bind λj=>(f.cO (.base .str)).bind λk=>(g.cO (.base .row)).bind λl=>(h.cO (.base .read)).bind λm=>some ⟨⟨a,b,c,d,j,k,l⟩,m,i⟩
 | _=>none
theorem JM{ds:List D}{x:dX}(h:rY ds=some x):Base.cells .outcome x=ds:=by
 unfold rY at h;split at h
 ·simp only[Option.bind_eq_some_iff,Option.some.injEq]at h;obtain⟨e,a,f,b,g,c,i,d,rfl⟩:=h;simp only[Base.cells,D.bG a,D.bG b,D.bG c,D.bG d]
 ·cases h
def Ff:List D->Option aA
 | [a,.int .i64 b,.int .i64 c,d,.int .i64 e,.int .i64 f,g,.int .i64 h,.bool i]=>(a.cO (.base .read)).bind λj=>(d.cO (.base .file)).bind λk=>(g.cO (.base .read)).bind λl=>some ⟨j,⟨b,c,k⟩,e,f,l,h,i⟩
 | _=>none
theorem UM{ds:List D}{x:aA}(h:Ff ds=some x):Base.cells .iE x=ds:=by
 unfold Ff at h;split at h
 ·simp only[Option.bind_eq_some_iff,Option.some.injEq]at h;obtain⟨d,a,e,b,f,c,rfl⟩:=h;simp only[Base.cells,D.bG a,D.bG b,D.bG c]
 ·cases h
def Base.iw:(b:Base)->List D->Option b.den
 | .int,ds=>match ds with | [.int .i64 n]=>some n | _=>none
 | .u8,ds=>match ds with | [.int .u8 n]=>some n | _=>none
 | .bool,ds=>match ds with | [.bool b]=>some b | _=>none
 | .str,ds=>match ds with | [.str s]=>some s | _=>none
 | .origin,ds=>wB ds
 | .row,ds=>NC ds
 | .val,ds=>Nz ds
 | .expr,ds=>Fh ds
 | .file,ds=>Fg ds
 | .read,ds=>Fb ds
 | .binding,ds=>rZ ds
 | .cell,ds=>of_cell ds
 | .edit,ds=>Fj ds
 | .tape,ds=>Fa ds
 | .notebook,ds=>pO ds
 | .op,ds=>W9 ds
 | .document,ds=>pR ds
 | .world,ds=>Aa ds
 | .cur,ds=>NE ds
 | .outcome,ds=>rY ds
 | .iE,ds=>Ff ds
theorem Base.dU{b:Base}{ds:List D}{x:b.den}(h:b.iw ds=some x):b.cells x=ds:=by
 cases b
 case int=>simp only[Base.iw]at h;split at h<;>simp_all [Base.cells]
 case u8=>simp only[Base.iw]at h;split at h<;>simp_all [Base.cells]
 case bool=>simp only[Base.iw]at h;split at h<;>simp_all [Base.cells]
 case str=>simp only[Base.iw]at h;split at h<;>simp_all [Base.cells]
 case origin=>exact ND h
 case row=>exact WZ h
 case val=>exact WY h
 case expr=>exact UO h
 case file=>exact UN h
 case read=>exact UL h
 case binding=>exact JO h
 case cell=>exact UR h
 case edit=>exact UQ h
 case tape=>exact UK h
 case notebook=>exact Ik h
 case op=>exact Zl h
 case document=>exact Il h
 case world=>exact Qk h
 case cur=>exact Xa h
 case outcome=>exact JM h
 case iE=>exact UM h
def Base.zero:(b:Base)->b.den
 | .int=>(0:Int) | .u8=>(0:Int) | .bool=>false | .str=>([]:Str)
 | .origin=>⟨0,0⟩
 | .row=>⟨[],[]⟩
 | .val=>⟨0,0,0,[],[],[],[]⟩
 | .expr=>⟨0,0,[],[]⟩
 | .file=>⟨[],0⟩
 | .read=>⟨0,0,0,[],⟨0,0,0,[],[],[],[]⟩⟩
 | .binding=>⟨[],⟨0,0,0,[],[],[],[]⟩⟩
 | .cell=>⟨0,0,0,[],[],0⟩
 | .edit=>⟨0,0,⟨0,0,0,[],[],0⟩⟩
 | .tape=>⟨0,0,[]⟩
 | .notebook=>⟨[]⟩
 | .op=>⟨0,0,0,[],⟨0,0,⟨0,0,0,[],[],0⟩⟩,[],[],0,0,[]⟩
 | .document=>⟨⟨[]⟩,[],[]⟩
 | .world=>⟨0,0,[]⟩
 | .cur=>⟨[],0,0⟩
 | .outcome=>⟨⟨0,0,0,[],[],[],[]⟩,[],0⟩
 | .iE=>⟨[],⟨0,0,[]⟩,0,0,[],0,false⟩
def Ty.size:Ty->Nat
 | .base b=>b.size
 | .list _=>1
def Ty.cells:(t:Ty)->t.den->List D
 | .base b,x=>b.cells x
 | .list t,xs=>[.list t xs]
theorem Ty.bn(t:Ty)(x:t.den):(t.cells x).length=t.size:=by
 cases t with
 | base b=>exact Base.bn b x
 | list t=>rfl
def Ty.iw:(t:Ty)->List D->Option t.den
 | .base b,ds=>b.iw ds
 | .list t,ds=>match ds with | [d]=>d.cO t | _=>none
theorem Ty.dU{t:Ty}{ds:List D}{x:t.den}(h:t.iw ds=some x):t.cells x=ds:=by
 cases t with
 | base b=>exact Base.dU h
 | list t=>
  simp only[Ty.iw]at h;split at h
  ·simp only[Ty.cells,D.bG h]
  ·cases h
def Ty.zero:(t:Ty)->t.den
 | .base b=>b.zero
 | .list t=>([]:List t.den)
theorem Ty.size_pos(t:Ty):0<t.size:=by
 cases t with
 | base b=>cases b<;>decide
 | list t=>exact Nat.one_pos
end Go.Abs
/- What the code asks of the world beside its arguments: a variable of the library holds a number. -/
namespace Go.Abs
open Go.Proofs
noncomputable def qi : Nat := (Tryz.prog.globalNamed "internal/bytealg.MaxLen").getD 0 + 1
def amb (w : World) : Prop := qi <= w.heap.size /\ ∃ m, w.cell? ⟨(Tryz.prog.globalNamed "internal/bytealg.MaxLen").getD 0, 0, none⟩ = some (.int .i64 m)
theorem amb.size{w:World}(h:amb w):qi<=w.heap.size:=h.1
theorem amb.akc {w : World} (h : amb w) : ∃ m, w.cell? ⟨(Tryz.prog.globalNamed "internal/bytealg.MaxLen").getD 0, 0, none⟩ = some (.int .i64 m) := h.2
theorem amb.keep{w w':World}(h:amb w)(hs:w.heap.size<=w'.heap.size)(hk:∀k,k<qi->w'.heap[k]?=w.heap[k]?):amb w':=by
 have l4 : (Tryz.prog.globalNamed "internal/bytealg.MaxLen").getD 0 < qi := by unfold qi; omega
 refine⟨Nat.le_trans h.1 hs,?_⟩;obtain⟨m,hm⟩:=h.2;refine⟨m,?_⟩;unfold World.cell? at hm ⊢;simp only at hm ⊢;rw[hk _ l4];exact hm
