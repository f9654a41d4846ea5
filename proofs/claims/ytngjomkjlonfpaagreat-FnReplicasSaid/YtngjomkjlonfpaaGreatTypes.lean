import Derived.WalkKit
set_option linter.unusedVariables false
/- Typed data for the Go structures of the program, and the universe of one-cell data. Written by gentypes.py. -/
theorem aa{α:Type _}(a b:α):(bif false then a else b)=b:=rfl
theorem ab{α:Type _}(a b:α):(bif true then a else b)=a:=rfl
theorem ac{p:Prop}[Decidable p](h:¬p):decide p=false:=decide_eq_false h
theorem ae{p:Prop}[Decidable p](h:p):decide p=true:=decide_eq_true h
theorem ao{α:Type _}{a:α}(y:α){l:List α}(h:a ∈ l):a ∈ y::l:=List.mem_cons_of_mem y h
theorem aq{α:Type _}{a:α}{l:List α}:a ∈ a::l:=List.mem_cons_self
theorem ar(n:Nat):n<=n:=Nat.le_refl n
theorem aw(n:Nat):((n:Int)).toNat=n:=Int.toNat_natCast n
theorem az{n m k:Nat}(h:n<m)(g:m<=k):n<k:=Nat.lt_of_lt_of_le h g
theorem aD:(false=true)=False:=Bool.false_eq_true
theorem aE:(!true)=false:=rfl
theorem aL{α:Type _}{l:Array α}{i:Nat}{a:α}:l[i]?=some a ↔ ∃ h:i<l.size,l[i]=a:=Array.getElem?_eq_some_iff
theorem aM{α:Type _}{a b:α}(h:some a=some b):a=b:=Option.some.inj h
theorem aR{α:Type _}{a b:List α}:(a++b).length=a.length+b.length:=List.length_append
theorem a6{α:Type _}(a b c:List α):a++b++c=a++(b++c):=List.append_assoc a b c
theorem a7{α:Type _}{i:Nat}{l:List α}:(l.take i).length=min i l.length:=List.length_take
theorem a8{α:Type _}{a b:α}{l:List α}:a ∈ b::l ↔ a=b\/a ∈ l:=List.mem_cons
theorem zA{α β:Type _}(a:α)(f:α->Option β):(some a).bind f=f a:=rfl
theorem zB{α β:Type _}{o:Option α}{f:α->Option β}{b:β}:o.bind f=some b↔∃a,o=some a/\f a=some b:=Option.bind_eq_some_iff
theorem zC{α:Type _}{l:List α}{i:Nat}{a:α}:l[i]?=some a↔∃h:i<l.length,l[i]=a:=List.getElem?_eq_some_iff
theorem zD{α:Type _}(a b:α):(some a=some b)=(a=b):=Option.some.injEq a b
theorem zE{α:Type _}{l:List α}{i:Nat}{a:α}:l.getD i a=l[i]?.getD a:=List.getD_eq_getElem?_getD
theorem zF{α:Type _}{l:List α}{i:Nat}(h:i<l.length):l[i]?=some l[i]:=List.getElem?_eq_getElem h
theorem zG{α:Type _}{l:List α}{i:Nat}{a:α}(h:l[i]?=some a):a∈l:=List.mem_of_getElem? h
theorem zH{α β:Type _}{f:α->β}{l:List α}{b:β}{bs:List β}:l.map f=b::bs↔∃a c,l=a::c/\f a=b/\c.map f=bs:=List.map_eq_cons_iff
theorem zI(a b:Bool):((a&&b)=true)=(a=true/\b=true):=Bool.and_eq_true a b
theorem zJ{α:Type _}{l:List α}{i:Nat}(h:l.length<=i):l[i]?=none:=List.getElem?_eq_none h
namespace Go.Abs
abbrev Str:=List UInt8
structure fB where
 cell:Int
 row:Int
structure dh where
 cells:List Int
 orig:List fB
structure aS where
 kind:Int
 n:Int
 step:Int
 text:Str
 list:List aS
 columns:List Str
 rows:List dh
structure aI where
 kind:Int
 n:Int
 pos:Int
 text:Str
structure af where
 kind:Int
 n:Int
 text:Str
 args:List af
structure aN where
 kind:Int
 n:Int
 time:Int
 text:Str
 result:aS
structure ah where
 id:Int
 version:Int
 kind:Int
 name:Str
 code:Str
 n:Int
structure dM where
 kind:Int
 pos:Int
 cell:ah
structure aO where
 cell:Int
 version:Int
 reads:List aN
structure ad2 where
 parent:Int
 edits:List dM
 undo:List dM
structure ak where
 cells:List ah
structure RY where
 notebook:ak
 nodes:List ad2
 pos:Int
structure GOp where
 time:Int
 by_:Int
 kind:Int
 seen:List Int
 edit:dM
 src:Str
 dst:Str
 cell:Int
 version:Int
 reads:List aN
structure aK where
 notebook:ak
 tapes:List aO
 renames:List GOp
structure aB where
 id:Int
 ops:List GOp
structure bC where
 b:List Int
 i:Int
 h:Int
structure bJ where
 kind:Int
 name:Str
 expr:af
 value:aS
 pos:Int
structure GRd where
 toks:List aI
 i:Int
 stop:Int
 bad:Int
structure bn where
 toks:List aI
 i:Int
 bad:Int
def dK(x:aS):aS:=⟨x.kind,x.n,x.step,x.text,x.list,x.columns,x.rows⟩
theorem kZ(x:aS):dK x=x:=by cases x;simp[dK]
def aj(x:af):af:=⟨x.kind,x.n,x.text,x.args⟩
theorem aP(x:af):aj x=x:=by cases x;simp[aj]
def og(x:aN):aN:=⟨x.kind,x.n,x.time,x.text,dK x.result⟩
theorem ul(x:aN):og x=x:=by cases x;simp[og,kZ]
def lF(x:bJ):bJ:=⟨x.kind,x.name,aj x.expr,dK x.value,x.pos⟩
inductive Base where
 | int | u8 | bool | str | origin | row | val | token | expr | read | cell | edit | tape | node | notebook | history | op | document | replica | cur | part | rd | psr
 deriving DecidableEq
inductive Ty where
 | base (b:Base)
 | list (t:Ty)
 deriving DecidableEq
abbrev Base.den:Base->Type
 | .int=>Int | .u8=>Int | .bool=>Bool | .str=>Str
 | .origin=>fB
 | .row=>dh
 | .val=>aS
 | .token=>aI
 | .expr=>af
 | .read=>aN
 | .cell=>ah
 | .edit=>dM
 | .tape=>aO
 | .node=>ad2
 | .notebook=>ak
 | .history=>RY
 | .op=>GOp
 | .document=>aK
 | .replica=>aB
 | .cur=>bC
 | .part=>bJ
 | .rd=>GRd
 | .psr=>bn
abbrev Ty.den:Ty->Type
 | .base b=>b.den
 | .list t=>List t.den
inductive D where
 | int (k:IntKind) (n:Int)
 | bool (b:Bool)
 | str (s:Str)
 | list (t:Ty) (xs:List t.den)
def D.dD(t:Ty):D->Option (List t.den)
 | .list t' xs=>if h:t'=t then some (h▸xs)else none
 | _=>none
theorem D.bW{t:Ty}{d:D}{xs:List t.den}(h:d.dD t=some xs):d=.list t xs:=by
 cases d with
 | list t' ys=>
  simp only[D.dD]at h;split at h
  ·rename_i e;subst e;simp at h;rw[h]
  ·cases h
 | _=>simp[D.dD]at h
def Base.size:Base->Nat
 | .int=>1 | .u8=>1 | .bool=>1 | .str=>1
 | .origin=>2
 | .row=>2
 | .val=>7
 | .token=>4
 | .expr=>4
 | .read=>11
 | .cell=>6
 | .edit=>8
 | .tape=>3
 | .node=>3
 | .notebook=>1
 | .history=>3
 | .op=>17
 | .document=>3
 | .replica=>2
 | .cur=>3
 | .part=>14
 | .rd=>4
 | .psr=>3
def Base.cells:(b:Base)->b.den->List D
 | .int,n=>[.int .i64 n] | .u8,c=>[.int .u8 c] | .bool,b=>[.bool b] | .str,s=>[.str s]
 | .origin,x=>[.int .i64 x.cell,.int .i64 x.row]
 | .row,x=>[.list (.base .int) x.cells,.list (.base .origin) x.orig]
 | .val,x=>[.int .i64 x.kind,.int .i64 x.n,.int .i64 x.step,.str x.text,.list (.base .val) x.list,.list (.base .str) x.columns,.list (.base .row) x.rows]
 | .token,x=>[.int .i64 x.kind,.int .i64 x.n,.int .i64 x.pos,.str x.text]
 | .expr,x=>[.int .i64 x.kind,.int .i64 x.n,.str x.text,.list (.base .expr) x.args]
 | .read,x=>[.int .i64 x.kind,.int .i64 x.n,.int .i64 x.time,.str x.text,.int .i64 x.result.kind,.int .i64 x.result.n,.int .i64 x.result.step,.str x.result.text,.list (.base .val) x.result.list,.list (.base .str) x.result.columns,.list (.base .row) x.result.rows]
 | .cell,x=>[.int .i64 x.id,.int .i64 x.version,.int .i64 x.kind,.str x.name,.str x.code,.int .i64 x.n]
 | .edit,x=>[.int .i64 x.kind,.int .i64 x.pos,.int .i64 x.cell.id,.int .i64 x.cell.version,.int .i64 x.cell.kind,.str x.cell.name,.str x.cell.code,.int .i64 x.cell.n]
 | .tape,x=>[.int .i64 x.cell,.int .i64 x.version,.list (.base .read) x.reads]
 | .node,x=>[.int .i64 x.parent,.list (.base .edit) x.edits,.list (.base .edit) x.undo]
 | .notebook,x=>[.list (.base .cell) x.cells]
 | .history,x=>[.list (.base .cell) x.notebook.cells,.list (.base .node) x.nodes,.int .i64 x.pos]
 | .op,x=>[.int .i64 x.time,.int .i64 x.by_,.int .i64 x.kind,.list (.base .int) x.seen,.int .i64 x.edit.kind,.int .i64 x.edit.pos,.int .i64 x.edit.cell.id,.int .i64 x.edit.cell.version,.int .i64 x.edit.cell.kind,.str x.edit.cell.name,.str x.edit.cell.code,.int .i64 x.edit.cell.n,.str x.src,.str x.dst,.int .i64 x.cell,.int .i64 x.version,.list (.base .read) x.reads]
 | .document,x=>[.list (.base .cell) x.notebook.cells,.list (.base .tape) x.tapes,.list (.base .op) x.renames]
 | .replica,x=>[.int .i64 x.id,.list (.base .op) x.ops]
 | .cur,x=>[.list (.base .u8) x.b,.int .i64 x.i,.int .i64 x.h]
 | .part,x=>[.int .i64 x.kind,.str x.name,.int .i64 x.expr.kind,.int .i64 x.expr.n,.str x.expr.text,.list (.base .expr) x.expr.args,.int .i64 x.value.kind,.int .i64 x.value.n,.int .i64 x.value.step,.str x.value.text,.list (.base .val) x.value.list,.list (.base .str) x.value.columns,.list (.base .row) x.value.rows,.int .i64 x.pos]
 | .rd,x=>[.list (.base .token) x.toks,.int .i64 x.i,.int .i64 x.stop,.int .i64 x.bad]
 | .psr,x=>[.list (.base .token) x.toks,.int .i64 x.i,.int .i64 x.bad]
theorem Base.bQ(b:Base)(x:b.den):(b.cells x).length=b.size:=by cases b<;>rfl
def yJ:List D->Option fB
 | [.int .i64 a,.int .i64 b]=>some ⟨a,b⟩
 | _=>none
theorem Qr{ds:List D}{x:fB}(h:yJ ds=some x):Base.cells .origin x=ds:=by
 unfold yJ at h;split at h
 ·simp only[Option.some.injEq]at h;subst h;rfl
 ·cases h
def Qp:List D->Option dh
 | [a,b]=>(a.dD (.base .int)).bind fun c=>(b.dD (.base .origin)).bind fun d=>some ⟨c,d⟩
 | _=>none
theorem Y4{ds:List D}{x:dh}(h:Qp ds=some x):Base.cells .row x=ds:=by
 unfold Qp at h;split at h
 ·simp only[Option.bind_eq_some_iff,Option.some.injEq]at h;obtain⟨c,a,d,b,rfl⟩:=h;simp only[Base.cells,D.bW a,D.bW b]
 ·cases h
def Qo:List D->Option aS
 | [.int .i64 a,.int .i64 b,.int .i64 c,.str d,e,f,g]=>(e.dD (.base .val)).bind fun h=>(f.dD (.base .str)).bind fun i=>(g.dD (.base .row)).bind fun j=>some ⟨a,b,c,d,h,i,j⟩
 | _=>none
theorem Y3{ds:List D}{x:aS}(h:Qo ds=some x):Base.cells .val x=ds:=by
 unfold Qo at h;split at h
 ·simp only[Option.bind_eq_some_iff,Option.some.injEq]at h;obtain⟨d,a,e,b,f,c,rfl⟩:=h;simp only[Base.cells,D.bW a,D.bW b,D.bW c]
 ·cases h
def CY:List D->Option aI
 | [.int .i64 a,.int .i64 b,.int .i64 c,.str d]=>some ⟨a,b,c,d⟩
 | _=>none
theorem TF{ds:List D}{x:aI}(h:CY ds=some x):Base.cells .token x=ds:=by
 unfold CY at h;split at h
 ·simp only[Option.some.injEq]at h;subst h;rfl
 ·cases h
def IQ:List D->Option af
 | [.int .i64 a,.int .i64 b,.str c,d]=>(d.dD (.base .expr)).bind fun e=>some ⟨a,b,c,e⟩
 | _=>none
theorem WZ{ds:List D}{x:af}(h:IQ ds=some x):Base.cells .expr x=ds:=by
 unfold IQ at h;split at h
 ·simp only[Option.bind_eq_some_iff,Option.some.injEq]at h;obtain⟨b,a,rfl⟩:=h;simp only[Base.cells,D.bW a]
 ·cases h
def II:List D->Option aN
 | [.int .i64 c,.int .i64 d,.int .i64 e,.str f,.int .i64 g,.int .i64 h,.int .i64 i,.str j,k,l,a]=>(k.dD (.base .val)).bind fun m=>(l.dD (.base .str)).bind fun n=>(a.dD (.base .row)).bind fun b=>some ⟨c,d,e,f,⟨g,h,i,j,m,n,b⟩⟩
 | _=>none
theorem WW{ds:List D}{x:aN}(h:II ds=some x):Base.cells .read x=ds:=by
 unfold II at h;split at h
 ·simp only[Option.bind_eq_some_iff,Option.some.injEq]at h;obtain⟨e,b,f,c,d,a,rfl⟩:=h;simp only[Base.cells,D.bW b,D.bW c,D.bW a]
 ·cases h
def of_cell:List D->Option ah
 | [.int .i64 a,.int .i64 b,.int .i64 c,.str d,.str e,.int .i64 f]=>some ⟨a,b,c,d,e,f⟩
 | _=>none
theorem Xa{ds:List D}{x:ah}(h:of_cell ds=some x):Base.cells .cell x=ds:=by
 unfold of_cell at h;split at h
 ·simp only[Option.some.injEq]at h;subst h;rfl
 ·cases h
def IU:List D->Option dM
 | [.int .i64 a,.int .i64 b,.int .i64 c,.int .i64 d,.int .i64 e,.str f,.str g,.int .i64 h]=>some ⟨a,b,⟨c,d,e,f,g,h⟩⟩
 | _=>none
theorem W9{ds:List D}{x:dM}(h:IU ds=some x):Base.cells .edit x=ds:=by
 unfold IU at h;split at h
 ·simp only[Option.some.injEq]at h;subst h;rfl
 ·cases h
def IG:List D->Option aO
 | [.int .i64 a,.int .i64 b,c]=>(c.dD (.base .read)).bind fun d=>some ⟨a,b,d⟩
 | _=>none
theorem WV{ds:List D}{x:aO}(h:IG ds=some x):Base.cells .tape x=ds:=by
 unfold IG at h;split at h
 ·simp only[Option.bind_eq_some_iff,Option.some.injEq]at h;obtain⟨b,a,rfl⟩:=h;simp only[Base.cells,D.bW a]
 ·cases h
def IK:List D->Option ad2
 | [.int .i64 a,b,c]=>(b.dD (.base .edit)).bind fun d=>(c.dD (.base .edit)).bind fun e=>some ⟨a,d,e⟩
 | _=>none
theorem WY{ds:List D}{x:ad2}(h:IK ds=some x):Base.cells .node x=ds:=by
 unfold IK at h;split at h
 ·simp only[Option.bind_eq_some_iff,Option.some.injEq]at h;obtain⟨c,a,d,b,rfl⟩:=h;simp only[Base.cells,D.bW a,D.bW b]
 ·cases h
def rO:List D->Option ak
 | [a]=>(a.dD (.base .cell)).bind fun b=>some ⟨b⟩
 | _=>none
theorem Kv{ds:List D}{x:ak}(h:rO ds=some x):Base.cells .notebook x=ds:=by
 unfold rO at h;split at h
 ·simp only[Option.bind_eq_some_iff,Option.some.injEq]at h;obtain⟨b,a,rfl⟩:=h;simp only[Base.cells,D.bW a]
 ·cases h
def vg:List D->Option RY
 | [a,b,.int .i64 c]=>(a.dD (.base .cell)).bind fun d=>(b.dD (.base .node)).bind fun e=>some ⟨⟨d⟩,e,c⟩
 | _=>none
theorem NP{ds:List D}{x:RY}(h:vg ds=some x):Base.cells .history x=ds:=by
 unfold vg at h;split at h
 ·simp only[Option.bind_eq_some_iff,Option.some.injEq]at h;obtain⟨c,a,d,b,rfl⟩:=h;simp only[Base.cells,D.bW a,D.bW b]
 ·cases h
def Y7:List D->Option GOp
 | [.int .i64 i,.int .i64 j,.int .i64 k,l,.int .i64 m,.int .i64 n,.int .i64 o,.int .i64 p,.int .i64 q,.str r,.str a,.int .i64 b,.str c,.str d,.int .i64 e,.int .i64 f,g]=>(l.dD (.base .int)).bind fun s=>(g.dD (.base .read)).bind fun h=>some ⟨i,j,k,s,⟨m,n,⟨o,p,q,r,a,b⟩⟩,c,d,e,f,h⟩
 | _=>none
theorem abW{ds:List D}{x:GOp}(h:Y7 ds=some x):Base.cells .op x=ds:=by
 unfold Y7 at h;split at h
 ·simp only[Option.bind_eq_some_iff,Option.some.injEq]at h;obtain⟨d,b,c,a,rfl⟩:=h;simp only[Base.cells,D.bW b,D.bW a]
 ·cases h
def rP:List D->Option aK
 | [a,b,c]=>(a.dD (.base .cell)).bind fun d=>(b.dD (.base .tape)).bind fun e=>(c.dD (.base .op)).bind fun f=>some ⟨⟨d⟩,e,f⟩
 | _=>none
theorem Kz{ds:List D}{x:aK}(h:rP ds=some x):Base.cells .document x=ds:=by
 unfold rP at h;split at h
 ·simp only[Option.bind_eq_some_iff,Option.some.injEq]at h;obtain⟨d,a,e,b,f,c,rfl⟩:=h;simp only[Base.cells,D.bW a,D.bW b,D.bW c]
 ·cases h
def ve:List D->Option aB
 | [.int .i64 a,b]=>(b.dD (.base .op)).bind fun c=>some ⟨a,c⟩
 | _=>none
theorem NM{ds:List D}{x:aB}(h:ve ds=some x):Base.cells .replica x=ds:=by
 unfold ve at h;split at h
 ·simp only[Option.bind_eq_some_iff,Option.some.injEq]at h;obtain⟨b,a,rfl⟩:=h;simp only[Base.cells,D.bW a]
 ·cases h
def Qs:List D->Option bC
 | [a,.int .i64 b,.int .i64 c]=>(a.dD (.base .u8)).bind fun d=>some ⟨d,b,c⟩
 | _=>none
theorem Y8{ds:List D}{x:bC}(h:Qs ds=some x):Base.cells .cur x=ds:=by
 unfold Qs at h;split at h
 ·simp only[Option.bind_eq_some_iff,Option.some.injEq]at h;obtain⟨b,a,rfl⟩:=h;simp only[Base.cells,D.bW a]
 ·cases h
def IJ:List D->Option bJ
 | [.int .i64 h,.str i,.int .i64 j,.int .i64 k,.str l,m,.int .i64 n,.int .i64 o,.int .i64 p,.str q,a,b,c,.int .i64 d]=>(m.dD (.base .expr)).bind fun r=>(a.dD (.base .val)).bind fun e=>(b.dD (.base .str)).bind fun f=>(c.dD (.base .row)).bind fun g=>some ⟨h,i,⟨j,k,l,r⟩,⟨n,o,p,q,e,f,g⟩,d⟩
 | _=>none
theorem WX{ds:List D}{x:bJ}(h:IJ ds=some x):Base.cells .part x=ds:=by
 unfold IJ at h;split at h
 ·simp only[Option.bind_eq_some_iff,Option.some.injEq]at h;obtain⟨i,d,e,a,f,b,g,c,rfl⟩:=h;simp only[Base.cells,D.bW d,D.bW a,D.bW b,D.bW c]
 ·cases h
def Y5:List D->Option GRd
 | [a,.int .i64 b,.int .i64 c,.int .i64 d]=>(a.dD (.base .token)).bind fun e=>some ⟨e,b,c,d⟩
 | _=>none
theorem abV{ds:List D}{x:GRd}(h:Y5 ds=some x):Base.cells .rd x=ds:=by
 unfold Y5 at h;split at h
 ·simp only[Option.bind_eq_some_iff,Option.some.injEq]at h;obtain⟨b,a,rfl⟩:=h;simp only[Base.cells,D.bW a]
 ·cases h
def Qq:List D->Option bn
 | [a,.int .i64 b,.int .i64 c]=>(a.dD (.base .token)).bind fun d=>some ⟨d,b,c⟩
 | _=>none
theorem Y6{ds:List D}{x:bn}(h:Qq ds=some x):Base.cells .psr x=ds:=by
 unfold Qq at h;split at h
 ·simp only[Option.bind_eq_some_iff,Option.some.injEq]at h;obtain⟨b,a,rfl⟩:=h;simp only[Base.cells,D.bW a]
 ·cases h
def Base.jv:(b:Base)->List D->Option b.den
 | .int,ds=>match ds with | [.int .i64 n]=>some n | _=>none
 | .u8,ds=>match ds with | [.int .u8 n]=>some n | _=>none
 | .bool,ds=>match ds with | [.bool b]=>some b | _=>none
 | .str,ds=>match ds with | [.str s]=>some s | _=>none
 | .origin,ds=>yJ ds
 | .row,ds=>Qp ds
 | .val,ds=>Qo ds
 | .token,ds=>CY ds
 | .expr,ds=>IQ ds
 | .read,ds=>II ds
 | .cell,ds=>of_cell ds
 | .edit,ds=>IU ds
 | .tape,ds=>IG ds
 | .node,ds=>IK ds
 | .notebook,ds=>rO ds
 | .history,ds=>vg ds
 | .op,ds=>Y7 ds
 | .document,ds=>rP ds
 | .replica,ds=>ve ds
 | .cur,ds=>Qs ds
 | .part,ds=>IJ ds
 | .rd,ds=>Y5 ds
 | .psr,ds=>Qq ds
theorem Base.fU{b:Base}{ds:List D}{x:b.den}(h:b.jv ds=some x):b.cells x=ds:=by
 cases b
 case int=>simp only[Base.jv]at h;split at h<;>simp_all [Base.cells]
 case u8=>simp only[Base.jv]at h;split at h<;>simp_all [Base.cells]
 case bool=>simp only[Base.jv]at h;split at h<;>simp_all [Base.cells]
 case str=>simp only[Base.jv]at h;split at h<;>simp_all [Base.cells]
 case origin=>exact Qr h
 case row=>exact Y4 h
 case val=>exact Y3 h
 case token=>exact TF h
 case expr=>exact WZ h
 case read=>exact WW h
 case cell=>exact Xa h
 case edit=>exact W9 h
 case tape=>exact WV h
 case node=>exact WY h
 case notebook=>exact Kv h
 case history=>exact NP h
 case op=>exact abW h
 case document=>exact Kz h
 case replica=>exact NM h
 case cur=>exact Y8 h
 case part=>exact WX h
 case rd=>exact abV h
 case psr=>exact Y6 h
def Base.zero:(b:Base)->b.den
 | .int=>(0:Int) | .u8=>(0:Int) | .bool=>false | .str=>([]:Str)
 | .origin=>⟨0,0⟩
 | .row=>⟨[],[]⟩
 | .val=>⟨0,0,0,[],[],[],[]⟩
 | .token=>⟨0,0,0,[]⟩
 | .expr=>⟨0,0,[],[]⟩
 | .read=>⟨0,0,0,[],⟨0,0,0,[],[],[],[]⟩⟩
 | .cell=>⟨0,0,0,[],[],0⟩
 | .edit=>⟨0,0,⟨0,0,0,[],[],0⟩⟩
 | .tape=>⟨0,0,[]⟩
 | .node=>⟨0,[],[]⟩
 | .notebook=>⟨[]⟩
 | .history=>⟨⟨[]⟩,[],0⟩
 | .op=>⟨0,0,0,[],⟨0,0,⟨0,0,0,[],[],0⟩⟩,[],[],0,0,[]⟩
 | .document=>⟨⟨[]⟩,[],[]⟩
 | .replica=>⟨0,[]⟩
 | .cur=>⟨[],0,0⟩
 | .part=>⟨0,[],⟨0,0,[],[]⟩,⟨0,0,0,[],[],[],[]⟩,0⟩
 | .rd=>⟨[],0,0,0⟩
 | .psr=>⟨[],0,0⟩
def Ty.size:Ty->Nat
 | .base b=>b.size
 | .list _=>1
def Ty.cells:(t:Ty)->t.den->List D
 | .base b,x=>b.cells x
 | .list t,xs=>[.list t xs]
theorem Ty.bQ(t:Ty)(x:t.den):(t.cells x).length=t.size:=by
 cases t with
 | base b=>exact Base.bQ b x
 | list t=>rfl
def Ty.jv:(t:Ty)->List D->Option t.den
 | .base b,ds=>b.jv ds
 | .list t,ds=>match ds with | [d]=>d.dD t | _=>none
theorem Ty.fU{t:Ty}{ds:List D}{x:t.den}(h:t.jv ds=some x):t.cells x=ds:=by
 cases t with
 | base b=>exact Base.fU h
 | list t=>
  simp only[Ty.jv]at h;split at h
  ·simp only[Ty.cells,D.bW h]
  ·cases h
def Ty.zero:(t:Ty)->t.den
 | .base b=>b.zero
 | .list t=>([]:List t.den)
theorem Ty.size_pos(t:Ty):0<t.size:=by
 cases t with
 | base b=>cases b<;>decide
 | list t=>exact Nat.one_pos
end Go.Abs
/- What the code asks of the world beside its arguments: nothing. (Where the library reads variables of its own, this text is made by genamb.py.) -/
namespace Go.Abs
def Uf:Nat:=0
def amb(w:World):Prop:=Uf<=w.heap.size
theorem amb.size{w:World}(h:amb w):Uf<=w.heap.size:=h
theorem amb.keep{w w':World}(_:amb w)(a:w.heap.size<=w'.heap.size)(_:∀k,k<Uf->w'.heap[k]?=w.heap[k]?):amb w':=Nat.zero_le _
theorem akf(w:World):amb w:=Nat.zero_le _
end Go.Abs
