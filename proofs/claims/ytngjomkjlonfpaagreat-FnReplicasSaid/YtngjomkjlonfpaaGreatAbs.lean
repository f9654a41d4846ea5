import Derived.Test.YtngjomkjlonfpaaGreatTypes
set_option linter.unusedSimpArgs false
/- The abstract evaluator: what a function of the program computes, over typed data, by the model's own code. -/
namespace Go.Abs
noncomputable section
inductive C where
 | undef
 | d (x:D)
 | nil
 | own (k j:Nat)
 | ptr (b off:Nat)
inductive V where
 | one (c:C)
 | agg (cs:List C)
inductive AV where
 | undef
 | v (x:V)
 | elt (t:Ty) (x:t.den) (off:Nat)
 | oelt (k j i sz off:Nat)
 | cut (t:Ty) (len n k1 k2:Nat)
 | seg (k:Nat)
 | pre (k j n:Nat)
 | suf (t:Ty) (k j m:Nat)
 | tup (vs:List V)
inductive O where
 | dead
 | own (t:Ty) (xs:List t.den) (deep m:Bool)
 | ro (t:Ty) (xs:List t.den)
 | tree (t:Ty) (xs:List t.den)
 | part (t:Ty) (xs:List t.den) (i:Nat)
 | seg (t:Ty) (xs:List t.den)
structure St where
 tmps:List AV
 boxes:List (Option (List C))
 owns:List (List O)
inductive W where
 | t (i:Nat) (v:AV)
 | b (i:Nat) (cs:List C)
 | o (k:Nat) (os:List O)
 | upd (k j:Nat) (x:O)
 | ro (k j:Nat)
 | nomut (k j:Nat)
def St.jm(S:St)(i:Nat):AV:=S.tmps.getD i .undef
def St.gW(S:St)(i:Nat):Option (List C):=S.boxes.getD i none
def St.aH(S:St)(k:Nat):List O:=S.owns.getD k []
def St.jW(S:St)(i:Nat)(v:AV):St:={ S with tmps:=S.tmps.set i v }
def St.setB(S:St)(i:Nat)(v:Option (List C)):St:={ S with boxes:=S.boxes.set i v }
def St.dI(S:St)(i:Nat)(v:List O):St:={ S with owns:=S.owns.set i v }
def O.EN:O->O
 | .own t xs _ _=>.ro t xs
 | .tree t xs=>.ro t xs
 | o=>o
def O.Fa:O->O
 | .own t xs deep _=>.own t xs deep false
 | .tree t xs=>.own t xs true false
 | o=>o
def O.vW:O->O
 | .tree t xs=>.own t xs true true
 | o=>o
def O.iO:O->O
 | .tree t xs=>.own t xs true true
 | .part t xs _=>.own t xs true true
 | .seg t xs=>.own t xs true true
 | o=>o
def bF(os:List O)(j:Nat):O:=os.getD j .dead
def St.put(S:St):W->St
 | .t i v=>S.jW i v
 | .b i cs=>S.setB i (some cs)
 | .o k os=>S.dI k os
 | .upd k j x=>S.dI k ((S.aH k).set j x)
 | .ro k j=>S.dI k ((S.aH k).set j (bF (S.aH k) j).EN)
 | .nomut k j=>S.dI k ((S.aH k).set j (bF (S.aH k) j).Fa)
def St.puts(S:St):List W->St
 | []=>S
 | x::r=>(S.put x).puts r
inductive L where
 | t (i:Nat)
 | b (i:Nat)
 | o (k:Nat)
 deriving DecidableEq
def W.loc:W->L
 | .t i _=>.t i
 | .b i _=>.b i
 | .o k _ | .upd k _ _ | .ro k _ | .nomut k _=>.o k
inductive Rd(α:Type):Type 1 where
 | ret (a:α)
 | fail
 | gT (i:Nat) (f:AV->Rd α)
 | gB (i:Nat) (f:Option (List C)->Rd α)
 | gO (k:Nat) (f:List O->Rd α)
 | gN (f:Nat->Rd α)
 | opt {β:Type} (o:Option β) (f:β->Rd α)
def Rd.bind{α β:Type}:Rd α->(α->Rd β)->Rd β
 | .ret a,g=>g a
 | .fail,_=>.fail
 | .gT i f,g=>.gT i fun x=>(f x).bind g
 | .gB i f,g=>.gB i fun x=>(f x).bind g
 | .gO i f,g=>.gO i fun x=>(f x).bind g
 | .gN f,g=>.gN fun x=>(f x).bind g
 | .opt o f,g=>.opt o fun x=>(f x).bind g
def Rd.runK{α ρ:Type}:Rd α->St->(α->Option ρ)->Option ρ
 | .ret a,_,k=>k a
 | .fail,_,_=>none
 | .gT i f,S,k=>(f (S.jm i)).runK S k
 | .gB i f,S,k=>(f (S.gW i)).runK S k
 | .gO i f,S,k=>(f (S.aH i)).runK S k
 | .gN f,S,k=>(f S.tmps.length).runK S k
 | .opt o f,S,k=>o.bind fun x=>(f x).runK S k
def Rd.aeN{α ρ:Type}:Rd α->St->List L->(α->List L->Option ρ)->Option ρ
 | .ret a,_,l,k=>k a l
 | .fail,_,_,_=>none
 | .gT i f,S,l,k=>(f (S.jm i)).aeN S (.t i::l) k
 | .gB i f,S,l,k=>(f (S.gW i)).aeN S (.b i::l) k
 | .gO i f,S,l,k=>(f (S.aH i)).aeN S (.o i::l) k
 | .gN _,_,_,_=>none
 | .opt o f,S,l,k=>o.bind fun x=>(f x).aeN S l k
def Rd.val{α:Type}:Rd α->St->Option α
 | .ret a,_=>some a
 | .fail,_=>none
 | .gT i f,S=>(f (S.jm i)).val S
 | .gB i f,S=>(f (S.gW i)).val S
 | .gO i f,S=>(f (S.aH i)).val S
 | .gN f,S=>(f S.tmps.length).val S
 | .opt o f,S=>o.bind fun x=>(f x).val S
inductive Kd where
 | int (k:IntKind)
 | bool
 | str
 | list (t:Ty)
 deriving DecidableEq
def kd:D->Kd
 | .int k _=>.int k
 | .bool _=>.bool
 | .str _=>.str
 | .list t _=>.list t
structure TT where
 shape:List (Nat×Bool×Nat)
 zero:List (Nat×List C)
 fields:List (Nat×List (Nat×Bool×Nat))
 elem:List (Nat×Ty)
 ints:List (Nat×IntKind)
 strs:List Nat
 bools:List Nat
 eqs:List (Nat×List Kd)
structure Sh where
 agg:Bool
 t:Ty
abbrev Tup:List Sh->Type
 | []=>Unit
 | [s]=>s.t.den
 | s::r=>s.t.den×Tup r
structure Fsp where
 fid:Nat
 ps:List Sh
 rs:List Sh
 ex:Bool
 sh:Bool:=false
 fn:Tup ps->Option (Tup rs)
structure Msp where
 fid:Nat
 sh:Sh
 fn:sh.t.den->Int->Option (sh.t.den×Int)
structure Srt where
 fid:Nat
 g:Nat
 T:Nat
 t:Ty
 fn:List t.den->Option (List t.den)
structure Isp where
 fid:Nat
 t:Ty
 fn:List t.den->Option (List t.den)
structure Env where
 tt:TT
 fs:List Fsp
 ms:List Msp:=[]
 bs:List Fsp:=[]
 ns:List Fsp:=[]
 ss:List Fsp:=[]
 so:List Srt:=[]
 trees:Bool:=false
 pre:List (Nat×List (Nat×Nat)):=[]
 cuts:List (Nat×Nat×Nat×Nat×Nat):=[]
 aeX:List Nat:=[]
 is:List Isp:=[]
def nG:D->Option Ty
 | .list t _=>some t
 | _=>none
def Ty.tys(t:Ty):List (Option Ty):=(t.cells t.zero).map nG
def Ty.flat(t:Ty):Bool:=t.tys.all (·.isNone)
def cD(ty:Option Ty):C->Rd D
 | .d x=>.ret x
 | .nil=>match ty with
  | some t=>.ret (.list t [])
  | none=>.fail
 | .own k j=>.gO k fun os=>match bF os j with
  | .own t xs _ _=>.ret (.list t xs)
  | .ro t xs=>.ret (.list t xs)
  | .tree t xs=>.ret (.list t xs)
  | .part _ _ _=>.fail
  | .seg _ _=>.fail
  | .dead=>.fail
 | _=>.fail
def cDs:List (Option Ty)->List C->Rd (List D)
 | ty::tys,c::cs=>(cD ty c).bind fun d=>(cDs tys cs).bind fun ds=>.ret (d::ds)
 | _,_=>.ret []
def V.cells:V->List C
 | .one c=>[c]
 | .agg cs=>cs
def V.isAgg:V->Bool
 | .one _=>false
 | .agg _=>true
def vT(s:Sh)(v:V):Rd s.t.den:=
 if v.isAgg=s.agg/\v.cells.length=s.t.size then (cDs s.t.tys v.cells).bind fun ds=>.opt (s.t.jv ds) .ret else .fail
def avV:AV->Rd V
 | .v x=>.ret x
 | _=>.fail
def vTs:(ss:List Sh)->List V->Rd (Tup ss)
 | [],[]=>.ret ()
 | [s],[v]=>vT s v
 | s::s'::r,v::vs=>(vT s v).bind fun x=>(vTs (s'::r) vs).bind fun y=>.ret (x,y)
 | _,_=>.fail
def ami:Value->Option C
 | .int k n=>some (.d (.int k n))
 | .bool b=>some (.d (.bool b))
 | .string s=>some (.d (.str s.data.toList))
 | .slice none 0 0=>some .nil
 | _=>none
def fF:Operand->Rd AV
 | .tmp t=>.gT t .ret
 | .const v=>match ami v with
  | some c=>.ret (.v (.one c))
  | none=>.ret .undef
 | _=>.fail
def lk{α:Type}(l:List (Nat×α))(k:Nat):Option α:=(l.find? fun x=>x.1==k).map (·.2)
def seg{α:Type}(cs:List α)(off n:Nat):List α:=(cs.drop off).take n
def mkV(agg:Bool)(cs:List C):Option V:=
 match agg,cs with
 | true,cs=>some (.agg cs)
 | false,[c]=>some (.one c)
 | false,_=>none
def alB:C->AV
 | .undef=>.undef
 | c=>.v (.one c)
def Nv:V->AV
 | .one c=>alB c
 | v=>.v v
def eX{α:Type}(cs:List α)(off:Nat)(vs:List α):List α:=cs.take off++vs++cs.drop (off+vs.length)
def idx{α:Type}(xs:List α)(n:Int):Option α:=if 0<=n then xs[n.toNat]? else none
def gd(n:Nat):Option Unit:=if n<=34359738368 then some ()else none
def mk(n:Int):Option Nat:=if 0<=n/\n<=34359738368 then some n.toNat else none
def binI(op:BinOp)(k:IntKind)(a b:Int):Option D:=
 match op with
 | .add=>some (.int k (k.wrap (a+b)))
 | .sub=>some (.int k (k.wrap (a-b)))
 | .mul=>some (.int k (k.wrap (a*b)))
 | .eql=>some (.bool (a==b))
 | .neq=>some (.bool (a != b))
 | .lss=>some (.bool (a<b))
 | .leq=>some (.bool (a<=b))
 | .gtr=>some (.bool (a>b))
 | .geq=>some (.bool (a>=b))
 | .and=>some (.int k (k.wrap ((BitVec.ofInt k.bits a &&& BitVec.ofInt k.bits b).toNat:Int)))
 | .or=>some (.int k (k.wrap ((BitVec.ofInt k.bits a ||| BitVec.ofInt k.bits b).toNat:Int)))
 | .xor=>some (.int k (k.wrap ((BitVec.ofInt k.bits a ^^^ BitVec.ofInt k.bits b).toNat:Int)))
 | _=>none
def quoI(k:IntKind)(a b:Int):Option Int:=if b=0 then none else some (k.wrap (a.tdiv b))
def aeS(a b:Int):Option Int:=if b=0 then none else some (a.tmod b)
def shlI(k:IntKind)(a b:Int):Option Int:=if b<0 then none else some (k.wrap (a*2 ^ min b.toNat k.bits))
def shrI(k:IntKind)(a b:Int):Option Int:=if b<0 then none else some (a.fdiv (2 ^ min b.toNat k.bits))
def binS(op:BinOp)(a b:Str):Option D:=
 match op with
 | .eql=>some (.bool (a==b))
 | .neq=>some (.bool (!(a==b)))
 | .lss=>some (.bool (Op.bytesLess a b))
 | .leq=>some (.bool (Op.bytesLess a b||a==b))
 | .gtr=>some (.bool (!(Op.bytesLess a b||a==b)))
 | .geq=>some (.bool (!(Op.bytesLess a b)))
 | _=>none
def binB(op:BinOp)(a b:Bool):Option D:=
 match op with
 | .eql=>some (.bool (a==b))
 | .neq=>some (.bool (!(a==b)))
 | _=>none
def isBool:D->Bool
 | .bool _=>true
 | _=>false
def amj(op:BinOp):D->D->Option D
 | .int k a,.int k' b=>if k=k' then binI op k a b else none
 | .str a,.str b=>binS op a b
 | .bool a,.bool b=>binB op a b
 | _,_=>none
def avD:AV->Rd D
 | .v (.one (.d x))=>.ret x
 | _=>.fail
def Nw(a:AV):Rd Int:=(avD a).bind fun
 | .int _ n=>.ret n
 | _=>.fail
def cKd(k:Kd):C->Option D
 | .d x=>if kd x=k then some x else none
 | _=>none
def ZX:List Kd->List C->Option (List D)
 | [],[]=>some []
 | k::ks,c::cs=>match cKd k c with
  | some d=>match ZX ks cs with
   | some ds=>some (d::ds)
   | none=>none
  | none=>none
 | _,_=>none
def eqD:D->D->Bool
 | .int _ a,.int _ b=>a==b
 | .bool a,.bool b=>a==b
 | .str a,.str b=>a==b
 | _,_=>false
def ER:List D->List D->Bool
 | [d],[e]=>eqD d e
 | d::ds,e::es=>eqD d e&&ER ds es
 | _,_=>true
def aQ:List C->List (Nat×Nat)
 | []=>[]
 | .own k j::r=>(k,j)::aQ r
 | _::r=>aQ r
def Fq:C->Rd Bool
 | .d (.list _ _)=>.ret false
 | .d _=>.ret true
 | .nil=>.ret true
 | .own k j=>.gO k fun os=>match bF os j with
  | .own _ _ deep _=>.ret deep
  | .tree _ _=>.ret true
  | _=>.ret false
 | _=>.fail
def xR:List C->Rd Bool
 | []=>.ret true
 | c::r=>(Fq c).bind fun b=>(xR r).bind fun b'=>.ret (b&&b')
def fresh(d:Nat)(os:List O):Rd (List W):=.gO d fun
 | []=>.ret [.o d os]
 | _=>.fail
def Ac(d:Nat)(cs:List C):Rd (List W):=if d=0 then .fail else .gB d fun
 | none=>.ret [.b d cs,.t d (.v (.one (.ptr d 0)))]
 | some _=>.fail
def gy(o:Oper)(v:AV):List W:=match o.dst with
 | some d=>[.t d v]
 | none=>[]
def Qm:List (Nat×Operand)->Nat->Rd (List V)
 | [],_=>.ret []
 | (i,x)::r,n=>if i=n then (fF x).bind fun a=>(avV a).bind fun v=>(Qm r (n+1)).bind fun vs=>.ret (v::vs)else .fail
def vEl(t:Ty)(v:V):Rd t.den:=
 if v.cells.length=t.size then (cDs t.tys v.cells).bind fun ds=>.opt (t.jv ds) .ret else .fail
def ad7(t:Ty):List V->Rd (List t.den)
 | []=>.ret []
 | v::r=>(vEl t v).bind fun x=>(ad7 t r).bind fun xs=>.ret (x::xs)
def mkV'(agg:Bool)(cs:List C):V:=
 match agg,cs with
 | false,[c]=>.one c
 | _,cs=>.agg cs
def aeQ(d:Nat)(ex:Bool)(i:Nat):D->C
 | .list t xs=>if ex then .own d i else .d (.list t xs)
 | x=>.d x
def MH(d:Nat)(ex:Bool):Nat->List D->List C
 | _,[]=>[]
 | i,x::r=>aeQ d ex i x::MH d ex (i+1) r
def yG(d:Nat)(ex:Bool):Nat->(ss:List Sh)->Tup ss->List V
 | _,[],_=>[]
 | n,[s],y=>[mkV' s.agg (MH d ex n (s.t.cells y))]
 | n,s::s'::r,y=>mkV' s.agg (MH d ex n (s.t.cells y.1))::yG d ex (n+s.t.size) (s'::r) y.2
def dO:(ss:List Sh)->Tup ss->List D
 | [],_=>[]
 | [s],y=>s.t.cells y
 | s::s'::r,y=>s.t.cells y.1++dO (s'::r) y.2
def isList:D->Bool
 | .list _ _=>true
 | _=>false
def IC(tr:Bool)(ds:List D):List O:=ds.map fun
 | .list t xs=>if tr then .tree t xs else .own t xs true true
 | _=>.dead
def BH:List D->List C->Rd (List W)
 | [],[]=>.ret []
 | d::ds,c::cs=>(BH ds cs).bind fun ws=>match c with
  | .own k j=>.gO k fun os=>match bF os j,d with
   | .tree _ _,.list t xs=>.ret (.upd k j (.tree t xs)::ws)
   | _,_=>.fail
  | .nil=>.ret ws
  | .d (.list _ _)=>.fail
  | .d _=>.ret ws
  | _=>.fail
 | _,_=>.fail
def Bh:List V->AV
 | [v]=>Nv v
 | vs=>.tup vs
def Dz:List Operand->Rd (List V)
 | []=>.ret []
 | x::r=>(fF x).bind fun a=>(avV a).bind fun v=>(Dz r).bind fun vs=>.ret (v::vs)
def nodupB(l:List (Nat×Nat)):Bool:=
 match l with
 | []=>true
 | x::r=>!(r.any fun y=>y.1==x.1&&y.2==x.2)&&nodupB r
def listOf(t:Ty)(c:C):Rd (List t.den):=(cD (some t) c).bind fun d=>.opt (d.dD t) .ret
def bytesOf(xs:List Int):Str:=xs.map fun n=>UInt8.ofNat n.toNat
def kP(s:Str):List (Ty.base .u8).den:=s.map fun c=>(c.toNat:Int)
def BG:{c:Sh}->{rs:List Sh}->Tup (c::rs)->c.t.den
 | _,[],x=>x
 | _,_::_,x=>x.1
def Ul:{c:Sh}->{rs:List Sh}->Tup (c::rs)->Tup rs
 | _,[],_=>()
 | _,_::_,x=>x.2
def ae1(ds:List D):List O:=ds.map fun
 | .list t xs=>.own t xs false true
 | _=>.dead
def ac6(o:Oper)(sh:Bool)(rs:List Sh)(y:Tup rs):Rd (List W):=match o.dst with
 | none=>.ret []
 | some d=>if (sh&&(dO rs y).any isList)=true then
   (fresh d (ae1 (dO rs y))).bind fun ws=>.ret (ws++[.t d (Bh (yG d true 0 rs y))])
  else .ret [.t d (Bh (yG d false 0 rs y))]
def ahR(o:Oper)(tr:Bool)(rs:List Sh)(y:Tup rs):Rd (List W):=match o.dst with
 | none=>.ret []
 | some d=>if (dO rs y).any isList=true then
   (fresh d (IC tr (dO rs y))).bind fun ws=>.ret (ws++[.t d (Bh (yG d true 0 rs y))])
  else .ret [.t d (Bh (yG d true 0 rs y))]
def ah7(o:Oper)(ex tr sh:Bool)(b n:Nat)(keys:List (Nat×Nat)):(rs:List Sh)->Tup rs->Rd (List W)
 | [],_=>.fail
 | c::rs,y=>if c.agg=true then if c.t.size=n then if nodupB keys then
   (bif ex then ahR o tr rs (Ul y)else ac6 o sh rs (Ul y)).bind fun ws=>.ret (keys.map (fun q=>W.nomut q.1 q.2)++(.b b ((c.t.cells (BG y)).map .d)::ws))
  else .fail else .fail else .fail
def ama(E:Env)(o:Oper)(c:Call)(f:Nat):Rd (List W):=
 match E.is.find? (fun s=>s.fid==f),c.args.toList with
 | some s,[x]=>(fF x).bind fun ax=>(avV ax).bind fun
  | .one (.own k j)=>.gO k fun os=>match bF os j with
   | .own t xs deep true=>if h:t=s.t then .opt (s.fn (h▸xs)) fun ys=>.ret (.upd k j (.own s.t ys deep true)::gy o (.tup []))else .fail
   | _=>.fail
  | _=>.fail
 | _,_=>.fail
def al9(E:Env)(o:Oper)(c:Call)(f:Nat):Rd (List W):=
 match E.ss.find? (fun s=>s.fid==f)with
 | some s=>(Dz c.args.toList).bind fun vs=>(vTs s.ps vs).bind fun z=>.opt (s.fn z) fun y=>if nodupB (aQ (vs.flatMap V.cells))then
   (ac6 o true s.rs y).bind fun ws=>.ret ((aQ (vs.flatMap V.cells)).map (fun q=>W.nomut q.1 q.2)++ws)
  else .fail
 | none=>ama E o c f
def amc(E:Env)(o:Oper)(c:Call)(f:Nat):Rd (List W):=
 match E.bs.find? (fun s=>s.fid==f),c.args.toList with
 | some s,x::xs=>(fF x).bind fun
  | .v (.one (.ptr b 0))=>.gB b fun
   | some cs=>(Dz xs).bind fun vs=>(vTs s.ps (.agg cs::vs)).bind fun z=>.opt (s.fn z) fun y=>ah7 o s.ex E.trees s.sh b cs.length (aQ ((V.agg cs::vs).flatMap V.cells)) s.rs y
   | none=>.fail
  | _=>.fail
 | _,_=>match E.ns.find? (fun s=>s.fid==f),o.dst with
  | some s,some d=>(Dz c.args.toList).bind fun vs=>(vTs s.ps vs).bind fun z=>.opt (s.fn z) fun y=>if nodupB (aQ (vs.flatMap V.cells))then
    (Ac d ((dO s.rs y).map .d)).bind fun ws=>.ret ((aQ (vs.flatMap V.cells)).map (fun q=>W.nomut q.1 q.2)++ws)
   else .fail
  | _,_=>al9 E o c f
def VL(o:Oper)(agg:Bool)(n k j i sz off:Nat)(t:Ty)(xs:List t.den)(m:Nat):Rd (List W):=
 match o.dst with
 | some d=>if agg=true/\off=0/\n=t.size/\t.size=sz then .opt (if i=m then xs[i]? else none) fun x=>
   (fresh d (IC true (t.cells x))).bind fun ws=>.ret (.upd k j (.part t xs (m+1))::(ws++[.t d (.v (.agg (MH d true 0 (t.cells x))))]))
  else .fail
 | none=>.fail
def cutAt{α:Type}(xs:List α)(n:Int):Option Nat:=if 0<=n/\n<=xs.length then some n.toNat else none
def alx(E:Env)(o:Oper):Bool:=match o.dst with
 | some d=>E.aeX.contains d
 | none=>false
def agR(E:Env)(o:Oper)(T k j:Nat)(lo hi:Option Int):Rd (List W):=match lo,hi with
 | none,some h=>.gO k fun os=>match bF os j with
  | .own t xs _ true=>if (lk E.tt.elem T)=some t then .opt (cutAt xs h) fun m=>.ret (gy o (.pre k j m))else .fail
  | _=>.fail
 | some l,none=>.gO k fun os=>match bF os j with
  | .own t xs _ _=>if (lk E.tt.elem T)=some t then .opt (cutAt xs l) fun m=>.ret (gy o (.suf t k j m))else .fail
  | _=>.fail
 | _,_=>.fail
def af0(d:Nat)(t:Ty)(ax:AV)(t1:Ty)(a b c:Nat):Rd (List W):=.gO a fun os=>match bF os b with
 | .own f ys _ _=>if e:f=t then if t1=t/\t.flat=true then match ax with
  | .v (.one (.own k j))=>.gO k fun os=>match bF os j with
   | .own t' xs deep m=>if h:t'=t then if nodupB [(k,j),(a,b)]=true then .opt (gd ((h▸xs:List t.den).length+((e▸ys:List t.den).drop c).length)) fun _=>
     (fresh d [.own t ((h▸xs:List t.den)++(e▸ys:List t.den).drop c) deep m]).bind fun ws=>.ret (.upd k j .dead::ws++[.t d (.v (.one (.own d 0)))])
    else .fail
    else .fail
   | _=>.fail
  | _=>.fail
  else .fail
  else .fail
 | _=>.fail
def aga(d:Nat)(t:Ty)(ax:AV)(b:Nat):Rd (List W):=.gO b fun os=>match bF os 0 with
 | .seg t1 ys=>if a:t1=t then match ax with
  | .v (.one .nil)=>.opt (gd (a▸ys:List t.den).length) fun _=>(fresh d [.own t (a▸ys:List t.den) true true]).bind fun ws=>.ret (.upd b 0 .dead::ws++[.t d (.v (.one (.own d 0)))])
  | .v (.one (.own k j))=>.gO k fun os=>match bF os j with
   | .own t' xs deep m=>if h:t'=t then .opt (gd ((h▸xs:List t.den).length+(a▸ys:List t.den).length)) fun _=>
     (fresh d [.own t ((h▸xs:List t.den)++(a▸ys:List t.den)) deep m]).bind fun ws=>.ret (.upd k j .dead :: .upd b 0 .dead::ws++[.t d (.v (.one (.own d 0)))])
    else .fail
   | _=>.fail
  | _=>.fail
  else .fail
 | _=>.fail
def C.plain:C->Bool
 | .d (.list _ _)=>false
 | .d _=>true
 | _=>false
def eff(E:Env)(o:Oper):Rd (List W):=
 match o.op with
 | .move x | .assign x=>(fF x).bind fun a=>.ret (gy o a)
 | .pick c a b=>(fF c).bind fun c=>(avD c).bind fun
  | .bool true=>(fF a).bind fun v=>.ret (gy o v)
  | .bool false=>(fF b).bind fun v=>.ret (gy o v)
  | _=>.fail
 | .alloc e=>match o.dst,lk E.tt.zero e with
  | some d,some cs=>Ac d cs
  | _,_=>.fail
 | .box _ x=>match o.dst with
  | some d=>(fF x).bind fun a=>(avV a).bind fun v=>Ac d v.cells
  | none=>.fail
 | .load t p=>match lk E.tt.shape t with
  | none=>.fail
  | some (agg,n)=>(fF p).bind fun
   | .v (.one (.ptr b off))=>.gB b fun
    | some cs=>.opt (mkV agg (seg cs off n)) fun v=>if (seg cs off n).length=n then .ret (gy o (Nv v))else .fail
    | none=>.fail
   | .elt t x off=>.opt (mkV agg ((seg (t.cells x) off n).map .d)) fun v=>if (seg (t.cells x) off n).length=n then .ret (gy o (Nv v))else .fail
   | .oelt k j i sz off=>.gO k fun os=>match bF os j with
    | .own t xs _ _=>if t.size=sz then .opt (xs[i]?) fun x=>.opt (mkV agg ((seg (t.cells x) off n).map .d)) fun v=>if (seg (t.cells x) off n).length=n then .ret (gy o (Nv v))else .fail
     else .fail
    | .part t xs m=>VL o agg n k j i sz off t xs m
    | _=>.fail
   | _=>.fail
 | .store t p x=>match lk E.tt.shape t with
  | none=>.fail
  | some (_,n)=>(fF x).bind fun a=>(avV a).bind fun v=>if v.cells.length=n then (fF p).bind fun
   | .v (.one (.ptr b off))=>.gB b fun
    | some cs=>if off+n<=cs.length/\(b != 0||(seg cs off n).all C.plain)=true then .ret (.b b (eX cs off v.cells)::gy o (.tup []))else .fail
    | none=>.fail
   | .oelt k j i sz off=>.gO k fun os=>match bF os j with
    | .own t xs deep true=>.opt (xs[i]?) fun x=>
     if t.size=sz/\off+n<=t.size then
      (cDs (seg t.tys off n) v.cells).bind fun ds=>(xR v.cells).bind fun dp=>.opt (t.jv (eX (t.cells x) off ds)) fun y=>
       if nodupB ((k,j)::aQ v.cells)then
        .ret (((aQ v.cells).map fun q=>.ro q.1 q.2)++(.upd k j (.own t (xs.set i y) (deep&&dp) true)::gy o (.tup [])))
       else .fail
     else .fail
    | _=>.fail
   | _=>.fail
   else .fail
 | .fieldAddr s p f=>match (lk E.tt.fields s).bind (·[f]?)with
  | none=>.fail
  | some (fo,_,_)=>(fF p).bind fun
   | .v (.one (.ptr b off))=>.ret (gy o (.v (.one (.ptr b (off+fo)))))
   | .elt t x off=>.ret (gy o (.elt t x (off+fo)))
   | .oelt k j i sz off=>.ret (gy o (.oelt k j i sz (off+fo)))
   | _=>.fail
 | .field s x f=>match (lk E.tt.fields s).bind (·[f]?)with
  | none=>.fail
  | some (fo,agg,n)=>(fF x).bind fun
   | .v (.agg cs)=>.opt (mkV agg (seg cs fo n)) fun v=>if (seg cs fo n).length=n then .ret (gy o (Nv v))else .fail
   | _=>.fail
 | .indexAddr T x i=>match lk E.tt.elem T with
  | none=>.fail
  | some t=>(fF x).bind fun a=>(fF i).bind fun ai=>(Nw ai).bind fun n=>match a with
   | .v (.one (.d (.list t' xs)))=>if t'=t then .opt (idx xs n) fun y=>.ret (gy o (.elt t' y 0))else .fail
   | .v (.one (.own k j))=>.gO k fun os=>match bF os j with
    | .own t' xs _ _=>if t'=t then .opt (idx xs n) fun _=>.ret (gy o (.oelt k j n.toNat t.size 0))else .fail
    | .ro t' xs=>if t'=t then .opt (idx xs n) fun y=>.ret (gy o (.elt t' y 0))else .fail
    | .part t' xs _=>if t'=t then .opt (idx xs n) fun _=>.ret (gy o (.oelt k j n.toNat t.size 0))else .fail
    | .tree t' xs=>if t'=t then .opt (idx xs n) fun _=>.ret (.upd k j (.part t' xs n.toNat)::gy o (.oelt k j n.toNat t.size 0))else .fail
    | _=>.fail
   | _=>.fail
 | .index T x i=>if E.tt.strs.contains T then (fF x).bind fun a=>(avD a).bind fun
   | .str s=>(fF i).bind fun ai=>(Nw ai).bind fun n=>.opt (idx s n) fun c=>.ret (gy o (.v (.one (.d (.int .u8 c.toNat)))))
   | _=>.fail
  else .fail
 | .extract x i=>(fF x).bind fun
  | .tup vs=>.opt (vs[i]?) fun v=>.ret (gy o (Nv v))
  | _=>.fail
 | .binOp op T x y _=>(fF x).bind fun a=>(fF y).bind fun b=>match a,b with
  | .v (.agg cs),.v (.agg cs')=>match lk E.tt.eqs T with
   | none=>.fail
   | some ks=>match ZX ks cs,ZX ks cs' with
    | some ds,some ds'=>match op with
     | .eql=>.ret (gy o (.v (.one (.d (.bool (ER ds ds'))))))
     | .neq=>.ret (gy o (.v (.one (.d (.bool (!(ER ds ds')))))))
     | _=>.fail
    | _,_=>.fail
  | a,b=>(avD a).bind fun dx=>(avD b).bind fun dy=>match op,dx,dy with
   | .quo,.int k p,.int k' q=>if k=k' then .opt (quoI k p q) fun z=>.ret (gy o (.v (.one (.d (.int k z)))))else .fail
   | .rem,.int k p,.int k' q=>if k=k' then .opt (aeS p q) fun z=>.ret (gy o (.v (.one (.d (.int k z)))))else .fail
   | .shl,.int k p,.int _ q=>.opt (shlI k p q) fun z=>.ret (gy o (.v (.one (.d (.int k z)))))
   | .shr,.int k p,.int _ q=>.opt (shrI k p q) fun z=>.ret (gy o (.v (.one (.d (.int k z)))))
   | .add,.str p,.str q=>.opt (gd (p.length+q.length)) fun _=>.ret (gy o (.v (.one (.d (.str (p++q))))))
   | op,dx,dy=>if isBool dx->E.tt.bools.contains T then .opt (amj op dx dy) fun z=>.ret (gy o (.v (.one (.d z))))else .fail
 | .unOp op _ x=>(fF x).bind fun a=>(avD a).bind fun
  | .bool b=>match op with
   | .not=>.ret (gy o (.v (.one (.d (.bool (!b))))))
   | _=>.fail
  | .int k n=>match op with
   | .neg=>.ret (gy o (.v (.one (.d (.int k (k.wrap (0-n)))))))
   | _=>.fail
  | _=>.fail
 | .convert u T x=>(fF x).bind fun a=>match lk E.tt.ints u,lk E.tt.ints T with
  | some _,some k=>(Nw a).bind fun n=>.ret (gy o (.v (.one (.d (.int k (k.wrap n))))))
  | _,_=>if E.tt.strs.contains T=true/\lk E.tt.elem u=some (.base .u8)then match a with
    | .v (.one c)=>(listOf (.base .u8) c).bind fun xs=>.ret (gy o (.v (.one (.d (.str (bytesOf xs))))))
    | _=>.fail
   else .fail
 | .nilCheck x=>(fF x).bind fun
  | .v (.one (.ptr b off))=>.ret (gy o (.v (.one (.ptr b off))))
  | _=>.fail
 | .build T parts=>match lk E.tt.zero T,lk E.tt.fields T with
  | some z,some fs=>(fillA fs parts.toList z).bind fun cs=>.ret (gy o (.v (.agg cs)))
  | _,_=>.fail
 | .buildSlice T n parts=>match o.dst,lk E.tt.elem T with
  | some d,some t=>(Qm parts.toList 0).bind fun vs=>if vs.length=n/\n*t.size<=16777216 then
    (ad7 t vs).bind fun xs=>(xR (vs.flatMap V.cells)).bind fun dp=>
     if nodupB (aQ (vs.flatMap V.cells))then
      (fresh d [.own t xs dp true]).bind fun ws=>.ret (((aQ (vs.flatMap V.cells)).map fun q=>.ro q.1 q.2)++ws++[.t d (.v (.one (.own d 0)))])
     else .fail
   else .fail
  | _,_=>.fail
 | .makeSlice T l c=>match o.dst,lk E.tt.elem T with
  | some d,some t=>match l,c with
   | .tmp i,.tmp j=>if i=j then (fF l).bind fun a=>(Nw a).bind fun n=>.opt (mk n) fun m=>
     (fresh d [.own t (List.replicate m t.zero) true true]).bind fun ws=>.ret (ws++[.t d (.v (.one (.own d 0)))])
    else .fail
   | _,_=>.fail
  | _,_=>.fail
 | .call c=>match c.callee with
  | .builtin .len=>match c.args.toList,c.argTypes.toList with
   | [x],[T]=>(fF x).bind fun
    | .v (.one (.d (.str s)))=>if E.tt.strs.contains T then .ret (gy o (.v (.one (.d (.int .i64 s.length)))))else .fail
    | .v (.one (.d (.list _ xs)))=>if (lk E.tt.elem T).isSome then .ret (gy o (.v (.one (.d (.int .i64 xs.length)))))else .fail
    | .v (.one .nil)=>if (lk E.tt.elem T).isSome then .ret (gy o (.v (.one (.d (.int .i64 0)))))else .fail
    | .v (.one (.own k j))=>if (lk E.tt.elem T).isSome then .gO k fun os=>match bF os j with
     | .own _ xs _ _ | .ro _ xs | .tree _ xs=>.ret (gy o (.v (.one (.d (.int .i64 xs.length)))))
     | _=>.fail
     else .fail
    | _=>.fail
   | _,_=>.fail
  | .builtin .append=>match o.dst,c.args.toList,c.argTypes.toList with
   | some d,[x,y],[T,T']=>if T=T' then match lk E.tt.elem T with
    | none=>.fail
    | some t=>(fF x).bind fun ax=>(fF y).bind fun ay=>match ay with
     | .seg g=>aga d t ax g
     | .suf t1 g w A=>af0 d t ax t1 g w A
     | ay=>(avV ay).bind fun vy=>match vy with
      | .agg _=>.fail
      | .one cy=>(listOf t cy).bind fun ys=>(if t.flat then .ret true else Fq cy).bind fun dp=>match ax with
       | .v (.one .nil)=>.opt (gd ys.length) fun _=>
        (fresh d [.own t ys dp true]).bind fun ws=>.ret ((if t.flat then []else (aQ [cy]).map fun q=>.ro q.1 q.2)++ws++[.t d (.v (.one (.own d 0)))])
       | .v (.one (.own k j))=>.gO k fun os=>match (bF os j).vW with
        | .own t' xs deep m=>if h:t'=t then
          if nodupB ((k,j)::aQ [cy])then
           .opt (gd ((h▸xs:List t.den).length+ys.length)) fun _=>
            (fresh d [.own t ((h▸xs:List t.den)++ys) (deep&&dp) m]).bind fun ws=>
             .ret (.upd k j .dead::(if t.flat then []else (aQ [cy]).map fun q=>.ro q.1 q.2)++ws++[.t d (.v (.one (.own d 0)))])
          else .fail
         else .fail
        | _=>.fail
       | .pre k j n=>.gO k fun os=>match bF os j with
        | .own t' xs deep true=>if h:t'=t then
          if nodupB ((k,j)::aQ [cy])then
           .opt (gd (((h▸xs:List t.den).take n).length+ys.length)) fun _=>
            (fresh d [.own t ((h▸xs:List t.den).take n++ys) (deep&&dp) true]).bind fun ws=>
             .ret (.upd k j .dead::(if t.flat then []else (aQ [cy]).map fun q=>.ro q.1 q.2)++ws++[.t d (.v (.one (.own d 0)))])
          else .fail
         else .fail
        | _=>.fail
       | _=>.fail
    else if lk E.tt.elem T=some (.base .u8)/\E.tt.strs.contains T'=true then (fF x).bind fun ax=>(fF y).bind fun ay=>(avD ay).bind fun
     | .str s=>match ax with
      | .v (.one .nil)=>.opt (gd (kP s).length) fun _=>
       (fresh d [.own (.base .u8) (kP s) true true]).bind fun ws=>.ret (ws++[.t d (.v (.one (.own d 0)))])
      | .v (.one (.own k j))=>.gO k fun os=>match bF os j with
       | .own t' xs deep m=>if h:t'=.base .u8 then
         .opt (gd ((h▸xs:List (Ty.base .u8).den).length+(kP s).length)) fun _=>
          (fresh d [.own (.base .u8) ((h▸xs:List (Ty.base .u8).den)++kP s) deep m]).bind fun ws=>
           .ret (.upd k j .dead::ws++[.t d (.v (.one (.own d 0)))])
        else .fail
       | _=>.fail
      | _=>.fail
     | _=>.fail
    else .fail
   | _,_,_=>.fail
  | .builtin .max=>match c.args.toList with
   | [x,y]=>(fF x).bind fun a=>(avD a).bind fun
    | .int .i64 m=>(fF y).bind fun b=>(avD b).bind fun
     | .int .i64 n=>.ret (gy o (.v (.one (.d (.int .i64 (if n>m then n else m))))))
     | _=>.fail
    | _=>.fail
   | _=>.fail
  | .builtin .min=>match c.args.toList with
   | [x,y]=>(fF x).bind fun a=>(avD a).bind fun
    | .int .i64 m=>(fF y).bind fun b=>(avD b).bind fun
     | .int .i64 n=>.ret (gy o (.v (.one (.d (.int .i64 (if n<m then n else m))))))
     | _=>.fail
    | _=>.fail
   | _=>.fail
  | .value (.func f)=>match E.fs.find? (fun s=>s.fid==f)with
   | none=>match E.ms.find? (fun m=>m.fid==f),c.args.toList with
    | some m,[x,y]=>(fF x).bind fun ax=>(avV ax).bind fun v=>(fF y).bind fun ay=>(avD ay).bind fun
     | .int .i64 n=>(vT m.sh v).bind fun z=>.opt (m.fn z n) fun r=>
      if nodupB (aQ v.cells)then (BH (m.sh.t.cells r.1) v.cells).bind fun ws=>.ret (ws++gy o (.v (.one (.d (.int .i64 r.2)))))
      else .fail
     | _=>.fail
    | _,_=>amc E o c f
   | some s=>(Dz c.args.toList).bind fun vs=>(vTs s.ps vs).bind fun x=>.opt (s.fn x) fun y=>
    let keys:=aQ (vs.flatMap V.cells)
    if s.ex||nodupB keys then
     let cut:List W:=if s.ex then []else keys.map fun q=>.nomut q.1 q.2
     match o.dst with
     | none=>.ret cut
     | some d=>
      if s.ex&&(dO s.rs y).any isList then
       (fresh d (IC E.trees (dO s.rs y))).bind fun ws=>.ret (ws++[.t d (Bh (yG d s.ex 0 s.rs y))])
      else .ret (cut++[.t d (Bh (yG d s.ex 0 s.rs y))])
    else .fail
  | _=>.fail
 | .slice T x lo hi mx=>match mx with
  | some _=>.fail
  | none=>(fF x).bind fun a=>(bnd lo).bind fun lo=>(bnd hi).bind fun hi=>match a with
   | .v (.one (.d (.str s)))=>if E.tt.strs.contains T then .opt (cutL s lo hi) fun r=>.ret (gy o (.v (.one (.d (.str r)))))else .fail
   | .v (.one (.d (.list t xs)))=>if (lk E.tt.elem T)=some t then .opt (cutL xs lo hi) fun r=>.ret (gy o (.v (.one (.d (.list t r)))))else .fail
   | .v (.one (.own k j))=>if alx E o=true then agR E o T k j lo hi else .gO k fun os=>match bF os j with
    | .own t xs _ m=>if (lk E.tt.elem T)=some t then .opt (cutL xs lo hi) fun r=>.ret (match m with | true=>.nomut k j::gy o (.v (.one (.d (.list t r)))) | false=>gy o (.v (.one (.d (.list t r)))))else .fail
    | .ro t xs=>if (lk E.tt.elem T)=some t then .opt (cutL xs lo hi) fun r=>.ret (gy o (.v (.one (.d (.list t r)))))else .fail
    | _=>.fail
   | .cut t _ n g B=>if (lk E.tt.elem T)=some t then match lo,hi with
     | none,some h=>.opt (if h=(n:Int)then some ()else none) fun _=>.ret (gy o (.seg g))
     | some l,none=>.opt (if l=(n:Int)then some ()else none) fun _=>.ret (gy o (.seg B))
     | _,_=>.fail
    else .fail
   | _=>.fail
 | _=>.fail
where
 fillA (fs:List (Nat×Bool×Nat)):List (Nat×Operand)->List C->Rd (List C)
  | [],z=>.ret z
  | (i,x)::r,z=>match fs[i]? with
   | none=>.fail
   | some (fo,_,n)=>(fF x).bind fun a=>(avV a).bind fun v=>
    if v.cells.length=n/\fo+n<=z.length then fillA fs r (eX z fo v.cells)else .fail
 bnd:Option Operand->Rd (Option Int)
  | none=>.ret none
  | some x=>(fF x).bind fun a=>(Nw a).bind fun n=>.ret (some n)
 cutL {α:Type} (xs:List α) (lo hi:Option Int):Option (List α):=
  let l:=lo.getD 0
  let h:=hi.getD xs.length
  if 0<=l/\l<=h/\h<=xs.length then some ((xs.take h.toNat).drop l.toNat)else none
def fork{ρ:Type}(t:Nat)(S:St)(k:St->Option ρ):Option ρ:=
 match S.jm t with
 | .v (.one (.d (.bool b)))=>cond b (k (S.jW t (.v (.one (.d (.bool true)))))) (k (S.jW t (.v (.one (.d (.bool false))))))
 | _=>k S
def Nj{ρ:Type}(x:Option Nat)(S:St)(k:St->Option ρ):Option ρ:=
 match x with
 | none=>k S
 | some t=>fork t S k
def acs(ops:Array Oper)(o:Oper):Option Nat:=match o.guard with
 | none=>none
 | some (j,_)=>(ops[j]?).bind (·.dst)
def agT(o:Oper):Option Nat:=match o.op with
 | .pick (.tmp c) _ _=>some c
 | _=>none
def Vw(ops:Array Oper)(o:Oper):Rd Bool:=match o.guard with
 | none=>.ret true
 | some (j,want)=>match (ops[j]?).bind (·.dst)with
  | none=>.fail
  | some t=>.gT t fun
   | .v (.one (.d (.bool b)))=>.ret (b==want)
   | .tup []=>.ret false
   | _=>.fail
def GU(E:Env)(ops:Array Oper)(o:Oper):Rd (List W):=
 (Vw ops o).bind fun
  | true=>eff E o
  | false=>.ret (gy o (.tup []))
def GY(E:Env)(d:Oper):List Oper->Option (Srt×Operand×Nat×Nat×Nat×Oper)
 | e::h::_=>match d.op,d.dst,e.op,e.dst,h.op with
  | .makeInterface T x,some a,.makeFunc (.func g) first cap,some i,.call c=>match c.callee,first.toList,cap.toList,c.args.toList with
   | .value (.func f),[],[.tmp b],[.tmp j,.tmp k]=>
    if d.guard.isNone&&e.guard.isNone&&h.guard.isNone&&(j==a)&&(k==i)&&(a != i)&&(b != a)then
     (E.so.find? fun s=>s.fid==f&&s.g==g&&s.T==T).map fun s=>(s,x,b,a,i,h)
    else none
   | _,_,_,_=>none
  | _,_,_,_,_=>none
 | _=>none
def Om(q:Srt×Operand×Nat×Nat×Nat×Oper):Rd (List W):=
 (fF q.2.1).bind fun ax=>(avV ax).bind fun
  | .one (.own k j)=>.gT q.2.2.1 fun
   | .v (.one (.ptr bi 0))=>.gB bi fun
    | some [.own k' j']=>if k=k'/\j=j' then .gO k fun os=>match bF os j with
     | .own t xs deep true=>if h:t=q.1.t then .opt (q.1.fn (h▸xs)) fun ys=>.gN fun n=>if q.2.2.2.1<n/\q.2.2.2.2.1<n then
       .ret ([.upd k j (.own q.1.t ys deep true),.t q.2.2.2.1 .undef,.t q.2.2.2.2.1 .undef]++gy q.2.2.2.2.2 (.tup []))else .fail
      else .fail
     | _=>.fail
     else .fail
    | _=>.fail
   | _=>.fail
  | _=>.fail
def Tv{ρ:Type}(E:Env)(ops:Array Oper):Nat->List Oper->St->(St->Option ρ)->Option ρ
 | _,[],S,k=>k S
 | n+1,_::r,S,k=>Tv E ops n r S k
 | 0,o::r,S,k=>match GY E o r with
  | some q=>(Om q).runK S fun ws=>Tv E ops 2 r (S.puts ws) k
  | none=>Nj (acs ops o) S fun S=>Nj (agT o) S fun S=>(GU E ops o).runK S fun ws=>Tv E ops 0 r (S.puts ws) k
def alT{ρ:Type}(E:Env)(ops:Array Oper)(l:List Oper)(S:St)(k:St->Option ρ):Option ρ:=Tv E ops 0 l S k
structure Lg where
 i:Nat
 reads:List L
 writes:List L
def opsL{ρ:Type}(E:Env)(ops:Array Oper):List (Oper×Nat)->St->List Lg->(St->List Lg->Option ρ)->Option ρ
 | [],S,g,k=>k S g
 | (o,i)::r,S,g,k=>Nj (acs ops o) S fun S=>Nj (agT o) S fun S=>
   (GU E ops o).aeN S [] fun ws rs=>opsL E ops r (S.puts ws) ({ i,reads:=rs,writes:=ws.map W.loc } :: g) k
def meets(a b:List L):Bool:=a.any fun x=>b.any fun y=>decide (x=y)
def Lg.free(a b:Lg):Bool:=!meets a.writes b.reads&&!meets a.writes b.writes&&!meets b.writes a.reads
def Dc(acc:List Nat)(o:Oper):Nat:=o.after.toList.foldl (fun s e=>if Region.binds .any e then s ||| 2 ^ e.on ||| acc.getD e.on 0 else s) 0
def masks:List Nat->List Oper->List Nat
 | acc,[]=>acc
 | acc,o::r=>masks (acc++[Dc acc o]) r
def EL(bf:List Nat):List Lg->Bool
 | []=>true
 | a::r=>(r.all fun b=>(bf.getD a.i 0).testBit b.i||b.free a)&&EL bf r
def Ld(l:List (Oper×Nat)):Bool:=l.all fun x=>x.1.after.toList.all fun e=>!Region.binds .any e||decide (e.on<x.2)
def akm(E:Env)(id:Nat):List (Nat×Nat):=(lk E.pre id).getD []
def ai7{ρ:Type}(E:Env)(ops:Array Oper)(id:Nat)(S:St)(k:St->Option ρ):Option ρ:=
 opsL E ops ops.toList.zipIdx (S.puts ((akm E id).map fun q=>W.nomut q.1 q.2)) [] fun S' g=>if Ld ops.toList.zipIdx&&EL (masks [] ops.toList) g then k S' else none
def ahZ(s i a b:Nat):Rd (List W):=.gT s fun
 | .v (.one (.own k j))=>.gO k fun os=>match bF os j with
  | .own t xs true _=>.gT i fun ai=>(Nw ai).bind fun n=>.opt (cutAt xs n) fun m=>
   (fresh a [.seg t (xs.take m)]).bind fun w1=>(fresh b [.seg t (xs.drop m)]).bind fun c=>.gN fun N=>
    if a≠b/\a≠k/\b≠k/\a<N/\b<N then .ret (.upd k j .dead::(w1++(c++[.t s (.cut t xs.length m a b)])))else .fail
  | _=>.fail
 | _=>.fail
def ajT{ρ:Type}(E:Env)(id:Nat)(S:St)(k:St->Option ρ):Option ρ:=match lk E.cuts id with
 | none=>k S
 | some (s,i,a,b)=>(ahZ s i a b).runK S fun ws=>k (S.puts ws)
inductive Ex where
 | normal
 | exit (id:Nat)
 | ret
inductive Sr where
 | ro (t:Ty)
 | own (t:Ty) (deep m:Bool) (key:Nat)
 | part (t:Ty) (key:Nat)
abbrev Sr.den:Sr->Type
 | .ro t=>t.den
 | .own t _ _ _=>List t.den
 | .part t _=>List t.den×Nat
inductive It where
 | t (i:Nat) (s:Sr)
 | b (b off:Nat) (s:Sr)
def It.sr:It->Sr
 | .t _ s=>s
 | .b _ _ s=>s
structure LA where
 n:Nat
 its:List It
 boxes:List (Nat×Nat)
 ptrs:List (Nat×Nat×Nat)
 als:List (Nat×Nat×Nat):=[]
 bls:List (Nat×Nat×Nat×Nat):=[]
 tls:List (Nat×Nat):=[]
abbrev Its:List It->Type
 | []=>Unit
 | [x]=>x.sr.den
 | x::r=>x.sr.den×Its r
def agb:Ty->Bool
 | .base .int=>true
 | .base .u8=>true
 | .base .bool=>true
 | .base .str=>true
 | .list _=>true
 | _=>false
def avC:AV->Rd C
 | .v (.one c)=>.ret c
 | _=>.fail
def afq(s:Sr)(c:C):Rd s.den:=
 match s with
 | .ro t=>if agb t then (cDs t.tys [c]).bind fun ds=>.opt (t.jv ds) .ret else .fail
 | .own t deep m _=>match c with
  | .nil=>.ret ([]:List t.den)
  | .own k j=>.gO k fun os=>match bF os j with
   | .own t' xs deep' m'=>if h:t'=t then if (deep->deep')/\(m->m')then .ret (h▸xs:List t.den)else .fail else .fail
   | .tree t' xs=>if h:t'=t then .ret (h▸xs:List t.den)else .fail
   | _=>.fail
  | _=>.fail
 | .part t _=>match c with
  | .own k j=>.gO k fun os=>match bF os j with
   | .tree t' xs=>if h:t'=t then .ret ((h▸xs:List t.den),(0:Nat))else .fail
   | .part t' xs i=>if h:t'=t then .ret ((h▸xs:List t.den),i)else .fail
   | _=>.fail
  | _=>.fail
def cAt:It->Rd C
 | .t i _=>.gT i avC
 | .b b off _=>.gB b fun
  | some cs=>.opt (cs[off]?) .ret
  | none=>.fail
def ahL(x:It):Rd x.sr.den:=(cAt x).bind fun c=>afq x.sr c
def adR:(l:List It)->Rd (Its l)
 | []=>.ret ()
 | [x]=>ahL x
 | x::y::r=>(ahL x).bind fun a=>(adR (y::r)).bind fun b=>.ret (a,b)
def keysOf:List It->Rd (List (Nat×Nat)×List (Nat×Nat))
 | []=>.ret ([],[])
 | x::r=>(cAt x).bind fun c=>(keysOf r).bind fun p=>
  match x.sr with
  | .own _ _ _ _=>.ret (aQ [c]++p.1,p.2)
  | .part _ _=>.ret (aQ [c]++p.1,p.2)
  | .ro _=>.ret (p.1,aQ [c]++p.2)
def JC:List (Nat×Nat)->Rd Unit
 | []=>.ret ()
 | (b,n)::r=>.gB b fun
  | some cs=>if cs.length=n then JC r else .fail
  | none=>.fail
def Qg:List (Nat×Nat×Nat)->Rd Unit
 | []=>.ret ()
 | (i,b,off)::r=>.gT i fun
  | .v (.one (.ptr b' off'))=>if b'=b/\off'=off then Qg r else .fail
  | _=>.fail
def adZ:List (Nat×Nat×Nat)->Rd Unit
 | []=>.ret ()
 | (i,b,off)::r=>.gT i fun
  | .v (.one (.own k j))=>.gB b fun
   | some cs=>match cs[off]? with
    | some (.own k' j')=>if k=k'/\j=j' then adZ r else .fail
    | _=>.fail
   | none=>.fail
  | _=>.fail
def adY:List (Nat×Nat×Nat×Nat)->Rd Unit
 | []=>.ret ()
 | (b',off',b,off)::r=>.gB b' fun
  | some cs'=>.gB b fun
   | some cs=>match cs'[off']?,cs[off]? with
    | some (.own k' j'),some (.own k j)=>if k=k'/\j=j' then adY r else .fail
    | _,_=>.fail
   | none=>.fail
  | none=>.fail
def acR:List (Nat×Nat)->Rd Unit
 | []=>.ret ()
 | (i,i')::r=>.gT i fun
  | .v (.one (.own k j))=>.gT i' fun
   | .v (.one (.own k' j'))=>if k=k'/\j=j' then acR r else .fail
   | _=>.fail
  | _=>.fail
def eP:List It->List Nat
 | []=>[]
 | x::r=>match x.sr with
  | .own _ _ _ key=>key::eP r
  | .part _ key=>key::eP r
  | .ro _=>eP r
def F7:List Nat->Bool
 | []=>true
 | x::r=>!(r.any fun y=>y==x)&&F7 r
def LA.get(la:LA):Rd (Its la.its):=.gN fun n=>if n=la.n/\F7 (eP la.its)=true/\(eP la.its).all (fun k=>decide (k<la.n))=true/\la.ptrs.all (fun p=>la.boxes.any fun q=>q.1==p.2.1)=true/\la.its.all (fun it=>match it with
      | .b bx _ _=>la.boxes.any fun q=>q.1==bx
      | _=>true)=true then
  (JC la.boxes).bind fun _=>(Qg la.ptrs).bind fun _=>(adZ la.als).bind fun _=>(adY la.bls).bind fun _=>(acR la.tls).bind fun _=>(keysOf la.its).bind fun p=>
   if nodupB p.1&&p.1.all (fun x=>!p.2.any fun y=>y.1==x.1&&y.2==x.2)then adR la.its else .fail
 else .fail
def LA.base(la:LA):St:=
 { tmps:=la.ptrs.foldl (fun l p=>l.set p.1 (.v (.one (.ptr p.2.1 p.2.2)))) (List.replicate la.n .undef),boxes:=la.boxes.foldl (fun l p=>l.set p.1 (some (List.replicate p.2 .undef))) (List.replicate la.n none),owns:=List.replicate la.n [] }
def dOf(t:Ty)(x:t.den):C:=match t.cells x with
 | [d]=>.d d
 | _=>.undef
def St.wu(S:St)(it:It)(c:C):St:=match it with
 | .t i _=>S.jW i (.v (.one c))
 | .b b off _=>match S.gW b with
  | some cs=>S.setB b (some (cs.set off c))
  | none=>S
def St.Qd(S:St)(it:It)(x:it.sr.den):St:=
 match it.sr,x with
 | .ro t,x=>S.wu it (dOf t x)
 | .own t deep m key,xs=>(S.dI key [.own t xs deep m]).wu it (.own key 0)
 | .part t key,(xs,i)=>(S.dI key [.part t xs i]).wu it (.own key 0)
def St.adf(S:St):(l:List It)->Its l->St
 | [],_=>S
 | [x],a=>S.Qd x a
 | x::y::r,(a,b)=>(S.Qd x a).adf (y::r) b
def St.Kq(S:St):List (Nat×Nat×Nat)->St
 | []=>S
 | (i,b,off)::r=>match S.gW b with
  | some cs=>match cs[off]? with
   | some (.own k j)=>(S.jW i (.v (.one (.own k j)))).Kq r
   | _=>S.Kq r
  | none=>S.Kq r
def St.Ko(S:St):List (Nat×Nat×Nat×Nat)->St
 | []=>S
 | (b',off',b,off)::r=>match S.gW b',S.gW b with
  | some cs',some cs=>match cs[off]? with
   | some (.own k j)=>(S.setB b' (some (cs'.set off' (.own k j)))).Ko r
   | _=>S.Ko r
  | _,_=>S.Ko r
def St.Qb(S:St):List (Nat×Nat)->St
 | []=>S
 | (i,i')::r=>match S.jm i' with
  | .v (.one (.own k j))=>(S.jW i (.v (.one (.own k j)))).Qb r
  | _=>S.Qb r
def LA.put(la:LA)(x:Its la.its):St:=(((la.base.adf la.its x).Kq la.als).Ko la.bls).Qb la.tls
def iter{X ρ:Type}(f:X->Option (X⊕ρ)):Nat->X->Option ρ
 | 0,_=>none
 | n+1,x=>match f x with
  | none=>none
  | some (.inl y)=>iter f n y
  | some (.inr r)=>some r
open Classical in
def aA{X ρ:Type}(f:X->Option (X⊕ρ))(x:X):Option ρ:=
 if h:∃n r,iter f n x=some r then some h.choose_spec.choose else none
def aht{X ρ:Type}(p:Option (X⊕ρ))(f:X->Option ρ):Option ρ:=p.bind fun j=>match j with
 | .inl x=>f x
 | .inr r=>some r
def pV:Code->Option Nat
 | .region id _ _=>some id
 | .seq a b=>(pV a).or (pV b)
 | .cond _ a b=>(pV a).or (pV b)
 | .block _ c=>pV c
 | .loop c=>pV c
 | .scope c=>pV c
 | _=>none
def den(E:Env)(an:List (Nat×LA)):Code->{ρ:Type}->St->(Ex->St->Option ρ)->Option ρ
 | .skip,_,S,k=>k .normal S
 | .label _,_,S,k=>k .normal S
 | .region id ops false,_,S,k=>ajT E id S fun S=>alT E ops ops.toList S fun S=>k .normal S
 | .region id ops true,_,S,k=>ajT E id S fun S=>ai7 E ops id S fun S=>k .normal S
 | .seq a b,_,S,k=>match (pV b).bind fun i=>lk an (i+1000000)with
  | none=>den E an a S fun e S=>match e with
   | .normal=>den E an b S k
   | e=>k e S
  | some la=>aht (den E an a S fun e S=>match e with
   | .normal=>la.get.runK S fun x=>some (.inl x)
   | e=>(k e S).bind fun r=>some (.inr r)) fun x=>den E an b (la.put x) k
 | .cond c a b,_,S,k=>match c with
  | .tmp t=>fork t S fun S=>match S.jm t with
   | .v (.one (.d (.bool true)))=>den E an a S k
   | .v (.one (.d (.bool false)))=>den E an b S k
   | _=>none
  | _=>none
 | .block id c,_,S,k=>den E an c S fun e S=>match e with
  | .exit i=>if i=id then k .normal S else k (.exit i) S
  | e=>k e S
 | .loop c,_,S,k=>match (pV c).bind (lk an)with
  | none=>none
  | some la=>la.get.runK S fun f=>aA (fun x=>den E an c (la.put x) fun e S=>match e with
    | .normal=>la.get.runK S fun y=>some (.inl y)
    | e=>(k e S).bind fun r=>some (.inr r)) f
 | .exit id,_,S,k=>k (.exit id) S
 | .ret,_,S,k=>k .ret S
 | .scope _,_,_,_=>none
 | .goto _,_,_,_=>none
 | .rangeFunc ..,_,_,_=>none
 | .refuse _,_,_,_=>none
def ajQ(s:Sh)(x:s.t.den):V:=mkV' s.agg ((s.t.cells x).map .d)
def Ju:(ss:List Sh)->Tup ss->List V
 | [],_=>[]
 | [s],x=>[ajQ s x]
 | s::s'::r,(x,y)=>ajQ s x::Ju (s'::r) y
def Ah(n:Nat)(vs:List V):St:=
 { tmps:=(vs.map .v)++List.replicate (n-vs.length) .undef,boxes:=List.replicate (vs.length+(n-vs.length)) none,owns:=List.replicate (vs.length+(n-vs.length)) [] }
def Ag(n:Nat)(cs:List C)(vs:List V):St:=
 { tmps:=(.v (.one (.ptr 0 0))::vs.map .v)++List.replicate (n-(vs.length+1)) .undef,boxes:=some cs::List.replicate (vs.length+(n-(vs.length+1))) none,owns:=List.replicate (vs.length+1+(n-(vs.length+1))) [] }
def resV(E:Env):ResultVar->Rd V
 | .tmp t=>.gT t avV
 | .cell p ty=>match lk E.tt.shape ty with
  | none=>.fail
  | some (agg,n)=>.gT p fun
   | .v (.one (.ptr b off))=>.gB b fun
    | some cs=>.opt (mkV agg (seg cs off n)) fun v=>if (seg cs off n).length=n then .ret v else .fail
    | none=>.fail
   | _=>.fail
def FU(E:Env):List ResultVar->Rd (List V)
 | []=>.ret []
 | x::r=>(resV E x).bind fun v=>(FU E r).bind fun vs=>.ret (v::vs)
def ajP(cs:List C):Rd Bool:=(xR cs).bind fun b=>.ret (b&&nodupB (aQ cs))
def finish(E:Env)(fn:Func)(rs:List Sh)(ex:Bool):Rd (Tup rs):=
 (FU E fn.results.toList).bind fun vs=>(if ex then ajP (vs.flatMap V.cells)else .ret true).bind fun ok=>if ok then vTs rs vs else .fail
def ahV(E:Env)(an:List (Nat×LA))(fn:Func)(ps rs:List Sh)(ex:Bool)(x:Tup ps):Option (Tup rs):=
 match fn.body with
 | none=>none
 | some c=>den E an c (Ah fn.ntmps (Ju ps x)) fun e S=>match e with
  | .exit _=>none
  | _=>(finish E fn rs ex).runK S some
def alz:List Sh->Bool
 | c::_=>c.agg
 | []=>false
def cSh:C->Rd Bool
 | .d (.list _ _)=>.ret false
 | .d _=>.ret true
 | .nil=>.ret true
 | .own k j=>.gO k fun os=>match bF os j with
  | .own _ _ _ true=>.ret true
  | _=>.ret false
 | _=>.ret false
def ajU:List C->Rd Bool
 | []=>.ret true
 | c::r=>(cSh c).bind fun b=>(ajU r).bind fun b'=>.ret (b&&b')
def WH(cs:List C):Rd Bool:=(ajU cs).bind fun b=>.ret (b&&nodupB (aQ cs))
def ED(E:Env)(fn:Func)(rs:List Sh):Rd (Tup rs):=
 (FU E fn.results.toList).bind fun vs=>(WH (vs.flatMap V.cells)).bind fun ok=>if ok then vTs rs vs else .fail
def ame(E:Env)(an:List (Nat×LA))(fn:Func)(ps rs:List Sh)(x:Tup ps):Option (Tup rs):=
 match fn.body with
 | none=>none
 | some c=>den E an c (Ah fn.ntmps (Ju ps x)) fun e S=>match e with
  | .exit _=>none
  | _=>(ED E fn rs).runK S some
def EG(E:Env)(fn:Func)(rs:List Sh)(ex sh:Bool):Rd (Tup rs):=if alz rs=true then .gB 0 fun
 | some cs=>if aQ cs=[]then (FU E fn.results.toList).bind fun vs=>(if ex then ajP (vs.flatMap V.cells)else if sh then WH (vs.flatMap V.cells)else .ret true).bind fun ok=>if ok then vTs rs (.agg cs::vs)else .fail
  else .fail
 | none=>.fail
 else .fail
def sameBox:List Sh->List Sh->Bool
 | p::_,r::_=>p.agg&&decide (p.t=r.t)
 | _,_=>false
def amg(E:Env)(an:List (Nat×LA))(fn:Func)(ps rs:List Sh)(ex sh:Bool)(x:Tup ps):Option (Tup rs):=
 match fn.body,Ju ps x with
 | some c,.agg cs::vs=>if ex=true->sameBox ps rs=true then den E an c (Ag fn.ntmps cs vs) fun e S=>match e with
  | .exit _=>none
  | _=>(EG E fn rs ex sh).runK S some
  else none
 | _,_=>none
def EF(fn:Func)(rs:List Sh):Rd (Tup rs):=if alz rs=true then match fn.results.toList with
 | [.tmp t]=>.gT t fun
  | .v (.one (.ptr b 0))=>.gB b fun
   | some cs=>if aQ cs=[]then vTs rs [.agg cs]else .fail
   | none=>.fail
  | _=>.fail
 | _=>.fail
 else .fail
def amf(E:Env)(an:List (Nat×LA))(fn:Func)(ps rs:List Sh)(x:Tup ps):Option (Tup rs):=
 match fn.body with
 | none=>none
 | some c=>den E an c (Ah fn.ntmps (Ju ps x)) fun e S=>match e with
  | .exit _=>none
  | _=>(EF fn rs).runK S some
end
end Go.Abs
/- Cells of the right kinds are data of the type. Written by genkinds.py. -/
namespace Go.Abs
theorem di{d:D}{k:IntKind}(h:kd d=.int k):∃n,d=.int k n:=by
 cases d<;>simp only[kd]at h<;>cases h
 exact⟨_,rfl⟩
theorem ajy{d:D}(h:kd d=.bool):∃b,d=.bool b:=by
 cases d<;>simp only[kd]at h<;>cases h
 exact⟨_,rfl⟩
theorem mg{d:D}(h:kd d=.str):∃s,d=.str s:=by
 cases d<;>simp only[kd]at h<;>cases h
 exact⟨_,rfl⟩
theorem fA{d:D}{t:Ty}(h:kd d=.list t):∃xs,d=.list t xs:=by
 cases d<;>simp only[kd]at h<;>cases h
 exact⟨_,rfl⟩
def Base.kinds:Base->List Kd
 | .int=>[.int .i64] | .u8=>[.int .u8] | .bool=>[.bool] | .str=>[.str]
 | .origin=>[.int .i64,.int .i64]
 | .row=>[.list (.base .int),.list (.base .origin)]
 | .val=>[.int .i64,.int .i64,.int .i64,.str,.list (.base .val),.list (.base .str),.list (.base .row)]
 | .token=>[.int .i64,.int .i64,.int .i64,.str]
 | .expr=>[.int .i64,.int .i64,.str,.list (.base .expr)]
 | .read=>[.int .i64,.int .i64,.int .i64,.str,.int .i64,.int .i64,.int .i64,.str,.list (.base .val),.list (.base .str),.list (.base .row)]
 | .cell=>[.int .i64,.int .i64,.int .i64,.str,.str,.int .i64]
 | .edit=>[.int .i64,.int .i64,.int .i64,.int .i64,.int .i64,.str,.str,.int .i64]
 | .tape=>[.int .i64,.int .i64,.list (.base .read)]
 | .node=>[.int .i64,.list (.base .edit),.list (.base .edit)]
 | .notebook=>[.list (.base .cell)]
 | .history=>[.list (.base .cell),.list (.base .node),.int .i64]
 | .op=>[.int .i64,.int .i64,.int .i64,.list (.base .int),.int .i64,.int .i64,.int .i64,.int .i64,.int .i64,.str,.str,.int .i64,.str,.str,.int .i64,.int .i64,.list (.base .read)]
 | .document=>[.list (.base .cell),.list (.base .tape),.list (.base .op)]
 | .replica=>[.int .i64,.list (.base .op)]
 | .cur=>[.list (.base .u8),.int .i64,.int .i64]
 | .part=>[.int .i64,.str,.int .i64,.int .i64,.str,.list (.base .expr),.int .i64,.int .i64,.int .i64,.str,.list (.base .val),.list (.base .str),.list (.base .row),.int .i64]
 | .rd=>[.list (.base .token),.int .i64,.int .i64,.int .i64]
 | .psr=>[.list (.base .token),.int .i64,.int .i64]
def Ty.kinds:Ty->List Kd
 | .base b=>b.kinds
 | .list t=>[.list t]
theorem Xi{ds:List D}(h:ds.map kd=Base.kinds .origin):∃x,yJ ds=some x:=by
 obtain⟨c,d,rfl,a,h⟩:=zH.1 h;obtain⟨e,f,rfl,b,h⟩:=zH.1 h;obtain rfl:=List.map_eq_nil_iff.1 h;obtain⟨g,rfl⟩:=di a;obtain⟨i,rfl⟩:=di b;refine Option.isSome_iff_exists.1 ?_;simp[yJ,D.dD]
theorem afb{ds:List D}(h:ds.map kd=Base.kinds .row):∃x,Qp ds=some x:=by
 obtain⟨c,d,rfl,a,h⟩:=zH.1 h;obtain⟨e,f,rfl,b,h⟩:=zH.1 h;obtain rfl:=List.map_eq_nil_iff.1 h;obtain⟨g,rfl⟩:=fA a;obtain⟨i,rfl⟩:=fA b;refine Option.isSome_iff_exists.1 ?_;simp[Qp,D.dD]
theorem afa{ds:List D}(h:ds.map kd=Base.kinds .val):∃x,Qo ds=some x:=by
 obtain⟨i,j,rfl,a,h⟩:=zH.1 h;obtain⟨k,l,rfl,b,h⟩:=zH.1 h;obtain⟨m,n,rfl,c,h⟩:=zH.1 h;obtain⟨o,p,rfl,d,h⟩:=zH.1 h;obtain⟨q,r,rfl,e,h⟩:=zH.1 h;obtain⟨s,t,rfl,f,h⟩:=zH.1 h;obtain⟨u,v,rfl,g,h⟩:=zH.1 h;obtain rfl:=List.map_eq_nil_iff.1 h;obtain⟨w,rfl⟩:=di a;obtain⟨y,rfl⟩:=di b;obtain⟨z,rfl⟩:=di c;obtain⟨A,rfl⟩:=mg d;obtain⟨B,rfl⟩:=fA e;obtain⟨C,rfl⟩:=fA f;obtain⟨E,rfl⟩:=fA g;refine Option.isSome_iff_exists.1 ?_;simp[Qo,D.dD]
theorem Zh{ds:List D}(h:ds.map kd=Base.kinds .token):∃x,CY ds=some x:=by
 obtain⟨e,f,rfl,a,h⟩:=zH.1 h;obtain⟨g,i,rfl,b,h⟩:=zH.1 h;obtain⟨j,k,rfl,c,h⟩:=zH.1 h;obtain⟨l,m,rfl,d,h⟩:=zH.1 h;obtain rfl:=List.map_eq_nil_iff.1 h;obtain⟨n,rfl⟩:=di a;obtain⟨o,rfl⟩:=di b;obtain⟨p,rfl⟩:=di c;obtain⟨q,rfl⟩:=mg d;refine Option.isSome_iff_exists.1 ?_;simp[CY,D.dD]
theorem acf{ds:List D}(h:ds.map kd=Base.kinds .expr):∃x,IQ ds=some x:=by
 obtain⟨e,f,rfl,a,h⟩:=zH.1 h;obtain⟨g,i,rfl,b,h⟩:=zH.1 h;obtain⟨j,k,rfl,c,h⟩:=zH.1 h;obtain⟨l,m,rfl,d,h⟩:=zH.1 h;obtain rfl:=List.map_eq_nil_iff.1 h;obtain⟨n,rfl⟩:=di a;obtain⟨o,rfl⟩:=di b;obtain⟨p,rfl⟩:=mg c;obtain⟨q,rfl⟩:=fA d;refine Option.isSome_iff_exists.1 ?_;simp[IQ,D.dD]
theorem ab9{ds:List D}(h:ds.map kd=Base.kinds .read):∃x,II ds=some x:=by
 obtain⟨p,q,rfl,b,h⟩:=zH.1 h;obtain⟨r,s,rfl,c,h⟩:=zH.1 h;obtain⟨t,u,rfl,d,h⟩:=zH.1 h;obtain⟨v,w,rfl,e,h⟩:=zH.1 h;obtain⟨y,z,rfl,f,h⟩:=zH.1 h;obtain⟨A,B,rfl,g,h⟩:=zH.1 h;obtain⟨C,E,rfl,i,h⟩:=zH.1 h;obtain⟨F,G,rfl,j,h⟩:=zH.1 h;obtain⟨H,I,rfl,k,h⟩:=zH.1 h;obtain⟨J,K,rfl,l,h⟩:=zH.1 h;obtain⟨m,n,rfl,a,h⟩:=zH.1 h;obtain rfl:=List.map_eq_nil_iff.1 h;obtain⟨L,rfl⟩:=di b;obtain⟨M,rfl⟩:=di c;obtain⟨N,rfl⟩:=di d;obtain⟨O,rfl⟩:=mg e;obtain⟨P,rfl⟩:=di f;obtain⟨Q,rfl⟩:=di g;obtain⟨R,rfl⟩:=di i;obtain⟨S,rfl⟩:=mg j;obtain⟨T,rfl⟩:=fA k;obtain⟨U,rfl⟩:=fA l;obtain⟨o,rfl⟩:=fA a;refine Option.isSome_iff_exists.1 ?_;simp[II,D.dD]
theorem ach{ds:List D}(h:ds.map kd=Base.kinds .cell):∃x,of_cell ds=some x:=by
 obtain⟨g,i,rfl,a,h⟩:=zH.1 h;obtain⟨j,k,rfl,b,h⟩:=zH.1 h;obtain⟨l,m,rfl,c,h⟩:=zH.1 h;obtain⟨n,o,rfl,d,h⟩:=zH.1 h;obtain⟨p,q,rfl,e,h⟩:=zH.1 h;obtain⟨r,s,rfl,f,h⟩:=zH.1 h;obtain rfl:=List.map_eq_nil_iff.1 h;obtain⟨t,rfl⟩:=di a;obtain⟨u,rfl⟩:=di b;obtain⟨v,rfl⟩:=di c;obtain⟨w,rfl⟩:=mg d;obtain⟨y,rfl⟩:=mg e;obtain⟨z,rfl⟩:=di f;refine Option.isSome_iff_exists.1 ?_;simp[of_cell,D.dD]
theorem acg{ds:List D}(h:ds.map kd=Base.kinds .edit):∃x,IU ds=some x:=by
 obtain⟨j,k,rfl,a,h⟩:=zH.1 h;obtain⟨l,m,rfl,b,h⟩:=zH.1 h;obtain⟨n,o,rfl,c,h⟩:=zH.1 h;obtain⟨p,q,rfl,d,h⟩:=zH.1 h;obtain⟨r,s,rfl,e,h⟩:=zH.1 h;obtain⟨t,u,rfl,f,h⟩:=zH.1 h;obtain⟨v,w,rfl,g,h⟩:=zH.1 h;obtain⟨y,z,rfl,i,h⟩:=zH.1 h;obtain rfl:=List.map_eq_nil_iff.1 h;obtain⟨A,rfl⟩:=di a;obtain⟨B,rfl⟩:=di b;obtain⟨C,rfl⟩:=di c;obtain⟨E,rfl⟩:=di d;obtain⟨F,rfl⟩:=di e;obtain⟨G,rfl⟩:=mg f;obtain⟨H,rfl⟩:=mg g;obtain⟨I,rfl⟩:=di i;refine Option.isSome_iff_exists.1 ?_;simp[IU,D.dD]
theorem ab8{ds:List D}(h:ds.map kd=Base.kinds .tape):∃x,IG ds=some x:=by
 obtain⟨d,e,rfl,a,h⟩:=zH.1 h;obtain⟨f,g,rfl,b,h⟩:=zH.1 h;obtain⟨i,j,rfl,c,h⟩:=zH.1 h;obtain rfl:=List.map_eq_nil_iff.1 h;obtain⟨k,rfl⟩:=di a;obtain⟨l,rfl⟩:=di b;obtain⟨m,rfl⟩:=fA c;refine Option.isSome_iff_exists.1 ?_;simp[IG,D.dD]
theorem ace{ds:List D}(h:ds.map kd=Base.kinds .node):∃x,IK ds=some x:=by
 obtain⟨d,e,rfl,a,h⟩:=zH.1 h;obtain⟨f,g,rfl,b,h⟩:=zH.1 h;obtain⟨i,j,rfl,c,h⟩:=zH.1 h;obtain rfl:=List.map_eq_nil_iff.1 h;obtain⟨k,rfl⟩:=di a;obtain⟨l,rfl⟩:=fA b;obtain⟨m,rfl⟩:=fA c;refine Option.isSome_iff_exists.1 ?_;simp[IK,D.dD]
theorem QI{ds:List D}(h:ds.map kd=Base.kinds .notebook):∃x,rO ds=some x:=by
 obtain⟨b,c,rfl,a,h⟩:=zH.1 h;obtain rfl:=List.map_eq_nil_iff.1 h;obtain⟨d,rfl⟩:=fA a;refine Option.isSome_iff_exists.1 ?_;simp[rO,D.dD]
theorem TK{ds:List D}(h:ds.map kd=Base.kinds .history):∃x,vg ds=some x:=by
 obtain⟨d,e,rfl,a,h⟩:=zH.1 h;obtain⟨f,g,rfl,b,h⟩:=zH.1 h;obtain⟨i,j,rfl,c,h⟩:=zH.1 h;obtain rfl:=List.map_eq_nil_iff.1 h;obtain⟨k,rfl⟩:=fA a;obtain⟨l,rfl⟩:=fA b;obtain⟨m,rfl⟩:=di c;refine Option.isSome_iff_exists.1 ?_;simp[vg,D.dD]
theorem ahr{ds:List D}(h:ds.map kd=Base.kinds .op):∃x,Y7 ds=some x:=by
 obtain⟨P,Q,rfl,i,h⟩:=zH.1 h;obtain⟨R,S,rfl,j,h⟩:=zH.1 h;obtain⟨T,U,rfl,k,h⟩:=zH.1 h;obtain⟨V,W,rfl,l,h⟩:=zH.1 h;obtain⟨X,Y,rfl,m,h⟩:=zH.1 h;obtain⟨Z,r5,rfl,n,h⟩:=zH.1 h;obtain⟨d6,r6,rfl,o,h⟩:=zH.1 h;obtain⟨d7,r7,rfl,p,h⟩:=zH.1 h;obtain⟨d8,r8,rfl,q,h⟩:=zH.1 h;obtain⟨d9,r9,rfl,r,h⟩:=zH.1 h;obtain⟨s,t,rfl,a,h⟩:=zH.1 h;obtain⟨u,v,rfl,b,h⟩:=zH.1 h;obtain⟨w,y,rfl,c,h⟩:=zH.1 h;obtain⟨z,A,rfl,d,h⟩:=zH.1 h;obtain⟨B,C,rfl,e,h⟩:=zH.1 h;obtain⟨E,F,rfl,f,h⟩:=zH.1 h;obtain⟨G,H,rfl,g,h⟩:=zH.1 h;obtain rfl:=List.map_eq_nil_iff.1 h;obtain⟨x0,rfl⟩:=di i;obtain⟨x1,rfl⟩:=di j;obtain⟨x2,rfl⟩:=di k;obtain⟨x3,rfl⟩:=fA l;obtain⟨x4,rfl⟩:=di m;obtain⟨x5,rfl⟩:=di n;obtain⟨x6,rfl⟩:=di o;obtain⟨x7,rfl⟩:=di p;obtain⟨x8,rfl⟩:=di q;obtain⟨x9,rfl⟩:=mg r;obtain⟨I,rfl⟩:=mg a;obtain⟨J,rfl⟩:=di b;obtain⟨K,rfl⟩:=mg c;obtain⟨L,rfl⟩:=mg d;obtain⟨M,rfl⟩:=di e;obtain⟨N,rfl⟩:=di f;obtain⟨O,rfl⟩:=fA g;refine Option.isSome_iff_exists.1 ?_;simp[Y7,D.dD]
theorem QJ{ds:List D}(h:ds.map kd=Base.kinds .document):∃x,rP ds=some x:=by
 obtain⟨d,e,rfl,a,h⟩:=zH.1 h;obtain⟨f,g,rfl,b,h⟩:=zH.1 h;obtain⟨i,j,rfl,c,h⟩:=zH.1 h;obtain rfl:=List.map_eq_nil_iff.1 h;obtain⟨k,rfl⟩:=fA a;obtain⟨l,rfl⟩:=fA b;obtain⟨m,rfl⟩:=fA c;refine Option.isSome_iff_exists.1 ?_;simp[rP,D.dD]
theorem TJ{ds:List D}(h:ds.map kd=Base.kinds .replica):∃x,ve ds=some x:=by
 obtain⟨c,d,rfl,a,h⟩:=zH.1 h;obtain⟨e,f,rfl,b,h⟩:=zH.1 h;obtain rfl:=List.map_eq_nil_iff.1 h;obtain⟨g,rfl⟩:=di a;obtain⟨i,rfl⟩:=fA b;refine Option.isSome_iff_exists.1 ?_;simp[ve,D.dD]
theorem afd{ds:List D}(h:ds.map kd=Base.kinds .cur):∃x,Qs ds=some x:=by
 obtain⟨d,e,rfl,a,h⟩:=zH.1 h;obtain⟨f,g,rfl,b,h⟩:=zH.1 h;obtain⟨i,j,rfl,c,h⟩:=zH.1 h;obtain rfl:=List.map_eq_nil_iff.1 h;obtain⟨k,rfl⟩:=fA a;obtain⟨l,rfl⟩:=di b;obtain⟨m,rfl⟩:=di c;refine Option.isSome_iff_exists.1 ?_;simp[Qs,D.dD]
theorem acd{ds:List D}(h:ds.map kd=Base.kinds .part):∃x,IJ ds=some x:=by
 obtain⟨C,E,rfl,e,h⟩:=zH.1 h;obtain⟨F,G,rfl,f,h⟩:=zH.1 h;obtain⟨H,I,rfl,g,h⟩:=zH.1 h;obtain⟨J,K,rfl,i,h⟩:=zH.1 h;obtain⟨L,M,rfl,j,h⟩:=zH.1 h;obtain⟨N,O,rfl,k,h⟩:=zH.1 h;obtain⟨P,Q,rfl,l,h⟩:=zH.1 h;obtain⟨R,S,rfl,m,h⟩:=zH.1 h;obtain⟨T,U,rfl,n,h⟩:=zH.1 h;obtain⟨V,W,rfl,o,h⟩:=zH.1 h;obtain⟨p,q,rfl,a,h⟩:=zH.1 h;obtain⟨r,s,rfl,b,h⟩:=zH.1 h;obtain⟨t,u,rfl,c,h⟩:=zH.1 h;obtain⟨v,w,rfl,d,h⟩:=zH.1 h;obtain rfl:=List.map_eq_nil_iff.1 h;obtain⟨X,rfl⟩:=di e;obtain⟨Y,rfl⟩:=mg f;obtain⟨Z,rfl⟩:=di g;obtain⟨x3,rfl⟩:=di i;obtain⟨x4,rfl⟩:=mg j;obtain⟨x5,rfl⟩:=fA k;obtain⟨x6,rfl⟩:=di l;obtain⟨x7,rfl⟩:=di m;obtain⟨x8,rfl⟩:=di n;obtain⟨x9,rfl⟩:=mg o;obtain⟨y,rfl⟩:=fA a;obtain⟨z,rfl⟩:=fA b;obtain⟨A,rfl⟩:=fA c;obtain⟨B,rfl⟩:=di d;refine Option.isSome_iff_exists.1 ?_;simp[IJ,D.dD]
theorem ahq{ds:List D}(h:ds.map kd=Base.kinds .rd):∃x,Y5 ds=some x:=by
 obtain⟨e,f,rfl,a,h⟩:=zH.1 h;obtain⟨g,i,rfl,b,h⟩:=zH.1 h;obtain⟨j,k,rfl,c,h⟩:=zH.1 h;obtain⟨l,m,rfl,d,h⟩:=zH.1 h;obtain rfl:=List.map_eq_nil_iff.1 h;obtain⟨n,rfl⟩:=fA a;obtain⟨o,rfl⟩:=di b;obtain⟨p,rfl⟩:=di c;obtain⟨q,rfl⟩:=di d;refine Option.isSome_iff_exists.1 ?_;simp[Y5,D.dD]
theorem afc{ds:List D}(h:ds.map kd=Base.kinds .psr):∃x,Qq ds=some x:=by
 obtain⟨d,e,rfl,a,h⟩:=zH.1 h;obtain⟨f,g,rfl,b,h⟩:=zH.1 h;obtain⟨i,j,rfl,c,h⟩:=zH.1 h;obtain rfl:=List.map_eq_nil_iff.1 h;obtain⟨k,rfl⟩:=fA a;obtain⟨l,rfl⟩:=di b;obtain⟨m,rfl⟩:=di c;refine Option.isSome_iff_exists.1 ?_;simp[Qq,D.dD]
theorem E8{t:Ty}{ds:List D}(h:ds.map kd=t.kinds):∃x,t.jv ds=some x:=by
 cases t with
 | list t=>
  obtain⟨d,r,rfl,a,h⟩:=zH.1 h;obtain rfl:=List.map_eq_nil_iff.1 h;obtain⟨xs,rfl⟩:=fA a;exact⟨xs,by simp[Ty.jv,D.dD]⟩
 | base b=>
  cases b
  case int=>
   obtain⟨d,r,rfl,a,h⟩:=zH.1 h
   obtain rfl:=List.map_eq_nil_iff.1 h
   obtain⟨n,rfl⟩:=di a
   exact⟨n,rfl⟩
  case u8=>
   obtain⟨d,r,rfl,a,h⟩:=zH.1 h
   obtain rfl:=List.map_eq_nil_iff.1 h
   obtain⟨n,rfl⟩:=di a
   exact⟨n,rfl⟩
  case bool=>
   obtain⟨d,r,rfl,a,h⟩:=zH.1 h
   obtain rfl:=List.map_eq_nil_iff.1 h
   obtain⟨n,rfl⟩:=ajy a
   exact⟨n,rfl⟩
  case str=>
   obtain⟨d,r,rfl,a,h⟩:=zH.1 h
   obtain rfl:=List.map_eq_nil_iff.1 h
   obtain⟨n,rfl⟩:=mg a
   exact⟨n,rfl⟩
  case origin=>exact Xi h
  case row=>exact afb h
  case val=>exact afa h
  case token=>exact Zh h
  case expr=>exact acf h
  case read=>exact ab9 h
  case cell=>exact ach h
  case edit=>exact acg h
  case tape=>exact ab8 h
  case node=>exact ace h
  case notebook=>exact QI h
  case history=>exact TK h
  case op=>exact ahr h
  case document=>exact QJ h
  case replica=>exact TJ h
  case cur=>exact afd h
  case part=>exact acd h
  case rd=>exact ahq h
  case psr=>exact afc h
end Go.Abs
