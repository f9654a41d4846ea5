import Derived.Test.YtapgeemjgckgaaaGreatDoorTypes
set_option linter.unusedSimpArgs false
/- The abstract evaluator: what a function of the program computes, over typed data, by the model's own code. -/
namespace Go.Abs
noncomputable section
inductive C where
 | undef
 | d (x:D)
 | nil
 | own (k j:Nat)
 | ptr (b off:Nat)
inductive V where
 | one (c:C)
 | agg (cs:List C)
inductive AV where
 | undef
 | v (x:V)
 | elt (t:Ty) (x:t.den) (off:Nat)
 | oelt (k j i sz off:Nat)
 | cut (t:Ty) (len n k1 k2:Nat)
 | seg (k:Nat)
 | pre (k j n:Nat)
 | suf (t:Ty) (k j m:Nat)
 | tup (vs:List V)
inductive O where
 | dead
 | own (t:Ty) (xs:List t.den) (deep m:Bool)
 | ro (t:Ty) (xs:List t.den)
 | tree (t:Ty) (xs:List t.den)
 | part (t:Ty) (xs:List t.den) (i:Nat)
 | seg (t:Ty) (xs:List t.den)
structure St where
 tmps:List AV
 boxes:List (Option (List C))
 owns:List (List O)
inductive W where
 | t (i:Nat) (v:AV)
 | b (i:Nat) (cs:List C)
 | o (k:Nat) (os:List O)
 | upd (k j:Nat) (x:O)
 | ro (k j:Nat)
 | nomut (k j:Nat)
def St.gZ(S:St)(i:Nat):AV:=S.tmps.getD i .undef
def St.fP(S:St)(i:Nat):Option (List C):=S.boxes.getD i none
def St.aJ(S:St)(k:Nat):List O:=S.owns.getD k []
def St.iR(S:St)(i:Nat)(v:AV):St:={ S with tmps:=S.tmps.set i v }
def St.setB(S:St)(i:Nat)(v:Option (List C)):St:={ S with boxes:=S.boxes.set i v }
def St.di(S:St)(i:Nat)(v:List O):St:={ S with owns:=S.owns.set i v }
def O.EP:O->O
 | .own t xs _ _=>.ro t xs
 | .tree t xs=>.ro t xs
 | o=>o
def O.Ff:O->O
 | .own t xs deep _=>.own t xs deep false
 | .tree t xs=>.own t xs true false
 | o=>o
def O.vk:O->O
 | .tree t xs=>.own t xs true true
 | o=>o
def O.iq:O->O
 | .tree t xs=>.own t xs true true
 | .part t xs _=>.own t xs true true
 | .seg t xs=>.own t xs true true
 | o=>o
def bC(os:List O)(j:Nat):O:=os.getD j .dead
def St.put(S:St):W->St
 | .t i v=>S.iR i v
 | .b i cs=>S.setB i (some cs)
 | .o k os=>S.di k os
 | .upd k j x=>S.di k ((S.aJ k).set j x)
 | .ro k j=>S.di k ((S.aJ k).set j (bC (S.aJ k) j).EP)
 | .nomut k j=>S.di k ((S.aJ k).set j (bC (S.aJ k) j).Ff)
def St.puts(S:St):List W->St
 | []=>S
 | x::r=>(S.put x).puts r
inductive L where
 | t (i:Nat)
 | b (i:Nat)
 | o (k:Nat)
 deriving DecidableEq
def W.loc:W->L
 | .t i _=>.t i
 | .b i _=>.b i
 | .o k _ | .upd k _ _ | .ro k _ | .nomut k _=>.o k
inductive Rd(α:Type):Type 1 where
 | ret (a:α)
 | fail
 | gT (i:Nat) (f:AV->Rd α)
 | gB (i:Nat) (f:Option (List C)->Rd α)
 | gO (k:Nat) (f:List O->Rd α)
 | gN (f:Nat->Rd α)
 | opt {β:Type} (o:Option β) (f:β->Rd α)
def Rd.bind{α β:Type}:Rd α->(α->Rd β)->Rd β
 | .ret a,g=>g a
 | .fail,_=>.fail
 | .gT i f,g=>.gT i fun x=>(f x).bind g
 | .gB i f,g=>.gB i fun x=>(f x).bind g
 | .gO i f,g=>.gO i fun x=>(f x).bind g
 | .gN f,g=>.gN fun x=>(f x).bind g
 | .opt o f,g=>.opt o fun x=>(f x).bind g
def Rd.runK{α ρ:Type}:Rd α->St->(α->Option ρ)->Option ρ
 | .ret a,_,k=>k a
 | .fail,_,_=>none
 | .gT i f,S,k=>(f (S.gZ i)).runK S k
 | .gB i f,S,k=>(f (S.fP i)).runK S k
 | .gO i f,S,k=>(f (S.aJ i)).runK S k
 | .gN f,S,k=>(f S.tmps.length).runK S k
 | .opt o f,S,k=>o.bind fun x=>(f x).runK S k
def Rd.agm{α ρ:Type}:Rd α->St->List L->(α->List L->Option ρ)->Option ρ
 | .ret a,_,l,k=>k a l
 | .fail,_,_,_=>none
 | .gT i f,S,l,k=>(f (S.gZ i)).agm S (.t i::l) k
 | .gB i f,S,l,k=>(f (S.fP i)).agm S (.b i::l) k
 | .gO i f,S,l,k=>(f (S.aJ i)).agm S (.o i::l) k
 | .gN _,_,_,_=>none
 | .opt o f,S,l,k=>o.bind fun x=>(f x).agm S l k
def Rd.val{α:Type}:Rd α->St->Option α
 | .ret a,_=>some a
 | .fail,_=>none
 | .gT i f,S=>(f (S.gZ i)).val S
 | .gB i f,S=>(f (S.fP i)).val S
 | .gO i f,S=>(f (S.aJ i)).val S
 | .gN f,S=>(f S.tmps.length).val S
 | .opt o f,S=>o.bind fun x=>(f x).val S
inductive Kd where
 | int (k:IntKind)
 | bool
 | str
 | list (t:Ty)
 deriving DecidableEq
def kd:D->Kd
 | .int k _=>.int k
 | .bool _=>.bool
 | .str _=>.str
 | .list t _=>.list t
structure TT where
 shape:List (Nat×Bool×Nat)
 zero:List (Nat×List C)
 fields:List (Nat×List (Nat×Bool×Nat))
 elem:List (Nat×Ty)
 ints:List (Nat×IntKind)
 strs:List Nat
 bools:List Nat
 eqs:List (Nat×List Kd)
structure Sh where
 agg:Bool
 t:Ty
abbrev Tup:List Sh->Type
 | []=>Unit
 | [s]=>s.t.den
 | s::r=>s.t.den×Tup r
structure Fsp where
 fid:Nat
 ps:List Sh
 rs:List Sh
 ex:Bool
 sh:Bool:=false
 fn:Tup ps->Option (Tup rs)
structure Msp where
 fid:Nat
 sh:Sh
 fn:sh.t.den->Int->Option (sh.t.den×Int)
structure Srt where
 fid:Nat
 g:Nat
 T:Nat
 t:Ty
 fn:List t.den->Option (List t.den)
structure Isp where
 fid:Nat
 t:Ty
 fn:List t.den->Option (List t.den)
structure Env where
 tt:TT
 fs:List Fsp
 ms:List Msp:=[]
 bs:List Fsp:=[]
 ns:List Fsp:=[]
 ss:List Fsp:=[]
 so:List Srt:=[]
 trees:Bool:=false
 pre:List (Nat×List (Nat×Nat)):=[]
 cuts:List (Nat×Nat×Nat×Nat×Nat):=[]
 agv:List Nat:=[]
 is:List Isp:=[]
def kU:D->Option Ty
 | .list t _=>some t
 | _=>none
def Ty.tys(t:Ty):List (Option Ty):=(t.cells t.zero).map kU
def Ty.flat(t:Ty):Bool:=t.tys.all (·.isNone)
def cD(ty:Option Ty):C->Rd D
 | .d x=>.ret x
 | .nil=>match ty with
  | some t=>.ret (.list t [])
  | none=>.fail
 | .own k j=>.gO k fun os=>match bC os j with
  | .own t xs _ _=>.ret (.list t xs)
  | .ro t xs=>.ret (.list t xs)
  | .tree t xs=>.ret (.list t xs)
  | .part _ _ _=>.fail
  | .seg _ _=>.fail
  | .dead=>.fail
 | _=>.fail
def cDs:List (Option Ty)->List C->Rd (List D)
 | ty::tys,c::cs=>(cD ty c).bind fun d=>(cDs tys cs).bind fun ds=>.ret (d::ds)
 | _,_=>.ret []
def V.cells:V->List C
 | .one c=>[c]
 | .agg cs=>cs
def V.isAgg:V->Bool
 | .one _=>false
 | .agg _=>true
def vT(s:Sh)(v:V):Rd s.t.den:=
 if v.isAgg=s.agg/\v.cells.length=s.t.size then (cDs s.t.tys v.cells).bind fun ds=>.opt (s.t.fC ds) .ret else .fail
def avV:AV->Rd V
 | .v x=>.ret x
 | _=>.fail
def vTs:(ss:List Sh)->List V->Rd (Tup ss)
 | [],[]=>.ret ()
 | [s],[v]=>vT s v
 | s::s'::r,v::vs=>(vT s v).bind fun x=>(vTs (s'::r) vs).bind fun y=>.ret (x,y)
 | _,_=>.fail
def aoX:Value->Option C
 | .int k n=>some (.d (.int k n))
 | .bool b=>some (.d (.bool b))
 | .string s=>some (.d (.str s.data.toList))
 | .slice none 0 0=>some .nil
 | _=>none
def dR:Operand->Rd AV
 | .tmp t=>.gT t .ret
 | .const v=>match aoX v with
  | some c=>.ret (.v (.one c))
  | none=>.ret .undef
 | _=>.fail
def lk{α:Type}(l:List (Nat×α))(k:Nat):Option α:=(l.find? fun x=>x.1==k).map (·.2)
def seg{α:Type}(cs:List α)(off n:Nat):List α:=(cs.drop off).take n
def mkV(agg:Bool)(cs:List C):Option V:=
 match agg,cs with
 | true,cs=>some (.agg cs)
 | false,[c]=>some (.one c)
 | false,_=>none
def aoo:C->AV
 | .undef=>.undef
 | c=>.v (.one c)
def Nj:V->AV
 | .one c=>aoo c
 | v=>.v v
def dw{α:Type}(cs:List α)(off:Nat)(vs:List α):List α:=cs.take off++vs++cs.drop (off+vs.length)
def idx{α:Type}(xs:List α)(n:Int):Option α:=if 0<=n then xs[n.toNat]? else none
def gd(n:Nat):Option Unit:=if n<=34359738368 then some ()else none
def mk(n:Int):Option Nat:=if 0<=n/\n<=34359738368 then some n.toNat else none
def binI(op:BinOp)(k:IntKind)(a b:Int):Option D:=
 match op with
 | .add=>some (.int k (k.wrap (a+b)))
 | .sub=>some (.int k (k.wrap (a-b)))
 | .mul=>some (.int k (k.wrap (a*b)))
 | .eql=>some (.bool (a==b))
 | .neq=>some (.bool (a != b))
 | .lss=>some (.bool (a<b))
 | .leq=>some (.bool (a<=b))
 | .gtr=>some (.bool (a>b))
 | .geq=>some (.bool (a>=b))
 | .and=>some (.int k (k.wrap ((BitVec.ofInt k.bits a &&& BitVec.ofInt k.bits b).toNat:Int)))
 | .or=>some (.int k (k.wrap ((BitVec.ofInt k.bits a ||| BitVec.ofInt k.bits b).toNat:Int)))
 | .xor=>some (.int k (k.wrap ((BitVec.ofInt k.bits a ^^^ BitVec.ofInt k.bits b).toNat:Int)))
 | _=>none
def quoI(k:IntKind)(a b:Int):Option Int:=if b=0 then none else some (k.wrap (a.tdiv b))
def remI(a b:Int):Option Int:=if b=0 then none else some (a.tmod b)
def shlI(k:IntKind)(a b:Int):Option Int:=if b<0 then none else some (k.wrap (a*2 ^ min b.toNat k.bits))
def shrI(k:IntKind)(a b:Int):Option Int:=if b<0 then none else some (a.fdiv (2 ^ min b.toNat k.bits))
def binS(op:BinOp)(a b:Str):Option D:=
 match op with
 | .eql=>some (.bool (a==b))
 | .neq=>some (.bool (!(a==b)))
 | .lss=>some (.bool (Op.bytesLess a b))
 | .leq=>some (.bool (Op.bytesLess a b||a==b))
 | .gtr=>some (.bool (!(Op.bytesLess a b||a==b)))
 | .geq=>some (.bool (!(Op.bytesLess a b)))
 | _=>none
def binB(op:BinOp)(a b:Bool):Option D:=
 match op with
 | .eql=>some (.bool (a==b))
 | .neq=>some (.bool (!(a==b)))
 | _=>none
def isBool:D->Bool
 | .bool _=>true
 | _=>false
def aoY(op:BinOp):D->D->Option D
 | .int k a,.int k' b=>if k=k' then binI op k a b else none
 | .str a,.str b=>binS op a b
 | .bool a,.bool b=>binB op a b
 | _,_=>none
def avD:AV->Rd D
 | .v (.one (.d x))=>.ret x
 | _=>.fail
def Jr(a:AV):Rd Int:=(avD a).bind fun
 | .int _ n=>.ret n
 | _=>.fail
def cKd(k:Kd):C->Option D
 | .d x=>if kd x=k then some x else none
 | _=>none
def abI:List Kd->List C->Option (List D)
 | [],[]=>some []
 | k::ks,c::cs=>match cKd k c with
  | some d=>match abI ks cs with
   | some ds=>some (d::ds)
   | none=>none
  | none=>none
 | _,_=>none
def eqD:D->D->Bool
 | .int _ a,.int _ b=>a==b
 | .bool a,.bool b=>a==b
 | .str a,.str b=>a==b
 | _,_=>false
def EW:List D->List D->Bool
 | [d],[e]=>eqD d e
 | d::ds,e::es=>eqD d e&&EW ds es
 | _,_=>true
def aP:List C->List (Nat×Nat)
 | []=>[]
 | .own k j::r=>(k,j)::aP r
 | _::r=>aP r
def FO:C->Rd Bool
 | .d (.list _ _)=>.ret false
 | .d _=>.ret true
 | .nil=>.ret true
 | .own k j=>.gO k fun os=>match bC os j with
  | .own _ _ deep _=>.ret deep
  | .tree _ _=>.ret true
  | _=>.ret false
 | _=>.fail
def xq:List C->Rd Bool
 | []=>.ret true
 | c::r=>(FO c).bind fun b=>(xq r).bind fun b'=>.ret (b&&b')
def fresh(d:Nat)(os:List O):Rd (List W):=.gO d fun
 | []=>.ret [.o d os]
 | _=>.fail
def zU(d:Nat)(cs:List C):Rd (List W):=if d=0 then .fail else .gB d fun
 | none=>.ret [.b d cs,.t d (.v (.one (.ptr d 0)))]
 | some _=>.fail
def fQ(o:Oper)(v:AV):List W:=match o.dst with
 | some d=>[.t d v]
 | none=>[]
def Qm:List (Nat×Operand)->Nat->Rd (List V)
 | [],_=>.ret []
 | (i,x)::r,n=>if i=n then (dR x).bind fun a=>(avV a).bind fun v=>(Qm r (n+1)).bind fun vs=>.ret (v::vs)else .fail
def vEl(t:Ty)(v:V):Rd t.den:=
 if v.cells.length=t.size then (cDs t.tys v.cells).bind fun ds=>.opt (t.fC ds) .ret else .fail
def afx(t:Ty):List V->Rd (List t.den)
 | []=>.ret []
 | v::r=>(vEl t v).bind fun x=>(afx t r).bind fun xs=>.ret (x::xs)
def mkV'(agg:Bool)(cs:List C):V:=
 match agg,cs with
 | false,[c]=>.one c
 | _,cs=>.agg cs
def agp(d:Nat)(ex:Bool)(i:Nat):D->C
 | .list t xs=>if ex then .own d i else .d (.list t xs)
 | x=>.d x
def Me(d:Nat)(ex:Bool):Nat->List D->List C
 | _,[]=>[]
 | i,x::r=>agp d ex i x::Me d ex (i+1) r
def xP(d:Nat)(ex:Bool):Nat->(ss:List Sh)->Tup ss->List V
 | _,[],_=>[]
 | n,[s],y=>[mkV' s.agg (Me d ex n (s.t.cells y))]
 | n,s::s'::r,y=>mkV' s.agg (Me d ex n (s.t.cells y.1))::xP d ex (n+s.t.size) (s'::r) y.2
def dP:(ss:List Sh)->Tup ss->List D
 | [],_=>[]
 | [s],y=>s.t.cells y
 | s::s'::r,y=>s.t.cells y.1++dP (s'::r) y.2
def isList:D->Bool
 | .list _ _=>true
 | _=>false
def Iu(tr:Bool)(ds:List D):List O:=ds.map fun
 | .list t xs=>if tr then .tree t xs else .own t xs true true
 | _=>.dead
def Be:List D->List C->Rd (List W)
 | [],[]=>.ret []
 | d::ds,c::cs=>(Be ds cs).bind fun ws=>match c with
  | .own k j=>.gO k fun os=>match bC os j,d with
   | .tree _ _,.list t xs=>.ret (.upd k j (.tree t xs)::ws)
   | _,_=>.fail
  | .nil=>.ret ws
  | .d (.list _ _)=>.fail
  | .d _=>.ret ws
  | _=>.fail
 | _,_=>.fail
def AO:List V->AV
 | [v]=>Nj v
 | vs=>.tup vs
def Dk:List Operand->Rd (List V)
 | []=>.ret []
 | x::r=>(dR x).bind fun a=>(avV a).bind fun v=>(Dk r).bind fun vs=>.ret (v::vs)
def nodupB(l:List (Nat×Nat)):Bool:=
 match l with
 | []=>true
 | x::r=>!(r.any fun y=>y.1==x.1&&y.2==x.2)&&nodupB r
def listOf(t:Ty)(c:C):Rd (List t.den):=(cD (some t) c).bind fun d=>.opt (d.cZ t) .ret
def bytesOf(xs:List Int):Str:=xs.map fun n=>UInt8.ofNat n.toNat
def mF(s:Str):List (Ty.base .u8).den:=s.map fun c=>(c.toNat:Int)
def Bd:{c:Sh}->{rs:List Sh}->Tup (c::rs)->c.t.den
 | _,[],x=>x
 | _,_::_,x=>x.1
def Va:{c:Sh}->{rs:List Sh}->Tup (c::rs)->Tup rs
 | _,[],_=>()
 | _,_::_,x=>x.2
def agx(ds:List D):List O:=ds.map fun
 | .list t xs=>.own t xs false true
 | _=>.dead
def aeN(o:Oper)(sh:Bool)(rs:List Sh)(y:Tup rs):Rd (List W):=match o.dst with
 | none=>.ret []
 | some d=>if (sh&&(dP rs y).any isList)=true then
   (fresh d (agx (dP rs y))).bind fun ws=>.ret (ws++[.t d (AO (xP d true 0 rs y))])
  else .ret [.t d (AO (xP d false 0 rs y))]
def ajK(o:Oper)(tr:Bool)(rs:List Sh)(y:Tup rs):Rd (List W):=match o.dst with
 | none=>.ret []
 | some d=>if (dP rs y).any isList=true then
   (fresh d (Iu tr (dP rs y))).bind fun ws=>.ret (ws++[.t d (AO (xP d true 0 rs y))])
  else .ret [.t d (AO (xP d true 0 rs y))]
def aj6(o:Oper)(ex tr sh:Bool)(b n:Nat)(keys:List (Nat×Nat)):(rs:List Sh)->Tup rs->Rd (List W)
 | [],_=>.fail
 | c::rs,y=>if c.agg=true then if c.t.size=n then if nodupB keys then
   (bif ex then ajK o tr rs (Va y)else aeN o sh rs (Va y)).bind fun ws=>.ret (keys.map (fun q=>W.nomut q.1 q.2)++(.b b ((c.t.cells (Bd y)).map .d)::ws))
  else .fail else .fail else .fail
def aoQ(E:Env)(o:Oper)(c:Call)(f:Nat):Rd (List W):=
 match E.is.find? (fun s=>s.fid==f),c.args.toList with
 | some s,[x]=>(dR x).bind fun ax=>(avV ax).bind fun
  | .one (.own k j)=>.gO k fun os=>match bC os j with
   | .own t xs deep true=>if h:t=s.t then .opt (s.fn (h▸xs)) fun ys=>.ret (.upd k j (.own s.t ys deep true)::fQ o (.tup []))else .fail
   | _=>.fail
  | _=>.fail
 | _,_=>.fail
def aoP(E:Env)(o:Oper)(c:Call)(f:Nat):Rd (List W):=
 match E.ss.find? (fun s=>s.fid==f)with
 | some s=>(Dk c.args.toList).bind fun vs=>(vTs s.ps vs).bind fun z=>.opt (s.fn z) fun y=>if nodupB (aP (vs.flatMap V.cells))then
   (aeN o true s.rs y).bind fun ws=>.ret ((aP (vs.flatMap V.cells)).map (fun q=>W.nomut q.1 q.2)++ws)
  else .fail
 | none=>aoQ E o c f
def aoR(E:Env)(o:Oper)(c:Call)(f:Nat):Rd (List W):=
 match E.bs.find? (fun s=>s.fid==f),c.args.toList with
 | some s,x::xs=>(dR x).bind fun
  | .v (.one (.ptr b 0))=>.gB b fun
   | some cs=>(Dk xs).bind fun vs=>(vTs s.ps (.agg cs::vs)).bind fun z=>.opt (s.fn z) fun y=>aj6 o s.ex E.trees s.sh b cs.length (aP ((V.agg cs::vs).flatMap V.cells)) s.rs y
   | none=>.fail
  | _=>.fail
 | _,_=>match E.ns.find? (fun s=>s.fid==f),o.dst with
  | some s,some d=>(Dk c.args.toList).bind fun vs=>(vTs s.ps vs).bind fun z=>.opt (s.fn z) fun y=>if nodupB (aP (vs.flatMap V.cells))then
    (zU d ((dP s.rs y).map .d)).bind fun ws=>.ret ((aP (vs.flatMap V.cells)).map (fun q=>W.nomut q.1 q.2)++ws)
   else .fail
  | _,_=>aoP E o c f
def WN(o:Oper)(agg:Bool)(n k j i sz off:Nat)(t:Ty)(xs:List t.den)(m:Nat):Rd (List W):=
 match o.dst with
 | some d=>if agg=true/\off=0/\n=t.size/\t.size=sz then .opt (if i=m then xs[i]? else none) fun x=>
   (fresh d (Iu true (t.cells x))).bind fun ws=>.ret (.upd k j (.part t xs (m+1))::(ws++[.t d (.v (.agg (Me d true 0 (t.cells x))))]))
  else .fail
 | none=>.fail
def cutAt{α:Type}(xs:List α)(n:Int):Option Nat:=if 0<=n/\n<=xs.length then some n.toNat else none
def aol(E:Env)(o:Oper):Bool:=match o.dst with
 | some d=>E.agv.contains d
 | none=>false
def aiH(E:Env)(o:Oper)(T k j:Nat)(lo hi:Option Int):Rd (List W):=match lo,hi with
 | none,some h=>.gO k fun os=>match bC os j with
  | .own t xs _ true=>if (lk E.tt.elem T)=some t then .opt (cutAt xs h) fun m=>.ret (fQ o (.pre k j m))else .fail
  | _=>.fail
 | some l,none=>.gO k fun os=>match bC os j with
  | .own t xs _ _=>if (lk E.tt.elem T)=some t then .opt (cutAt xs l) fun m=>.ret (fQ o (.suf t k j m))else .fail
  | _=>.fail
 | _,_=>.fail
def ahZ(d:Nat)(t:Ty)(ax:AV)(f:Ty)(a b c:Nat):Rd (List W):=.gO a fun os=>match bC os b with
 | .own g ys _ _=>if e:g=t then if f=t/\t.flat=true then match ax with
  | .v (.one (.own k j))=>.gO k fun os=>match bC os j with
   | .own t' xs deep m=>if h:t'=t then if nodupB [(k,j),(a,b)]=true then .opt (gd ((h▸xs:List t.den).length+((e▸ys:List t.den).drop c).length)) fun _=>
     (fresh d [.own t ((h▸xs:List t.den)++(e▸ys:List t.den).drop c) deep m]).bind fun ws=>.ret (.upd k j .dead::ws++[.t d (.v (.one (.own d 0)))])
    else .fail
    else .fail
   | _=>.fail
  | _=>.fail
  else .fail
  else .fail
 | _=>.fail
def ah7(d:Nat)(t:Ty)(ax:AV)(b:Nat):Rd (List W):=.gO b fun os=>match bC os 0 with
 | .seg c ys=>if a:c=t then match ax with
  | .v (.one .nil)=>.opt (gd (a▸ys:List t.den).length) fun _=>(fresh d [.own t (a▸ys:List t.den) true true]).bind fun ws=>.ret (.upd b 0 .dead::ws++[.t d (.v (.one (.own d 0)))])
  | .v (.one (.own k j))=>.gO k fun os=>match bC os j with
   | .own t' xs deep m=>if h:t'=t then .opt (gd ((h▸xs:List t.den).length+(a▸ys:List t.den).length)) fun _=>
     (fresh d [.own t ((h▸xs:List t.den)++(a▸ys:List t.den)) deep m]).bind fun ws=>.ret (.upd k j .dead :: .upd b 0 .dead::ws++[.t d (.v (.one (.own d 0)))])
    else .fail
   | _=>.fail
  | _=>.fail
  else .fail
 | _=>.fail
def C.plain:C->Bool
 | .d (.list _ _)=>false
 | .d _=>true
 | _=>false
def eff(E:Env)(o:Oper):Rd (List W):=
 match o.op with
 | .move x | .assign x=>(dR x).bind fun a=>.ret (fQ o a)
 | .pick c a b=>(dR c).bind fun c=>(avD c).bind fun
  | .bool true=>(dR a).bind fun v=>.ret (fQ o v)
  | .bool false=>(dR b).bind fun v=>.ret (fQ o v)
  | _=>.fail
 | .alloc e=>match o.dst,lk E.tt.zero e with
  | some d,some cs=>zU d cs
  | _,_=>.fail
 | .box _ x=>match o.dst with
  | some d=>(dR x).bind fun a=>(avV a).bind fun v=>zU d v.cells
  | none=>.fail
 | .load t p=>match lk E.tt.shape t with
  | none=>.fail
  | some (agg,n)=>(dR p).bind fun
   | .v (.one (.ptr b off))=>.gB b fun
    | some cs=>.opt (mkV agg (seg cs off n)) fun v=>if (seg cs off n).length=n then .ret (fQ o (Nj v))else .fail
    | none=>.fail
   | .elt t x off=>.opt (mkV agg ((seg (t.cells x) off n).map .d)) fun v=>if (seg (t.cells x) off n).length=n then .ret (fQ o (Nj v))else .fail
   | .oelt k j i sz off=>.gO k fun os=>match bC os j with
    | .own t xs _ _=>if t.size=sz then .opt (xs[i]?) fun x=>.opt (mkV agg ((seg (t.cells x) off n).map .d)) fun v=>if (seg (t.cells x) off n).length=n then .ret (fQ o (Nj v))else .fail
     else .fail
    | .part t xs m=>WN o agg n k j i sz off t xs m
    | _=>.fail
   | _=>.fail
 | .store t p x=>match lk E.tt.shape t with
  | none=>.fail
  | some (_,n)=>(dR x).bind fun a=>(avV a).bind fun v=>if v.cells.length=n then (dR p).bind fun
   | .v (.one (.ptr b off))=>.gB b fun
    | some cs=>if off+n<=cs.length/\(b != 0||(seg cs off n).all C.plain)=true then .ret (.b b (dw cs off v.cells)::fQ o (.tup []))else .fail
    | none=>.fail
   | .oelt k j i sz off=>.gO k fun os=>match bC os j with
    | .own t xs deep true=>.opt (xs[i]?) fun x=>
     if t.size=sz/\off+n<=t.size then
      (cDs (seg t.tys off n) v.cells).bind fun ds=>(xq v.cells).bind fun dp=>.opt (t.fC (dw (t.cells x) off ds)) fun y=>
       if nodupB ((k,j)::aP v.cells)then
        .ret (((aP v.cells).map fun q=>.ro q.1 q.2)++(.upd k j (.own t (xs.set i y) (deep&&dp) true)::fQ o (.tup [])))
       else .fail
     else .fail
    | _=>.fail
   | _=>.fail
   else .fail
 | .fieldAddr s p f=>match (lk E.tt.fields s).bind (·[f]?)with
  | none=>.fail
  | some (fo,_,_)=>(dR p).bind fun
   | .v (.one (.ptr b off))=>.ret (fQ o (.v (.one (.ptr b (off+fo)))))
   | .elt t x off=>.ret (fQ o (.elt t x (off+fo)))
   | .oelt k j i sz off=>.ret (fQ o (.oelt k j i sz (off+fo)))
   | _=>.fail
 | .field s x f=>match (lk E.tt.fields s).bind (·[f]?)with
  | none=>.fail
  | some (fo,agg,n)=>(dR x).bind fun
   | .v (.agg cs)=>.opt (mkV agg (seg cs fo n)) fun v=>if (seg cs fo n).length=n then .ret (fQ o (Nj v))else .fail
   | _=>.fail
 | .indexAddr T x i=>match lk E.tt.elem T with
  | none=>.fail
  | some t=>(dR x).bind fun a=>(dR i).bind fun ai=>(Jr ai).bind fun n=>match a with
   | .v (.one (.d (.list t' xs)))=>if t'=t then .opt (idx xs n) fun y=>.ret (fQ o (.elt t' y 0))else .fail
   | .v (.one (.own k j))=>.gO k fun os=>match bC os j with
    | .own t' xs _ _=>if t'=t then .opt (idx xs n) fun _=>.ret (fQ o (.oelt k j n.toNat t.size 0))else .fail
    | .ro t' xs=>if t'=t then .opt (idx xs n) fun y=>.ret (fQ o (.elt t' y 0))else .fail
    | .part t' xs _=>if t'=t then .opt (idx xs n) fun _=>.ret (fQ o (.oelt k j n.toNat t.size 0))else .fail
    | .tree t' xs=>if t'=t then .opt (idx xs n) fun _=>.ret (.upd k j (.part t' xs n.toNat)::fQ o (.oelt k j n.toNat t.size 0))else .fail
    | _=>.fail
   | _=>.fail
 | .index T x i=>if E.tt.strs.contains T then (dR x).bind fun a=>(avD a).bind fun
   | .str s=>(dR i).bind fun ai=>(Jr ai).bind fun n=>.opt (idx s n) fun c=>.ret (fQ o (.v (.one (.d (.int .u8 c.toNat)))))
   | _=>.fail
  else .fail
 | .extract x i=>(dR x).bind fun
  | .tup vs=>.opt (vs[i]?) fun v=>.ret (fQ o (Nj v))
  | _=>.fail
 | .binOp op T x y _=>(dR x).bind fun a=>(dR y).bind fun b=>match a,b with
  | .v (.agg cs),.v (.agg cs')=>match lk E.tt.eqs T with
   | none=>.fail
   | some ks=>match abI ks cs,abI ks cs' with
    | some ds,some ds'=>match op with
     | .eql=>.ret (fQ o (.v (.one (.d (.bool (EW ds ds'))))))
     | .neq=>.ret (fQ o (.v (.one (.d (.bool (!(EW ds ds')))))))
     | _=>.fail
    | _,_=>.fail
  | a,b=>(avD a).bind fun dx=>(avD b).bind fun dy=>match op,dx,dy with
   | .quo,.int k p,.int k' q=>if k=k' then .opt (quoI k p q) fun z=>.ret (fQ o (.v (.one (.d (.int k z)))))else .fail
   | .rem,.int k p,.int k' q=>if k=k' then .opt (remI p q) fun z=>.ret (fQ o (.v (.one (.d (.int k z)))))else .fail
   | .shl,.int k p,.int _ q=>.opt (shlI k p q) fun z=>.ret (fQ o (.v (.one (.d (.int k z)))))
   | .shr,.int k p,.int _ q=>.opt (shrI k p q) fun z=>.ret (fQ o (.v (.one (.d (.int k z)))))
   | .add,.str p,.str q=>.opt (gd (p.length+q.length)) fun _=>.ret (fQ o (.v (.one (.d (.str (p++q))))))
   | op,dx,dy=>if isBool dx->E.tt.bools.contains T then .opt (aoY op dx dy) fun z=>.ret (fQ o (.v (.one (.d z))))else .fail
 | .unOp op _ x=>(dR x).bind fun a=>(avD a).bind fun
  | .bool b=>match op with
   | .not=>.ret (fQ o (.v (.one (.d (.bool (!b))))))
   | _=>.fail
  | .int k n=>match op with
   | .neg=>.ret (fQ o (.v (.one (.d (.int k (k.wrap (0-n)))))))
   | _=>.fail
  | _=>.fail
 | .convert u T x=>(dR x).bind fun a=>match lk E.tt.ints u,lk E.tt.ints T with
  | some _,some k=>(Jr a).bind fun n=>.ret (fQ o (.v (.one (.d (.int k (k.wrap n))))))
  | _,_=>if E.tt.strs.contains T=true/\lk E.tt.elem u=some (.base .u8)then match a with
    | .v (.one c)=>(listOf (.base .u8) c).bind fun xs=>.ret (fQ o (.v (.one (.d (.str (bytesOf xs))))))
    | _=>.fail
   else .fail
 | .nilCheck x=>(dR x).bind fun
  | .v (.one (.ptr b off))=>.ret (fQ o (.v (.one (.ptr b off))))
  | _=>.fail
 | .build T parts=>match lk E.tt.zero T,lk E.tt.fields T with
  | some z,some fs=>(fillA fs parts.toList z).bind fun cs=>.ret (fQ o (.v (.agg cs)))
  | _,_=>.fail
 | .buildSlice T n parts=>match o.dst,lk E.tt.elem T with
  | some d,some t=>(Qm parts.toList 0).bind fun vs=>if vs.length=n/\n*t.size<=16777216 then
    (afx t vs).bind fun xs=>(xq (vs.flatMap V.cells)).bind fun dp=>
     if nodupB (aP (vs.flatMap V.cells))then
      (fresh d [.own t xs dp true]).bind fun ws=>.ret (((aP (vs.flatMap V.cells)).map fun q=>.ro q.1 q.2)++ws++[.t d (.v (.one (.own d 0)))])
     else .fail
   else .fail
  | _,_=>.fail
 | .makeSlice T l c=>match o.dst,lk E.tt.elem T with
  | some d,some t=>match l,c with
   | .tmp i,.tmp j=>if i=j then (dR l).bind fun a=>(Jr a).bind fun n=>.opt (mk n) fun m=>
     (fresh d [.own t (List.replicate m t.zero) true true]).bind fun ws=>.ret (ws++[.t d (.v (.one (.own d 0)))])
    else .fail
   | _,_=>.fail
  | _,_=>.fail
 | .call c=>match c.callee with
  | .builtin .len=>match c.args.toList,c.argTypes.toList with
   | [x],[T]=>(dR x).bind fun
    | .v (.one (.d (.str s)))=>if E.tt.strs.contains T then .ret (fQ o (.v (.one (.d (.int .i64 s.length)))))else .fail
    | .v (.one (.d (.list _ xs)))=>if (lk E.tt.elem T).isSome then .ret (fQ o (.v (.one (.d (.int .i64 xs.length)))))else .fail
    | .v (.one .nil)=>if (lk E.tt.elem T).isSome then .ret (fQ o (.v (.one (.d (.int .i64 0)))))else .fail
    | .v (.one (.own k j))=>if (lk E.tt.elem T).isSome then .gO k fun os=>match bC os j with
     | .own _ xs _ _ | .ro _ xs | .tree _ xs=>.ret (fQ o (.v (.one (.d (.int .i64 xs.length)))))
     | _=>.fail
     else .fail
    | _=>.fail
   | _,_=>.fail
  | .builtin .append=>match o.dst,c.args.toList,c.argTypes.toList with
   | some d,[x,y],[T,T']=>if T=T' then match lk E.tt.elem T with
    | none=>.fail
    | some t=>(dR x).bind fun ax=>(dR y).bind fun ay=>match ay with
     | .seg g=>ah7 d t ax g
     | .suf w g A B=>ahZ d t ax w g A B
     | ay=>(avV ay).bind fun vy=>match vy with
      | .agg _=>.fail
      | .one cy=>(listOf t cy).bind fun ys=>(if t.flat then .ret true else FO cy).bind fun dp=>match ax with
       | .v (.one .nil)=>.opt (gd ys.length) fun _=>
        (fresh d [.own t ys dp true]).bind fun ws=>.ret ((if t.flat then []else (aP [cy]).map fun q=>.ro q.1 q.2)++ws++[.t d (.v (.one (.own d 0)))])
       | .v (.one (.own k j))=>.gO k fun os=>match (bC os j).vk with
        | .own t' xs deep m=>if h:t'=t then
          if nodupB ((k,j)::aP [cy])then
           .opt (gd ((h▸xs:List t.den).length+ys.length)) fun _=>
            (fresh d [.own t ((h▸xs:List t.den)++ys) (deep&&dp) m]).bind fun ws=>
             .ret (.upd k j .dead::(if t.flat then []else (aP [cy]).map fun q=>.ro q.1 q.2)++ws++[.t d (.v (.one (.own d 0)))])
          else .fail
         else .fail
        | _=>.fail
       | .pre k j n=>.gO k fun os=>match bC os j with
        | .own t' xs deep true=>if h:t'=t then
          if nodupB ((k,j)::aP [cy])then
           .opt (gd (((h▸xs:List t.den).take n).length+ys.length)) fun _=>
            (fresh d [.own t ((h▸xs:List t.den).take n++ys) (deep&&dp) true]).bind fun ws=>
             .ret (.upd k j .dead::(if t.flat then []else (aP [cy]).map fun q=>.ro q.1 q.2)++ws++[.t d (.v (.one (.own d 0)))])
          else .fail
         else .fail
        | _=>.fail
       | _=>.fail
    else if lk E.tt.elem T=some (.base .u8)/\E.tt.strs.contains T'=true then (dR x).bind fun ax=>(dR y).bind fun ay=>(avD ay).bind fun
     | .str s=>match ax with
      | .v (.one .nil)=>.opt (gd (mF s).length) fun _=>
       (fresh d [.own (.base .u8) (mF s) true true]).bind fun ws=>.ret (ws++[.t d (.v (.one (.own d 0)))])
      | .v (.one (.own k j))=>.gO k fun os=>match bC os j with
       | .own t' xs deep m=>if h:t'=.base .u8 then
         .opt (gd ((h▸xs:List (Ty.base .u8).den).length+(mF s).length)) fun _=>
          (fresh d [.own (.base .u8) ((h▸xs:List (Ty.base .u8).den)++mF s) deep m]).bind fun ws=>
           .ret (.upd k j .dead::ws++[.t d (.v (.one (.own d 0)))])
        else .fail
       | _=>.fail
      | _=>.fail
     | _=>.fail
    else .fail
   | _,_,_=>.fail
  | .builtin .max=>match c.args.toList with
   | [x,y]=>(dR x).bind fun a=>(avD a).bind fun
    | .int .i64 m=>(dR y).bind fun b=>(avD b).bind fun
     | .int .i64 n=>.ret (fQ o (.v (.one (.d (.int .i64 (if n>m then n else m))))))
     | _=>.fail
    | _=>.fail
   | _=>.fail
  | .builtin .min=>match c.args.toList with
   | [x,y]=>(dR x).bind fun a=>(avD a).bind fun
    | .int .i64 m=>(dR y).bind fun b=>(avD b).bind fun
     | .int .i64 n=>.ret (fQ o (.v (.one (.d (.int .i64 (if n<m then n else m))))))
     | _=>.fail
    | _=>.fail
   | _=>.fail
  | .value (.func f)=>match E.fs.find? (fun s=>s.fid==f)with
   | none=>match E.ms.find? (fun m=>m.fid==f),c.args.toList with
    | some m,[x,y]=>(dR x).bind fun ax=>(avV ax).bind fun v=>(dR y).bind fun ay=>(avD ay).bind fun
     | .int .i64 n=>(vT m.sh v).bind fun z=>.opt (m.fn z n) fun r=>
      if nodupB (aP v.cells)then (Be (m.sh.t.cells r.1) v.cells).bind fun ws=>.ret (ws++fQ o (.v (.one (.d (.int .i64 r.2)))))
      else .fail
     | _=>.fail
    | _,_=>aoR E o c f
   | some s=>(Dk c.args.toList).bind fun vs=>(vTs s.ps vs).bind fun x=>.opt (s.fn x) fun y=>
    let keys:=aP (vs.flatMap V.cells)
    if s.ex||nodupB keys then
     let cut:List W:=if s.ex then []else keys.map fun q=>.nomut q.1 q.2
     match o.dst with
     | none=>.ret cut
     | some d=>
      if s.ex&&(dP s.rs y).any isList then
       (fresh d (Iu E.trees (dP s.rs y))).bind fun ws=>.ret (ws++[.t d (AO (xP d s.ex 0 s.rs y))])
      else .ret (cut++[.t d (AO (xP d s.ex 0 s.rs y))])
    else .fail
  | _=>.fail
 | .slice T x lo hi mx=>match mx with
  | some _=>.fail
  | none=>(dR x).bind fun a=>(bnd lo).bind fun lo=>(bnd hi).bind fun hi=>match a with
   | .v (.one (.d (.str s)))=>if E.tt.strs.contains T then .opt (cutL s lo hi) fun r=>.ret (fQ o (.v (.one (.d (.str r)))))else .fail
   | .v (.one (.d (.list t xs)))=>if (lk E.tt.elem T)=some t then .opt (cutL xs lo hi) fun r=>.ret (fQ o (.v (.one (.d (.list t r)))))else .fail
   | .v (.one (.own k j))=>if aol E o=true then aiH E o T k j lo hi else .gO k fun os=>match bC os j with
    | .own t xs _ m=>if (lk E.tt.elem T)=some t then .opt (cutL xs lo hi) fun r=>.ret (match m with | true=>.nomut k j::fQ o (.v (.one (.d (.list t r)))) | false=>fQ o (.v (.one (.d (.list t r)))))else .fail
    | .ro t xs=>if (lk E.tt.elem T)=some t then .opt (cutL xs lo hi) fun r=>.ret (fQ o (.v (.one (.d (.list t r)))))else .fail
    | _=>.fail
   | .cut t _ n g D=>if (lk E.tt.elem T)=some t then match lo,hi with
     | none,some h=>.opt (if h=(n:Int)then some ()else none) fun _=>.ret (fQ o (.seg g))
     | some l,none=>.opt (if l=(n:Int)then some ()else none) fun _=>.ret (fQ o (.seg D))
     | _,_=>.fail
    else .fail
   | _=>.fail
 | _=>.fail
where
 fillA (fs:List (Nat×Bool×Nat)):List (Nat×Operand)->List C->Rd (List C)
  | [],z=>.ret z
  | (i,x)::r,z=>match fs[i]? with
   | none=>.fail
   | some (fo,_,n)=>(dR x).bind fun a=>(avV a).bind fun v=>
    if v.cells.length=n/\fo+n<=z.length then fillA fs r (dw z fo v.cells)else .fail
 bnd:Option Operand->Rd (Option Int)
  | none=>.ret none
  | some x=>(dR x).bind fun a=>(Jr a).bind fun n=>.ret (some n)
 cutL {α:Type} (xs:List α) (lo hi:Option Int):Option (List α):=
  let l:=lo.getD 0
  let h:=hi.getD xs.length
  if 0<=l/\l<=h/\h<=xs.length then some ((xs.take h.toNat).drop l.toNat)else none
def fork{ρ:Type}(t:Nat)(S:St)(k:St->Option ρ):Option ρ:=
 match S.gZ t with
 | .v (.one (.d (.bool b)))=>cond b (k (S.iR t (.v (.one (.d (.bool true)))))) (k (S.iR t (.v (.one (.d (.bool false))))))
 | _=>k S
def MV{ρ:Type}(x:Option Nat)(S:St)(k:St->Option ρ):Option ρ:=
 match x with
 | none=>k S
 | some t=>fork t S k
def adW(ops:Array Oper)(o:Oper):Option Nat:=match o.guard with
 | none=>none
 | some (j,_)=>(ops[j]?).bind (·.dst)
def aiJ(o:Oper):Option Nat:=match o.op with
 | .pick (.tmp c) _ _=>some c
 | _=>none
def Wu(ops:Array Oper)(o:Oper):Rd Bool:=match o.guard with
 | none=>.ret true
 | some (j,want)=>match (ops[j]?).bind (·.dst)with
  | none=>.fail
  | some t=>.gT t fun
   | .v (.one (.d (.bool b)))=>.ret (b==want)
   | .tup []=>.ret false
   | _=>.fail
def Hw(E:Env)(ops:Array Oper)(o:Oper):Rd (List W):=
 (Wu ops o).bind fun
  | true=>eff E o
  | false=>.ret (fQ o (.tup []))
def Hz(E:Env)(d:Oper):List Oper->Option (Srt×Operand×Nat×Nat×Nat×Oper)
 | e::h::_=>match d.op,d.dst,e.op,e.dst,h.op with
  | .makeInterface T x,some a,.makeFunc (.func g) first cap,some i,.call c=>match c.callee,first.toList,cap.toList,c.args.toList with
   | .value (.func f),[],[.tmp b],[.tmp j,.tmp k]=>
    if d.guard.isNone&&e.guard.isNone&&h.guard.isNone&&(j==a)&&(k==i)&&(a != i)&&(b != a)then
     (E.so.find? fun s=>s.fid==f&&s.g==g&&s.T==T).map fun s=>(s,x,b,a,i,h)
    else none
   | _,_,_,_=>none
  | _,_,_,_,_=>none
 | _=>none
def Ol(q:Srt×Operand×Nat×Nat×Nat×Oper):Rd (List W):=
 (dR q.2.1).bind fun ax=>(avV ax).bind fun
  | .one (.own k j)=>.gT q.2.2.1 fun
   | .v (.one (.ptr bi 0))=>.gB bi fun
    | some [.own k' j']=>if k=k'/\j=j' then .gO k fun os=>match bC os j with
     | .own t xs deep true=>if h:t=q.1.t then .opt (q.1.fn (h▸xs)) fun ys=>.gN fun n=>if q.2.2.2.1<n/\q.2.2.2.2.1<n then
       .ret ([.upd k j (.own q.1.t ys deep true),.t q.2.2.2.1 .undef,.t q.2.2.2.2.1 .undef]++fQ q.2.2.2.2.2 (.tup []))else .fail
      else .fail
     | _=>.fail
     else .fail
    | _=>.fail
   | _=>.fail
  | _=>.fail
def TV{ρ:Type}(E:Env)(ops:Array Oper):Nat->List Oper->St->(St->Option ρ)->Option ρ
 | _,[],S,k=>k S
 | n+1,_::r,S,k=>TV E ops n r S k
 | 0,o::r,S,k=>match Hz E o r with
  | some q=>(Ol q).runK S fun ws=>TV E ops 2 r (S.puts ws) k
  | none=>MV (adW ops o) S fun S=>MV (aiJ o) S fun S=>(Hw E ops o).runK S fun ws=>TV E ops 0 r (S.puts ws) k
def aoD{ρ:Type}(E:Env)(ops:Array Oper)(l:List Oper)(S:St)(k:St->Option ρ):Option ρ:=TV E ops 0 l S k
structure Lg where
 i:Nat
 reads:List L
 writes:List L
def opsL{ρ:Type}(E:Env)(ops:Array Oper):List (Oper×Nat)->St->List Lg->(St->List Lg->Option ρ)->Option ρ
 | [],S,g,k=>k S g
 | (o,i)::r,S,g,k=>MV (adW ops o) S fun S=>MV (aiJ o) S fun S=>
   (Hw E ops o).agm S [] fun ws rs=>opsL E ops r (S.puts ws) ({ i,reads:=rs,writes:=ws.map W.loc } :: g) k
def meets(a b:List L):Bool:=a.any fun x=>b.any fun y=>decide (x=y)
def Lg.free(a b:Lg):Bool:=!meets a.writes b.reads&&!meets a.writes b.writes&&!meets b.writes a.reads
def Cb(acc:List Nat)(o:Oper):Nat:=o.after.toList.foldl (fun s e=>if Region.binds .any e then s ||| 2 ^ e.on ||| acc.getD e.on 0 else s) 0
def masks:List Nat->List Oper->List Nat
 | acc,[]=>acc
 | acc,o::r=>masks (acc++[Cb acc o]) r
def EN(bf:List Nat):List Lg->Bool
 | []=>true
 | a::r=>(r.all fun b=>(bf.getD a.i 0).testBit b.i||b.free a)&&EN bf r
def Le(l:List (Oper×Nat)):Bool:=l.all fun x=>x.1.after.toList.all fun e=>!Region.binds .any e||decide (e.on<x.2)
def aiI(E:Env)(id:Nat):List (Nat×Nat):=(lk E.pre id).getD []
def agy{ρ:Type}(E:Env)(ops:Array Oper)(id:Nat)(S:St)(k:St->Option ρ):Option ρ:=
 opsL E ops ops.toList.zipIdx (S.puts ((aiI E id).map fun q=>W.nomut q.1 q.2)) [] fun S' g=>if Le ops.toList.zipIdx&&EN (masks [] ops.toList) g then k S' else none
def ajZ(s i a b:Nat):Rd (List W):=.gT s fun
 | .v (.one (.own k j))=>.gO k fun os=>match bC os j with
  | .own t xs true _=>.gT i fun ai=>(Jr ai).bind fun n=>.opt (cutAt xs n) fun m=>
   (fresh a [.seg t (xs.take m)]).bind fun c=>(fresh b [.seg t (xs.drop m)]).bind fun d=>.gN fun N=>
    if a≠b/\a≠k/\b≠k/\a<N/\b<N then .ret (.upd k j .dead::(c++(d++[.t s (.cut t xs.length m a b)])))else .fail
  | _=>.fail
 | _=>.fail
def alo{ρ:Type}(E:Env)(id:Nat)(S:St)(k:St->Option ρ):Option ρ:=match lk E.cuts id with
 | none=>k S
 | some (s,i,a,b)=>(ajZ s i a b).runK S fun ws=>k (S.puts ws)
inductive Ex where
 | normal
 | exit (id:Nat)
 | ret
inductive Sr where
 | ro (t:Ty)
 | own (t:Ty) (deep m:Bool) (key:Nat)
 | part (t:Ty) (key:Nat)
abbrev Sr.den:Sr->Type
 | .ro t=>t.den
 | .own t _ _ _=>List t.den
 | .part t _=>List t.den×Nat
inductive It where
 | t (i:Nat) (s:Sr)
 | b (b off:Nat) (s:Sr)
def It.sr:It->Sr
 | .t _ s=>s
 | .b _ _ s=>s
structure LA where
 n:Nat
 its:List It
 boxes:List (Nat×Nat)
 ptrs:List (Nat×Nat×Nat)
 als:List (Nat×Nat×Nat):=[]
 bls:List (Nat×Nat×Nat×Nat):=[]
 tls:List (Nat×Nat):=[]
abbrev Its:List It->Type
 | []=>Unit
 | [x]=>x.sr.den
 | x::r=>x.sr.den×Its r
def ah9:Ty->Bool
 | .base .int=>true
 | .base .u8=>true
 | .base .bool=>true
 | .base .str=>true
 | .list _=>true
 | _=>false
def avC:AV->Rd C
 | .v (.one c)=>.ret c
 | _=>.fail
def ag3(s:Sr)(c:C):Rd s.den:=
 match s with
 | .ro t=>if ah9 t then (cDs t.tys [c]).bind fun ds=>.opt (t.fC ds) .ret else .fail
 | .own t deep m _=>match c with
  | .nil=>.ret ([]:List t.den)
  | .own k j=>.gO k fun os=>match bC os j with
   | .own t' xs deep' m'=>if h:t'=t then if (deep->deep')/\(m->m')then .ret (h▸xs:List t.den)else .fail else .fail
   | .tree t' xs=>if h:t'=t then .ret (h▸xs:List t.den)else .fail
   | _=>.fail
  | _=>.fail
 | .part t _=>match c with
  | .own k j=>.gO k fun os=>match bC os j with
   | .tree t' xs=>if h:t'=t then .ret ((h▸xs:List t.den),(0:Nat))else .fail
   | .part t' xs i=>if h:t'=t then .ret ((h▸xs:List t.den),i)else .fail
   | _=>.fail
  | _=>.fail
def cAt:It->Rd C
 | .t i _=>.gT i avC
 | .b b off _=>.gB b fun
  | some cs=>.opt (cs[off]?) .ret
  | none=>.fail
def ajD(x:It):Rd x.sr.den:=(cAt x).bind fun c=>ag3 x.sr c
def afi:(l:List It)->Rd (Its l)
 | []=>.ret ()
 | [x]=>ajD x
 | x::y::r=>(ajD x).bind fun a=>(afi (y::r)).bind fun b=>.ret (a,b)
def keysOf:List It->Rd (List (Nat×Nat)×List (Nat×Nat))
 | []=>.ret ([],[])
 | x::r=>(cAt x).bind fun c=>(keysOf r).bind fun p=>
  match x.sr with
  | .own _ _ _ _=>.ret (aP [c]++p.1,p.2)
  | .part _ _=>.ret (aP [c]++p.1,p.2)
  | .ro _=>.ret (p.1,aP [c]++p.2)
def Jq:List (Nat×Nat)->Rd Unit
 | []=>.ret ()
 | (b,n)::r=>.gB b fun
  | some cs=>if cs.length=n then Jq r else .fail
  | none=>.fail
def Qi:List (Nat×Nat×Nat)->Rd Unit
 | []=>.ret ()
 | (i,b,off)::r=>.gT i fun
  | .v (.one (.ptr b' off'))=>if b'=b/\off'=off then Qi r else .fail
  | _=>.fail
def afr:List (Nat×Nat×Nat)->Rd Unit
 | []=>.ret ()
 | (i,b,off)::r=>.gT i fun
  | .v (.one (.own k j))=>.gB b fun
   | some cs=>match cs[off]? with
    | some (.own k' j')=>if k=k'/\j=j' then afr r else .fail
    | _=>.fail
   | none=>.fail
  | _=>.fail
def afq:List (Nat×Nat×Nat×Nat)->Rd Unit
 | []=>.ret ()
 | (b',off',b,off)::r=>.gB b' fun
  | some cs'=>.gB b fun
   | some cs=>match cs'[off']?,cs[off]? with
    | some (.own k' j'),some (.own k j)=>if k=k'/\j=j' then afq r else .fail
    | _,_=>.fail
   | none=>.fail
  | none=>.fail
def aeB:List (Nat×Nat)->Rd Unit
 | []=>.ret ()
 | (i,i')::r=>.gT i fun
  | .v (.one (.own k j))=>.gT i' fun
   | .v (.one (.own k' j'))=>if k=k'/\j=j' then aeB r else .fail
   | _=>.fail
  | _=>.fail
def dW:List It->List Nat
 | []=>[]
 | x::r=>match x.sr with
  | .own _ _ _ key=>key::dW r
  | .part _ key=>key::dW r
  | .ro _=>dW r
def Gv:List Nat->Bool
 | []=>true
 | x::r=>!(r.any fun y=>y==x)&&Gv r
def LA.get(la:LA):Rd (Its la.its):=.gN fun n=>if n=la.n/\Gv (dW la.its)=true/\(dW la.its).all (fun k=>decide (k<la.n))=true/\la.ptrs.all (fun p=>la.boxes.any fun q=>q.1==p.2.1)=true/\la.its.all (fun it=>match it with
      | .b bx _ _=>la.boxes.any fun q=>q.1==bx
      | _=>true)=true then
  (Jq la.boxes).bind fun _=>(Qi la.ptrs).bind fun _=>(afr la.als).bind fun _=>(afq la.bls).bind fun _=>(aeB la.tls).bind fun _=>(keysOf la.its).bind fun p=>
   if nodupB p.1&&p.1.all (fun x=>!p.2.any fun y=>y.1==x.1&&y.2==x.2)then afi la.its else .fail
 else .fail
def LA.base(la:LA):St:=
 { tmps:=la.ptrs.foldl (fun l p=>l.set p.1 (.v (.one (.ptr p.2.1 p.2.2)))) (List.replicate la.n .undef),boxes:=la.boxes.foldl (fun l p=>l.set p.1 (some (List.replicate p.2 .undef))) (List.replicate la.n none),owns:=List.replicate la.n [] }
def dOf(t:Ty)(x:t.den):C:=match t.cells x with
 | [d]=>.d d
 | _=>.undef
def St.vF(S:St)(it:It)(c:C):St:=match it with
 | .t i _=>S.iR i (.v (.one c))
 | .b b off _=>match S.fP b with
  | some cs=>S.setB b (some (cs.set off c))
  | none=>S
def St.Qg(S:St)(it:It)(x:it.sr.den):St:=
 match it.sr,x with
 | .ro t,x=>S.vF it (dOf t x)
 | .own t deep m key,xs=>(S.di key [.own t xs deep m]).vF it (.own key 0)
 | .part t key,(xs,i)=>(S.di key [.part t xs i]).vF it (.own key 0)
def St.aeU(S:St):(l:List It)->Its l->St
 | [],_=>S
 | [x],a=>S.Qg x a
 | x::y::r,(a,b)=>(S.Qg x a).aeU (y::r) b
def St.Ko(S:St):List (Nat×Nat×Nat)->St
 | []=>S
 | (i,b,off)::r=>match S.fP b with
  | some cs=>match cs[off]? with
   | some (.own k j)=>(S.iR i (.v (.one (.own k j)))).Ko r
   | _=>S.Ko r
  | none=>S.Ko r
def St.J9(S:St):List (Nat×Nat×Nat×Nat)->St
 | []=>S
 | (b',off',b,off)::r=>match S.fP b',S.fP b with
  | some cs',some cs=>match cs[off]? with
   | some (.own k j)=>(S.setB b' (some (cs'.set off' (.own k j)))).J9 r
   | _=>S.J9 r
  | _,_=>S.J9 r
def St.Qd(S:St):List (Nat×Nat)->St
 | []=>S
 | (i,i')::r=>match S.gZ i' with
  | .v (.one (.own k j))=>(S.iR i (.v (.one (.own k j)))).Qd r
  | _=>S.Qd r
def LA.put(la:LA)(x:Its la.its):St:=(((la.base.aeU la.its x).Ko la.als).J9 la.bls).Qd la.tls
def iter{X ρ:Type}(f:X->Option (X⊕ρ)):Nat->X->Option ρ
 | 0,_=>none
 | n+1,x=>match f x with
  | none=>none
  | some (.inl y)=>iter f n y
  | some (.inr r)=>some r
open Classical in
def ak{X ρ:Type}(f:X->Option (X⊕ρ))(x:X):Option ρ:=
 if h:∃n r,iter f n x=some r then some h.choose_spec.choose else none
def aok{X ρ:Type}(p:Option (X⊕ρ))(f:X->Option ρ):Option ρ:=p.bind fun j=>match j with
 | .inl x=>f x
 | .inr r=>some r
def mW:Code->Option Nat
 | .region id _ _=>some id
 | .seq a b=>(mW a).or (mW b)
 | .cond _ a b=>(mW a).or (mW b)
 | .block _ c=>mW c
 | .loop c=>mW c
 | .scope c=>mW c
 | _=>none
def den(E:Env)(an:List (Nat×LA)):Code->{ρ:Type}->St->(Ex->St->Option ρ)->Option ρ
 | .skip,_,S,k=>k .normal S
 | .label _,_,S,k=>k .normal S
 | .region id ops false,_,S,k=>alo E id S fun S=>aoD E ops ops.toList S fun S=>k .normal S
 | .region id ops true,_,S,k=>alo E id S fun S=>agy E ops id S fun S=>k .normal S
 | .seq a b,_,S,k=>match (mW b).bind fun i=>lk an (i+1000000)with
  | none=>den E an a S fun e S=>match e with
   | .normal=>den E an b S k
   | e=>k e S
  | some la=>aok (den E an a S fun e S=>match e with
   | .normal=>la.get.runK S fun x=>some (.inl x)
   | e=>(k e S).bind fun r=>some (.inr r)) fun x=>den E an b (la.put x) k
 | .cond c a b,_,S,k=>match c with
  | .tmp t=>fork t S fun S=>match S.gZ t with
   | .v (.one (.d (.bool true)))=>den E an a S k
   | .v (.one (.d (.bool false)))=>den E an b S k
   | _=>none
  | _=>none
 | .block id c,_,S,k=>den E an c S fun e S=>match e with
  | .exit i=>if i=id then k .normal S else k (.exit i) S
  | e=>k e S
 | .loop c,_,S,k=>match (mW c).bind (lk an)with
  | none=>none
  | some la=>la.get.runK S fun f=>ak (fun x=>den E an c (la.put x) fun e S=>match e with
    | .normal=>la.get.runK S fun y=>some (.inl y)
    | e=>(k e S).bind fun r=>some (.inr r)) f
 | .exit id,_,S,k=>k (.exit id) S
 | .ret,_,S,k=>k .ret S
 | .scope _,_,_,_=>none
 | .goto _,_,_,_=>none
 | .rangeFunc ..,_,_,_=>none
 | .refuse _,_,_,_=>none
def ali(s:Sh)(x:s.t.den):V:=mkV' s.agg ((s.t.cells x).map .d)
def Si:(ss:List Sh)->Tup ss->List V
 | [],_=>[]
 | [s],x=>[ali s x]
 | s::s'::r,(x,y)=>ali s x::Si (s'::r) y
def Cj(n:Nat)(vs:List V):St:=
 { tmps:=(vs.map .v)++List.replicate (n-vs.length) .undef,boxes:=List.replicate (vs.length+(n-vs.length)) none,owns:=List.replicate (vs.length+(n-vs.length)) [] }
def zY(n:Nat)(cs:List C)(vs:List V):St:=
 { tmps:=(.v (.one (.ptr 0 0))::vs.map .v)++List.replicate (n-(vs.length+1)) .undef,boxes:=some cs::List.replicate (vs.length+(n-(vs.length+1))) none,owns:=List.replicate (vs.length+1+(n-(vs.length+1))) [] }
def resV(E:Env):ResultVar->Rd V
 | .tmp t=>.gT t avV
 | .cell p ty=>match lk E.tt.shape ty with
  | none=>.fail
  | some (agg,n)=>.gT p fun
   | .v (.one (.ptr b off))=>.gB b fun
    | some cs=>.opt (mkV agg (seg cs off n)) fun v=>if (seg cs off n).length=n then .ret v else .fail
    | none=>.fail
   | _=>.fail
def Gi(E:Env):List ResultVar->Rd (List V)
 | []=>.ret []
 | x::r=>(resV E x).bind fun v=>(Gi E r).bind fun vs=>.ret (v::vs)
def alf(cs:List C):Rd Bool:=(xq cs).bind fun b=>.ret (b&&nodupB (aP cs))
def finish(E:Env)(fn:Func)(rs:List Sh)(ex:Bool):Rd (Tup rs):=
 (Gi E fn.results.toList).bind fun vs=>(if ex then alf (vs.flatMap V.cells)else .ret true).bind fun ok=>if ok then vTs rs vs else .fail
def aef(E:Env)(an:List (Nat×LA))(fn:Func)(ps rs:List Sh)(ex:Bool)(x:Tup ps):Option (Tup rs):=
 match fn.body with
 | none=>none
 | some c=>den E an c (Cj fn.ntmps (Si ps x)) fun e S=>match e with
  | .exit _=>none
  | _=>(finish E fn rs ex).runK S some
def apJ:List Sh->Bool
 | c::_=>c.agg
 | []=>false
def cSh:C->Rd Bool
 | .d (.list _ _)=>.ret false
 | .d _=>.ret true
 | .nil=>.ret true
 | .own k j=>.gO k fun os=>match bC os j with
  | .own _ _ _ true=>.ret true
  | _=>.ret false
 | _=>.ret false
def alp:List C->Rd Bool
 | []=>.ret true
 | c::r=>(cSh c).bind fun b=>(alp r).bind fun b'=>.ret (b&&b')
def Xw(cs:List C):Rd Bool:=(alp cs).bind fun b=>.ret (b&&nodupB (aP cs))
def EG(E:Env)(fn:Func)(rs:List Sh):Rd (Tup rs):=
 (Gi E fn.results.toList).bind fun vs=>(Xw (vs.flatMap V.cells)).bind fun ok=>if ok then vTs rs vs else .fail
def aoS(E:Env)(an:List (Nat×LA))(fn:Func)(ps rs:List Sh)(x:Tup ps):Option (Tup rs):=
 match fn.body with
 | none=>none
 | some c=>den E an c (Cj fn.ntmps (Si ps x)) fun e S=>match e with
  | .exit _=>none
  | _=>(EG E fn rs).runK S some
def EH(E:Env)(fn:Func)(rs:List Sh)(ex sh:Bool):Rd (Tup rs):=if apJ rs=true then .gB 0 fun
 | some cs=>if aP cs=[]then (Gi E fn.results.toList).bind fun vs=>(if ex then alf (vs.flatMap V.cells)else if sh then Xw (vs.flatMap V.cells)else .ret true).bind fun ok=>if ok then vTs rs (.agg cs::vs)else .fail
  else .fail
 | none=>.fail
 else .fail
def sameBox:List Sh->List Sh->Bool
 | p::_,r::_=>p.agg&&decide (p.t=r.t)
 | _,_=>false
def aoT(E:Env)(an:List (Nat×LA))(fn:Func)(ps rs:List Sh)(ex sh:Bool)(x:Tup ps):Option (Tup rs):=
 match fn.body,Si ps x with
 | some c,.agg cs::vs=>if ex=true->sameBox ps rs=true then den E an c (zY fn.ntmps cs vs) fun e S=>match e with
  | .exit _=>none
  | _=>(EH E fn rs ex sh).runK S some
  else none
 | _,_=>none
end
end Go.Abs
/- Cells of the right kinds are data of the type. Written by genkinds.py. -/
namespace Go.Abs
theorem bZ{d:D}{k:IntKind}(h:kd d=.int k):∃n,d=.int k n:=by
 cases d<;>simp only[kd]at h<;>cases h
 exact⟨_,rfl⟩
theorem ae9{d:D}(h:kd d=.bool):∃b,d=.bool b:=by
 cases d<;>simp only[kd]at h<;>cases h
 exact⟨_,rfl⟩
theorem nO{d:D}(h:kd d=.str):∃s,d=.str s:=by
 cases d<;>simp only[kd]at h<;>cases h
 exact⟨_,rfl⟩
theorem eH{d:D}{t:Ty}(h:kd d=.list t):∃xs,d=.list t xs:=by
 cases d<;>simp only[kd]at h<;>cases h
 exact⟨_,rfl⟩
def Base.kinds:Base->List Kd
 | .int=>[.int .i64] | .u8=>[.int .u8] | .bool=>[.bool] | .str=>[.str]
 | .origin=>[.int .i64,.int .i64]
 | .row=>[.list (.base .int),.list (.base .origin)]
 | .val=>[.int .i64,.int .i64,.int .i64,.str,.list (.base .val),.list (.base .str),.list (.base .row)]
 | .token=>[.int .i64,.int .i64,.int .i64,.str]
 | .expr=>[.int .i64,.int .i64,.str,.list (.base .expr)]
 | .file=>[.str,.int .i64]
 | .read=>[.int .i64,.int .i64,.int .i64,.str,.int .i64,.int .i64,.int .i64,.str,.list (.base .val),.list (.base .str),.list (.base .row)]
 | .cell=>[.int .i64,.int .i64,.int .i64,.str,.str,.int .i64]
 | .edit=>[.int .i64,.int .i64,.int .i64,.int .i64,.int .i64,.str,.str,.int .i64]
 | .tape=>[.int .i64,.int .i64,.list (.base .read)]
 | .notebook=>[.list (.base .cell)]
 | .world=>[.int .i64,.int .i64,.list (.base .file)]
 | .entry=>[.int .i64,.int .i64,.int .i64,.list (.base .int),.int .i64,.int .i64,.int .i64,.str,.list (.base .val),.list (.base .str),.list (.base .row),.bool]
 | .engine=>[.list (.base .cell),.int .i64,.int .i64,.list (.base .file),.list (.base .tape),.list (.base .entry),.int .i64,.int .i64,.int .i64]
 | .part=>[.int .i64,.str,.int .i64,.int .i64,.str,.list (.base .expr),.int .i64,.int .i64,.int .i64,.str,.list (.base .val),.list (.base .str),.list (.base .row),.int .i64]
 | .rd=>[.list (.base .token),.int .i64,.int .i64,.int .i64]
 | .psr=>[.list (.base .token),.int .i64,.int .i64]
def Ty.kinds:Ty->List Kd
 | .base b=>b.kinds
 | .list t=>[.list t]
theorem X8{ds:List D}(h:ds.map kd=Base.kinds .origin):∃x,xU ds=some x:=by
 obtain⟨c,d,rfl,a,h⟩:=zH.1 h;obtain⟨e,f,rfl,b,h⟩:=zH.1 h;obtain rfl:=List.map_eq_nil_iff.1 h;obtain⟨g,rfl⟩:=bZ a;obtain⟨i,rfl⟩:=bZ b;refine Option.isSome_iff_exists.1 ?_;simp[xU,D.cZ]
theorem agN{ds:List D}(h:ds.map kd=Base.kinds .row):∃x,Qr ds=some x:=by
 obtain⟨c,d,rfl,a,h⟩:=zH.1 h;obtain⟨e,f,rfl,b,h⟩:=zH.1 h;obtain rfl:=List.map_eq_nil_iff.1 h;obtain⟨g,rfl⟩:=eH a;obtain⟨i,rfl⟩:=eH b;refine Option.isSome_iff_exists.1 ?_;simp[Qr,D.cZ]
theorem agM{ds:List D}(h:ds.map kd=Base.kinds .val):∃x,Qq ds=some x:=by
 obtain⟨i,j,rfl,a,h⟩:=zH.1 h;obtain⟨k,l,rfl,b,h⟩:=zH.1 h;obtain⟨m,n,rfl,c,h⟩:=zH.1 h;obtain⟨o,p,rfl,d,h⟩:=zH.1 h;obtain⟨q,r,rfl,e,h⟩:=zH.1 h;obtain⟨s,t,rfl,f,h⟩:=zH.1 h;obtain⟨u,v,rfl,g,h⟩:=zH.1 h;obtain rfl:=List.map_eq_nil_iff.1 h;obtain⟨w,rfl⟩:=bZ a;obtain⟨y,rfl⟩:=bZ b;obtain⟨z,rfl⟩:=bZ c;obtain⟨A,rfl⟩:=nO d;obtain⟨B,rfl⟩:=eH e;obtain⟨C,rfl⟩:=eH f;obtain⟨E,rfl⟩:=eH g;refine Option.isSome_iff_exists.1 ?_;simp[Qq,D.cZ]
theorem aaF{ds:List D}(h:ds.map kd=Base.kinds .token):∃x,BV ds=some x:=by
 obtain⟨e,f,rfl,a,h⟩:=zH.1 h;obtain⟨g,i,rfl,b,h⟩:=zH.1 h;obtain⟨j,k,rfl,c,h⟩:=zH.1 h;obtain⟨l,m,rfl,d,h⟩:=zH.1 h;obtain rfl:=List.map_eq_nil_iff.1 h;obtain⟨n,rfl⟩:=bZ a;obtain⟨o,rfl⟩:=bZ b;obtain⟨p,rfl⟩:=bZ c;obtain⟨q,rfl⟩:=nO d;refine Option.isSome_iff_exists.1 ?_;simp[BV,D.cZ]
theorem adB{ds:List D}(h:ds.map kd=Base.kinds .expr):∃x,IC ds=some x:=by
 obtain⟨e,f,rfl,a,h⟩:=zH.1 h;obtain⟨g,i,rfl,b,h⟩:=zH.1 h;obtain⟨j,k,rfl,c,h⟩:=zH.1 h;obtain⟨l,m,rfl,d,h⟩:=zH.1 h;obtain rfl:=List.map_eq_nil_iff.1 h;obtain⟨n,rfl⟩:=bZ a;obtain⟨o,rfl⟩:=bZ b;obtain⟨p,rfl⟩:=nO c;obtain⟨q,rfl⟩:=eH d;refine Option.isSome_iff_exists.1 ?_;simp[IC,D.cZ]
theorem adA{ds:List D}(h:ds.map kd=Base.kinds .file):∃x,IB ds=some x:=by
 obtain⟨c,d,rfl,a,h⟩:=zH.1 h;obtain⟨e,f,rfl,b,h⟩:=zH.1 h;obtain rfl:=List.map_eq_nil_iff.1 h;obtain⟨g,rfl⟩:=nO a;obtain⟨i,rfl⟩:=bZ b;refine Option.isSome_iff_exists.1 ?_;simp[IB,D.cZ]
theorem ady{ds:List D}(h:ds.map kd=Base.kinds .read):∃x,Iz ds=some x:=by
 obtain⟨p,q,rfl,b,h⟩:=zH.1 h;obtain⟨r,s,rfl,c,h⟩:=zH.1 h;obtain⟨t,u,rfl,d,h⟩:=zH.1 h;obtain⟨v,w,rfl,e,h⟩:=zH.1 h;obtain⟨y,z,rfl,f,h⟩:=zH.1 h;obtain⟨A,B,rfl,g,h⟩:=zH.1 h;obtain⟨C,E,rfl,i,h⟩:=zH.1 h;obtain⟨F,G,rfl,j,h⟩:=zH.1 h;obtain⟨H,I,rfl,k,h⟩:=zH.1 h;obtain⟨J,K,rfl,l,h⟩:=zH.1 h;obtain⟨m,n,rfl,a,h⟩:=zH.1 h;obtain rfl:=List.map_eq_nil_iff.1 h;obtain⟨L,rfl⟩:=bZ b;obtain⟨M,rfl⟩:=bZ c;obtain⟨N,rfl⟩:=bZ d;obtain⟨O,rfl⟩:=nO e;obtain⟨P,rfl⟩:=bZ f;obtain⟨Q,rfl⟩:=bZ g;obtain⟨R,rfl⟩:=bZ i;obtain⟨S,rfl⟩:=nO j;obtain⟨T,rfl⟩:=eH k;obtain⟨U,rfl⟩:=eH l;obtain⟨o,rfl⟩:=eH a;refine Option.isSome_iff_exists.1 ?_;simp[Iz,D.cZ]
theorem adD{ds:List D}(h:ds.map kd=Base.kinds .cell):∃x,of_cell ds=some x:=by
 obtain⟨g,i,rfl,a,h⟩:=zH.1 h;obtain⟨j,k,rfl,b,h⟩:=zH.1 h;obtain⟨l,m,rfl,c,h⟩:=zH.1 h;obtain⟨n,o,rfl,d,h⟩:=zH.1 h;obtain⟨p,q,rfl,e,h⟩:=zH.1 h;obtain⟨r,s,rfl,f,h⟩:=zH.1 h;obtain rfl:=List.map_eq_nil_iff.1 h;obtain⟨t,rfl⟩:=bZ a;obtain⟨u,rfl⟩:=bZ b;obtain⟨v,rfl⟩:=bZ c;obtain⟨w,rfl⟩:=nO d;obtain⟨y,rfl⟩:=nO e;obtain⟨z,rfl⟩:=bZ f;refine Option.isSome_iff_exists.1 ?_;simp[of_cell,D.cZ]
theorem adC{ds:List D}(h:ds.map kd=Base.kinds .edit):∃x,IE ds=some x:=by
 obtain⟨j,k,rfl,a,h⟩:=zH.1 h;obtain⟨l,m,rfl,b,h⟩:=zH.1 h;obtain⟨n,o,rfl,c,h⟩:=zH.1 h;obtain⟨p,q,rfl,d,h⟩:=zH.1 h;obtain⟨r,s,rfl,e,h⟩:=zH.1 h;obtain⟨t,u,rfl,f,h⟩:=zH.1 h;obtain⟨v,w,rfl,g,h⟩:=zH.1 h;obtain⟨y,z,rfl,i,h⟩:=zH.1 h;obtain rfl:=List.map_eq_nil_iff.1 h;obtain⟨A,rfl⟩:=bZ a;obtain⟨B,rfl⟩:=bZ b;obtain⟨C,rfl⟩:=bZ c;obtain⟨E,rfl⟩:=bZ d;obtain⟨F,rfl⟩:=bZ e;obtain⟨G,rfl⟩:=nO f;obtain⟨H,rfl⟩:=nO g;obtain⟨I,rfl⟩:=bZ i;refine Option.isSome_iff_exists.1 ?_;simp[IE,D.cZ]
theorem adx{ds:List D}(h:ds.map kd=Base.kinds .tape):∃x,Iy ds=some x:=by
 obtain⟨d,e,rfl,a,h⟩:=zH.1 h;obtain⟨f,g,rfl,b,h⟩:=zH.1 h;obtain⟨i,j,rfl,c,h⟩:=zH.1 h;obtain rfl:=List.map_eq_nil_iff.1 h;obtain⟨k,rfl⟩:=bZ a;obtain⟨l,rfl⟩:=bZ b;obtain⟨m,rfl⟩:=eH c;refine Option.isSome_iff_exists.1 ?_;simp[Iy,D.cZ]
theorem QJ{ds:List D}(h:ds.map kd=Base.kinds .notebook):∃x,qA ds=some x:=by
 obtain⟨b,c,rfl,a,h⟩:=zH.1 h;obtain rfl:=List.map_eq_nil_iff.1 h;obtain⟨d,rfl⟩:=eH a;refine Option.isSome_iff_exists.1 ?_;simp[qA,D.cZ]
theorem aaE{ds:List D}(h:ds.map kd=Base.kinds .world):∃x,BU ds=some x:=by
 obtain⟨d,e,rfl,a,h⟩:=zH.1 h;obtain⟨f,g,rfl,b,h⟩:=zH.1 h;obtain⟨i,j,rfl,c,h⟩:=zH.1 h;obtain rfl:=List.map_eq_nil_iff.1 h;obtain⟨k,rfl⟩:=bZ a;obtain⟨l,rfl⟩:=bZ b;obtain⟨m,rfl⟩:=eH c;refine Option.isSome_iff_exists.1 ?_;simp[BU,D.cZ]
theorem aaG{ds:List D}(h:ds.map kd=Base.kinds .entry):∃x,BX ds=some x:=by
 obtain⟨t,u,rfl,c,h⟩:=zH.1 h;obtain⟨v,w,rfl,d,h⟩:=zH.1 h;obtain⟨y,z,rfl,e,h⟩:=zH.1 h;obtain⟨A,B,rfl,f,h⟩:=zH.1 h;obtain⟨C,E,rfl,g,h⟩:=zH.1 h;obtain⟨F,G,rfl,i,h⟩:=zH.1 h;obtain⟨H,I,rfl,j,h⟩:=zH.1 h;obtain⟨J,K,rfl,k,h⟩:=zH.1 h;obtain⟨L,M,rfl,l,h⟩:=zH.1 h;obtain⟨N,O,rfl,m,h⟩:=zH.1 h;obtain⟨n,o,rfl,a,h⟩:=zH.1 h;obtain⟨p,q,rfl,b,h⟩:=zH.1 h;obtain rfl:=List.map_eq_nil_iff.1 h;obtain⟨P,rfl⟩:=bZ c;obtain⟨Q,rfl⟩:=bZ d;obtain⟨R,rfl⟩:=bZ e;obtain⟨S,rfl⟩:=eH f;obtain⟨T,rfl⟩:=bZ g;obtain⟨U,rfl⟩:=bZ i;obtain⟨V,rfl⟩:=bZ j;obtain⟨W,rfl⟩:=nO k;obtain⟨X,rfl⟩:=eH l;obtain⟨Y,rfl⟩:=eH m;obtain⟨r,rfl⟩:=eH a;obtain⟨s,rfl⟩:=ae9 b;refine Option.isSome_iff_exists.1 ?_;simp[BX,D.cZ]
theorem X9{ds:List D}(h:ds.map kd=Base.kinds .engine):∃x,xX ds=some x:=by
 obtain⟨k,l,rfl,a,h⟩:=zH.1 h;obtain⟨m,n,rfl,b,h⟩:=zH.1 h;obtain⟨o,p,rfl,c,h⟩:=zH.1 h;obtain⟨q,r,rfl,d,h⟩:=zH.1 h;obtain⟨s,t,rfl,e,h⟩:=zH.1 h;obtain⟨u,v,rfl,f,h⟩:=zH.1 h;obtain⟨w,y,rfl,g,h⟩:=zH.1 h;obtain⟨z,A,rfl,i,h⟩:=zH.1 h;obtain⟨B,C,rfl,j,h⟩:=zH.1 h;obtain rfl:=List.map_eq_nil_iff.1 h;obtain⟨E,rfl⟩:=eH a;obtain⟨F,rfl⟩:=bZ b;obtain⟨G,rfl⟩:=bZ c;obtain⟨H,rfl⟩:=eH d;obtain⟨I,rfl⟩:=eH e;obtain⟨J,rfl⟩:=eH f;obtain⟨K,rfl⟩:=bZ g;obtain⟨L,rfl⟩:=bZ i;obtain⟨M,rfl⟩:=bZ j;refine Option.isSome_iff_exists.1 ?_;simp[xX,D.cZ]
theorem adz{ds:List D}(h:ds.map kd=Base.kinds .part):∃x,IA ds=some x:=by
 obtain⟨C,E,rfl,e,h⟩:=zH.1 h;obtain⟨F,G,rfl,f,h⟩:=zH.1 h;obtain⟨H,I,rfl,g,h⟩:=zH.1 h;obtain⟨J,K,rfl,i,h⟩:=zH.1 h;obtain⟨L,M,rfl,j,h⟩:=zH.1 h;obtain⟨N,O,rfl,k,h⟩:=zH.1 h;obtain⟨P,Q,rfl,l,h⟩:=zH.1 h;obtain⟨R,S,rfl,m,h⟩:=zH.1 h;obtain⟨T,U,rfl,n,h⟩:=zH.1 h;obtain⟨V,W,rfl,o,h⟩:=zH.1 h;obtain⟨p,q,rfl,a,h⟩:=zH.1 h;obtain⟨r,s,rfl,b,h⟩:=zH.1 h;obtain⟨t,u,rfl,c,h⟩:=zH.1 h;obtain⟨v,w,rfl,d,h⟩:=zH.1 h;obtain rfl:=List.map_eq_nil_iff.1 h;obtain⟨X,rfl⟩:=bZ e;obtain⟨Y,rfl⟩:=nO f;obtain⟨Z,rfl⟩:=bZ g;obtain⟨x3,rfl⟩:=bZ i;obtain⟨x4,rfl⟩:=nO j;obtain⟨x5,rfl⟩:=eH k;obtain⟨x6,rfl⟩:=bZ l;obtain⟨x7,rfl⟩:=bZ m;obtain⟨x8,rfl⟩:=bZ n;obtain⟨x9,rfl⟩:=nO o;obtain⟨y,rfl⟩:=eH a;obtain⟨z,rfl⟩:=eH b;obtain⟨A,rfl⟩:=eH c;obtain⟨B,rfl⟩:=bZ d;refine Option.isSome_iff_exists.1 ?_;simp[IA,D.cZ]
theorem aji{ds:List D}(h:ds.map kd=Base.kinds .rd):∃x,aaq ds=some x:=by
 obtain⟨e,f,rfl,a,h⟩:=zH.1 h;obtain⟨g,i,rfl,b,h⟩:=zH.1 h;obtain⟨j,k,rfl,c,h⟩:=zH.1 h;obtain⟨l,m,rfl,d,h⟩:=zH.1 h;obtain rfl:=List.map_eq_nil_iff.1 h;obtain⟨n,rfl⟩:=eH a;obtain⟨o,rfl⟩:=bZ b;obtain⟨p,rfl⟩:=bZ c;obtain⟨q,rfl⟩:=bZ d;refine Option.isSome_iff_exists.1 ?_;simp[aaq,D.cZ]
theorem agO{ds:List D}(h:ds.map kd=Base.kinds .psr):∃x,Qs ds=some x:=by
 obtain⟨d,e,rfl,a,h⟩:=zH.1 h;obtain⟨f,g,rfl,b,h⟩:=zH.1 h;obtain⟨i,j,rfl,c,h⟩:=zH.1 h;obtain rfl:=List.map_eq_nil_iff.1 h;obtain⟨k,rfl⟩:=eH a;obtain⟨l,rfl⟩:=bZ b;obtain⟨m,rfl⟩:=bZ c;refine Option.isSome_iff_exists.1 ?_;simp[Qs,D.cZ]
theorem Fe{t:Ty}{ds:List D}(h:ds.map kd=t.kinds):∃x,t.fC ds=some x:=by
 cases t with
 | list t=>
  obtain⟨d,r,rfl,a,h⟩:=zH.1 h;obtain rfl:=List.map_eq_nil_iff.1 h;obtain⟨xs,rfl⟩:=eH a;exact⟨xs,by simp[Ty.fC,D.cZ]⟩
 | base b=>
  cases b
  case int=>
   obtain⟨d,r,rfl,a,h⟩:=zH.1 h
   obtain rfl:=List.map_eq_nil_iff.1 h
   obtain⟨n,rfl⟩:=bZ a
   exact⟨n,rfl⟩
  case u8=>
   obtain⟨d,r,rfl,a,h⟩:=zH.1 h
   obtain rfl:=List.map_eq_nil_iff.1 h
   obtain⟨n,rfl⟩:=bZ a
   exact⟨n,rfl⟩
  case bool=>
   obtain⟨d,r,rfl,a,h⟩:=zH.1 h
   obtain rfl:=List.map_eq_nil_iff.1 h
   obtain⟨n,rfl⟩:=ae9 a
   exact⟨n,rfl⟩
  case str=>
   obtain⟨d,r,rfl,a,h⟩:=zH.1 h
   obtain rfl:=List.map_eq_nil_iff.1 h
   obtain⟨n,rfl⟩:=nO a
   exact⟨n,rfl⟩
  case origin=>exact X8 h
  case row=>exact agN h
  case val=>exact agM h
  case token=>exact aaF h
  case expr=>exact adB h
  case file=>exact adA h
  case read=>exact ady h
  case cell=>exact adD h
  case edit=>exact adC h
  case tape=>exact adx h
  case notebook=>exact QJ h
  case world=>exact aaE h
  case entry=>exact aaG h
  case engine=>exact X9 h
  case part=>exact adz h
  case rd=>exact aji h
  case psr=>exact agO h
end Go.Abs
