import Derived.Test.YtjbajpfonnnfoaaGreatDoorTypes
/- The abstract evaluator: what a function of the program computes, over typed data, by the model's own code. -/
namespace Go.Abs
noncomputable section
inductive C where
 | undef
 | d (x:D)
 | nil
 | own (k j:Nat)
 | ptr (b off:Nat)
inductive V where
 | one (c:C)
 | agg (cs:List C)
inductive AV where
 | undef
 | v (x:V)
 | elt (t:Ty) (x:t.den) (off:Nat)
 | oelt (k j i sz off:Nat)
 | cut (t:Ty) (len n k1 k2:Nat)
 | seg (k:Nat)
 | pre (k j n:Nat)
 | suf (t:Ty) (k j m:Nat)
 | tup (vs:List V)
inductive O where
 | dead
 | own (t:Ty) (xs:List t.den) (deep m:Bool)
 | ro (t:Ty) (xs:List t.den)
 | tree (t:Ty) (xs:List t.den)
 | part (t:Ty) (xs:List t.den) (i:Nat)
 | seg (t:Ty) (xs:List t.den)
 | hole (t:Ty) (xs:List t.den) (i q:Nat)
structure St where
 tmps:List AV
 boxes:List (Option (List C))
 owns:List (List O)
inductive W where
 | t (i:Nat) (v:AV)
 | b (i:Nat) (cs:List C)
 | o (k:Nat) (os:List O)
 | upd (k j:Nat) (x:O)
 | ro (k j:Nat)
 | nomut (k j:Nat)
def St.iM(S:St)(i:Nat):AV:=S.tmps.getD i .undef
def St.fJ(S:St)(i:Nat):Option (List C):=S.boxes.getD i none
def St.aI(S:St)(k:Nat):List O:=S.owns.getD k []
def St.iV(S:St)(i:Nat)(v:AV):St:={ S with tmps:=S.tmps.set i v }
def St.setB(S:St)(i:Nat)(v:Option (List C)):St:={ S with boxes:=S.boxes.set i v }
def St.bI(S:St)(i:Nat)(v:List O):St:={ S with owns:=S.owns.set i v }
def O.Ce:O->O
 | .own t xs _ _=>.ro t xs
 | .tree t xs=>.ro t xs
 | o=>o
def O.Ag:O->O
 | .own t xs deep _=>.own t xs deep false
 | .tree t xs=>.own t xs true false
 | o=>o
def O.tH:O->O
 | .tree t xs=>.own t xs true true
 | o=>o
def O.dY:O->O
 | .tree t xs=>.own t xs true true
 | .part t xs _=>.own t xs true true
 | .seg t xs=>.own t xs true true
 | .hole t xs _ _=>.own t xs true true
 | o=>o
def aZ(os:List O)(j:Nat):O:=os.getD j .dead
def St.put(S:St):W->St
 | .t i v=>S.iV i v
 | .b i cs=>S.setB i (some cs)
 | .o k os=>S.bI k os
 | .upd k j x=>S.bI k ((S.aI k).set j x)
 | .ro k j=>S.bI k ((S.aI k).set j (aZ (S.aI k) j).Ce)
 | .nomut k j=>S.bI k ((S.aI k).set j (aZ (S.aI k) j).Ag)
def St.puts(S:St):List W->St
 | []=>S
 | x::r=>(S.put x).puts r
inductive L where
 | t (i:Nat)
 | b (i:Nat)
 | o (k:Nat)
 deriving DecidableEq
def W.loc:W->L
 | .t i _=>.t i
 | .b i _=>.b i
 | .o k _ | .upd k _ _ | .ro k _ | .nomut k _=>.o k
inductive Rd(α:Type):Type 1 where
 | ret (a:α)
 | fail
 | gT (i:Nat) (f:AV->Rd α)
 | gB (i:Nat) (f:Option (List C)->Rd α)
 | gO (k:Nat) (f:List O->Rd α)
 | gN (f:Nat->Rd α)
 | opt {β:Type} (o:Option β) (f:β->Rd α)
 | fk (b:Bool) (p q:Rd α)
def Rd.bind{α β:Type}:Rd α->(α->Rd β)->Rd β
 | .ret a,g=>g a
 | .fail,_=>.fail
 | .gT i f,g=>.gT i fun x=>(f x).bind g
 | .gB i f,g=>.gB i fun x=>(f x).bind g
 | .gO i f,g=>.gO i fun x=>(f x).bind g
 | .gN f,g=>.gN fun x=>(f x).bind g
 | .opt o f,g=>.opt o fun x=>(f x).bind g
 | .fk b p q,g=>.fk b (p.bind g) (q.bind g)
def Rd.runK{α ρ:Type}:Rd α->St->(α->Option ρ)->Option ρ
 | .ret a,_,k=>k a
 | .fail,_,_=>none
 | .gT i f,S,k=>(f (S.iM i)).runK S k
 | .gB i f,S,k=>(f (S.fJ i)).runK S k
 | .gO i f,S,k=>(f (S.aI i)).runK S k
 | .gN f,S,k=>(f S.tmps.length).runK S k
 | .opt o f,S,k=>o.bind fun x=>(f x).runK S k
 | .fk b p q,S,k=>cond b (p.runK S k) (q.runK S k)
def Rd.Uo{α ρ:Type}:Rd α->St->List L->(α->List L->Option ρ)->Option ρ
 | .ret a,_,l,k=>k a l
 | .fail,_,_,_=>none
 | .gT i f,S,l,k=>(f (S.iM i)).Uo S (.t i::l) k
 | .gB i f,S,l,k=>(f (S.fJ i)).Uo S (.b i::l) k
 | .gO i f,S,l,k=>(f (S.aI i)).Uo S (.o i::l) k
 | .gN f,S,l,k=>(f S.tmps.length).Uo S l k
 | .opt o f,S,l,k=>o.bind fun x=>(f x).Uo S l k
 | .fk b p q,S,l,k=>cond b (p.Uo S l k) (q.Uo S l k)
def Rd.val{α:Type}:Rd α->St->Option α
 | .ret a,_=>some a
 | .fail,_=>none
 | .gT i f,S=>(f (S.iM i)).val S
 | .gB i f,S=>(f (S.fJ i)).val S
 | .gO i f,S=>(f (S.aI i)).val S
 | .gN f,S=>(f S.tmps.length).val S
 | .opt o f,S=>o.bind fun x=>(f x).val S
 | .fk b p q,S=>cond b (p.val S) (q.val S)
inductive Kd where
 | int (k:IntKind)
 | bool
 | str
 | list (t:Ty)
 deriving DecidableEq
def kd:D->Kd
 | .int k _=>.int k
 | .bool _=>.bool
 | .str _=>.str
 | .list t _=>.list t
structure TT where
 shape:List (Nat×Bool×Nat)
 zero:List (Nat×List C)
 fields:List (Nat×List (Nat×Bool×Nat))
 elem:List (Nat×Ty)
 ints:List (Nat×IntKind)
 strs:List Nat
 bools:List Nat
 eqs:List (Nat×List Kd)
structure Sh where
 agg:Bool
 t:Ty
abbrev Tup:List Sh->Type
 | []=>Unit
 | [s]=>s.t.den
 | s::r=>s.t.den×Tup r
structure Fsp where
 fid:Nat
 ps:List Sh
 rs:List Sh
 ex:Bool
 sh:Bool:=false
 fn:Tup ps->Option (Tup rs)
structure Msp where
 fid:Nat
 sh:Sh
 fn:sh.t.den->Int->Option (sh.t.den×Int)
structure Srt where
 fid:Nat
 g:Nat
 T:Nat
 t:Ty
 fn:List t.den->Option (List t.den)
structure Isp where
 fid:Nat
 t:Ty
 fn:List t.den->Option (List t.den)
structure Psp where
 fid:Nat
 n:Nat
 tm:List (Int⊕Nat)
structure Ksp where
 fid:Nat
 c:Sh
 n:Nat
 fn:c.t.den->Option (c.t.den×Bool)
structure Env where
 tt:TT
 fs:List Fsp
 ms:List Msp:=[]
 bs:List Fsp:=[]
 ns:List Fsp:=[]
 ss:List Fsp:=[]
 so:List Srt:=[]
 trees:Bool:=false
 pre:List (Nat×List (Nat×Nat)):=[]
 cuts:List (Nat×Nat×Nat×Nat×Nat):=[]
 ad5:List Nat:=[]
 is:List Isp:=[]
 hols:List Nat:=[]
 ma:Bool:=false
 mb:List (Fsp×Nat):=[]
 ps:List Psp:=[]
 ks:List Ksp:=[]
 trs:List Nat:=[]
def mJ:D->Option Ty
 | .list t _=>some t
 | _=>none
def Ty.tys(t:Ty):List (Option Ty):=(t.cells t.zero).map mJ
def Ty.flat(t:Ty):Bool:=t.tys.all (·.isNone)
def cD(ty:Option Ty):C->Rd D
 | .d x=>.ret x
 | .nil=>match ty with
  | some t=>.ret (.list t [])
  | none=>.fail
 | .own k j=>.gO k fun os=>match aZ os j with
  | .own t xs _ _=>.ret (.list t xs)
  | .ro t xs=>.ret (.list t xs)
  | .tree t xs=>.ret (.list t xs)
  | .part _ _ _=>.fail
  | .seg _ _=>.fail
  | .hole _ _ _ _=>.fail
  | .dead=>.fail
 | _=>.fail
def cDs:List (Option Ty)->List C->Rd (List D)
 | ty::tys,c::cs=>(cD ty c).bind fun d=>(cDs tys cs).bind fun ds=>.ret (d::ds)
 | _,_=>.ret []
def V.cells:V->List C
 | .one c=>[c]
 | .agg cs=>cs
def V.isAgg:V->Bool
 | .one _=>false
 | .agg _=>true
def vT(s:Sh)(v:V):Rd s.t.den:=
 if v.isAgg=s.agg/\v.cells.length=s.t.size then (cDs s.t.tys v.cells).bind fun ds=>.opt (s.t.iw ds) .ret else .fail
def avV:AV->Rd V
 | .v x=>.ret x
 | _=>.fail
def vTs:(ss:List Sh)->List V->Rd (Tup ss)
 | [],[]=>.ret ()
 | [s],[v]=>vT s v
 | s::s'::r,v::vs=>(vT s v).bind fun x=>(vTs (s'::r) vs).bind fun y=>.ret (x,y)
 | _,_=>.fail
def aku:Value->Option C
 | .int k n=>some (.d (.int k n))
 | .bool b=>some (.d (.bool b))
 | .string s=>some (.d (.str s.data.toList))
 | .slice none 0 0=>some .nil
 | _=>none
def dM:Operand->Rd AV
 | .tmp t=>.gT t .ret
 | .const v=>match aku v with
  | some c=>.ret (.v (.one c))
  | none=>.ret .undef
 | _=>.fail
def lk{α:Type}(l:List (Nat×α))(k:Nat):Option α:=(l.find? fun x=>x.1==k).map (·.2)
def seg{α:Type}(cs:List α)(off n:Nat):List α:=(cs.drop off).take n
def mkV(agg:Bool)(cs:List C):Option V:=
 match agg,cs with
 | true,cs=>some (.agg cs)
 | false,[c]=>some (.one c)
 | false,_=>none
def ajw:C->AV
 | .undef=>.undef
 | c=>.v (.one c)
def Jz:V->AV
 | .one c=>ajw c
 | v=>.v v
def dN{α:Type}(cs:List α)(off:Nat)(vs:List α):List α:=cs.take off++vs++cs.drop (off+vs.length)
def idx{α:Type}(xs:List α)(n:Int):Option α:=if 0<=n then xs[n.toNat]? else none
def gd(n:Nat):Option Unit:=if n<=34359738368 then some ()else none
def mk(n:Int):Option Nat:=if 0<=n/\n<=34359738368 then some n.toNat else none
def binI(op:BinOp)(k:IntKind)(a b:Int):Option D:=
 match op with
 | .add=>some (.int k (k.wrap (a+b)))
 | .sub=>some (.int k (k.wrap (a-b)))
 | .mul=>some (.int k (k.wrap (a*b)))
 | .eql=>some (.bool (a==b))
 | .neq=>some (.bool (a != b))
 | .lss=>some (.bool (a<b))
 | .leq=>some (.bool (a<=b))
 | .gtr=>some (.bool (a>b))
 | .geq=>some (.bool (a>=b))
 | .and=>some (.int k (k.wrap ((BitVec.ofInt k.bits a &&& BitVec.ofInt k.bits b).toNat:Int)))
 | .or=>some (.int k (k.wrap ((BitVec.ofInt k.bits a ||| BitVec.ofInt k.bits b).toNat:Int)))
 | .xor=>some (.int k (k.wrap ((BitVec.ofInt k.bits a ^^^ BitVec.ofInt k.bits b).toNat:Int)))
 | _=>none
def quoI(k:IntKind)(a b:Int):Option Int:=if b=0 then none else some (k.wrap (a.tdiv b))
def Qe(a b:Int):Option Int:=if b=0 then none else some (a.tmod b)
def shlI(k:IntKind)(a b:Int):Option Int:=if b<0 then none else some (k.wrap (a*2 ^ min b.toNat k.bits))
def shrI(k:IntKind)(a b:Int):Option Int:=if b<0 then none else some (a.fdiv (2 ^ min b.toNat k.bits))
def binS(op:BinOp)(a b:Str):Option D:=
 match op with
 | .eql=>some (.bool (a==b))
 | .neq=>some (.bool (!(a==b)))
 | .lss=>some (.bool (Op.bytesLess a b))
 | .leq=>some (.bool (Op.bytesLess a b||a==b))
 | .gtr=>some (.bool (!(Op.bytesLess a b||a==b)))
 | .geq=>some (.bool (!(Op.bytesLess a b)))
 | _=>none
def binB(op:BinOp)(a b:Bool):Option D:=
 match op with
 | .eql=>some (.bool (a==b))
 | .neq=>some (.bool (!(a==b)))
 | _=>none
def isBool:D->Bool
 | .bool _=>true
 | _=>false
def akv(op:BinOp):D->D->Option D
 | .int k a,.int k' b=>if k=k' then binI op k a b else none
 | .str a,.str b=>binS op a b
 | .bool a,.bool b=>binB op a b
 | _,_=>none
def avD:AV->Rd D
 | .v (.one (.d x))=>.ret x
 | _=>.fail
def JA(a:AV):Rd Int:=(avD a).bind fun
 | .int _ n=>.ret n
 | _=>.fail
def cKd(k:Kd):C->Option D
 | .d x=>if kd x=k then some x else none
 | _=>none
def X5:List Kd->List C->Option (List D)
 | [],[]=>some []
 | k::ks,c::cs=>match cKd k c with
  | some d=>match X5 ks cs with
   | some ds=>some (d::ds)
   | none=>none
  | none=>none
 | _,_=>none
def eqD:D->D->Bool
 | .int _ a,.int _ b=>a==b
 | .bool a,.bool b=>a==b
 | .str a,.str b=>a==b
 | _,_=>false
def CG:List D->List D->Bool
 | [d],[e]=>eqD d e
 | d::ds,e::es=>eqD d e&&CG ds es
 | _,_=>true
def aN:List C->List (Nat×Nat)
 | []=>[]
 | .own k j::r=>(k,j)::aN r
 | _::r=>aN r
def C9:C->Rd Bool
 | .d (.list _ _)=>.ret false
 | .d _=>.ret true
 | .nil=>.ret true
 | .own k j=>.gO k fun os=>match aZ os j with
  | .own _ _ deep _=>.ret deep
  | .tree _ _=>.ret true
  | _=>.ret false
 | _=>.fail
def vI:List C->Rd Bool
 | []=>.ret true
 | c::r=>(C9 c).bind fun b=>(vI r).bind fun b'=>.ret (b&&b')
def fresh(d:Nat)(os:List O):Rd (List W):=.gO d fun
 | []=>.ret [.o d os]
 | _=>.fail
def yh(d:Nat)(cs:List C):Rd (List W):=if d=0 then .fail else .gB d fun
 | none=>.ret [.b d cs,.t d (.v (.one (.ptr d 0)))]
 | some _=>.fail
def fG(o:Oper)(v:AV):List W:=match o.dst with
 | some d=>[.t d v]
 | none=>[]
def Nr:List (Nat×Operand)->Nat->Rd (List V)
 | [],_=>.ret []
 | (i,x)::r,n=>if i=n then (dM x).bind fun a=>(avV a).bind fun v=>(Nr r (n+1)).bind fun vs=>.ret (v::vs)else .fail
def vEl(t:Ty)(v:V):Rd t.den:=
 if v.cells.length=t.size then (cDs t.tys v.cells).bind fun ds=>.opt (t.iw ds) .ret else .fail
def abd(t:Ty):List V->Rd (List t.den)
 | []=>.ret []
 | v::r=>(vEl t v).bind fun x=>(abd t r).bind fun xs=>.ret (x::xs)
def mkV'(agg:Bool)(cs:List C):V:=
 match agg,cs with
 | false,[c]=>.one c
 | _,cs=>.agg cs
def abT(d:Nat)(ex:Bool)(i:Nat):D->C
 | .list t xs=>if ex then .own d i else .d (.list t xs)
 | x=>.d x
def Jh(d:Nat)(ex:Bool):Nat->List D->List C
 | _,[]=>[]
 | i,x::r=>abT d ex i x::Jh d ex (i+1) r
def pW(d:Nat)(ex:Bool):Nat->(ss:List Sh)->Tup ss->List V
 | _,[],_=>[]
 | n,[s],y=>[mkV' s.agg (Jh d ex n (s.t.cells y))]
 | n,s::s'::r,y=>mkV' s.agg (Jh d ex n (s.t.cells y.1))::pW d ex (n+s.t.size) (s'::r) y.2
def dD:(ss:List Sh)->Tup ss->List D
 | [],_=>[]
 | [s],y=>s.t.cells y
 | s::s'::r,y=>s.t.cells y.1++dD (s'::r) y.2
def isList:D->Bool
 | .list _ _=>true
 | _=>false
def Fe(tr:Bool)(ds:List D):List O:=ds.map fun
 | .list t xs=>if tr then .tree t xs else .own t xs true true
 | _=>.dead
def y8:List D->List C->Rd (List W)
 | [],[]=>.ret []
 | d::ds,c::cs=>(y8 ds cs).bind fun ws=>match c with
  | .own k j=>.gO k fun os=>match aZ os j,d with
   | .tree _ _,.list t xs=>.ret (.upd k j (.tree t xs)::ws)
   | _,_=>.fail
  | .nil=>.ret ws
  | .d (.list _ _)=>.fail
  | .d _=>.ret ws
  | _=>.fail
 | _,_=>.fail
def qF:List V->AV
 | [v]=>Jz v
 | vs=>.tup vs
def vH:List Operand->Rd (List V)
 | []=>.ret []
 | x::r=>(dM x).bind fun a=>(avV a).bind fun v=>(vH r).bind fun vs=>.ret (v::vs)
def nodupB(l:List (Nat×Nat)):Bool:=
 match l with
 | []=>true
 | x::r=>!(r.any fun y=>y.1==x.1&&y.2==x.2)&&nodupB r
def listOf(t:Ty)(c:C):Rd (List t.den):=(cD (some t) c).bind fun d=>.opt (d.dh t) .ret
def bytesOf(xs:List Int):Str:=xs.map fun n=>UInt8.ofNat n.toNat
def NF(s:Str):List (Ty.base .u8).den:=s.map fun c=>(c.toNat:Int)
def jY:{c:Sh}->{rs:List Sh}->Tup (c::rs)->c.t.den
 | _,[],x=>x
 | _,_::_,x=>x.1
def yJ:{c:Sh}->{rs:List Sh}->Tup (c::rs)->Tup rs
 | _,[],_=>()
 | _,_::_,x=>x.2
def ab5(ds:List D):List O:=ds.map fun
 | .list t xs=>.own t xs false true
 | _=>.dead
def aax(o:Oper)(sh:Bool)(rs:List Sh)(y:Tup rs):Rd (List W):=match o.dst with
 | none=>.ret []
 | some d=>if (sh&&(dD rs y).any isList)=true then
   (fresh d (ab5 (dD rs y))).bind fun ws=>.ret (ws++[.t d (qF (pW d true 0 rs y))])
  else .ret [.t d (qF (pW d false 0 rs y))]
def aff(o:Oper)(tr:Bool)(rs:List Sh)(y:Tup rs):Rd (List W):=match o.dst with
 | none=>.ret []
 | some d=>if (dD rs y).any isList=true then
   (fresh d (Fe tr (dD rs y))).bind fun ws=>.ret (ws++[.t d (qF (pW d true 0 rs y))])
  else .ret [.t d (qF (pW d true 0 rs y))]
def afC(o:Oper)(ex tr sh:Bool)(b n:Nat)(keys:List (Nat×Nat)):(rs:List Sh)->Tup rs->Rd (List W)
 | [],_=>.fail
 | c::rs,y=>if c.agg=true then if c.t.size=n then if nodupB keys then
   (bif ex then aff o tr rs (yJ y)else aax o sh rs (yJ y)).bind fun ws=>.ret (keys.map (fun q=>W.nomut q.1 q.2)++(.b b ((c.t.cells (jY y)).map .d)::ws))
  else .fail else .fail else .fail
def akn(E:Env)(o:Oper)(c:Call)(f:Nat):Rd (List W):=
 match E.is.find? (fun s=>s.fid==f),c.args.toList with
 | some s,[x]=>(dM x).bind fun ax=>(avV ax).bind fun
  | .one (.own k j)=>.gO k fun os=>match aZ os j with
   | .own t xs deep true=>if h:t=s.t then .opt (s.fn (h▸xs)) fun ys=>.ret (.upd k j (.own s.t ys deep true)::fG o (.tup []))else .fail
   | _=>.fail
  | _=>.fail
 | _,_=>.fail
def tmC(cs:List C):List (Int⊕Nat)->Option (List C)
 | []=>some []
 | .inl n::r=>(tmC cs r).bind fun q=>some (.d (.int .i64 n)::q)
 | .inr i::r=>match cs[i]? with
  | some c=>(tmC cs r).bind fun q=>some (c::q)
  | none=>none
def agR:List V->Option (List C)
 | []=>some []
 | .one c::r=>(agR r).bind fun q=>some (c::q)
 | _::_=>none
def afj(E:Env)(o:Oper)(c:Call)(f:Nat):Rd (List W):=
 match E.ps.find? (fun s=>s.fid==f)with
 | some s=>(vH c.args.toList).bind fun vs=>match agR vs with
  | some cs=>if cs.length=s.n then match tmC cs s.tm with
   | some q=>.ret (fG o (.v (.agg q)))
   | none=>.fail
   else .fail
  | none=>.fail
 | none=>match E.ks.find? (fun s=>s.fid==f),c.args.toList with
  | some s,[x,y,z]=>(dM x).bind fun
   | .v (.one (.ptr b 0))=>.gB b fun
    | some cs=>if aN cs=[]/\s.c.agg=true/\s.c.t.size=cs.length then
      (dM y).bind fun
      | .v (.agg cy)=>(dM z).bind fun
       | .v (.agg cz)=>if cy.length=s.n/\cz.length=s.n then (vTs [s.c] [.agg cs]).bind fun q=>.opt (s.fn q) fun r=>
         .fk r.2 (.ret (.b b ((s.c.t.cells r.1).map .d)::fG o (.v (.agg cy)))) (.ret (.b b ((s.c.t.cells r.1).map .d)::fG o (.v (.agg cz))))
        else .fail
       | _=>.fail
      | _=>.fail
     else .fail
    | none=>.fail
   | _=>.fail
  | _,_=>akn E o c f
def akm(E:Env)(o:Oper)(c:Call)(f:Nat):Rd (List W):=
 match E.ss.find? (fun s=>s.fid==f)with
 | some s=>(vH c.args.toList).bind fun vs=>(vTs s.ps vs).bind fun z=>.opt (s.fn z) fun y=>if nodupB (aN (vs.flatMap V.cells))then
   (aax o true s.rs y).bind fun ws=>.ret ((aN (vs.flatMap V.cells)).map (fun q=>W.nomut q.1 q.2)++ws)
  else .fail
 | none=>afj E o c f
def ako(E:Env)(o:Oper)(c:Call)(f:Nat):Rd (List W):=
 match E.bs.find? (fun s=>s.fid==f),c.args.toList with
 | some s,x::xs=>(dM x).bind fun
  | .v (.one (.ptr b 0))=>.gB b fun
   | some cs=>(vH xs).bind fun vs=>(vTs s.ps (.agg cs::vs)).bind fun z=>.opt (s.fn z) fun y=>afC o s.ex E.trees s.sh b cs.length (aN ((V.agg cs::vs).flatMap V.cells)) s.rs y
   | none=>.fail
  | _=>.fail
 | _,_=>match E.ns.find? (fun s=>s.fid==f),o.dst with
  | some s,some d=>(vH c.args.toList).bind fun vs=>(vTs s.ps vs).bind fun z=>.opt (s.fn z) fun y=>if nodupB (aN (vs.flatMap V.cells))then
    (yh d ((dD s.rs y).map .d)).bind fun ws=>.ret ((aN (vs.flatMap V.cells)).map (fun q=>W.nomut q.1 q.2)++ws)
   else .fail
  | _,_=>akm E o c f
def ahR(ap:Nat)(cs:List C)(keys:List (Nat×Nat)):Rd (List W):=match cs[ap]? with
 | some (.own k j)=>if nodupB ((k,j)::keys)then .gO k fun os=>match aZ os j with
   | .own _ _ _ _=>.ret [.upd k j .dead]
   | _=>.fail
  else .fail
 | some .nil=>if nodupB keys then .ret []else .fail
 | _=>.fail
def Zl(o:Oper)(b ap:Nat)(cs:List C)(keys:List (Nat×Nat)):(rs:List Sh)->Tup rs->Rd (List W)
 | [],_=>.fail
 | c::rs,y=>if c.agg=true/\c.t.size=cs.length then match o.dst,(c.t.cells (jY y))[ap]? with
   | some d,some (.list t ys)=>(ahR ap cs keys).bind fun w1=>(fresh d [.own t ys false false]).bind fun w2=>
    .gN fun N=>if d<N then .ret (keys.map (fun q=>W.nomut q.1 q.2)++(w1++(w2++[.b b (((c.t.cells (jY y)).map .d).set ap (.own d 0)),.t d (qF (pW d false 0 rs (yJ y)))])))else .fail
   | _,_=>.fail
  else .fail
def afk(E:Env)(o:Oper)(c:Call)(f:Nat):Rd (List W):=
 match E.mb.find? (fun s=>s.1.fid==f),c.args.toList with
 | some s,x::xs=>if E.ma=true then (dM x).bind fun
  | .v (.one (.ptr b 0))=>.gB b fun
   | some cs=>(vH xs).bind fun vs=>(vTs s.1.ps (.agg cs::vs)).bind fun z=>.opt (s.1.fn z) fun y=>Zl o b s.2 cs (aN (cs.set s.2 .nil++vs.flatMap V.cells)) s.1.rs y
   | none=>.fail
  | _=>.fail
  else .fail
 | _,_=>ako E o c f
def Tt(o:Oper)(agg:Bool)(n k j i sz off:Nat)(t:Ty)(xs:List t.den)(m:Nat):Rd (List W):=
 match o.dst with
 | some d=>if agg=true/\off=0/\n=t.size/\t.size=sz then .opt (if i=m then xs[i]? else none) fun x=>
   (fresh d (Fe true (t.cells x))).bind fun ws=>.ret (.upd k j (.part t xs (m+1))::(ws++[.t d (.v (.agg (Jh d true 0 (t.cells x))))]))
  else .fail
 | none=>.fail
def aeS(E:Env)(o:Oper):Bool:=match o.dst with
 | some d=>E.hols.contains d
 | none=>false
def Vh(o:Oper)(agg:Bool)(n k j i sz off:Nat)(t:Ty)(xs:List t.den)(dm:Bool):Rd (List W):=
 match o.dst with
 | some d=>if agg=false/\n=1/\t.size=sz/\dm=true then .opt (xs[i]?) fun x=>match (t.cells x)[off]? with
   | some (.list a ys)=>if a.flat=true then (fresh d [.own a ys true true]).bind fun ws=>.ret (.upd k j (.hole t xs i off)::(ws++[.t d (.v (.one (.own d 0)))]))else .fail
   | _=>.fail
  else .fail
 | none=>.fail
def Vq(o:Oper)(v:V)(n k j i sz off:Nat)(t:Ty)(xs:List t.den)(i0 q0:Nat):Rd (List W):=match v with
 | .one (.own a b)=>.gO a fun c=>match aZ c b with
  | .own d ys true true=>.opt (xs[i]?) fun x=>.opt (if i=i0/\off=q0 then some ()else none) fun _=>if t.size=sz/\n=1/\off<t.size/\d.flat=true/\nodupB [(k,j),(a,b)]=true then
    .opt (t.iw (dN (t.cells x) off [.list d ys])) fun y=>.ret (.upd a b .dead :: .upd k j (.tree t (xs.set i y))::fG o (.tup []))
   else .fail
  | _=>.fail
 | _=>.fail
def cutAt{α:Type}(xs:List α)(n:Int):Option Nat:=if 0<=n/\n<=xs.length then some n.toNat else none
def ajt(E:Env)(o:Oper):Bool:=match o.dst with
 | some d=>E.ad5.contains d||E.trs.contains d
 | none=>false
def aeR(E:Env)(o:Oper):Option Nat:=match o.dst with
 | some d=>if E.trs.contains d then some d else none
 | none=>none
def ad6(E:Env)(o:Oper)(T k j:Nat)(lo a:Option Int):Rd (List W):=match lo,a with
 | none,some h=>.gO k fun os=>match aZ os j with
  | .own t xs dp true=>if (lk E.tt.elem T)=some t then .opt (cutAt xs h) fun m=>match aeR E o with
   | some d=>(fresh d [.own t (xs.take m) dp true]).bind fun ws=>.ret (.upd k j .dead::ws++[.t d (.v (.one (.own d 0)))])
   | none=>.ret (fG o (.pre k j m))
   else .fail
  | _=>.fail
 | some l,none=>.gO k fun os=>match aZ os j with
  | .own t xs _ _=>if (lk E.tt.elem T)=some t then .opt (cutAt xs l) fun m=>.ret (fG o (.suf t k j m))else .fail
  | _=>.fail
 | _,_=>.fail
def adl(d:Nat)(t:Ty)(ax:AV)(f:Ty)(a b c:Nat):Rd (List W):=.gO a fun os=>match aZ os b with
 | .own g ys _ _=>if e:g=t then if f=t/\t.flat=true then match ax with
  | .v (.one (.own k j))=>.gO k fun os=>match aZ os j with
   | .own t' xs deep m=>if h:t'=t then if nodupB [(k,j),(a,b)]=true then .opt (gd ((h▸xs:List t.den).length+((e▸ys:List t.den).drop c).length)) fun _=>
     (fresh d [.own t ((h▸xs:List t.den)++(e▸ys:List t.den).drop c) deep m]).bind fun ws=>.ret (.upd k j .dead::ws++[.t d (.v (.one (.own d 0)))])
    else .fail
    else .fail
   | _=>.fail
  | _=>.fail
  else .fail
  else .fail
 | _=>.fail
def adw(d:Nat)(t:Ty)(ax:AV)(b:Nat):Rd (List W):=.gO b fun os=>match aZ os 0 with
 | .seg c ys=>if a:c=t then match ax with
  | .v (.one .nil)=>.opt (gd (a▸ys:List t.den).length) fun _=>(fresh d [.own t (a▸ys:List t.den) true true]).bind fun ws=>.ret (.upd b 0 .dead::ws++[.t d (.v (.one (.own d 0)))])
  | .v (.one (.own k j))=>.gO k fun os=>match aZ os j with
   | .own t' xs deep m=>if h:t'=t then .opt (gd ((h▸xs:List t.den).length+(a▸ys:List t.den).length)) fun _=>
     (fresh d [.own t ((h▸xs:List t.den)++(a▸ys:List t.den)) deep m]).bind fun ws=>.ret (.upd k j .dead :: .upd b 0 .dead::ws++[.t d (.v (.one (.own d 0)))])
    else .fail
   | _=>.fail
  | _=>.fail
  else .fail
 | _=>.fail
def C.plain:C->Bool
 | .d (.list _ _)=>false
 | .d _=>true
 | _=>false
def eff(E:Env)(o:Oper):Rd (List W):=
 match o.op with
 | .move x | .assign x=>(dM x).bind fun a=>.ret (fG o a)
 | .pick c a b=>(dM c).bind fun c=>(avD c).bind fun
  | .bool true=>(dM a).bind fun v=>.ret (fG o v)
  | .bool false=>(dM b).bind fun v=>.ret (fG o v)
  | _=>.fail
 | .alloc e=>match o.dst,lk E.tt.zero e with
  | some d,some cs=>yh d cs
  | _,_=>.fail
 | .box _ x=>match o.dst with
  | some d=>(dM x).bind fun a=>(avV a).bind fun v=>yh d v.cells
  | none=>.fail
 | .load t p=>match lk E.tt.shape t with
  | none=>.fail
  | some (agg,n)=>(dM p).bind fun
   | .v (.one (.ptr b off))=>.gB b fun
    | some cs=>.opt (mkV agg (seg cs off n)) fun v=>if (seg cs off n).length=n then .ret (fG o (Jz v))else .fail
    | none=>.fail
   | .elt t x off=>.opt (mkV agg ((seg (t.cells x) off n).map .d)) fun v=>if (seg (t.cells x) off n).length=n then .ret (fG o (Jz v))else .fail
   | .oelt k j i sz off=>.gO k fun os=>match aZ os j with
    | .own t xs _ _=>if t.size=sz then .opt (xs[i]?) fun x=>.opt (mkV agg ((seg (t.cells x) off n).map .d)) fun v=>if (seg (t.cells x) off n).length=n then .ret (fG o (Jz v))else .fail
     else .fail
    | .part t xs m=>Tt o agg n k j i sz off t xs m
    | .tree t xs=>Vh o agg n k j i sz off t xs (aeS E o)
    | _=>.fail
   | _=>.fail
 | .store t p x=>match lk E.tt.shape t with
  | none=>.fail
  | some (_,n)=>(dM x).bind fun a=>(avV a).bind fun v=>if v.cells.length=n then (dM p).bind fun
   | .v (.one (.ptr b off))=>.gB b fun
    | some cs=>if off+n<=cs.length/\(E.ma||b != 0||(seg cs off n).all C.plain)=true then .ret (.b b (dN cs off v.cells)::fG o (.tup []))else .fail
    | none=>.fail
   | .oelt k j i sz off=>.gO k fun os=>match aZ os j with
    | .own t xs deep true=>.opt (xs[i]?) fun x=>
     if t.size=sz/\off+n<=t.size then
      (cDs (seg t.tys off n) v.cells).bind fun ds=>(vI v.cells).bind fun dp=>.opt (t.iw (dN (t.cells x) off ds)) fun y=>
       if nodupB ((k,j)::aN v.cells)then
        .ret (((aN v.cells).map fun q=>.ro q.1 q.2)++(.upd k j (.own t (xs.set i y) (deep&&dp) true)::fG o (.tup [])))
       else .fail
     else .fail
    | .hole t xs i0 q0=>Vq o v n k j i sz off t xs i0 q0
    | _=>.fail
   | _=>.fail
   else .fail
 | .fieldAddr s p f=>match (lk E.tt.fields s).bind (·[f]?)with
  | none=>.fail
  | some (fo,_,_)=>(dM p).bind fun
   | .v (.one (.ptr b off))=>.ret (fG o (.v (.one (.ptr b (off+fo)))))
   | .elt t x off=>.ret (fG o (.elt t x (off+fo)))
   | .oelt k j i sz off=>.ret (fG o (.oelt k j i sz (off+fo)))
   | _=>.fail
 | .field s x f=>match (lk E.tt.fields s).bind (·[f]?)with
  | none=>.fail
  | some (fo,agg,n)=>(dM x).bind fun
   | .v (.agg cs)=>.opt (mkV agg (seg cs fo n)) fun v=>if (seg cs fo n).length=n then .ret (fG o (Jz v))else .fail
   | _=>.fail
 | .indexAddr T x i=>match lk E.tt.elem T with
  | none=>.fail
  | some t=>(dM x).bind fun a=>(dM i).bind fun ai=>(JA ai).bind fun n=>match a with
   | .v (.one (.d (.list t' xs)))=>if t'=t then .opt (idx xs n) fun y=>.ret (fG o (.elt t' y 0))else .fail
   | .v (.one (.own k j))=>.gO k fun os=>match aZ os j with
    | .own t' xs _ _=>if t'=t then .opt (idx xs n) fun _=>.ret (fG o (.oelt k j n.toNat t.size 0))else .fail
    | .ro t' xs=>if t'=t then .opt (idx xs n) fun y=>.ret (fG o (.elt t' y 0))else .fail
    | .part t' xs _=>if t'=t then .opt (idx xs n) fun _=>.ret (fG o (.oelt k j n.toNat t.size 0))else .fail
    | .hole t' xs _ _=>if t'=t then .opt (idx xs n) fun _=>.ret (fG o (.oelt k j n.toNat t.size 0))else .fail
    | .tree t' xs=>if t'=t then .opt (idx xs n) fun _=>if aeS E o=true then .ret (fG o (.oelt k j n.toNat t.size 0))else .ret (.upd k j (.part t' xs n.toNat)::fG o (.oelt k j n.toNat t.size 0))else .fail
    | _=>.fail
   | _=>.fail
 | .index T x i=>if E.tt.strs.contains T then (dM x).bind fun a=>(avD a).bind fun
   | .str s=>(dM i).bind fun ai=>(JA ai).bind fun n=>.opt (idx s n) fun c=>.ret (fG o (.v (.one (.d (.int .u8 c.toNat)))))
   | _=>.fail
  else .fail
 | .extract x i=>(dM x).bind fun
  | .tup vs=>.opt (vs[i]?) fun v=>.ret (fG o (Jz v))
  | _=>.fail
 | .binOp op T x y _=>(dM x).bind fun a=>(dM y).bind fun b=>match a,b with
  | .v (.agg cs),.v (.agg cs')=>match lk E.tt.eqs T with
   | none=>.fail
   | some ks=>match X5 ks cs,X5 ks cs' with
    | some ds,some ds'=>match op with
     | .eql=>.ret (fG o (.v (.one (.d (.bool (CG ds ds'))))))
     | .neq=>.ret (fG o (.v (.one (.d (.bool (!(CG ds ds')))))))
     | _=>.fail
    | _,_=>.fail
  | a,b=>(avD a).bind fun dx=>(avD b).bind fun dy=>match op,dx,dy with
   | .quo,.int k p,.int k' q=>if k=k' then .opt (quoI k p q) fun z=>.ret (fG o (.v (.one (.d (.int k z)))))else .fail
   | .rem,.int k p,.int k' q=>if k=k' then .opt (Qe p q) fun z=>.ret (fG o (.v (.one (.d (.int k z)))))else .fail
   | .shl,.int k p,.int _ q=>.opt (shlI k p q) fun z=>.ret (fG o (.v (.one (.d (.int k z)))))
   | .shr,.int k p,.int _ q=>.opt (shrI k p q) fun z=>.ret (fG o (.v (.one (.d (.int k z)))))
   | .add,.str p,.str q=>.opt (gd (p.length+q.length)) fun _=>.ret (fG o (.v (.one (.d (.str (p++q))))))
   | op,dx,dy=>if isBool dx->E.tt.bools.contains T then .opt (akv op dx dy) fun z=>.ret (fG o (.v (.one (.d z))))else .fail
 | .unOp op _ x=>(dM x).bind fun a=>(avD a).bind fun
  | .bool b=>match op with
   | .not=>.ret (fG o (.v (.one (.d (.bool (!b))))))
   | _=>.fail
  | .int k n=>match op with
   | .neg=>.ret (fG o (.v (.one (.d (.int k (k.wrap (0-n)))))))
   | _=>.fail
  | _=>.fail
 | .convert w T x=>(dM x).bind fun a=>match lk E.tt.ints w,lk E.tt.ints T with
  | some _,some k=>(JA a).bind fun n=>.ret (fG o (.v (.one (.d (.int k (k.wrap n))))))
  | _,_=>if E.tt.strs.contains T=true/\lk E.tt.elem w=some (.base .u8)then match a with
    | .v (.one c)=>(listOf (.base .u8) c).bind fun xs=>.ret (fG o (.v (.one (.d (.str (bytesOf xs))))))
    | _=>.fail
   else .fail
 | .nilCheck x=>(dM x).bind fun
  | .v (.one (.ptr b off))=>.ret (fG o (.v (.one (.ptr b off))))
  | _=>.fail
 | .build T parts=>match lk E.tt.zero T,lk E.tt.fields T with
  | some z,some fs=>(fillA fs parts.toList z).bind fun cs=>.ret (fG o (.v (.agg cs)))
  | _,_=>.fail
 | .buildSlice T n parts=>match o.dst,lk E.tt.elem T with
  | some d,some t=>(Nr parts.toList 0).bind fun vs=>if vs.length=n/\n*t.size<=16777216 then
    (abd t vs).bind fun xs=>(vI (vs.flatMap V.cells)).bind fun dp=>
     if nodupB (aN (vs.flatMap V.cells))then
      (fresh d [.own t xs dp true]).bind fun ws=>.ret (((aN (vs.flatMap V.cells)).map fun q=>.ro q.1 q.2)++ws++[.t d (.v (.one (.own d 0)))])
     else .fail
   else .fail
  | _,_=>.fail
 | .makeSlice T l c=>match o.dst,lk E.tt.elem T with
  | some d,some t=>match l,c with
   | .tmp i,.tmp j=>if i=j then (dM l).bind fun a=>(JA a).bind fun n=>.opt (mk n) fun m=>
     (fresh d [.own t (List.replicate m t.zero) true true]).bind fun ws=>.ret (ws++[.t d (.v (.one (.own d 0)))])
    else .fail
   | _,_=>.fail
  | _,_=>.fail
 | .call c=>match c.callee with
  | .builtin .len=>match c.args.toList,c.argTypes.toList with
   | [x],[T]=>(dM x).bind fun
    | .v (.one (.d (.str s)))=>if E.tt.strs.contains T then .ret (fG o (.v (.one (.d (.int .i64 s.length)))))else .fail
    | .v (.one (.d (.list _ xs)))=>if (lk E.tt.elem T).isSome then .ret (fG o (.v (.one (.d (.int .i64 xs.length)))))else .fail
    | .v (.one .nil)=>if (lk E.tt.elem T).isSome then .ret (fG o (.v (.one (.d (.int .i64 0)))))else .fail
    | .v (.one (.own k j))=>if (lk E.tt.elem T).isSome then .gO k fun os=>match aZ os j with
     | .own _ xs _ _ | .ro _ xs | .tree _ xs=>.ret (fG o (.v (.one (.d (.int .i64 xs.length)))))
     | _=>.fail
     else .fail
    | _=>.fail
   | _,_=>.fail
  | .builtin .append=>match o.dst,c.args.toList,c.argTypes.toList with
   | some d,[x,y],[T,T']=>if T=T' then match lk E.tt.elem T with
    | none=>.fail
    | some t=>(dM x).bind fun ax=>(dM y).bind fun ay=>match ay with
     | .seg u=>adw d t ax u
     | .suf A u B D=>adl d t ax A u B D
     | ay=>(avV ay).bind fun vy=>match vy with
      | .agg _=>.fail
      | .one cy=>(listOf t cy).bind fun ys=>(if t.flat then .ret true else C9 cy).bind fun dp=>match ax with
       | .v (.one .nil)=>.opt (gd ys.length) fun _=>
        (fresh d [.own t ys dp true]).bind fun ws=>.ret ((if t.flat then []else (aN [cy]).map fun q=>.ro q.1 q.2)++ws++[.t d (.v (.one (.own d 0)))])
       | .v (.one (.own k j))=>.gO k fun os=>match (aZ os j).tH with
        | .own t' xs deep m=>if h:t'=t then
          if nodupB ((k,j)::aN [cy])then
           .opt (gd ((h▸xs:List t.den).length+ys.length)) fun _=>
            (fresh d [.own t ((h▸xs:List t.den)++ys) (deep&&dp) m]).bind fun ws=>
             .ret (.upd k j .dead::(if t.flat then []else (aN [cy]).map fun q=>.ro q.1 q.2)++ws++[.t d (.v (.one (.own d 0)))])
          else .fail
         else .fail
        | _=>.fail
       | .pre k j n=>.gO k fun os=>match aZ os j with
        | .own t' xs deep true=>if h:t'=t then
          if nodupB ((k,j)::aN [cy])then
           .opt (gd (((h▸xs:List t.den).take n).length+ys.length)) fun _=>
            (fresh d [.own t ((h▸xs:List t.den).take n++ys) (deep&&dp) true]).bind fun ws=>
             .ret (.upd k j .dead::(if t.flat then []else (aN [cy]).map fun q=>.ro q.1 q.2)++ws++[.t d (.v (.one (.own d 0)))])
          else .fail
         else .fail
        | _=>.fail
       | _=>.fail
    else if lk E.tt.elem T=some (.base .u8)/\E.tt.strs.contains T'=true then (dM x).bind fun ax=>(dM y).bind fun ay=>(avD ay).bind fun
     | .str s=>match ax with
      | .v (.one .nil)=>.opt (gd (NF s).length) fun _=>
       (fresh d [.own (.base .u8) (NF s) true true]).bind fun ws=>.ret (ws++[.t d (.v (.one (.own d 0)))])
      | .v (.one (.own k j))=>.gO k fun os=>match aZ os j with
       | .own t' xs deep m=>if h:t'=.base .u8 then
         .opt (gd ((h▸xs:List (Ty.base .u8).den).length+(NF s).length)) fun _=>
          (fresh d [.own (.base .u8) ((h▸xs:List (Ty.base .u8).den)++NF s) deep m]).bind fun ws=>
           .ret (.upd k j .dead::ws++[.t d (.v (.one (.own d 0)))])
        else .fail
       | _=>.fail
      | _=>.fail
     | _=>.fail
    else .fail
   | _,_,_=>.fail
  | .builtin .max=>match c.args.toList with
   | [x,y]=>(dM x).bind fun a=>(avD a).bind fun
    | .int .i64 m=>(dM y).bind fun b=>(avD b).bind fun
     | .int .i64 n=>.ret (fG o (.v (.one (.d (.int .i64 (if n>m then n else m))))))
     | _=>.fail
    | _=>.fail
   | _=>.fail
  | .builtin .min=>match c.args.toList with
   | [x,y]=>(dM x).bind fun a=>(avD a).bind fun
    | .int .i64 m=>(dM y).bind fun b=>(avD b).bind fun
     | .int .i64 n=>.ret (fG o (.v (.one (.d (.int .i64 (if n<m then n else m))))))
     | _=>.fail
    | _=>.fail
   | _=>.fail
  | .value (.func f)=>match E.fs.find? (fun s=>s.fid==f)with
   | none=>match E.ms.find? (fun m=>m.fid==f),c.args.toList with
    | some m,[x,y]=>(dM x).bind fun ax=>(avV ax).bind fun v=>(dM y).bind fun ay=>(avD ay).bind fun
     | .int .i64 n=>(vT m.sh v).bind fun z=>.opt (m.fn z n) fun r=>
      if nodupB (aN v.cells)then (y8 (m.sh.t.cells r.1) v.cells).bind fun ws=>.ret (ws++fG o (.v (.one (.d (.int .i64 r.2)))))
      else .fail
     | _=>.fail
    | _,_=>afk E o c f
   | some s=>(vH c.args.toList).bind fun vs=>(vTs s.ps vs).bind fun x=>.opt (s.fn x) fun y=>
    let keys:=aN (vs.flatMap V.cells)
    if s.ex||nodupB keys then
     let cut:List W:=if s.ex then []else keys.map fun q=>.nomut q.1 q.2
     match o.dst with
     | none=>.ret cut
     | some d=>
      if s.ex&&(dD s.rs y).any isList then
       (fresh d (Fe E.trees (dD s.rs y))).bind fun ws=>.ret (ws++[.t d (qF (pW d s.ex 0 s.rs y))])
      else .ret (cut++[.t d (qF (pW d s.ex 0 s.rs y))])
    else .fail
  | _=>.fail
 | .slice T x lo g mx=>match mx with
  | some _=>.fail
  | none=>(dM x).bind fun a=>(bnd lo).bind fun lo=>(bnd g).bind fun g=>match a with
   | .v (.one (.d (.str s)))=>if E.tt.strs.contains T then .opt (cutL s lo g) fun r=>.ret (fG o (.v (.one (.d (.str r)))))else .fail
   | .v (.one (.d (.list t xs)))=>if (lk E.tt.elem T)=some t then .opt (cutL xs lo g) fun r=>.ret (fG o (.v (.one (.d (.list t r)))))else .fail
   | .v (.one (.own k j))=>if ajt E o=true then ad6 E o T k j lo g else .gO k fun os=>match aZ os j with
    | .own t xs _ m=>if (lk E.tt.elem T)=some t then .opt (cutL xs lo g) fun r=>.ret (match m with | true=>.nomut k j::fG o (.v (.one (.d (.list t r)))) | false=>fG o (.v (.one (.d (.list t r)))))else .fail
    | .ro t xs=>if (lk E.tt.elem T)=some t then .opt (cutL xs lo g) fun r=>.ret (fG o (.v (.one (.d (.list t r)))))else .fail
    | _=>.fail
   | .cut t _ n u F=>if (lk E.tt.elem T)=some t then match lo,g with
     | none,some h=>.opt (if h=(n:Int)then some ()else none) fun _=>.ret (fG o (.seg u))
     | some l,none=>.opt (if l=(n:Int)then some ()else none) fun _=>.ret (fG o (.seg F))
     | _,_=>.fail
    else .fail
   | _=>.fail
 | _=>.fail
where
 fillA (fs:List (Nat×Bool×Nat)):List (Nat×Operand)->List C->Rd (List C)
  | [],z=>.ret z
  | (i,x)::r,z=>match fs[i]? with
   | none=>.fail
   | some (fo,_,n)=>(dM x).bind fun a=>(avV a).bind fun v=>
    if v.cells.length=n/\fo+n<=z.length then fillA fs r (dN z fo v.cells)else .fail
 bnd:Option Operand->Rd (Option Int)
  | none=>.ret none
  | some x=>(dM x).bind fun a=>(JA a).bind fun n=>.ret (some n)
 cutL {α:Type} (xs:List α) (lo hi:Option Int):Option (List α):=
  let l:=lo.getD 0
  let h:=hi.getD xs.length
  if 0<=l/\l<=h/\h<=xs.length then some ((xs.take h.toNat).drop l.toNat)else none
def fork{ρ:Type}(t:Nat)(S:St)(k:St->Option ρ):Option ρ:=
 match S.iM t with
 | .v (.one (.d (.bool b)))=>cond b (k (S.iV t (.v (.one (.d (.bool true)))))) (k (S.iV t (.v (.one (.d (.bool false))))))
 | _=>k S
def Js{ρ:Type}(x:Option Nat)(S:St)(k:St->Option ρ):Option ρ:=
 match x with
 | none=>k S
 | some t=>fork t S k
def ZL(ops:Array Oper)(o:Oper):Option Nat:=match o.guard with
 | none=>none
 | some (j,_)=>(ops[j]?).bind (·.dst)
def aeb(o:Oper):Option Nat:=match o.op with
 | .pick (.tmp c) _ _=>some c
 | _=>none
def SV(ops:Array Oper)(o:Oper):Rd Bool:=match o.guard with
 | none=>.ret true
 | some (j,want)=>match (ops[j]?).bind (·.dst)with
  | none=>.fail
  | some t=>.gT t fun
   | .v (.one (.d (.bool b)))=>.ret (b==want)
   | .tup []=>.ret false
   | _=>.fail
def Eu(E:Env)(ops:Array Oper)(o:Oper):Rd (List W):=
 (SV ops o).bind fun
  | true=>eff E o
  | false=>.ret (fG o (.tup []))
def Ey(E:Env)(d:Oper):List Oper->Option (Srt×Operand×Nat×Nat×Nat×Oper)
 | o2::e::_=>match d.op,d.dst,o2.op,o2.dst,e.op with
  | .makeInterface T x,some a,.makeFunc (.func g) first cap,some h,.call c=>match c.callee,first.toList,cap.toList,c.args.toList with
   | .value (.func f),[],[.tmp b],[.tmp i,.tmp j]=>
    if d.guard.isNone&&o2.guard.isNone&&e.guard.isNone&&(i==a)&&(j==h)&&(a != h)&&(b != a)then
     (E.so.find? fun s=>s.fid==f&&s.g==g&&s.T==T).map fun s=>(s,x,b,a,h,e)
    else none
   | _,_,_,_=>none
  | _,_,_,_,_=>none
 | _=>none
def KU(q:Srt×Operand×Nat×Nat×Nat×Oper):Rd (List W):=
 (dM q.2.1).bind fun ax=>(avV ax).bind fun
  | .one (.own k j)=>.gT q.2.2.1 fun
   | .v (.one (.ptr bi 0))=>.gB bi fun
    | some [.own k' j']=>if k=k'/\j=j' then .gO k fun os=>match aZ os j with
     | .own t xs deep true=>if h:t=q.1.t then .opt (q.1.fn (h▸xs)) fun ys=>.gN fun n=>if q.2.2.2.1<n/\q.2.2.2.2.1<n then
       .ret ([.upd k j (.own q.1.t ys deep true),.t q.2.2.2.1 .undef,.t q.2.2.2.2.1 .undef]++fG q.2.2.2.2.2 (.tup []))else .fail
      else .fail
     | _=>.fail
     else .fail
    | _=>.fail
   | _=>.fail
  | _=>.fail
def Qj{ρ:Type}(E:Env)(ops:Array Oper):Nat->List Oper->St->(St->Option ρ)->Option ρ
 | _,[],S,k=>k S
 | n+1,_::r,S,k=>Qj E ops n r S k
 | 0,o::r,S,k=>match Ey E o r with
  | some q=>(KU q).runK S fun ws=>Qj E ops 2 r (S.puts ws) k
  | none=>Js (ZL ops o) S fun S=>Js (aeb o) S fun S=>(Eu E ops o).runK S fun ws=>Qj E ops 0 r (S.puts ws) k
def ajV{ρ:Type}(E:Env)(ops:Array Oper)(l:List Oper)(S:St)(k:St->Option ρ):Option ρ:=Qj E ops 0 l S k
structure Lg where
 i:Nat
 reads:List L
 writes:List L
def opsL{ρ:Type}(E:Env)(ops:Array Oper):List (Oper×Nat)->St->List Lg->(St->List Lg->Option ρ)->Option ρ
 | [],S,g,k=>k S g
 | (o,i)::r,S,g,k=>Js (ZL ops o) S fun S=>Js (aeb o) S fun S=>
   (Eu E ops o).Uo S [] fun ws rs=>opsL E ops r (S.puts ws) ({ i,reads:=rs,writes:=ws.map W.loc } :: g) k
def meets(a b:List L):Bool:=a.any fun x=>b.any fun y=>decide (x=y)
def Lg.free(a b:Lg):Bool:=!meets a.writes b.reads&&!meets a.writes b.writes&&!meets b.writes a.reads
def Aj(acc:List Nat)(o:Oper):Nat:=o.after.toList.foldl (fun s e=>if Region.binds .any e then s ||| 2 ^ e.on ||| acc.getD e.on 0 else s) 0
def masks:List Nat->List Oper->List Nat
 | acc,[]=>acc
 | acc,o::r=>masks (acc++[Aj acc o]) r
def Cb(bf:List Nat):List Lg->Bool
 | []=>true
 | a::r=>(r.all fun b=>(bf.getD a.i 0).testBit b.i||b.free a)&&Cb bf r
def IX(l:List (Oper×Nat)):Bool:=l.all fun x=>x.1.after.toList.all fun e=>!Region.binds .any e||decide (e.on<x.2)
def ahQ(E:Env)(id:Nat):List (Nat×Nat):=(lk E.pre id).getD []
def agG{ρ:Type}(E:Env)(ops:Array Oper)(id:Nat)(S:St)(k:St->Option ρ):Option ρ:=
 opsL E ops ops.toList.zipIdx (S.puts ((ahQ E id).map fun q=>W.nomut q.1 q.2)) [] fun S' g=>if IX ops.toList.zipIdx&&Cb (masks [] ops.toList) g then k S' else none
def afo(s i a b:Nat):Rd (List W):=.gT s fun
 | .v (.one (.own k j))=>.gO k fun os=>match aZ os j with
  | .own t xs true _=>.gT i fun ai=>(JA ai).bind fun n=>.opt (cutAt xs n) fun m=>
   (fresh a [.seg t (xs.take m)]).bind fun w1=>(fresh b [.seg t (xs.drop m)]).bind fun w2=>.gN fun N=>
    if a≠b/\a≠k/\b≠k/\a<N/\b<N then .ret (.upd k j .dead::(w1++(w2++[.t s (.cut t xs.length m a b)])))else .fail
  | _=>.fail
 | _=>.fail
def ahv{ρ:Type}(E:Env)(id:Nat)(S:St)(k:St->Option ρ):Option ρ:=match lk E.cuts id with
 | none=>k S
 | some (s,i,a,b)=>(afo s i a b).runK S fun ws=>k (S.puts ws)
inductive Ex where
 | normal
 | exit (id:Nat)
 | ret
inductive Sr where
 | ro (t:Ty)
 | own (t:Ty) (deep m:Bool) (key:Nat)
 | part (t:Ty) (key:Nat)
 | tree (t:Ty) (key:Nat)
abbrev Sr.den:Sr->Type
 | .ro t=>t.den
 | .own t _ _ _=>List t.den
 | .part t _=>List t.den×Nat
 | .tree t _=>List t.den
inductive It where
 | t (i:Nat) (s:Sr)
 | b (b off:Nat) (s:Sr)
def It.sr:It->Sr
 | .t _ s=>s
 | .b _ _ s=>s
structure LA where
 n:Nat
 its:List It
 boxes:List (Nat×Nat)
 ptrs:List (Nat×Nat×Nat)
 als:List (Nat×Nat×Nat):=[]
 bls:List (Nat×Nat×Nat×Nat):=[]
 tls:List (Nat×Nat):=[]
abbrev Its:List It->Type
 | []=>Unit
 | [x]=>x.sr.den
 | x::r=>x.sr.den×Its r
def ady:Ty->Bool
 | .base .int=>true
 | .base .u8=>true
 | .base .bool=>true
 | .base .str=>true
 | .list _=>true
 | _=>false
def avC:AV->Rd C
 | .v (.one c)=>.ret c
 | _=>.fail
def ZO(s:Sr)(c:C):Rd s.den:=
 match s with
 | .ro t=>if ady t then (cDs t.tys [c]).bind fun ds=>.opt (t.iw ds) .ret else .fail
 | .own t deep m _=>match c with
  | .nil=>.ret ([]:List t.den)
  | .own k j=>.gO k fun os=>match aZ os j with
   | .own t' xs deep' m'=>if h:t'=t then if (deep->deep')/\(m->m')then .ret (h▸xs:List t.den)else .fail else .fail
   | .tree t' xs=>if h:t'=t then .ret (h▸xs:List t.den)else .fail
   | _=>.fail
  | _=>.fail
 | .part t _=>match c with
  | .own k j=>.gO k fun os=>match aZ os j with
   | .tree t' xs=>if h:t'=t then .ret ((h▸xs:List t.den),(0:Nat))else .fail
   | .part t' xs i=>if h:t'=t then .ret ((h▸xs:List t.den),i)else .fail
   | _=>.fail
  | _=>.fail
 | .tree t _=>match c with
  | .own k j=>.gO k fun os=>match aZ os j with
   | .tree t' xs=>if h:t'=t then .ret (h▸xs:List t.den)else .fail
   | _=>.fail
  | _=>.fail
def cAt:It->Rd C
 | .t i _=>.gT i avC
 | .b b off _=>.gB b fun
  | some cs=>.opt (cs[off]?) .ret
  | none=>.fail
def ae9(x:It):Rd x.sr.den:=(cAt x).bind fun c=>ZO x.sr c
def aaQ:(l:List It)->Rd (Its l)
 | []=>.ret ()
 | [x]=>ae9 x
 | x::y::r=>(ae9 x).bind fun a=>(aaQ (y::r)).bind fun b=>.ret (a,b)
def keysOf:List It->Rd (List (Nat×Nat)×List (Nat×Nat))
 | []=>.ret ([],[])
 | x::r=>(cAt x).bind fun c=>(keysOf r).bind fun p=>
  match x.sr with
  | .own _ _ _ _=>.ret (aN [c]++p.1,p.2)
  | .part _ _=>.ret (aN [c]++p.1,p.2)
  | .tree _ _=>.ret (aN [c]++p.1,p.2)
  | .ro _=>.ret (p.1,aN [c]++p.2)
def Gw:List (Nat×Nat)->Rd Unit
 | []=>.ret ()
 | (b,n)::r=>.gB b fun
  | some cs=>if cs.length=n then Gw r else .fail
  | none=>.fail
def Nk:List (Nat×Nat×Nat)->Rd Unit
 | []=>.ret ()
 | (i,b,off)::r=>.gT i fun
  | .v (.one (.ptr b' off'))=>if b'=b/\off'=off then Nk r else .fail
  | _=>.fail
def aa2:List (Nat×Nat×Nat)->Rd Unit
 | []=>.ret ()
 | (i,b,off)::r=>.gT i fun
  | .v (.one (.own k j))=>.gB b fun
   | some cs=>match cs[off]? with
    | some (.own k' j')=>if k=k'/\j=j' then aa2 r else .fail
    | _=>.fail
   | none=>.fail
  | _=>.fail
def aaY:List (Nat×Nat×Nat×Nat)->Rd Unit
 | []=>.ret ()
 | (b',off',b,off)::r=>.gB b' fun
  | some cs'=>.gB b fun
   | some cs=>match cs'[off']?,cs[off]? with
    | some (.own k' j'),some (.own k j)=>if k=k'/\j=j' then aaY r else .fail
    | _,_=>.fail
   | none=>.fail
  | none=>.fail
def aak:List (Nat×Nat)->Rd Unit
 | []=>.ret ()
 | (i,i')::r=>.gT i fun
  | .v (.one (.own k j))=>.gT i' fun
   | .v (.one (.own k' j'))=>if k=k'/\j=j' then aak r else .fail
   | _=>.fail
  | _=>.fail
def dG:List It->List Nat
 | []=>[]
 | x::r=>match x.sr with
  | .own _ _ _ key=>key::dG r
  | .part _ key=>key::dG r
  | .tree _ key=>key::dG r
  | .ro _=>dG r
def DY:List Nat->Bool
 | []=>true
 | x::r=>!(r.any fun y=>y==x)&&DY r
def LA.get(la:LA):Rd (Its la.its):=.gN fun n=>if n=la.n/\DY (dG la.its)=true/\(dG la.its).all (fun k=>decide (k<la.n))=true/\la.ptrs.all (fun p=>la.boxes.any fun q=>q.1==p.2.1)=true/\la.its.all (fun it=>match it with
      | .b bx _ _=>la.boxes.any fun q=>q.1==bx
      | _=>true)=true then
  (Gw la.boxes).bind fun _=>(Nk la.ptrs).bind fun _=>(aa2 la.als).bind fun _=>(aaY la.bls).bind fun _=>(aak la.tls).bind fun _=>(keysOf la.its).bind fun p=>
   if nodupB p.1&&p.1.all (fun x=>!p.2.any fun y=>y.1==x.1&&y.2==x.2)then aaQ la.its else .fail
 else .fail
def LA.base(la:LA):St:=
 { tmps:=la.ptrs.foldl (fun l p=>l.set p.1 (.v (.one (.ptr p.2.1 p.2.2)))) (List.replicate la.n .undef),boxes:=la.boxes.foldl (fun l p=>l.set p.1 (some (List.replicate p.2 .undef))) (List.replicate la.n none),owns:=List.replicate la.n [] }
def dOf(t:Ty)(x:t.den):C:=match t.cells x with
 | [d]=>.d d
 | _=>.undef
def St.oz(S:St)(it:It)(c:C):St:=match it with
 | .t i _=>S.iV i (.v (.one c))
 | .b b off _=>match S.fJ b with
  | some cs=>S.setB b (some (cs.set off c))
  | none=>S
def St.Nh(S:St)(it:It)(x:it.sr.den):St:=
 match it.sr,x with
 | .ro t,x=>S.oz it (dOf t x)
 | .own t deep m key,xs=>(S.bI key [.own t xs deep m]).oz it (.own key 0)
 | .part t key,(xs,i)=>(S.bI key [.part t xs i]).oz it (.own key 0)
 | .tree t key,xs=>(S.bI key [.tree t xs]).oz it (.own key 0)
def St.aaB(S:St):(l:List It)->Its l->St
 | [],_=>S
 | [x],a=>S.Nh x a
 | x::y::r,(a,b)=>(S.Nh x a).aaB (y::r) b
def St.Ij(S:St):List (Nat×Nat×Nat)->St
 | []=>S
 | (i,b,off)::r=>match S.fJ b with
  | some cs=>match cs[off]? with
   | some (.own k j)=>(S.iV i (.v (.one (.own k j)))).Ij r
   | _=>S.Ij r
  | none=>S.Ij r
def St.Ii(S:St):List (Nat×Nat×Nat×Nat)->St
 | []=>S
 | (b',off',b,off)::r=>match S.fJ b',S.fJ b with
  | some cs',some cs=>match cs[off]? with
   | some (.own k j)=>(S.setB b' (some (cs'.set off' (.own k j)))).Ii r
   | _=>S.Ii r
  | _,_=>S.Ii r
def St.Nc(S:St):List (Nat×Nat)->St
 | []=>S
 | (i,i')::r=>match S.iM i' with
  | .v (.one (.own k j))=>(S.iV i (.v (.one (.own k j)))).Nc r
  | _=>S.Nc r
def LA.put(la:LA)(x:Its la.its):St:=(((la.base.aaB la.its x).Ij la.als).Ii la.bls).Nc la.tls
def iter{X ρ:Type}(f:X->Option (X⊕ρ)):Nat->X->Option ρ
 | 0,_=>none
 | n+1,x=>match f x with
  | none=>none
  | some (.inl y)=>iter f n y
  | some (.inr r)=>some r
open Classical in
def aO{X ρ:Type}(f:X->Option (X⊕ρ))(x:X):Option ρ:=
 if h:∃n r,iter f n x=some r then some h.choose_spec.choose else none
def lQ{X ρ:Type}(p:Option (X⊕ρ))(f:X->Option ρ):Option ρ:=p.bind fun j=>match j with
 | .inl x=>f x
 | .inr r=>some r
def nP:Code->Option Nat
 | .region id _ _=>some id
 | .seq a b=>(nP a).or (nP b)
 | .cond _ a b=>(nP a).or (nP b)
 | .block _ c=>nP c
 | .loop c=>nP c
 | .scope c=>nP c
 | _=>none
def den(E:Env)(an:List (Nat×LA)):Code->{ρ:Type}->St->(Ex->St->Option ρ)->Option ρ
 | .skip,_,S,k=>k .normal S
 | .label _,_,S,k=>k .normal S
 | .region id ops false,_,S,k=>ahv E id S fun S=>ajV E ops ops.toList S fun S=>k .normal S
 | .region id ops true,_,S,k=>ahv E id S fun S=>agG E ops id S fun S=>k .normal S
 | .seq a b,_,S,k=>match (nP b).bind fun i=>lk an (i+1000000)with
  | none=>den E an a S fun e S=>match e with
   | .normal=>den E an b S k
   | e=>k e S
  | some la=>lQ (den E an a S fun e S=>match e with
   | .normal=>la.get.runK S fun x=>some (.inl x)
   | e=>(k e S).bind fun r=>some (.inr r)) fun x=>den E an b (la.put x) k
 | .cond c a b,_,S,k=>match c with
  | .tmp t=>fork t S fun S=>match S.iM t with
   | .v (.one (.d (.bool true)))=>den E an a S k
   | .v (.one (.d (.bool false)))=>den E an b S k
   | _=>none
  | _=>none
 | .block id c,_,S,k=>den E an c S fun e S=>match e with
  | .exit i=>if i=id then k .normal S else k (.exit i) S
  | e=>k e S
 | .loop c,_,S,k=>match (nP c).bind (lk an)with
  | none=>none
  | some la=>la.get.runK S fun f=>aO (fun x=>den E an c (la.put x) fun e S=>match e with
    | .normal=>la.get.runK S fun y=>some (.inl y)
    | e=>(k e S).bind fun r=>some (.inr r)) f
 | .exit id,_,S,k=>k (.exit id) S
 | .ret,_,S,k=>k .ret S
 | .scope _,_,_,_=>none
 | .goto _,_,_,_=>none
 | .rangeFunc ..,_,_,_=>none
 | .refuse _,_,_,_=>none
def acH(s:Sh)(x:s.t.den):V:=mkV' s.agg ((s.t.cells x).map .d)
def xw:(ss:List Sh)->Tup ss->List V
 | [],_=>[]
 | [s],x=>[acH s x]
 | s::s'::r,(x,y)=>acH s x::xw (s'::r) y
def yw(n:Nat)(vs:List V):St:=
 { tmps:=(vs.map .v)++List.replicate (n-vs.length) .undef,boxes:=List.replicate (vs.length+(n-vs.length)) none,owns:=List.replicate (vs.length+(n-vs.length)) [] }
def nJ(n:Nat)(cs:List C)(vs:List V):St:=
 { tmps:=(.v (.one (.ptr 0 0))::vs.map .v)++List.replicate (n-(vs.length+1)) .undef,boxes:=some cs::List.replicate (vs.length+(n-(vs.length+1))) none,owns:=List.replicate (vs.length+1+(n-(vs.length+1))) [] }
def resV(E:Env):ResultVar->Rd V
 | .tmp t=>.gT t avV
 | .cell p ty=>match lk E.tt.shape ty with
  | none=>.fail
  | some (agg,n)=>.gT p fun
   | .v (.one (.ptr b off))=>.gB b fun
    | some cs=>.opt (mkV agg (seg cs off n)) fun v=>if (seg cs off n).length=n then .ret v else .fail
    | none=>.fail
   | _=>.fail
def zY(E:Env):List ResultVar->Rd (List V)
 | []=>.ret []
 | x::r=>(resV E x).bind fun v=>(zY E r).bind fun vs=>.ret (v::vs)
def ahq(cs:List C):Rd Bool:=(vI cs).bind fun b=>.ret (b&&nodupB (aN cs))
def finish(E:Env)(fn:Func)(rs:List Sh)(ex:Bool):Rd (Tup rs):=
 (zY E fn.results.toList).bind fun vs=>(if ex then ahq (vs.flatMap V.cells)else .ret true).bind fun ok=>if ok then vTs rs vs else .fail
def akr(E:Env)(an:List (Nat×LA))(fn:Func)(ps rs:List Sh)(ex:Bool)(x:Tup ps):Option (Tup rs):=
 match fn.body with
 | none=>none
 | some c=>den E an c (yw fn.ntmps (xw ps x)) fun e S=>match e with
  | .exit _=>none
  | _=>(finish E fn rs ex).runK S some
def afD:List Sh->Bool
 | c::_=>c.agg
 | []=>false
def cSh:C->Rd Bool
 | .d (.list _ _)=>.ret false
 | .d _=>.ret true
 | .nil=>.ret true
 | .own k j=>.gO k fun os=>match aZ os j with
  | .own _ _ _ true=>.ret true
  | _=>.ret false
 | _=>.ret false
def ahw:List C->Rd Bool
 | []=>.ret true
 | c::r=>(cSh c).bind fun b=>(ahw r).bind fun b'=>.ret (b&&b')
def Us(cs:List C):Rd Bool:=(ahw cs).bind fun b=>.ret (b&&nodupB (aN cs))
def BR(E:Env)(fn:Func)(rs:List Sh):Rd (Tup rs):=
 (zY E fn.results.toList).bind fun vs=>(Us (vs.flatMap V.cells)).bind fun ok=>if ok then vTs rs vs else .fail
def akp(E:Env)(an:List (Nat×LA))(fn:Func)(ps rs:List Sh)(x:Tup ps):Option (Tup rs):=
 match fn.body with
 | none=>none
 | some c=>den E an c (yw fn.ntmps (xw ps x)) fun e S=>match e with
  | .exit _=>none
  | _=>(BR E fn rs).runK S some
def BV(E:Env)(fn:Func)(rs:List Sh)(ex sh:Bool):Rd (Tup rs):=if afD rs=true then .gB 0 fun
 | some cs=>if aN cs=[]then (zY E fn.results.toList).bind fun vs=>(if ex then ahq (vs.flatMap V.cells)else if sh then Us (vs.flatMap V.cells)else .ret true).bind fun ok=>if ok then vTs rs (.agg cs::vs)else .fail
  else .fail
 | none=>.fail
 else .fail
def sameBox:List Sh->List Sh->Bool
 | p::_,r::_=>p.agg&&decide (p.t=r.t)
 | _,_=>false
def aks(E:Env)(an:List (Nat×LA))(fn:Func)(ps rs:List Sh)(ex sh:Bool)(x:Tup ps):Option (Tup rs):=
 match fn.body,xw ps x with
 | some c,.agg cs::vs=>if E.ma=false/\(ex=true->sameBox ps rs=true)then den E an c (nJ fn.ntmps cs vs) fun e S=>match e with
  | .exit _=>none
  | _=>(BV E fn rs ex sh).runK S some
  else none
 | _,_=>none
def sH(n ap:Nat)(cs:List C)(vs:List V)(t:Ty)(xs:List t.den):St:=
 { nJ n (cs.set ap (.own 0 0)) vs with owns:=[.own t xs false false]::List.replicate (vs.length+(n-(vs.length+1))) [] }
def xq(E:Env)(fn:Func)(rs:List Sh)(ap:Nat):Rd (Tup rs):=if afD rs=true then .gB 0 fun
 | some cs=>if aN (cs.set ap .nil)=[]then match cs[ap]? with
  | some (.own k j)=>.gO k fun os=>match aZ os j with
   | .own _ _ _ _=>(zY E fn.results.toList).bind fun vs=>if nodupB ((k,j)::aN (vs.flatMap V.cells))=true then vTs rs (.agg cs::vs)else .fail
   | _=>.fail
  | _=>.fail
  else .fail
 | none=>.fail
 else .fail
def afn(E:Env)(an:List (Nat×LA))(fn:Func)(ps rs:List Sh)(ap:Nat)(x:Tup ps):Option (Tup rs):=
 match fn.body,xw ps x with
 | some c,.agg cs::vs=>match cs[ap]? with
  | some (.d (.list t xs))=>den E an c (sH fn.ntmps ap cs vs t xs) fun e S=>match e with
   | .exit _=>none
   | _=>(xq E fn rs ap).runK S some
  | _=>none
 | _,_=>none
def BU(fn:Func)(rs:List Sh):Rd (Tup rs):=if afD rs=true then match fn.results.toList with
 | [.tmp t]=>.gT t fun
  | .v (.one (.ptr b 0))=>.gB b fun
   | some cs=>if aN cs=[]then vTs rs [.agg cs]else .fail
   | none=>.fail
  | _=>.fail
 | _=>.fail
 else .fail
def akq(E:Env)(an:List (Nat×LA))(fn:Func)(ps rs:List Sh)(x:Tup ps):Option (Tup rs):=
 match fn.body with
 | none=>none
 | some c=>den E an c (yw fn.ntmps (xw ps x)) fun e S=>match e with
  | .exit _=>none
  | _=>(BU fn rs).runK S some
end
end Go.Abs
