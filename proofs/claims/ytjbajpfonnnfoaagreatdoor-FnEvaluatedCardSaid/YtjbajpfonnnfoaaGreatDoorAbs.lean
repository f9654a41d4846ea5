import Derived.Test.YtjbajpfonnnfoaaGreatDoorTypes
/- The abstract evaluator: what a function of the program computes, over typed data, by the model's own code. -/
namespace Go.Abs
noncomputable section
inductive C where
 | undef
 | d (x:D)
 | nil
 | own (k j:Nat)
 | ptr (b off:Nat)
inductive V where
 | one (c:C)
 | agg (cs:List C)
inductive AV where
 | undef
 | v (x:V)
 | elt (t:Ty) (x:t.den) (off:Nat)
 | oelt (k j i sz off:Nat)
 | cut (t:Ty) (len n k1 k2:Nat)
 | seg (k:Nat)
 | pre (k j n:Nat)
 | suf (t:Ty) (k j m:Nat)
 | tup (vs:List V)
inductive O where
 | dead
 | own (t:Ty) (xs:List t.den) (deep m:Bool)
 | ro (t:Ty) (xs:List t.den)
 | tree (t:Ty) (xs:List t.den)
 | part (t:Ty) (xs:List t.den) (i:Nat)
 | seg (t:Ty) (xs:List t.den)
 | hole (t:Ty) (xs:List t.den) (i q:Nat)
structure St where
 tmps:List AV
 boxes:List (Option (List C))
 owns:List (List O)
inductive W where
 | t (i:Nat) (v:AV)
 | b (i:Nat) (cs:List C)
 | o (k:Nat) (os:List O)
 | upd (k j:Nat) (x:O)
 | ro (k j:Nat)
 | nomut (k j:Nat)
def St.iP(S:St)(i:Nat):AV:=S.tmps.getD i .undef
def St.fJ(S:St)(i:Nat):Option (List C):=S.boxes.getD i none
def St.aI(S:St)(k:Nat):List O:=S.owns.getD k []
def St.iV(S:St)(i:Nat)(v:AV):St:={ S with tmps:=S.tmps.set i v }
def St.setB(S:St)(i:Nat)(v:Option (List C)):St:={ S with boxes:=S.boxes.set i v }
def St.bI(S:St)(i:Nat)(v:List O):St:={ S with owns:=S.owns.set i v }
def O.BZ:O->O
 | .own t xs _ _=>.ro t xs
 | .tree t xs=>.ro t xs
 | o=>o
def O.Ad:O->O
 | .own t xs deep _=>.own t xs deep false
 | .tree t xs=>.own t xs true false
 | o=>o
def O.sV:O->O
 | .tree t xs=>.own t xs true true
 | o=>o
def O.dY:O->O
 | .tree t xs=>.own t xs true true
 | .part t xs _=>.own t xs true true
 | .seg t xs=>.own t xs true true
 | .hole t xs _ _=>.own t xs true true
 | o=>o
def aZ(os:List O)(j:Nat):O:=os.getD j .dead
def St.put(S:St):W->St
 | .t i v=>S.iV i v
 | .b i cs=>S.setB i (some cs)
 | .o k os=>S.bI k os
 | .upd k j x=>S.bI k ((S.aI k).set j x)
 | .ro k j=>S.bI k ((S.aI k).set j (aZ (S.aI k) j).BZ)
 | .nomut k j=>S.bI k ((S.aI k).set j (aZ (S.aI k) j).Ad)
def St.puts(S:St):List W->St
 | []=>S
 | x::r=>(S.put x).puts r
inductive L where
 | t (i:Nat)
 | b (i:Nat)
 | o (k:Nat)
 deriving DecidableEq
def W.loc:W->L
 | .t i _=>.t i
 | .b i _=>.b i
 | .o k _ | .upd k _ _ | .ro k _ | .nomut k _=>.o k
inductive Rd(α:Type):Type 1 where
 | ret (a:α)
 | fail
 | gT (i:Nat) (f:AV->Rd α)
 | gB (i:Nat) (f:Option (List C)->Rd α)
 | gO (k:Nat) (f:List O->Rd α)
 | gN (f:Nat->Rd α)
 | opt {β:Type} (o:Option β) (f:β->Rd α)
 | fk (b:Bool) (p q:Rd α)
def Rd.bind{α β:Type}:Rd α->(α->Rd β)->Rd β
 | .ret a,g=>g a
 | .fail,_=>.fail
 | .gT i f,g=>.gT i λx=>(f x).bind g
 | .gB i f,g=>.gB i λx=>(f x).bind g
 | .gO i f,g=>.gO i λx=>(f x).bind g
 | .gN f,g=>.gN λx=>(f x).bind g
 | .opt o f,g=>.opt o λx=>(f x).bind g
 | .fk b p q,g=>.fk b (p.bind g) (q.bind g)
def Rd.runK{α ρ:Type}:Rd α->St->(α->Option ρ)->Option ρ
 | .ret a,_,k=>k a
 | .fail,_,_=>none
 | .gT i f,S,k=>(f (S.iP i)).runK S k
 | .gB i f,S,k=>(f (S.fJ i)).runK S k
 | .gO i f,S,k=>(f (S.aI i)).runK S k
 | .gN f,S,k=>(f S.tmps.length).runK S k
 | .opt o f,S,k=>o.bind λx=>(f x).runK S k
 | .fk b p q,S,k=>cond b (p.runK S k) (q.runK S k)
def Rd.Uu{α ρ:Type}:Rd α->St->List L->(α->List L->Option ρ)->Option ρ
 | .ret a,_,l,k=>k a l
 | .fail,_,_,_=>none
 | .gT i f,S,l,k=>(f (S.iP i)).Uu S (.t i::l) k
 | .gB i f,S,l,k=>(f (S.fJ i)).Uu S (.b i::l) k
 | .gO i f,S,l,k=>(f (S.aI i)).Uu S (.o i::l) k
 | .gN f,S,l,k=>(f S.tmps.length).Uu S l k
 | .opt o f,S,l,k=>o.bind λx=>(f x).Uu S l k
 | .fk b p q,S,l,k=>cond b (p.Uu S l k) (q.Uu S l k)
def Rd.val{α:Type}:Rd α->St->Option α
 | .ret a,_=>some a
 | .fail,_=>none
 | .gT i f,S=>(f (S.iP i)).val S
 | .gB i f,S=>(f (S.fJ i)).val S
 | .gO i f,S=>(f (S.aI i)).val S
 | .gN f,S=>(f S.tmps.length).val S
 | .opt o f,S=>o.bind λx=>(f x).val S
 | .fk b p q,S=>cond b (p.val S) (q.val S)
inductive Kd where
 | int (k:IntKind)
 | bool
 | str
 | list (t:Ty)
 deriving DecidableEq
def kd:D->Kd
 | .int k _=>.int k
 | .bool _=>.bool
 | .str _=>.str
 | .list t _=>.list t
structure TT where
 shape:List (Nat×Bool×Nat)
 zero:List (Nat×List C)
 fields:List (Nat×List (Nat×Bool×Nat))
 elem:List (Nat×Ty)
 ints:List (Nat×IntKind)
 strs:List Nat
 bools:List Nat
 eqs:List (Nat×List Kd)
structure Sh where
 agg:Bool
 t:Ty
abbrev Tup:List Sh->Type
 | []=>Unit
 | [s]=>s.t.den
 | s::r=>s.t.den×Tup r
structure Fsp where
 fid:Nat
 ps:List Sh
 rs:List Sh
 ex:Bool
 sh:Bool:=false
 fn:Tup ps->Option (Tup rs)
structure Msp where
 fid:Nat
 sh:Sh
 fn:sh.t.den->Int->Option (sh.t.den×Int)
structure Srt where
 fid:Nat
 g:Nat
 T:Nat
 t:Ty
 fn:List t.den->Option (List t.den)
structure Isp where
 fid:Nat
 t:Ty
 fn:List t.den->Option (List t.den)
structure Psp where
 fid:Nat
 n:Nat
 tm:List (Int⊕Nat)
structure Ksp where
 fid:Nat
 c:Sh
 n:Nat
 fn:c.t.den->Option (c.t.den×Bool)
structure Env where
 tt:TT
 fs:List Fsp
 ms:List Msp:=[]
 bs:List Fsp:=[]
 ns:List Fsp:=[]
 ss:List Fsp:=[]
 so:List Srt:=[]
 trees:Bool:=false
 pre:List (Nat×List (Nat×Nat)):=[]
 cuts:List (Nat×Nat×Nat×Nat×Nat):=[]
 agB:List Nat:=[]
 is:List Isp:=[]
 hols:List Nat:=[]
 ma:Bool:=false
 mb:List (Fsp×Nat):=[]
 ps:List Psp:=[]
 ks:List Ksp:=[]
 trs:List Nat:=[]
def mr:D->Option Ty
 | .list t _=>some t
 | _=>none
def Ty.tys(t:Ty):List (Option Ty):=(t.cells t.zero).map mr
def Ty.flat(t:Ty):Bool:=t.tys.all (·.isNone)
def cD(ty:Option Ty):C->Rd D
 | .d x=>.ret x
 | .nil=>match ty with
  | some t=>.ret (.list t [])
  | none=>.fail
 | .own k j=>.gO k λos=>match aZ os j with
  | .own t xs _ _=>.ret (.list t xs)
  | .ro t xs=>.ret (.list t xs)
  | .tree t xs=>.ret (.list t xs)
  | .part _ _ _=>.fail
  | .seg _ _=>.fail
  | .hole _ _ _ _=>.fail
  | .dead=>.fail
 | _=>.fail
def cDs:List (Option Ty)->List C->Rd (List D)
 | ty::tys,c::cs=>(cD ty c).bind λd=>(cDs tys cs).bind λds=>.ret (d::ds)
 | _,_=>.ret []
def V.cells:V->List C
 | .one c=>[c]
 | .agg cs=>cs
def V.isAgg:V->Bool
 | .one _=>false
 | .agg _=>true
def vT(s:Sh)(v:V):Rd s.t.den:=
 if v.isAgg=s.agg/\v.cells.length=s.t.size then (cDs s.t.tys v.cells).bind λds=>.opt (s.t.iw ds) .ret else .fail
def avV:AV->Rd V
 | .v x=>.ret x
 | _=>.fail
def vTs:(ss:List Sh)->List V->Rd (Tup ss)
 | [],[]=>.ret ()
 | [s],[v]=>vT s v
 | s::s'::r,v::vs=>(vT s v).bind λx=>(vTs (s'::r) vs).bind λy=>.ret (x,y)
 | _,_=>.fail
def akB:Value->Option C
 | .int k n=>some (.d (.int k n))
 | .bool b=>some (.d (.bool b))
 | .string s=>some (.d (.str s.data.toList))
 | .slice none 0 0=>some .nil
 | _=>none
def dM:Operand->Rd AV
 | .tmp t=>.gT t .ret
 | .const v=>match akB v with
  | some c=>.ret (.v (.one c))
  | none=>.ret .undef
 | _=>.fail
def lk{α:Type}(l:List (Nat×α))(k:Nat):Option α:=(l.find? λx=>x.1==k).map (·.2)
def seg{α:Type}(cs:List α)(off n:Nat):List α:=(cs.drop off).take n
def mkV(agg:Bool)(cs:List C):Option V:=
 match agg,cs with
 | true,cs=>some (.agg cs)
 | false,[c]=>some (.one c)
 | false,_=>none
def ajC:C->AV
 | .undef=>.undef
 | c=>.v (.one c)
def Jw:V->AV
 | .one c=>ajC c
 | v=>.v v
def dN{α:Type}(cs:List α)(off:Nat)(vs:List α):List α:=cs.take off++vs++cs.drop (off+vs.length)
def idx{α:Type}(xs:List α)(n:Int):Option α:=if 0<=n then xs[n.toNat]? else none
def gd(n:Nat):Option Unit:=if n<=34359738368 then some ()else none
def mk(n:Int):Option Nat:=if 0<=n/\n<=34359738368 then some n.toNat else none
def binI(op:BinOp)(k:IntKind)(a b:Int):Option D:=
 match op with
 | .add=>some (.int k (k.wrap (a+b)))
 | .sub=>some (.int k (k.wrap (a-b)))
 | .mul=>some (.int k (k.wrap (a*b)))
 | .eql=>some (.bool (a==b))
 | .neq=>some (.bool (a != b))
 | .lss=>some (.bool (a<b))
 | .leq=>some (.bool (a<=b))
 | .gtr=>some (.bool (a>b))
 | .geq=>some (.bool (a>=b))
 | .and=>some (.int k (k.wrap ((BitVec.ofInt k.bits a &&& BitVec.ofInt k.bits b).toNat:Int)))
 | .or=>some (.int k (k.wrap ((BitVec.ofInt k.bits a ||| BitVec.ofInt k.bits b).toNat:Int)))
 | .xor=>some (.int k (k.wrap ((BitVec.ofInt k.bits a ^^^ BitVec.ofInt k.bits b).toNat:Int)))
 | _=>none
def quoI(k:IntKind)(a b:Int):Option Int:=if b=0 then none else some (k.wrap (a.tdiv b))
def Qb(a b:Int):Option Int:=if b=0 then none else some (a.tmod b)
def shlI(k:IntKind)(a b:Int):Option Int:=if b<0 then none else some (k.wrap (a*2 ^ min b.toNat k.bits))
def shrI(k:IntKind)(a b:Int):Option Int:=if b<0 then none else some (a.fdiv (2 ^ min b.toNat k.bits))
def binS(op:BinOp)(a b:Str):Option D:=
 match op with
 | .eql=>some (.bool (a==b))
 | .neq=>some (.bool (!(a==b)))
 | .lss=>some (.bool (Op.bytesLess a b))
 | .leq=>some (.bool (Op.bytesLess a b||a==b))
 | .gtr=>some (.bool (!(Op.bytesLess a b||a==b)))
 | .geq=>some (.bool (!(Op.bytesLess a b)))
 | _=>none
def binB(op:BinOp)(a b:Bool):Option D:=
 match op with
 | .eql=>some (.bool (a==b))
 | .neq=>some (.bool (!(a==b)))
 | _=>none
def isBool:D->Bool
 | .bool _=>true
 | _=>false
def akC(op:BinOp):D->D->Option D
 | .int k a,.int k' b=>if k=k' then binI op k a b else none
 | .str a,.str b=>binS op a b
 | .bool a,.bool b=>binB op a b
 | _,_=>none
def avD:AV->Rd D
 | .v (.one (.d x))=>.ret x
 | _=>.fail
def Jy(a:AV):Rd Int:=(avD a).bind λ
 | .int _ n=>.ret n
 | _=>.fail
def cKd(k:Kd):C->Option D
 | .d x=>if kd x=k then some x else none
 | _=>none
def X9:List Kd->List C->Option (List D)
 | [],[]=>some []
 | k::ks,c::cs=>match cKd k c with
  | some d=>match X9 ks cs with
   | some ds=>some (d::ds)
   | none=>none
  | none=>none
 | _,_=>none
def eqD:D->D->Bool
 | .int _ a,.int _ b=>a==b
 | .bool a,.bool b=>a==b
 | .str a,.str b=>a==b
 | _,_=>false
def Cf:List D->List D->Bool
 | [d],[e]=>eqD d e
 | d::ds,e::es=>eqD d e&&Cf ds es
 | _,_=>true
def aP:List C->List (Nat×Nat)
 | []=>[]
 | .own k j::r=>(k,j)::aP r
 | _::r=>aP r
def CV:C->Rd Bool
 | .d (.list _ _)=>.ret false
 | .d _=>.ret true
 | .nil=>.ret true
 | .own k j=>.gO k λos=>match aZ os j with
  | .own _ _ deep _=>.ret deep
  | .tree _ _=>.ret true
  | _=>.ret false
 | _=>.fail
def vz:List C->Rd Bool
 | []=>.ret true
 | c::r=>(CV c).bind λb=>(vz r).bind λb'=>.ret (b&&b')
def fresh(d:Nat)(os:List O):Rd (List W):=.gO d λ
 | []=>.ret [.o d os]
 | _=>.fail
def xW(d:Nat)(cs:List C):Rd (List W):=if d=0 then .fail else .gB d λ
 | none=>.ret [.b d cs,.t d (.v (.one (.ptr d 0)))]
 | some _=>.fail
def fF(o:Oper)(v:AV):List W:=match o.dst with
 | some d=>[.t d v]
 | none=>[]
def Nr:List (Nat×Operand)->Nat->Rd (List V)
 | [],_=>.ret []
 | (i,x)::r,n=>if i=n then (dM x).bind λa=>(avV a).bind λv=>(Nr r (n+1)).bind λvs=>.ret (v::vs)else .fail
def vEl(t:Ty)(v:V):Rd t.den:=
 if v.cells.length=t.size then (cDs t.tys v.cells).bind λds=>.opt (t.iw ds) .ret else .fail
def abl(t:Ty):List V->Rd (List t.den)
 | []=>.ret []
 | v::r=>(vEl t v).bind λx=>(abl t r).bind λxs=>.ret (x::xs)
def mkV'(agg:Bool)(cs:List C):V:=
 match agg,cs with
 | false,[c]=>.one c
 | _,cs=>.agg cs
def abZ(d:Nat)(ex:Bool)(i:Nat):D->C
 | .list t xs=>if ex then .own d i else .d (.list t xs)
 | x=>.d x
def Jh(d:Nat)(ex:Bool):Nat->List D->List C
 | _,[]=>[]
 | i,x::r=>abZ d ex i x::Jh d ex (i+1) r
def pM(d:Nat)(ex:Bool):Nat->(ss:List Sh)->Tup ss->List V
 | _,[],_=>[]
 | n,[s],y=>[mkV' s.agg (Jh d ex n (s.t.cells y))]
 | n,s::s'::r,y=>mkV' s.agg (Jh d ex n (s.t.cells y.1))::pM d ex (n+s.t.size) (s'::r) y.2
def dF:(ss:List Sh)->Tup ss->List D
 | [],_=>[]
 | [s],y=>s.t.cells y
 | s::s'::r,y=>s.t.cells y.1++dF (s'::r) y.2
def isList:D->Bool
 | .list _ _=>true
 | _=>false
def EZ(tr:Bool)(ds:List D):List O:=ds.map λ
 | .list t xs=>if tr then .tree t xs else .own t xs true true
 | _=>.dead
def yV:List D->List C->Rd (List W)
 | [],[]=>.ret []
 | d::ds,c::cs=>(yV ds cs).bind λws=>match c with
  | .own k j=>.gO k λos=>match aZ os j,d with
   | .tree _ _,.list t xs=>.ret (.upd k j (.tree t xs)::ws)
   | _,_=>.fail
  | .nil=>.ret ws
  | .d (.list _ _)=>.fail
  | .d _=>.ret ws
  | _=>.fail
 | _,_=>.fail
def qC:List V->AV
 | [v]=>Jw v
 | vs=>.tup vs
def vw:List Operand->Rd (List V)
 | []=>.ret []
 | x::r=>(dM x).bind λa=>(avV a).bind λv=>(vw r).bind λvs=>.ret (v::vs)
def nodupB(l:List (Nat×Nat)):Bool:=
 match l with
 | []=>true
 | x::r=>!(r.any λy=>y.1==x.1&&y.2==x.2)&&nodupB r
def listOf(t:Ty)(c:C):Rd (List t.den):=(cD (some t) c).bind λd=>.opt (d.cO t) .ret
def bytesOf(xs:List Int):Str:=xs.map λn=>UInt8.ofNat n.toNat
def NF(s:Str):List (Ty.base .u8).den:=s.map λc=>(c.toNat:Int)
def jV:{c:Sh}->{rs:List Sh}->Tup (c::rs)->c.t.den
 | _,[],x=>x
 | _,_::_,x=>x.1
def yG:{c:Sh}->{rs:List Sh}->Tup (c::rs)->Tup rs
 | _,[],_=>()
 | _,_::_,x=>x.2
def acd(ds:List D):List O:=ds.map λ
 | .list t xs=>.own t xs false true
 | _=>.dead
def aaB(o:Oper)(sh:Bool)(rs:List Sh)(y:Tup rs):Rd (List W):=match o.dst with
 | none=>.ret []
 | some d=>if (sh&&(dF rs y).any isList)=true then
   (fresh d (acd (dF rs y))).bind λws=>.ret (ws++[.t d (qC (pM d true 0 rs y))])
  else .ret [.t d (qC (pM d false 0 rs y))]
def aff(o:Oper)(tr:Bool)(rs:List Sh)(y:Tup rs):Rd (List W):=match o.dst with
 | none=>.ret []
 | some d=>if (dF rs y).any isList=true then
   (fresh d (EZ tr (dF rs y))).bind λws=>.ret (ws++[.t d (qC (pM d true 0 rs y))])
  else .ret [.t d (qC (pM d true 0 rs y))]
def afD(o:Oper)(ex tr sh:Bool)(b n:Nat)(keys:List (Nat×Nat)):(rs:List Sh)->Tup rs->Rd (List W)
 | [],_=>.fail
 | c::rs,y=>if c.agg=true then if c.t.size=n then if nodupB keys then
   (bif ex then aff o tr rs (yG y)else aaB o sh rs (yG y)).bind λws=>.ret (keys.map (λq=>W.nomut q.1 q.2)++(.b b ((c.t.cells (jV y)).map .d)::ws))
  else .fail else .fail else .fail
def aku(E:Env)(o:Oper)(c:Call)(f:Nat):Rd (List W):=
 match E.is.find? (λs=>s.fid==f),c.args.toList with
 | some s,[x]=>(dM x).bind λax=>(avV ax).bind λ
  | .one (.own k j)=>.gO k λos=>match aZ os j with
   | .own t xs deep true=>if h:t=s.t then .opt (s.fn (h▸xs)) λys=>.ret (.upd k j (.own s.t ys deep true)::fF o (.tup []))else .fail
   | _=>.fail
  | _=>.fail
 | _,_=>.fail
def tmC(cs:List C):List (Int⊕Nat)->Option (List C)
 | []=>some []
 | .inl n::r=>(tmC cs r).bind λq=>some (.d (.int .i64 n)::q)
 | .inr i::r=>match cs[i]? with
  | some c=>(tmC cs r).bind λq=>some (c::q)
  | none=>none
def agR:List V->Option (List C)
 | []=>some []
 | .one c::r=>(agR r).bind λq=>some (c::q)
 | _::_=>none
def afk(E:Env)(o:Oper)(c:Call)(f:Nat):Rd (List W):=
 match E.ps.find? (λs=>s.fid==f)with
 | some s=>(vw c.args.toList).bind λvs=>match agR vs with
  | some cs=>if cs.length=s.n then match tmC cs s.tm with
   | some q=>.ret (fF o (.v (.agg q)))
   | none=>.fail
   else .fail
  | none=>.fail
 | none=>match E.ks.find? (λs=>s.fid==f),c.args.toList with
  | some s,[x,y,z]=>(dM x).bind λ
   | .v (.one (.ptr b 0))=>.gB b λ
    | some cs=>if aP cs=[]/\s.c.agg=true/\s.c.t.size=cs.length then
      (dM y).bind λ
      | .v (.agg cy)=>(dM z).bind λ
       | .v (.agg cz)=>if cy.length=s.n/\cz.length=s.n then (vTs [s.c] [.agg cs]).bind λq=>.opt (s.fn q) λr=>
         .fk r.2 (.ret (.b b ((s.c.t.cells r.1).map .d)::fF o (.v (.agg cy)))) (.ret (.b b ((s.c.t.cells r.1).map .d)::fF o (.v (.agg cz))))
        else .fail
       | _=>.fail
      | _=>.fail
     else .fail
    | none=>.fail
   | _=>.fail
  | _,_=>aku E o c f
def akt(E:Env)(o:Oper)(c:Call)(f:Nat):Rd (List W):=
 match E.ss.find? (λs=>s.fid==f)with
 | some s=>(vw c.args.toList).bind λvs=>(vTs s.ps vs).bind λz=>.opt (s.fn z) λy=>if nodupB (aP (vs.flatMap V.cells))then
   (aaB o true s.rs y).bind λws=>.ret ((aP (vs.flatMap V.cells)).map (λq=>W.nomut q.1 q.2)++ws)
  else .fail
 | none=>afk E o c f
def akv(E:Env)(o:Oper)(c:Call)(f:Nat):Rd (List W):=
 match E.bs.find? (λs=>s.fid==f),c.args.toList with
 | some s,x::xs=>(dM x).bind λ
  | .v (.one (.ptr b 0))=>.gB b λ
   | some cs=>(vw xs).bind λvs=>(vTs s.ps (.agg cs::vs)).bind λz=>.opt (s.fn z) λy=>afD o s.ex E.trees s.sh b cs.length (aP ((V.agg cs::vs).flatMap V.cells)) s.rs y
   | none=>.fail
  | _=>.fail
 | _,_=>match E.ns.find? (λs=>s.fid==f),o.dst with
  | some s,some d=>(vw c.args.toList).bind λvs=>(vTs s.ps vs).bind λz=>.opt (s.fn z) λy=>if nodupB (aP (vs.flatMap V.cells))then
    (xW d ((dF s.rs y).map .d)).bind λws=>.ret ((aP (vs.flatMap V.cells)).map (λq=>W.nomut q.1 q.2)++ws)
   else .fail
  | _,_=>akt E o c f
def ahU(ap:Nat)(cs:List C)(keys:List (Nat×Nat)):Rd (List W):=match cs[ap]? with
 | some (.own k j)=>if nodupB ((k,j)::keys)then .gO k λos=>match aZ os j with
   | .own _ _ _ _=>.ret [.upd k j .dead]
   | _=>.fail
  else .fail
 | some .nil=>if nodupB keys then .ret []else .fail
 | _=>.fail
def Zq(o:Oper)(b ap:Nat)(cs:List C)(keys:List (Nat×Nat)):(rs:List Sh)->Tup rs->Rd (List W)
 | [],_=>.fail
 | c::rs,y=>if c.agg=true/\c.t.size=cs.length then match o.dst,(c.t.cells (jV y))[ap]? with
   | some d,some (.list t ys)=>(ahU ap cs keys).bind λw1=>(fresh d [.own t ys false false]).bind λw2=>
    .gN λN=>if d<N then .ret (keys.map (λq=>W.nomut q.1 q.2)++(w1++(w2++[.b b (((c.t.cells (jV y)).map .d).set ap (.own d 0)),.t d (qC (pM d false 0 rs (yG y)))])))else .fail
   | _,_=>.fail
  else .fail
def afl(E:Env)(o:Oper)(c:Call)(f:Nat):Rd (List W):=
 match E.mb.find? (λs=>s.1.fid==f),c.args.toList with
 | some s,x::xs=>if E.ma=true then (dM x).bind λ
  | .v (.one (.ptr b 0))=>.gB b λ
   | some cs=>(vw xs).bind λvs=>(vTs s.1.ps (.agg cs::vs)).bind λz=>.opt (s.1.fn z) λy=>Zq o b s.2 cs (aP (cs.set s.2 .nil++vs.flatMap V.cells)) s.1.rs y
   | none=>.fail
  | _=>.fail
  else .fail
 | _,_=>akv E o c f
def Tv(o:Oper)(agg:Bool)(n k j i sz off:Nat)(t:Ty)(xs:List t.den)(m:Nat):Rd (List W):=
 match o.dst with
 | some d=>if agg=true/\off=0/\n=t.size/\t.size=sz then .opt (if i=m then xs[i]? else none) λx=>
   (fresh d (EZ true (t.cells x))).bind λws=>.ret (.upd k j (.part t xs (m+1))::(ws++[.t d (.v (.agg (Jh d true 0 (t.cells x))))]))
  else .fail
 | none=>.fail
def aeT(E:Env)(o:Oper):Bool:=match o.dst with
 | some d=>E.hols.contains d
 | none=>false
def Vm(o:Oper)(agg:Bool)(n k j i sz off:Nat)(t:Ty)(xs:List t.den)(dm:Bool):Rd (List W):=
 match o.dst with
 | some d=>if agg=false/\n=1/\t.size=sz/\dm=true then .opt (xs[i]?) λx=>match (t.cells x)[off]? with
   | some (.list a ys)=>if a.flat=true then (fresh d [.own a ys true true]).bind λws=>.ret (.upd k j (.hole t xs i off)::(ws++[.t d (.v (.one (.own d 0)))]))else .fail
   | _=>.fail
  else .fail
 | none=>.fail
def Vy(o:Oper)(v:V)(n k j i sz off:Nat)(t:Ty)(xs:List t.den)(i0 q0:Nat):Rd (List W):=match v with
 | .one (.own a b)=>.gO a λc=>match aZ c b with
  | .own d ys true true=>.opt (xs[i]?) λx=>.opt (if i=i0/\off=q0 then some ()else none) λ_=>if t.size=sz/\n=1/\off<t.size/\d.flat=true/\nodupB [(k,j),(a,b)]=true then
    .opt (t.iw (dN (t.cells x) off [.list d ys])) λy=>.ret (.upd a b .dead :: .upd k j (.tree t (xs.set i y))::fF o (.tup []))
   else .fail
  | _=>.fail
 | _=>.fail
def cutAt{α:Type}(xs:List α)(n:Int):Option Nat:=if 0<=n/\n<=xs.length then some n.toNat else none
def ajy(E:Env)(o:Oper):Bool:=match o.dst with
 | some d=>E.agB.contains d||E.trs.contains d
 | none=>false
def aeS(E:Env)(o:Oper):Option Nat:=match o.dst with
 | some d=>if E.trs.contains d then some d else none
 | none=>none
def ad7(E:Env)(o:Oper)(T k j:Nat)(lo a:Option Int):Rd (List W):=match lo,a with
 | none,some h=>.gO k λos=>match aZ os j with
  | .own t xs dp true=>if (lk E.tt.elem T)=some t then .opt (cutAt xs h) λm=>match aeS E o with
   | some d=>(fresh d [.own t (xs.take m) dp true]).bind λws=>.ret (.upd k j .dead::ws++[.t d (.v (.one (.own d 0)))])
   | none=>.ret (fF o (.pre k j m))
   else .fail
  | _=>.fail
 | some l,none=>.gO k λos=>match aZ os j with
  | .own t xs _ _=>if (lk E.tt.elem T)=some t then .opt (cutAt xs l) λm=>.ret (fF o (.suf t k j m))else .fail
  | _=>.fail
 | _,_=>.fail
def ado(d:Nat)(t:Ty)(ax:AV)(f:Ty)(a b c:Nat):Rd (List W):=.gO a λos=>match aZ os b with
 | .own g ys _ _=>if e:g=t then if f=t/\t.flat=true then match ax with
  | .v (.one (.own k j))=>.gO k λos=>match aZ os j with
   | .own t' xs deep m=>if h:t'=t then if nodupB [(k,j),(a,b)]=true then .opt (gd ((h▸xs:List t.den).length+((e▸ys:List t.den).drop c).length)) λ_=>
     (fresh d [.own t ((h▸xs:List t.den)++(e▸ys:List t.den).drop c) deep m]).bind λws=>.ret (.upd k j .dead::ws++[.t d (.v (.one (.own d 0)))])
    else .fail
    else .fail
   | _=>.fail
  | _=>.fail
  else .fail
  else .fail
 | _=>.fail
def adz(d:Nat)(t:Ty)(ax:AV)(b:Nat):Rd (List W):=.gO b λos=>match aZ os 0 with
 | .seg c ys=>if a:c=t then match ax with
  | .v (.one .nil)=>.opt (gd (a▸ys:List t.den).length) λ_=>(fresh d [.own t (a▸ys:List t.den) true true]).bind λws=>.ret (.upd b 0 .dead::ws++[.t d (.v (.one (.own d 0)))])
  | .v (.one (.own k j))=>.gO k λos=>match aZ os j with
   | .own t' xs deep m=>if h:t'=t then .opt (gd ((h▸xs:List t.den).length+(a▸ys:List t.den).length)) λ_=>
     (fresh d [.own t ((h▸xs:List t.den)++(a▸ys:List t.den)) deep m]).bind λws=>.ret (.upd k j .dead :: .upd b 0 .dead::ws++[.t d (.v (.one (.own d 0)))])
    else .fail
   | _=>.fail
  | _=>.fail
  else .fail
 | _=>.fail
def C.plain:C->Bool
 | .d (.list _ _)=>false
 | .d _=>true
 | _=>false
def eff(E:Env)(o:Oper):Rd (List W):=
 match o.op with
 | .move x | .assign x=>(dM x).bind λa=>.ret (fF o a)
 | .pick c a b=>(dM c).bind λc=>(avD c).bind λ
  | .bool true=>(dM a).bind λv=>.ret (fF o v)
  | .bool false=>(dM b).bind λv=>.ret (fF o v)
  | _=>.fail
 | .alloc e=>match o.dst,lk E.tt.zero e with
  | some d,some cs=>xW d cs
  | _,_=>.fail
 | .box _ x=>match o.dst with
  | some d=>(dM x).bind λa=>(avV a).bind λv=>xW d v.cells
  | none=>.fail
 | .load t p=>match lk E.tt.shape t with
  | none=>.fail
  | some (agg,n)=>(dM p).bind λ
   | .v (.one (.ptr b off))=>.gB b λ
    | some cs=>.opt (mkV agg (seg cs off n)) λv=>if (seg cs off n).length=n then .ret (fF o (Jw v))else .fail
    | none=>.fail
   | .elt t x off=>.opt (mkV agg ((seg (t.cells x) off n).map .d)) λv=>if (seg (t.cells x) off n).length=n then .ret (fF o (Jw v))else .fail
   | .oelt k j i sz off=>.gO k λos=>match aZ os j with
    | .own t xs _ _=>if t.size=sz then .opt (xs[i]?) λx=>.opt (mkV agg ((seg (t.cells x) off n).map .d)) λv=>if (seg (t.cells x) off n).length=n then .ret (fF o (Jw v))else .fail
     else .fail
    | .part t xs m=>Tv o agg n k j i sz off t xs m
    | .tree t xs=>Vm o agg n k j i sz off t xs (aeT E o)
    | _=>.fail
   | _=>.fail
 | .store t p x=>match lk E.tt.shape t with
  | none=>.fail
  | some (_,n)=>(dM x).bind λa=>(avV a).bind λv=>if v.cells.length=n then (dM p).bind λ
   | .v (.one (.ptr b off))=>.gB b λ
    | some cs=>if off+n<=cs.length/\(E.ma||b != 0||(seg cs off n).all C.plain)=true then .ret (.b b (dN cs off v.cells)::fF o (.tup []))else .fail
    | none=>.fail
   | .oelt k j i sz off=>.gO k λos=>match aZ os j with
    | .own t xs deep true=>.opt (xs[i]?) λx=>
     if t.size=sz/\off+n<=t.size then
      (cDs (seg t.tys off n) v.cells).bind λds=>(vz v.cells).bind λdp=>.opt (t.iw (dN (t.cells x) off ds)) λy=>
       if nodupB ((k,j)::aP v.cells)then
        .ret (((aP v.cells).map λq=>.ro q.1 q.2)++(.upd k j (.own t (xs.set i y) (deep&&dp) true)::fF o (.tup [])))
       else .fail
     else .fail
    | .hole t xs i0 q0=>Vy o v n k j i sz off t xs i0 q0
    | _=>.fail
   | _=>.fail
   else .fail
 | .fieldAddr s p f=>match (lk E.tt.fields s).bind (·[f]?)with
  | none=>.fail
  | some (fo,_,_)=>(dM p).bind λ
   | .v (.one (.ptr b off))=>.ret (fF o (.v (.one (.ptr b (off+fo)))))
   | .elt t x off=>.ret (fF o (.elt t x (off+fo)))
   | .oelt k j i sz off=>.ret (fF o (.oelt k j i sz (off+fo)))
   | _=>.fail
 | .field s x f=>match (lk E.tt.fields s).bind (·[f]?)with
  | none=>.fail
  | some (fo,agg,n)=>(dM x).bind λ
   | .v (.agg cs)=>.opt (mkV agg (seg cs fo n)) λv=>if (seg cs fo n).length=n then .ret (fF o (Jw v))else .fail
   | _=>.fail
 | .indexAddr T x i=>match lk E.tt.elem T with
  | none=>.fail
  | some t=>(dM x).bind λa=>(dM i).bind λai=>(Jy ai).bind λn=>match a with
   | .v (.one (.d (.list t' xs)))=>if t'=t then .opt (idx xs n) λy=>.ret (fF o (.elt t' y 0))else .fail
   | .v (.one (.own k j))=>.gO k λos=>match aZ os j with
    | .own t' xs _ _=>if t'=t then .opt (idx xs n) λ_=>.ret (fF o (.oelt k j n.toNat t.size 0))else .fail
    | .ro t' xs=>if t'=t then .opt (idx xs n) λy=>.ret (fF o (.elt t' y 0))else .fail
    | .part t' xs _=>if t'=t then .opt (idx xs n) λ_=>.ret (fF o (.oelt k j n.toNat t.size 0))else .fail
    | .hole t' xs _ _=>if t'=t then .opt (idx xs n) λ_=>.ret (fF o (.oelt k j n.toNat t.size 0))else .fail
    | .tree t' xs=>if t'=t then .opt (idx xs n) λ_=>if aeT E o=true then .ret (fF o (.oelt k j n.toNat t.size 0))else .ret (.upd k j (.part t' xs n.toNat)::fF o (.oelt k j n.toNat t.size 0))else .fail
    | _=>.fail
   | _=>.fail
 | .index T x i=>if E.tt.strs.contains T then (dM x).bind λa=>(avD a).bind λ
   | .str s=>(dM i).bind λai=>(Jy ai).bind λn=>.opt (idx s n) λc=>.ret (fF o (.v (.one (.d (.int .u8 c.toNat)))))
   | _=>.fail
  else .fail
 | .extract x i=>(dM x).bind λ
  | .tup vs=>.opt (vs[i]?) λv=>.ret (fF o (Jw v))
  | _=>.fail
 | .binOp op T x y _=>(dM x).bind λa=>(dM y).bind λb=>match a,b with
  | .v (.agg cs),.v (.agg cs')=>match lk E.tt.eqs T with
   | none=>.fail
   | some ks=>match X9 ks cs,X9 ks cs' with
    | some ds,some ds'=>match op with
     | .eql=>.ret (fF o (.v (.one (.d (.bool (Cf ds ds'))))))
     | .neq=>.ret (fF o (.v (.one (.d (.bool (!(Cf ds ds')))))))
     | _=>.fail
    | _,_=>.fail
  | a,b=>(avD a).bind λdx=>(avD b).bind λdy=>match op,dx,dy with
   | .quo,.int k p,.int k' q=>if k=k' then .opt (quoI k p q) λz=>.ret (fF o (.v (.one (.d (.int k z)))))else .fail
   | .rem,.int k p,.int k' q=>if k=k' then .opt (Qb p q) λz=>.ret (fF o (.v (.one (.d (.int k z)))))else .fail
   | .shl,.int k p,.int _ q=>.opt (shlI k p q) λz=>.ret (fF o (.v (.one (.d (.int k z)))))
   | .shr,.int k p,.int _ q=>.opt (shrI k p q) λz=>.ret (fF o (.v (.one (.d (.int k z)))))
   | .add,.str p,.str q=>.opt (gd (p.length+q.length)) λ_=>.ret (fF o (.v (.one (.d (.str (p++q))))))
   | op,dx,dy=>if isBool dx->E.tt.bools.contains T then .opt (akC op dx dy) λz=>.ret (fF o (.v (.one (.d z))))else .fail
 | .unOp op _ x=>(dM x).bind λa=>(avD a).bind λ
  | .bool b=>match op with
   | .not=>.ret (fF o (.v (.one (.d (.bool (!b))))))
   | _=>.fail
  | .int k n=>match op with
   | .neg=>.ret (fF o (.v (.one (.d (.int k (k.wrap (0-n)))))))
   | _=>.fail
  | _=>.fail
 | .convert w T x=>(dM x).bind λa=>match lk E.tt.ints w,lk E.tt.ints T with
  | some _,some k=>(Jy a).bind λn=>.ret (fF o (.v (.one (.d (.int k (k.wrap n))))))
  | _,_=>if E.tt.strs.contains T=true/\lk E.tt.elem w=some (.base .u8)then match a with
    | .v (.one c)=>(listOf (.base .u8) c).bind λxs=>.ret (fF o (.v (.one (.d (.str (bytesOf xs))))))
    | _=>.fail
   else .fail
 | .nilCheck x=>(dM x).bind λ
  | .v (.one (.ptr b off))=>.ret (fF o (.v (.one (.ptr b off))))
  | _=>.fail
 | .build T parts=>match lk E.tt.zero T,lk E.tt.fields T with
  | some z,some fs=>(fillA fs parts.toList z).bind λcs=>.ret (fF o (.v (.agg cs)))
  | _,_=>.fail
 | .buildSlice T n parts=>match o.dst,lk E.tt.elem T with
  | some d,some t=>(Nr parts.toList 0).bind λvs=>if vs.length=n/\n*t.size<=16777216 then
    (abl t vs).bind λxs=>(vz (vs.flatMap V.cells)).bind λdp=>
     if nodupB (aP (vs.flatMap V.cells))then
      (fresh d [.own t xs dp true]).bind λws=>.ret (((aP (vs.flatMap V.cells)).map λq=>.ro q.1 q.2)++ws++[.t d (.v (.one (.own d 0)))])
     else .fail
   else .fail
  | _,_=>.fail
 | .makeSlice T l c=>match o.dst,lk E.tt.elem T with
  | some d,some t=>match l,c with
   | .tmp i,.tmp j=>if i=j then (dM l).bind λa=>(Jy a).bind λn=>.opt (mk n) λm=>
     (fresh d [.own t (List.replicate m t.zero) true true]).bind λws=>.ret (ws++[.t d (.v (.one (.own d 0)))])
    else .fail
   | _,_=>.fail
  | _,_=>.fail
 | .call c=>match c.callee with
  | .builtin .len=>match c.args.toList,c.argTypes.toList with
   | [x],[T]=>(dM x).bind λ
    | .v (.one (.d (.str s)))=>if E.tt.strs.contains T then .ret (fF o (.v (.one (.d (.int .i64 s.length)))))else .fail
    | .v (.one (.d (.list _ xs)))=>if (lk E.tt.elem T).isSome then .ret (fF o (.v (.one (.d (.int .i64 xs.length)))))else .fail
    | .v (.one .nil)=>if (lk E.tt.elem T).isSome then .ret (fF o (.v (.one (.d (.int .i64 0)))))else .fail
    | .v (.one (.own k j))=>if (lk E.tt.elem T).isSome then .gO k λos=>match aZ os j with
     | .own _ xs _ _ | .ro _ xs | .tree _ xs=>.ret (fF o (.v (.one (.d (.int .i64 xs.length)))))
     | _=>.fail
     else .fail
    | _=>.fail
   | _,_=>.fail
  | .builtin .append=>match o.dst,c.args.toList,c.argTypes.toList with
   | some d,[x,y],[T,T']=>if T=T' then match lk E.tt.elem T with
    | none=>.fail
    | some t=>(dM x).bind λax=>(dM y).bind λay=>match ay with
     | .seg u=>adz d t ax u
     | .suf A u B D=>ado d t ax A u B D
     | ay=>(avV ay).bind λvy=>match vy with
      | .agg _=>.fail
      | .one cy=>(listOf t cy).bind λys=>(if t.flat then .ret true else CV cy).bind λdp=>match ax with
       | .v (.one .nil)=>.opt (gd ys.length) λ_=>
        (fresh d [.own t ys dp true]).bind λws=>.ret ((if t.flat then []else (aP [cy]).map λq=>.ro q.1 q.2)++ws++[.t d (.v (.one (.own d 0)))])
       | .v (.one (.own k j))=>.gO k λos=>match (aZ os j).sV with
        | .own t' xs deep m=>if h:t'=t then
          if nodupB ((k,j)::aP [cy])then
           .opt (gd ((h▸xs:List t.den).length+ys.length)) λ_=>
            (fresh d [.own t ((h▸xs:List t.den)++ys) (deep&&dp) m]).bind λws=>
             .ret (.upd k j .dead::(if t.flat then []else (aP [cy]).map λq=>.ro q.1 q.2)++ws++[.t d (.v (.one (.own d 0)))])
          else .fail
         else .fail
        | _=>.fail
       | .pre k j n=>.gO k λos=>match aZ os j with
        | .own t' xs deep true=>if h:t'=t then
          if nodupB ((k,j)::aP [cy])then
           .opt (gd (((h▸xs:List t.den).take n).length+ys.length)) λ_=>
            (fresh d [.own t ((h▸xs:List t.den).take n++ys) (deep&&dp) true]).bind λws=>
             .ret (.upd k j .dead::(if t.flat then []else (aP [cy]).map λq=>.ro q.1 q.2)++ws++[.t d (.v (.one (.own d 0)))])
          else .fail
         else .fail
        | _=>.fail
       | _=>.fail
    else if lk E.tt.elem T=some (.base .u8)/\E.tt.strs.contains T'=true then (dM x).bind λax=>(dM y).bind λay=>(avD ay).bind λ
     | .str s=>match ax with
      | .v (.one .nil)=>.opt (gd (NF s).length) λ_=>
       (fresh d [.own (.base .u8) (NF s) true true]).bind λws=>.ret (ws++[.t d (.v (.one (.own d 0)))])
      | .v (.one (.own k j))=>.gO k λos=>match aZ os j with
       | .own t' xs deep m=>if h:t'=.base .u8 then
         .opt (gd ((h▸xs:List (Ty.base .u8).den).length+(NF s).length)) λ_=>
          (fresh d [.own (.base .u8) ((h▸xs:List (Ty.base .u8).den)++NF s) deep m]).bind λws=>
           .ret (.upd k j .dead::ws++[.t d (.v (.one (.own d 0)))])
        else .fail
       | _=>.fail
      | _=>.fail
     | _=>.fail
    else .fail
   | _,_,_=>.fail
  | .builtin .max=>match c.args.toList with
   | [x,y]=>(dM x).bind λa=>(avD a).bind λ
    | .int .i64 m=>(dM y).bind λb=>(avD b).bind λ
     | .int .i64 n=>.ret (fF o (.v (.one (.d (.int .i64 (if n>m then n else m))))))
     | _=>.fail
    | _=>.fail
   | _=>.fail
  | .builtin .min=>match c.args.toList with
   | [x,y]=>(dM x).bind λa=>(avD a).bind λ
    | .int .i64 m=>(dM y).bind λb=>(avD b).bind λ
     | .int .i64 n=>.ret (fF o (.v (.one (.d (.int .i64 (if n<m then n else m))))))
     | _=>.fail
    | _=>.fail
   | _=>.fail
  | .value (.func f)=>match E.fs.find? (λs=>s.fid==f)with
   | none=>match E.ms.find? (λm=>m.fid==f),c.args.toList with
    | some m,[x,y]=>(dM x).bind λax=>(avV ax).bind λv=>(dM y).bind λay=>(avD ay).bind λ
     | .int .i64 n=>(vT m.sh v).bind λz=>.opt (m.fn z n) λr=>
      if nodupB (aP v.cells)then (yV (m.sh.t.cells r.1) v.cells).bind λws=>.ret (ws++fF o (.v (.one (.d (.int .i64 r.2)))))
      else .fail
     | _=>.fail
    | _,_=>afl E o c f
   | some s=>(vw c.args.toList).bind λvs=>(vTs s.ps vs).bind λx=>.opt (s.fn x) λy=>
    let keys:=aP (vs.flatMap V.cells)
    if s.ex||nodupB keys then
     let cut:List W:=if s.ex then []else keys.map λq=>.nomut q.1 q.2
     match o.dst with
     | none=>.ret cut
     | some d=>
      if s.ex&&(dF s.rs y).any isList then
       (fresh d (EZ E.trees (dF s.rs y))).bind λws=>.ret (ws++[.t d (qC (pM d s.ex 0 s.rs y))])
      else .ret (cut++[.t d (qC (pM d s.ex 0 s.rs y))])
    else .fail
  | _=>.fail
 | .slice T x lo g mx=>match mx with
  | some _=>.fail
  | none=>(dM x).bind λa=>(bnd lo).bind λlo=>(bnd g).bind λg=>match a with
   | .v (.one (.d (.str s)))=>if E.tt.strs.contains T then .opt (cutL s lo g) λr=>.ret (fF o (.v (.one (.d (.str r)))))else .fail
   | .v (.one (.d (.list t xs)))=>if (lk E.tt.elem T)=some t then .opt (cutL xs lo g) λr=>.ret (fF o (.v (.one (.d (.list t r)))))else .fail
   | .v (.one (.own k j))=>if ajy E o=true then ad7 E o T k j lo g else .gO k λos=>match aZ os j with
    | .own t xs _ m=>if (lk E.tt.elem T)=some t then .opt (cutL xs lo g) λr=>.ret (match m with | true=>.nomut k j::fF o (.v (.one (.d (.list t r)))) | false=>fF o (.v (.one (.d (.list t r)))))else .fail
    | .ro t xs=>if (lk E.tt.elem T)=some t then .opt (cutL xs lo g) λr=>.ret (fF o (.v (.one (.d (.list t r)))))else .fail
    | _=>.fail
   | .cut t _ n u F=>if (lk E.tt.elem T)=some t then match lo,g with
     | none,some h=>.opt (if h=(n:Int)then some ()else none) λ_=>.ret (fF o (.seg u))
     | some l,none=>.opt (if l=(n:Int)then some ()else none) λ_=>.ret (fF o (.seg F))
     | _,_=>.fail
    else .fail
   | _=>.fail
 | _=>.fail
where
 fillA (fs:List (Nat×Bool×Nat)):List (Nat×Operand)->List C->Rd (List C)
  | [],z=>.ret z
  | (i,x)::r,z=>match fs[i]? with
   | none=>.fail
   | some (fo,_,n)=>(dM x).bind λa=>(avV a).bind λv=>
    if v.cells.length=n/\fo+n<=z.length then fillA fs r (dN z fo v.cells)else .fail
 bnd:Option Operand->Rd (Option Int)
  | none=>.ret none
  | some x=>(dM x).bind λa=>(Jy a).bind λn=>.ret (some n)
 cutL {α:Type} (xs:List α) (lo hi:Option Int):Option (List α):=
  let l:=lo.getD 0
  let h:=hi.getD xs.length
  if 0<=l/\l<=h/\h<=xs.length then some ((xs.take h.toNat).drop l.toNat)else none
def fork{ρ:Type}(t:Nat)(S:St)(k:St->Option ρ):Option ρ:=
 match S.iP t with
 | .v (.one (.d (.bool b)))=>cond b (k (S.iV t (.v (.one (.d (.bool true)))))) (k (S.iV t (.v (.one (.d (.bool false))))))
 | _=>k S
def Jr{ρ:Type}(x:Option Nat)(S:St)(k:St->Option ρ):Option ρ:=
 match x with
 | none=>k S
 | some t=>fork t S k
def ZR(ops:Array Oper)(o:Oper):Option Nat:=match o.guard with
 | none=>none
 | some (j,_)=>(ops[j]?).bind (·.dst)
def aec(o:Oper):Option Nat:=match o.op with
 | .pick (.tmp c) _ _=>some c
 | _=>none
def SS(ops:Array Oper)(o:Oper):Rd Bool:=match o.guard with
 | none=>.ret true
 | some (j,want)=>match (ops[j]?).bind (·.dst)with
  | none=>.fail
  | some t=>.gT t λ
   | .v (.one (.d (.bool b)))=>.ret (b==want)
   | .tup []=>.ret false
   | _=>.fail
def Eo(E:Env)(ops:Array Oper)(o:Oper):Rd (List W):=
 (SS ops o).bind λ
  | true=>eff E o
  | false=>.ret (fF o (.tup []))
def Es(E:Env)(d:Oper):List Oper->Option (Srt×Operand×Nat×Nat×Nat×Oper)
 | o2::e::_=>match d.op,d.dst,o2.op,o2.dst,e.op with
  | .makeInterface T x,some a,.makeFunc (.func g) first cap,some h,.call c=>match c.callee,first.toList,cap.toList,c.args.toList with
   | .value (.func f),[],[.tmp b],[.tmp i,.tmp j]=>
    if d.guard.isNone&&o2.guard.isNone&&e.guard.isNone&&(i==a)&&(j==h)&&(a != h)&&(b != a)then
     (E.so.find? λs=>s.fid==f&&s.g==g&&s.T==T).map λs=>(s,x,b,a,h,e)
    else none
   | _,_,_,_=>none
  | _,_,_,_,_=>none
 | _=>none
def KT(q:Srt×Operand×Nat×Nat×Nat×Oper):Rd (List W):=
 (dM q.2.1).bind λax=>(avV ax).bind λ
  | .one (.own k j)=>.gT q.2.2.1 λ
   | .v (.one (.ptr bi 0))=>.gB bi λ
    | some [.own k' j']=>if k=k'/\j=j' then .gO k λos=>match aZ os j with
     | .own t xs deep true=>if h:t=q.1.t then .opt (q.1.fn (h▸xs)) λys=>.gN λn=>if q.2.2.2.1<n/\q.2.2.2.2.1<n then
       .ret ([.upd k j (.own q.1.t ys deep true),.t q.2.2.2.1 .undef,.t q.2.2.2.2.1 .undef]++fF q.2.2.2.2.2 (.tup []))else .fail
      else .fail
     | _=>.fail
     else .fail
    | _=>.fail
   | _=>.fail
  | _=>.fail
def Qg{ρ:Type}(E:Env)(ops:Array Oper):Nat->List Oper->St->(St->Option ρ)->Option ρ
 | _,[],S,k=>k S
 | n+1,_::r,S,k=>Qg E ops n r S k
 | 0,o::r,S,k=>match Es E o r with
  | some q=>(KT q).runK S λws=>Qg E ops 2 r (S.puts ws) k
  | none=>Jr (ZR ops o) S λS=>Jr (aec o) S λS=>(Eo E ops o).runK S λws=>Qg E ops 0 r (S.puts ws) k
def aj1{ρ:Type}(E:Env)(ops:Array Oper)(l:List Oper)(S:St)(k:St->Option ρ):Option ρ:=Qg E ops 0 l S k
structure Lg where
 i:Nat
 reads:List L
 writes:List L
def opsL{ρ:Type}(E:Env)(ops:Array Oper):List (Oper×Nat)->St->List Lg->(St->List Lg->Option ρ)->Option ρ
 | [],S,g,k=>k S g
 | (o,i)::r,S,g,k=>Jr (ZR ops o) S λS=>Jr (aec o) S λS=>
   (Eo E ops o).Uu S [] λws rs=>opsL E ops r (S.puts ws) ({ i,reads:=rs,writes:=ws.map W.loc } :: g) k
def meets(a b:List L):Bool:=a.any λx=>b.any λy=>decide (x=y)
def Lg.free(a b:Lg):Bool:=!meets a.writes b.reads&&!meets a.writes b.writes&&!meets b.writes a.reads
def Ag(acc:List Nat)(o:Oper):Nat:=o.after.toList.foldl (λs e=>if Region.binds .any e then s ||| 2 ^ e.on ||| acc.getD e.on 0 else s) 0
def masks:List Nat->List Oper->List Nat
 | acc,[]=>acc
 | acc,o::r=>masks (acc++[Ag acc o]) r
def BU(bf:List Nat):List Lg->Bool
 | []=>true
 | a::r=>(r.all λb=>(bf.getD a.i 0).testBit b.i||b.free a)&&BU bf r
def IX(l:List (Oper×Nat)):Bool:=l.all λx=>x.1.after.toList.all λe=>!Region.binds .any e||decide (e.on<x.2)
def ahS(E:Env)(id:Nat):List (Nat×Nat):=(lk E.pre id).getD []
def agG{ρ:Type}(E:Env)(ops:Array Oper)(id:Nat)(S:St)(k:St->Option ρ):Option ρ:=
 opsL E ops ops.toList.zipIdx (S.puts ((ahS E id).map λq=>W.nomut q.1 q.2)) [] λS' g=>if IX ops.toList.zipIdx&&BU (masks [] ops.toList) g then k S' else none
def afp(s i a b:Nat):Rd (List W):=.gT s λ
 | .v (.one (.own k j))=>.gO k λos=>match aZ os j with
  | .own t xs true _=>.gT i λai=>(Jy ai).bind λn=>.opt (cutAt xs n) λm=>
   (fresh a [.seg t (xs.take m)]).bind λw1=>(fresh b [.seg t (xs.drop m)]).bind λw2=>.gN λN=>
    if a≠b/\a≠k/\b≠k/\a<N/\b<N then .ret (.upd k j .dead::(w1++(w2++[.t s (.cut t xs.length m a b)])))else .fail
  | _=>.fail
 | _=>.fail
def ahw{ρ:Type}(E:Env)(id:Nat)(S:St)(k:St->Option ρ):Option ρ:=match lk E.cuts id with
 | none=>k S
 | some (s,i,a,b)=>(afp s i a b).runK S λws=>k (S.puts ws)
inductive Ex where
 | normal
 | exit (id:Nat)
 | ret
inductive Sr where
 | ro (t:Ty)
 | own (t:Ty) (deep m:Bool) (key:Nat)
 | part (t:Ty) (key:Nat)
 | tree (t:Ty) (key:Nat)
abbrev Sr.den:Sr->Type
 | .ro t=>t.den
 | .own t _ _ _=>List t.den
 | .part t _=>List t.den×Nat
 | .tree t _=>List t.den
inductive It where
 | t (i:Nat) (s:Sr)
 | b (b off:Nat) (s:Sr)
def It.sr:It->Sr
 | .t _ s=>s
 | .b _ _ s=>s
structure LA where
 n:Nat
 its:List It
 boxes:List (Nat×Nat)
 ptrs:List (Nat×Nat×Nat)
 als:List (Nat×Nat×Nat):=[]
 bls:List (Nat×Nat×Nat×Nat):=[]
 tls:List (Nat×Nat):=[]
abbrev Its:List It->Type
 | []=>Unit
 | [x]=>x.sr.den
 | x::r=>x.sr.den×Its r
def adB:Ty->Bool
 | .base .int=>true
 | .base .u8=>true
 | .base .bool=>true
 | .base .str=>true
 | .list _=>true
 | _=>false
def avC:AV->Rd C
 | .v (.one c)=>.ret c
 | _=>.fail
def ZV(s:Sr)(c:C):Rd s.den:=
 match s with
 | .ro t=>if adB t then (cDs t.tys [c]).bind λds=>.opt (t.iw ds) .ret else .fail
 | .own t deep m _=>match c with
  | .nil=>.ret ([]:List t.den)
  | .own k j=>.gO k λos=>match aZ os j with
   | .own t' xs deep' m'=>if h:t'=t then if (deep->deep')/\(m->m')then .ret (h▸xs:List t.den)else .fail else .fail
   | .tree t' xs=>if h:t'=t then .ret (h▸xs:List t.den)else .fail
   | _=>.fail
  | _=>.fail
 | .part t _=>match c with
  | .own k j=>.gO k λos=>match aZ os j with
   | .tree t' xs=>if h:t'=t then .ret ((h▸xs:List t.den),(0:Nat))else .fail
   | .part t' xs i=>if h:t'=t then .ret ((h▸xs:List t.den),i)else .fail
   | _=>.fail
  | _=>.fail
 | .tree t _=>match c with
  | .own k j=>.gO k λos=>match aZ os j with
   | .tree t' xs=>if h:t'=t then .ret (h▸xs:List t.den)else .fail
   | _=>.fail
  | _=>.fail
def cAt:It->Rd C
 | .t i _=>.gT i avC
 | .b b off _=>.gB b λ
  | some cs=>.opt (cs[off]?) .ret
  | none=>.fail
def ae9(x:It):Rd x.sr.den:=(cAt x).bind λc=>ZV x.sr c
def aaU:(l:List It)->Rd (Its l)
 | []=>.ret ()
 | [x]=>ae9 x
 | x::y::r=>(ae9 x).bind λa=>(aaU (y::r)).bind λb=>.ret (a,b)
def keysOf:List It->Rd (List (Nat×Nat)×List (Nat×Nat))
 | []=>.ret ([],[])
 | x::r=>(cAt x).bind λc=>(keysOf r).bind λp=>
  match x.sr with
  | .own _ _ _ _=>.ret (aP [c]++p.1,p.2)
  | .part _ _=>.ret (aP [c]++p.1,p.2)
  | .tree _ _=>.ret (aP [c]++p.1,p.2)
  | .ro _=>.ret (p.1,aP [c]++p.2)
def Gt:List (Nat×Nat)->Rd Unit
 | []=>.ret ()
 | (b,n)::r=>.gB b λ
  | some cs=>if cs.length=n then Gt r else .fail
  | none=>.fail
def Nk:List (Nat×Nat×Nat)->Rd Unit
 | []=>.ret ()
 | (i,b,off)::r=>.gT i λ
  | .v (.one (.ptr b' off'))=>if b'=b/\off'=off then Nk r else .fail
  | _=>.fail
def aa8:List (Nat×Nat×Nat)->Rd Unit
 | []=>.ret ()
 | (i,b,off)::r=>.gT i λ
  | .v (.one (.own k j))=>.gB b λ
   | some cs=>match cs[off]? with
    | some (.own k' j')=>if k=k'/\j=j' then aa8 r else .fail
    | _=>.fail
   | none=>.fail
  | _=>.fail
def aa4:List (Nat×Nat×Nat×Nat)->Rd Unit
 | []=>.ret ()
 | (b',off',b,off)::r=>.gB b' λ
  | some cs'=>.gB b λ
   | some cs=>match cs'[off']?,cs[off]? with
    | some (.own k' j'),some (.own k j)=>if k=k'/\j=j' then aa4 r else .fail
    | _,_=>.fail
   | none=>.fail
  | none=>.fail
def aao:List (Nat×Nat)->Rd Unit
 | []=>.ret ()
 | (i,i')::r=>.gT i λ
  | .v (.one (.own k j))=>.gT i' λ
   | .v (.one (.own k' j'))=>if k=k'/\j=j' then aao r else .fail
   | _=>.fail
  | _=>.fail
def dG:List It->List Nat
 | []=>[]
 | x::r=>match x.sr with
  | .own _ _ _ key=>key::dG r
  | .part _ key=>key::dG r
  | .tree _ key=>key::dG r
  | .ro _=>dG r
def DV:List Nat->Bool
 | []=>true
 | x::r=>!(r.any λy=>y==x)&&DV r
def LA.get(la:LA):Rd (Its la.its):=.gN λn=>if n=la.n/\DV (dG la.its)=true/\(dG la.its).all (λk=>decide (k<la.n))=true/\la.ptrs.all (λp=>la.boxes.any λq=>q.1==p.2.1)=true/\la.its.all (λit=>match it with
      | .b bx _ _=>la.boxes.any λq=>q.1==bx
      | _=>true)=true then
  (Gt la.boxes).bind λ_=>(Nk la.ptrs).bind λ_=>(aa8 la.als).bind λ_=>(aa4 la.bls).bind λ_=>(aao la.tls).bind λ_=>(keysOf la.its).bind λp=>
   if nodupB p.1&&p.1.all (λx=>!p.2.any λy=>y.1==x.1&&y.2==x.2)then aaU la.its else .fail
 else .fail
def LA.base(la:LA):St:=
 { tmps:=la.ptrs.foldl (λl p=>l.set p.1 (.v (.one (.ptr p.2.1 p.2.2)))) (List.replicate la.n .undef),boxes:=la.boxes.foldl (λl p=>l.set p.1 (some (List.replicate p.2 .undef))) (List.replicate la.n none),owns:=List.replicate la.n [] }
def dOf(t:Ty)(x:t.den):C:=match t.cells x with
 | [d]=>.d d
 | _=>.undef
def St.ou(S:St)(it:It)(c:C):St:=match it with
 | .t i _=>S.iV i (.v (.one c))
 | .b b off _=>match S.fJ b with
  | some cs=>S.setB b (some (cs.set off c))
  | none=>S
def St.Nh(S:St)(it:It)(x:it.sr.den):St:=
 match it.sr,x with
 | .ro t,x=>S.ou it (dOf t x)
 | .own t deep m key,xs=>(S.bI key [.own t xs deep m]).ou it (.own key 0)
 | .part t key,(xs,i)=>(S.bI key [.part t xs i]).ou it (.own key 0)
 | .tree t key,xs=>(S.bI key [.tree t xs]).ou it (.own key 0)
def St.aaF(S:St):(l:List It)->Its l->St
 | [],_=>S
 | [x],a=>S.Nh x a
 | x::y::r,(a,b)=>(S.Nh x a).aaF (y::r) b
def St.Ih(S:St):List (Nat×Nat×Nat)->St
 | []=>S
 | (i,b,off)::r=>match S.fJ b with
  | some cs=>match cs[off]? with
   | some (.own k j)=>(S.iV i (.v (.one (.own k j)))).Ih r
   | _=>S.Ih r
  | none=>S.Ih r
def St.Ig(S:St):List (Nat×Nat×Nat×Nat)->St
 | []=>S
 | (b',off',b,off)::r=>match S.fJ b',S.fJ b with
  | some cs',some cs=>match cs[off]? with
   | some (.own k j)=>(S.setB b' (some (cs'.set off' (.own k j)))).Ig r
   | _=>S.Ig r
  | _,_=>S.Ig r
def St.Nc(S:St):List (Nat×Nat)->St
 | []=>S
 | (i,i')::r=>match S.iP i' with
  | .v (.one (.own k j))=>(S.iV i (.v (.one (.own k j)))).Nc r
  | _=>S.Nc r
def LA.put(la:LA)(x:Its la.its):St:=(((la.base.aaF la.its x).Ih la.als).Ig la.bls).Nc la.tls
def iter{X ρ:Type}(f:X->Option (X⊕ρ)):Nat->X->Option ρ
 | 0,_=>none
 | n+1,x=>match f x with
  | none=>none
  | some (.inl y)=>iter f n y
  | some (.inr r)=>some r
open Classical in
def aO{X ρ:Type}(f:X->Option (X⊕ρ))(x:X):Option ρ:=
 if h:∃n r,iter f n x=some r then some h.choose_spec.choose else none
def lJ{X ρ:Type}(p:Option (X⊕ρ))(f:X->Option ρ):Option ρ:=p.bind λj=>match j with
 | .inl x=>f x
 | .inr r=>some r
def nK:Code->Option Nat
 | .region id _ _=>some id
 | .seq a b=>(nK a).or (nK b)
 | .cond _ a b=>(nK a).or (nK b)
 | .block _ c=>nK c
 | .loop c=>nK c
 | .scope c=>nK c
 | _=>none
def den(E:Env)(an:List (Nat×LA)):Code->{ρ:Type}->St->(Ex->St->Option ρ)->Option ρ
 | .skip,_,S,k=>k .normal S
 | .label _,_,S,k=>k .normal S
 | .region id ops false,_,S,k=>ahw E id S λS=>aj1 E ops ops.toList S λS=>k .normal S
 | .region id ops true,_,S,k=>ahw E id S λS=>agG E ops id S λS=>k .normal S
 | .seq a b,_,S,k=>match (nK b).bind λi=>lk an (i+1000000)with
  | none=>den E an a S λe S=>match e with
   | .normal=>den E an b S k
   | e=>k e S
  | some la=>lJ (den E an a S λe S=>match e with
   | .normal=>la.get.runK S λx=>some (.inl x)
   | e=>(k e S).bind λr=>some (.inr r)) λx=>den E an b (la.put x) k
 | .cond c a b,_,S,k=>match c with
  | .tmp t=>fork t S λS=>match S.iP t with
   | .v (.one (.d (.bool true)))=>den E an a S k
   | .v (.one (.d (.bool false)))=>den E an b S k
   | _=>none
  | _=>none
 | .block id c,_,S,k=>den E an c S λe S=>match e with
  | .exit i=>if i=id then k .normal S else k (.exit i) S
  | e=>k e S
 | .loop c,_,S,k=>match (nK c).bind (lk an)with
  | none=>none
  | some la=>la.get.runK S λf=>aO (λx=>den E an c (la.put x) λe S=>match e with
    | .normal=>la.get.runK S λy=>some (.inl y)
    | e=>(k e S).bind λr=>some (.inr r)) f
 | .exit id,_,S,k=>k (.exit id) S
 | .ret,_,S,k=>k .ret S
 | .scope _,_,_,_=>none
 | .goto _,_,_,_=>none
 | .rangeFunc ..,_,_,_=>none
 | .refuse _,_,_,_=>none
def acL(s:Sh)(x:s.t.den):V:=mkV' s.agg ((s.t.cells x).map .d)
def wX:(ss:List Sh)->Tup ss->List V
 | [],_=>[]
 | [s],x=>[acL s x]
 | s::s'::r,(x,y)=>acL s x::wX (s'::r) y
def yc(n:Nat)(vs:List V):St:=
 { tmps:=(vs.map .v)++List.replicate (n-vs.length) .undef,boxes:=List.replicate (vs.length+(n-vs.length)) none,owns:=List.replicate (vs.length+(n-vs.length)) [] }
def nG(n:Nat)(cs:List C)(vs:List V):St:=
 { tmps:=(.v (.one (.ptr 0 0))::vs.map .v)++List.replicate (n-(vs.length+1)) .undef,boxes:=some cs::List.replicate (vs.length+(n-(vs.length+1))) none,owns:=List.replicate (vs.length+1+(n-(vs.length+1))) [] }
def resV(E:Env):ResultVar->Rd V
 | .tmp t=>.gT t avV
 | .cell p ty=>match lk E.tt.shape ty with
  | none=>.fail
  | some (agg,n)=>.gT p λ
   | .v (.one (.ptr b off))=>.gB b λ
    | some cs=>.opt (mkV agg (seg cs off n)) λv=>if (seg cs off n).length=n then .ret v else .fail
    | none=>.fail
   | _=>.fail
def zU(E:Env):List ResultVar->Rd (List V)
 | []=>.ret []
 | x::r=>(resV E x).bind λv=>(zU E r).bind λvs=>.ret (v::vs)
def ahr(cs:List C):Rd Bool:=(vz cs).bind λb=>.ret (b&&nodupB (aP cs))
def finish(E:Env)(fn:Func)(rs:List Sh)(ex:Bool):Rd (Tup rs):=
 (zU E fn.results.toList).bind λvs=>(if ex then ahr (vs.flatMap V.cells)else .ret true).bind λok=>if ok then vTs rs vs else .fail
def aky(E:Env)(an:List (Nat×LA))(fn:Func)(ps rs:List Sh)(ex:Bool)(x:Tup ps):Option (Tup rs):=
 match fn.body with
 | none=>none
 | some c=>den E an c (yc fn.ntmps (wX ps x)) λe S=>match e with
  | .exit _=>none
  | _=>(finish E fn rs ex).runK S some
def afE:List Sh->Bool
 | c::_=>c.agg
 | []=>false
def cSh:C->Rd Bool
 | .d (.list _ _)=>.ret false
 | .d _=>.ret true
 | .nil=>.ret true
 | .own k j=>.gO k λos=>match aZ os j with
  | .own _ _ _ true=>.ret true
  | _=>.ret false
 | _=>.ret false
def ahx:List C->Rd Bool
 | []=>.ret true
 | c::r=>(cSh c).bind λb=>(ahx r).bind λb'=>.ret (b&&b')
def Ux(cs:List C):Rd Bool:=(ahx cs).bind λb=>.ret (b&&nodupB (aP cs))
def BO(E:Env)(fn:Func)(rs:List Sh):Rd (Tup rs):=
 (zU E fn.results.toList).bind λvs=>(Ux (vs.flatMap V.cells)).bind λok=>if ok then vTs rs vs else .fail
def akw(E:Env)(an:List (Nat×LA))(fn:Func)(ps rs:List Sh)(x:Tup ps):Option (Tup rs):=
 match fn.body with
 | none=>none
 | some c=>den E an c (yc fn.ntmps (wX ps x)) λe S=>match e with
  | .exit _=>none
  | _=>(BO E fn rs).runK S some
def BQ(E:Env)(fn:Func)(rs:List Sh)(ex sh:Bool):Rd (Tup rs):=if afE rs=true then .gB 0 λ
 | some cs=>if aP cs=[]then (zU E fn.results.toList).bind λvs=>(if ex then ahr (vs.flatMap V.cells)else if sh then Ux (vs.flatMap V.cells)else .ret true).bind λok=>if ok then vTs rs (.agg cs::vs)else .fail
  else .fail
 | none=>.fail
 else .fail
def sameBox:List Sh->List Sh->Bool
 | p::_,r::_=>p.agg&&decide (p.t=r.t)
 | _,_=>false
def akz(E:Env)(an:List (Nat×LA))(fn:Func)(ps rs:List Sh)(ex sh:Bool)(x:Tup ps):Option (Tup rs):=
 match fn.body,wX ps x with
 | some c,.agg cs::vs=>if E.ma=false/\(ex=true->sameBox ps rs=true)then den E an c (nG fn.ntmps cs vs) λe S=>match e with
  | .exit _=>none
  | _=>(BQ E fn rs ex sh).runK S some
  else none
 | _,_=>none
def sF(n ap:Nat)(cs:List C)(vs:List V)(t:Ty)(xs:List t.den):St:=
 { nG n (cs.set ap (.own 0 0)) vs with owns:=[.own t xs false false]::List.replicate (vs.length+(n-(vs.length+1))) [] }
def wV(E:Env)(fn:Func)(rs:List Sh)(ap:Nat):Rd (Tup rs):=if afE rs=true then .gB 0 λ
 | some cs=>if aP (cs.set ap .nil)=[]then match cs[ap]? with
  | some (.own k j)=>.gO k λos=>match aZ os j with
   | .own _ _ _ _=>(zU E fn.results.toList).bind λvs=>if nodupB ((k,j)::aP (vs.flatMap V.cells))=true then vTs rs (.agg cs::vs)else .fail
   | _=>.fail
  | _=>.fail
  else .fail
 | none=>.fail
 else .fail
def afo(E:Env)(an:List (Nat×LA))(fn:Func)(ps rs:List Sh)(ap:Nat)(x:Tup ps):Option (Tup rs):=
 match fn.body,wX ps x with
 | some c,.agg cs::vs=>match cs[ap]? with
  | some (.d (.list t xs))=>den E an c (sF fn.ntmps ap cs vs t xs) λe S=>match e with
   | .exit _=>none
   | _=>(wV E fn rs ap).runK S some
  | _=>none
 | _,_=>none
def BP(fn:Func)(rs:List Sh):Rd (Tup rs):=if afE rs=true then match fn.results.toList with
 | [.tmp t]=>.gT t λ
  | .v (.one (.ptr b 0))=>.gB b λ
   | some cs=>if aP cs=[]then vTs rs [.agg cs]else .fail
   | none=>.fail
  | _=>.fail
 | _=>.fail
 else .fail
def akx(E:Env)(an:List (Nat×LA))(fn:Func)(ps rs:List Sh)(x:Tup ps):Option (Tup rs):=
 match fn.body with
 | none=>none
 | some c=>den E an c (yc fn.ntmps (wX ps x)) λe S=>match e with
  | .exit _=>none
  | _=>(BP fn rs).runK S some
end
end Go.Abs
