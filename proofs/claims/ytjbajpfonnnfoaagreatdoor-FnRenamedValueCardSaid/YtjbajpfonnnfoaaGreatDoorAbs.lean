import Derived.Test.YtjbajpfonnnfoaaGreatDoorTypes
set_option linter.unusedSimpArgs false
set_option linter.unusedVariables false
/- The abstract evaluator: what a function of the program computes, over typed data, by the model's own code. -/
namespace Go.Abs
noncomputable section
inductive C where
 | undef
 | d (x:D)
 | nil
 | own (k j:Nat)
 | ptr (b off:Nat)
inductive V where
 | one (c:C)
 | agg (cs:List C)
inductive AV where
 | undef
 | v (x:V)
 | elt (t:Ty) (x:t.den) (off:Nat)
 | oelt (k j i sz off:Nat)
 | cut (t:Ty) (len n k1 k2:Nat)
 | seg (k:Nat)
 | pre (k j n:Nat)
 | suf (t:Ty) (k j m:Nat)
 | tup (vs:List V)
inductive O where
 | dead
 | own (t:Ty) (xs:List t.den) (deep m:Bool)
 | ro (t:Ty) (xs:List t.den)
 | tree (t:Ty) (xs:List t.den)
 | part (t:Ty) (xs:List t.den) (i:Nat)
 | seg (t:Ty) (xs:List t.den)
 | hole (t:Ty) (xs:List t.den) (i q:Nat)
structure St where
 tmps:List AV
 boxes:List (Option (List C))
 owns:List (List O)
inductive W where
 | t (i:Nat) (v:AV)
 | b (i:Nat) (cs:List C)
 | o (k:Nat) (os:List O)
 | upd (k j:Nat) (x:O)
 | ro (k j:Nat)
 | nomut (k j:Nat)
def St.je(S:St)(i:Nat):AV:=S.tmps.getD i .undef
def St.fK(S:St)(i:Nat):Option (List C):=S.boxes.getD i none
def St.aQ(S:St)(k:Nat):List O:=S.owns.getD k []
def St.jh(S:St)(i:Nat)(v:AV):St:={ S with tmps:=S.tmps.set i v }
def St.setB(S:St)(i:Nat)(v:Option (List C)):St:={ S with boxes:=S.boxes.set i v }
def St.cO(S:St)(i:Nat)(v:List O):St:={ S with owns:=S.owns.set i v }
def O.CU:O->O
 | .own t xs _ _=>.ro t xs
 | .tree t xs=>.ro t xs
 | o=>o
def O.Aw:O->O
 | .own t xs deep _=>.own t xs deep false
 | .tree t xs=>.own t xs true false
 | o=>o
def O.sZ:O->O
 | .tree t xs=>.own t xs true true
 | o=>o
def O.fU:O->O
 | .tree t xs=>.own t xs true true
 | .part t xs _=>.own t xs true true
 | .seg t xs=>.own t xs true true
 | .hole t xs _ _=>.own t xs true true
 | o=>o
def bC(os:List O)(j:Nat):O:=os.getD j .dead
def St.put(S:St):W->St
 | .t i v=>S.jh i v
 | .b i cs=>S.setB i (some cs)
 | .o k os=>S.cO k os
 | .upd k j x=>S.cO k ((S.aQ k).set j x)
 | .ro k j=>S.cO k ((S.aQ k).set j (bC (S.aQ k) j).CU)
 | .nomut k j=>S.cO k ((S.aQ k).set j (bC (S.aQ k) j).Aw)
def St.puts(S:St):List W->St
 | []=>S
 | x::r=>(S.put x).puts r
inductive L where
 | t (i:Nat)
 | b (i:Nat)
 | o (k:Nat)
 deriving DecidableEq
def W.loc:W->L
 | .t i _=>.t i
 | .b i _=>.b i
 | .o k _ | .upd k _ _ | .ro k _ | .nomut k _=>.o k
inductive Rd(α:Type):Type 1 where
 | ret (a:α)
 | fail
 | gT (i:Nat) (f:AV->Rd α)
 | gB (i:Nat) (f:Option (List C)->Rd α)
 | gO (k:Nat) (f:List O->Rd α)
 | gN (f:Nat->Rd α)
 | opt {β:Type} (o:Option β) (f:β->Rd α)
 | fk (b:Bool) (p q:Rd α)
def Rd.bind{α β:Type}:Rd α->(α->Rd β)->Rd β
 | .ret a,g=>g a
 | .fail,_=>.fail
 | .gT i f,g=>.gT i λx=>(f x).bind g
 | .gB i f,g=>.gB i λx=>(f x).bind g
 | .gO i f,g=>.gO i λx=>(f x).bind g
 | .gN f,g=>.gN λx=>(f x).bind g
 | .opt o f,g=>.opt o λx=>(f x).bind g
 | .fk b p q,g=>.fk b (p.bind g) (q.bind g)
def Rd.runK{α ρ:Type}:Rd α->St->(α->Option ρ)->Option ρ
 | .ret a,_,k=>k a
 | .fail,_,_=>none
 | .gT i f,S,k=>(f (S.je i)).runK S k
 | .gB i f,S,k=>(f (S.fK i)).runK S k
 | .gO i f,S,k=>(f (S.aQ i)).runK S k
 | .gN f,S,k=>(f S.tmps.length).runK S k
 | .opt o f,S,k=>o.bind λx=>(f x).runK S k
 | .fk b p q,S,k=>cond b (p.runK S k) (q.runK S k)
def Rd.UJ{α ρ:Type}:Rd α->St->List L->(α->List L->Option ρ)->Option ρ
 | .ret a,_,l,k=>k a l
 | .fail,_,_,_=>none
 | .gT i f,S,l,k=>(f (S.je i)).UJ S (.t i::l) k
 | .gB i f,S,l,k=>(f (S.fK i)).UJ S (.b i::l) k
 | .gO i f,S,l,k=>(f (S.aQ i)).UJ S (.o i::l) k
 | .gN f,S,l,k=>(f S.tmps.length).UJ S l k
 | .opt o f,S,l,k=>o.bind λx=>(f x).UJ S l k
 | .fk b p q,S,l,k=>cond b (p.UJ S l k) (q.UJ S l k)
def Rd.val{α:Type}:Rd α->St->Option α
 | .ret a,_=>some a
 | .fail,_=>none
 | .gT i f,S=>(f (S.je i)).val S
 | .gB i f,S=>(f (S.fK i)).val S
 | .gO i f,S=>(f (S.aQ i)).val S
 | .gN f,S=>(f S.tmps.length).val S
 | .opt o f,S=>o.bind λx=>(f x).val S
 | .fk b p q,S=>cond b (p.val S) (q.val S)
inductive Kd where
 | int (k:IntKind)
 | bool
 | str
 | list (t:Ty)
 deriving DecidableEq
def kd:D->Kd
 | .int k _=>.int k
 | .bool _=>.bool
 | .str _=>.str
 | .list t _=>.list t
structure TT where
 shape:List (Nat×Bool×Nat)
 zero:List (Nat×List C)
 fields:List (Nat×List (Nat×Bool×Nat))
 elem:List (Nat×Ty)
 ints:List (Nat×IntKind)
 strs:List Nat
 bools:List Nat
 eqs:List (Nat×List Kd)
structure Sh where
 agg:Bool
 t:Ty
abbrev Tup:List Sh->Type
 | []=>Unit
 | [s]=>s.t.den
 | s::r=>s.t.den×Tup r
structure Fsp where
 fid:Nat
 ps:List Sh
 rs:List Sh
 ex:Bool
 sh:Bool:=false
 fn:Tup ps->Option (Tup rs)
structure Msp where
 fid:Nat
 sh:Sh
 fn:sh.t.den->Int->Option (sh.t.den×Int)
structure Srt where
 fid:Nat
 g:Nat
 T:Nat
 t:Ty
 fn:List t.den->Option (List t.den)
structure Isp where
 fid:Nat
 t:Ty
 fn:List t.den->Option (List t.den)
structure Psp where
 fid:Nat
 n:Nat
 tm:List (Int⊕Nat)
structure Ksp where
 fid:Nat
 c:Sh
 n:Nat
 fn:c.t.den->Option (c.t.den×Bool)
structure Env where
 tt:TT
 fs:List Fsp
 ms:List Msp:=[]
 bs:List Fsp:=[]
 ns:List Fsp:=[]
 ss:List Fsp:=[]
 so:List Srt:=[]
 trees:Bool:=false
 pre:List (Nat×List (Nat×Nat)):=[]
 cuts:List (Nat×Nat×Nat×Nat×Nat):=[]
 aeJ:List Nat:=[]
 is:List Isp:=[]
 hols:List Nat:=[]
 ma:Bool:=false
 mb:List (Fsp×Nat):=[]
 ps:List Psp:=[]
 ks:List Ksp:=[]
 trs:List Nat:=[]
def qw:D->Option Ty
 | .list t _=>some t
 | _=>none
def Ty.tys(t:Ty):List (Option Ty):=(t.cells t.zero).map qw
def Ty.flat(t:Ty):Bool:=t.tys.all (·.isNone)
def cD(ty:Option Ty):C->Rd D
 | .d x=>.ret x
 | .nil=>match ty with
  | some t=>.ret (.list t [])
  | none=>.fail
 | .own k j=>.gO k λos=>match bC os j with
  | .own t xs _ _=>.ret (.list t xs)
  | .ro t xs=>.ret (.list t xs)
  | .tree t xs=>.ret (.list t xs)
  | .part _ _ _=>.fail
  | .seg _ _=>.fail
  | .hole _ _ _ _=>.fail
  | .dead=>.fail
 | _=>.fail
def cDs:List (Option Ty)->List C->Rd (List D)
 | ty::tys,c::cs=>(cD ty c).bind λd=>(cDs tys cs).bind λds=>.ret (d::ds)
 | _,_=>.ret []
def V.cells:V->List C
 | .one c=>[c]
 | .agg cs=>cs
def V.isAgg:V->Bool
 | .one _=>false
 | .agg _=>true
def vT(s:Sh)(v:V):Rd s.t.den:=
 if v.isAgg=s.agg/\v.cells.length=s.t.size then (cDs s.t.tys v.cells).bind λds=>.opt (s.t.ig ds) .ret else .fail
def avV:AV->Rd V
 | .v x=>.ret x
 | _=>.fail
def vTs:(ss:List Sh)->List V->Rd (Tup ss)
 | [],[]=>.ret ()
 | [s],[v]=>vT s v
 | s::s'::r,v::vs=>(vT s v).bind λx=>(vTs (s'::r) vs).bind λy=>.ret (x,y)
 | _,_=>.fail
def ali:Value->Option C
 | .int k n=>some (.d (.int k n))
 | .bool b=>some (.d (.bool b))
 | .string s=>some (.d (.str s.data.toList))
 | .slice none 0 0=>some .nil
 | _=>none
def dZ:Operand->Rd AV
 | .tmp t=>.gT t .ret
 | .const v=>match ali v with
  | some c=>.ret (.v (.one c))
  | none=>.ret .undef
 | _=>.fail
def lk{α:Type}(l:List (Nat×α))(k:Nat):Option α:=(l.find? λx=>x.1==k).map (·.2)
def seg{α:Type}(cs:List α)(off n:Nat):List α:=(cs.drop off).take n
def mkV(agg:Bool)(cs:List C):Option V:=
 match agg,cs with
 | true,cs=>some (.agg cs)
 | false,[c]=>some (.one c)
 | false,_=>none
def akk:C->AV
 | .undef=>.undef
 | c=>.v (.one c)
def JH:V->AV
 | .one c=>akk c
 | v=>.v v
def dO{α:Type}(cs:List α)(off:Nat)(vs:List α):List α:=cs.take off++vs++cs.drop (off+vs.length)
def idx{α:Type}(xs:List α)(n:Int):Option α:=if 0<=n then xs[n.toNat]? else none
def gd(n:Nat):Option Unit:=if n<=34359738368 then some ()else none
def mk(n:Int):Option Nat:=if 0<=n/\n<=34359738368 then some n.toNat else none
def binI(op:BinOp)(k:IntKind)(a b:Int):Option D:=
 match op with
 | .add=>some (.int k (k.wrap (a+b)))
 | .sub=>some (.int k (k.wrap (a-b)))
 | .mul=>some (.int k (k.wrap (a*b)))
 | .eql=>some (.bool (a==b))
 | .neq=>some (.bool (a != b))
 | .lss=>some (.bool (a<b))
 | .leq=>some (.bool (a<=b))
 | .gtr=>some (.bool (a>b))
 | .geq=>some (.bool (a>=b))
 | .and=>some (.int k (k.wrap ((BitVec.ofInt k.bits a &&& BitVec.ofInt k.bits b).toNat:Int)))
 | .or=>some (.int k (k.wrap ((BitVec.ofInt k.bits a ||| BitVec.ofInt k.bits b).toNat:Int)))
 | .xor=>some (.int k (k.wrap ((BitVec.ofInt k.bits a ^^^ BitVec.ofInt k.bits b).toNat:Int)))
 | _=>none
def quoI(k:IntKind)(a b:Int):Option Int:=if b=0 then none else some (k.wrap (a.tdiv b))
def Qr(a b:Int):Option Int:=if b=0 then none else some (a.tmod b)
def shlI(k:IntKind)(a b:Int):Option Int:=if b<0 then none else some (k.wrap (a*2 ^ min b.toNat k.bits))
def shrI(k:IntKind)(a b:Int):Option Int:=if b<0 then none else some (a.fdiv (2 ^ min b.toNat k.bits))
def binS(op:BinOp)(a b:Str):Option D:=
 match op with
 | .eql=>some (.bool (a==b))
 | .neq=>some (.bool (!(a==b)))
 | .lss=>some (.bool (Op.bytesLess a b))
 | .leq=>some (.bool (Op.bytesLess a b||a==b))
 | .gtr=>some (.bool (!(Op.bytesLess a b||a==b)))
 | .geq=>some (.bool (!(Op.bytesLess a b)))
 | _=>none
def binB(op:BinOp)(a b:Bool):Option D:=
 match op with
 | .eql=>some (.bool (a==b))
 | .neq=>some (.bool (!(a==b)))
 | _=>none
def isBool:D->Bool
 | .bool _=>true
 | _=>false
def alj(op:BinOp):D->D->Option D
 | .int k a,.int k' b=>if k=k' then binI op k a b else none
 | .str a,.str b=>binS op a b
 | .bool a,.bool b=>binB op a b
 | _,_=>none
def avD:AV->Rd D
 | .v (.one (.d x))=>.ret x
 | _=>.fail
def PI(a:AV):Rd Int:=(avD a).bind λ
 | .int _ n=>.ret n
 | _=>.fail
def cKd(k:Kd):C->Option D
 | .d x=>if kd x=k then some x else none
 | _=>none
def Yo:List Kd->List C->Option (List D)
 | [],[]=>some []
 | k::ks,c::cs=>match cKd k c with
  | some d=>match Yo ks cs with
   | some ds=>some (d::ds)
   | none=>none
  | none=>none
 | _,_=>none
def eqD:D->D->Bool
 | .int _ a,.int _ b=>a==b
 | .bool a,.bool b=>a==b
 | .str a,.str b=>a==b
 | _,_=>false
def Dc:List D->List D->Bool
 | [d],[e]=>eqD d e
 | d::ds,e::es=>eqD d e&&Dc ds es
 | _,_=>true
def aO:List C->List (Nat×Nat)
 | []=>[]
 | .own k j::r=>(k,j)::aO r
 | _::r=>aO r
def Dq:C->Rd Bool
 | .d (.list _ _)=>.ret false
 | .d _=>.ret true
 | .nil=>.ret true
 | .own k j=>.gO k λos=>match bC os j with
  | .own _ _ deep _=>.ret deep
  | .tree _ _=>.ret true
  | _=>.ret false
 | _=>.fail
def vK:List C->Rd Bool
 | []=>.ret true
 | c::r=>(Dq c).bind λb=>(vK r).bind λb'=>.ret (b&&b')
def fresh(d:Nat)(os:List O):Rd (List W):=.gO d λ
 | []=>.ret [.o d os]
 | _=>.fail
def yA(d:Nat)(cs:List C):Rd (List W):=if d=0 then .fail else .gB d λ
 | none=>.ret [.b d cs,.t d (.v (.one (.ptr d 0)))]
 | some _=>.fail
def fQ(o:Oper)(v:AV):List W:=match o.dst with
 | some d=>[.t d v]
 | none=>[]
def NF:List (Nat×Operand)->Nat->Rd (List V)
 | [],_=>.ret []
 | (i,x)::r,n=>if i=n then (dZ x).bind λa=>(avV a).bind λv=>(NF r (n+1)).bind λvs=>.ret (v::vs)else .fail
def vEl(t:Ty)(v:V):Rd t.den:=
 if v.cells.length=t.size then (cDs t.tys v.cells).bind λds=>.opt (t.ig ds) .ret else .fail
def abP(t:Ty):List V->Rd (List t.den)
 | []=>.ret []
 | v::r=>(vEl t v).bind λx=>(abP t r).bind λxs=>.ret (x::xs)
def mkV'(agg:Bool)(cs:List C):V:=
 match agg,cs with
 | false,[c]=>.one c
 | _,cs=>.agg cs
def aeC(d:Nat)(ex:Bool)(i:Nat):D->C
 | .list t xs=>if ex then .own d i else .d (.list t xs)
 | x=>.d x
def Rz(d:Nat)(ex:Bool):Nat->List D->List C
 | _,[]=>[]
 | i,x::r=>aeC d ex i x::Rz d ex (i+1) r
def pM(d:Nat)(ex:Bool):Nat->(ss:List Sh)->Tup ss->List V
 | _,[],_=>[]
 | n,[s],y=>[mkV' s.agg (Rz d ex n (s.t.cells y))]
 | n,s::s'::r,y=>mkV' s.agg (Rz d ex n (s.t.cells y.1))::pM d ex (n+s.t.size) (s'::r) y.2
def dI:(ss:List Sh)->Tup ss->List D
 | [],_=>[]
 | [s],y=>s.t.cells y
 | s::s'::r,y=>s.t.cells y.1++dI (s'::r) y.2
def isList:D->Bool
 | .list _ _=>true
 | _=>false
def Zz(tr:Bool)(ds:List D):List O:=ds.map λ
 | .list t xs=>if tr then .tree t xs else .own t xs true true
 | _=>.dead
def qy:List V->AV
 | [v]=>JH v
 | vs=>.tup vs
def vJ:List Operand->Rd (List V)
 | []=>.ret []
 | x::r=>(dZ x).bind λa=>(avV a).bind λv=>(vJ r).bind λvs=>.ret (v::vs)
def nodupB(l:List (Nat×Nat)):Bool:=
 match l with
 | []=>true
 | x::r=>!(r.any λy=>y.1==x.1&&y.2==x.2)&&nodupB r
def listOf(t:Ty)(c:C):Rd (List t.den):=(cD (some t) c).bind λd=>.opt (d.cZ t) .ret
def bytesOf(xs:List Int):Str:=xs.map λn=>UInt8.ofNat n.toNat
def NU(s:Str):List (Ty.base .u8).den:=s.map λc=>(c.toNat:Int)
def jX:{c:Sh}->{rs:List Sh}->Tup (c::rs)->c.t.den
 | _,[],x=>x
 | _,_::_,x=>x.1
def yS:{c:Sh}->{rs:List Sh}->Tup (c::rs)->Tup rs
 | _,[],_=>()
 | _,_::_,x=>x.2
def acJ(ds:List D):List O:=ds.map λ
 | .list t xs=>.own t xs false true
 | _=>.dead
def aa1(o:Oper)(sh:Bool)(rs:List Sh)(y:Tup rs):Rd (List W):=match o.dst with
 | none=>.ret []
 | some d=>if (sh&&(dI rs y).any isList)=true then
   (fresh d (acJ (dI rs y))).bind λws=>.ret (ws++[.t d (qy (pM d true 0 rs y))])
  else .ret [.t d (qy (pM d false 0 rs y))]
def af0(o:Oper)(tr:Bool)(rs:List Sh)(y:Tup rs):Rd (List W):=match o.dst with
 | none=>.ret []
 | some d=>if (dI rs y).any isList=true then
   (fresh d (Zz tr (dI rs y))).bind λws=>.ret (ws++[.t d (qy (pM d true 0 rs y))])
  else .ret [.t d (qy (pM d true 0 rs y))]
def agq(o:Oper)(ex tr sh:Bool)(b n:Nat)(keys:List (Nat×Nat)):(rs:List Sh)->Tup rs->Rd (List W)
 | [],_=>.fail
 | c::rs,y=>if c.agg=true then if c.t.size=n then if nodupB keys then
   (bif ex then af0 o tr rs (yS y)else aa1 o sh rs (yS y)).bind λws=>.ret (keys.map (λq=>W.nomut q.1 q.2)++(.b b ((c.t.cells (jX y)).map .d)::ws))
  else .fail else .fail else .fail
def ala(E:Env)(o:Oper)(c:Call)(f:Nat):Rd (List W):=.fail
def tmC(cs:List C):List (Int⊕Nat)->Option (List C)
 | []=>some []
 | .inl n::r=>(tmC cs r).bind λq=>some (.d (.int .i64 n)::q)
 | .inr i::r=>match cs[i]? with
  | some c=>(tmC cs r).bind λq=>some (c::q)
  | none=>none
def ahx:List V->Option (List C)
 | []=>some []
 | .one c::r=>(ahx r).bind λq=>some (c::q)
 | _::_=>none
def af6(E:Env)(o:Oper)(c:Call)(f:Nat):Rd (List W):=
 match E.ps.find? (λs=>s.fid==f)with
 | some s=>(vJ c.args.toList).bind λvs=>match ahx vs with
  | some cs=>if cs.length=s.n then match tmC cs s.tm with
   | some q=>.ret (fQ o (.v (.agg q)))
   | none=>.fail
   else .fail
  | none=>.fail
 | none=>match E.ks.find? (λs=>s.fid==f),c.args.toList with
  | some s,[x,y,z]=>(dZ x).bind λ
   | .v (.one (.ptr b 0))=>.gB b λ
    | some cs=>if aO cs=[]/\s.c.agg=true/\s.c.t.size=cs.length then
      (dZ y).bind λ
      | .v (.agg cy)=>(dZ z).bind λ
       | .v (.agg cz)=>if cy.length=s.n/\cz.length=s.n then (vTs [s.c] [.agg cs]).bind λq=>.opt (s.fn q) λr=>
         .fk r.2 (.ret (.b b ((s.c.t.cells r.1).map .d)::fQ o (.v (.agg cy)))) (.ret (.b b ((s.c.t.cells r.1).map .d)::fQ o (.v (.agg cz))))
        else .fail
       | _=>.fail
      | _=>.fail
     else .fail
    | none=>.fail
   | _=>.fail
  | _,_=>ala E o c f
def ak9(E:Env)(o:Oper)(c:Call)(f:Nat):Rd (List W):=
 match E.ss.find? (λs=>s.fid==f)with
 | some s=>(vJ c.args.toList).bind λvs=>(vTs s.ps vs).bind λz=>.opt (s.fn z) λy=>if nodupB (aO (vs.flatMap V.cells))then
   (aa1 o true s.rs y).bind λws=>.ret ((aO (vs.flatMap V.cells)).map (λq=>W.nomut q.1 q.2)++ws)
  else .fail
 | none=>af6 E o c f
def alb(E:Env)(o:Oper)(c:Call)(f:Nat):Rd (List W):=
 match E.bs.find? (λs=>s.fid==f),c.args.toList with
 | some s,x::xs=>(dZ x).bind λ
  | .v (.one (.ptr b 0))=>.gB b λ
   | some cs=>(vJ xs).bind λvs=>(vTs s.ps (.agg cs::vs)).bind λz=>.opt (s.fn z) λy=>agq o s.ex E.trees s.sh b cs.length (aO ((V.agg cs::vs).flatMap V.cells)) s.rs y
   | none=>.fail
  | _=>.fail
 | _,_=>match E.ns.find? (λs=>s.fid==f),o.dst with
  | some s,some d=>(vJ c.args.toList).bind λvs=>(vTs s.ps vs).bind λz=>.opt (s.fn z) λy=>if nodupB (aO (vs.flatMap V.cells))then
    (yA d ((dI s.rs y).map .d)).bind λws=>.ret ((aO (vs.flatMap V.cells)).map (λq=>W.nomut q.1 q.2)++ws)
   else .fail
  | _,_=>ak9 E o c f
def aiB(ap:Nat)(cs:List C)(keys:List (Nat×Nat)):Rd (List W):=match cs[ap]? with
 | some (.own k j)=>if nodupB ((k,j)::keys)then .gO k λos=>match bC os j with
   | .own _ _ _ _=>.ret [.upd k j .dead]
   | _=>.fail
  else .fail
 | some .nil=>if nodupB keys then .ret []else .fail
 | _=>.fail
def ZL(o:Oper)(b ap:Nat)(cs:List C)(keys:List (Nat×Nat)):(rs:List Sh)->Tup rs->Rd (List W)
 | [],_=>.fail
 | c::rs,y=>if c.agg=true/\c.t.size=cs.length then match o.dst,(c.t.cells (jX y))[ap]? with
   | some d,some (.list t ys)=>(aiB ap cs keys).bind λw1=>(fresh d [.own t ys false false]).bind λw2=>
    .gN λN=>if d<N then .ret (keys.map (λq=>W.nomut q.1 q.2)++(w1++(w2++[.b b (((c.t.cells (jX y)).map .d).set ap (.own d 0)),.t d (qy (pM d false 0 rs (yS y)))])))else .fail
   | _,_=>.fail
  else .fail
def af7(E:Env)(o:Oper)(c:Call)(f:Nat):Rd (List W):=
 match E.mb.find? (λs=>s.1.fid==f),c.args.toList with
 | some s,x::xs=>if E.ma=true then (dZ x).bind λ
  | .v (.one (.ptr b 0))=>.gB b λ
   | some cs=>(vJ xs).bind λvs=>(vTs s.1.ps (.agg cs::vs)).bind λz=>.opt (s.1.fn z) λy=>ZL o b s.2 cs (aO (cs.set s.2 .nil++vs.flatMap V.cells)) s.1.rs y
   | none=>.fail
  | _=>.fail
  else .fail
 | _,_=>alb E o c f
def TQ(o:Oper)(agg:Bool)(n k j i sz off:Nat)(t:Ty)(xs:List t.den)(m:Nat):Rd (List W):=.fail
def afE(E:Env)(o:Oper):Bool:=match o.dst with
 | some d=>E.hols.contains d
 | none=>false
def VD(o:Oper)(agg:Bool)(n k j i sz off:Nat)(t:Ty)(xs:List t.den)(dm:Bool):Rd (List W):=
 match o.dst with
 | some d=>if agg=false/\n=1/\t.size=sz/\dm=true then .opt (xs[i]?) λx=>match (t.cells x)[off]? with
   | some (.list a ys)=>if a.flat=true then (fresh d [.own a ys true true]).bind λws=>.ret (.upd k j (.hole t xs i off)::(ws++[.t d (.v (.one (.own d 0)))]))else .fail
   | _=>.fail
  else .fail
 | none=>.fail
def VK(o:Oper)(v:V)(n k j i sz off:Nat)(t:Ty)(xs:List t.den)(i0 q0:Nat):Rd (List W):=match v with
 | .one (.own a b)=>.gO a λc=>match bC c b with
  | .own d ys true true=>.opt (xs[i]?) λx=>.opt (if i=i0/\off=q0 then some ()else none) λ_=>if t.size=sz/\n=1/\off<t.size/\d.flat=true/\nodupB [(k,j),(a,b)]=true then
    .opt (t.ig (dO (t.cells x) off [.list d ys])) λy=>.ret (.upd a b .dead :: .upd k j (.tree t (xs.set i y))::fQ o (.tup []))
   else .fail
  | _=>.fail
 | _=>.fail
def cutAt{α:Type}(xs:List α)(n:Int):Option Nat:=if 0<=n/\n<=xs.length then some n.toNat else none
def akh(E:Env)(o:Oper):Bool:=match o.dst with
 | some d=>E.aeJ.contains d||E.trs.contains d
 | none=>false
def afD(E:Env)(o:Oper):Option Nat:=match o.dst with
 | some d=>if E.trs.contains d then some d else none
 | none=>none
def aeK(E:Env)(o:Oper)(T k j:Nat)(lo hi:Option Int):Rd (List W):=match lo,hi with
 | none,some h=>.gO k λos=>match bC os j with
  | .own t xs dp true=>if (lk E.tt.elem T)=some t then .opt (cutAt xs h) λm=>match afD E o with
   | some d=>(fresh d [.own t (xs.take m) dp true]).bind λws=>.ret (.upd k j .dead::ws++[.t d (.v (.one (.own d 0)))])
   | none=>.ret (fQ o (.pre k j m))
   else .fail
  | _=>.fail
 | some l,none=>.gO k λos=>match bC os j with
  | .own t xs _ _=>if (lk E.tt.elem T)=some t then .opt (cutAt xs l) λm=>.ret (fQ o (.suf t k j m))else .fail
  | _=>.fail
 | _,_=>.fail
def adS(d:Nat)(t:Ty)(ax:AV)(a:Ty)(b c e:Nat):Rd (List W):=.fail
def ad4(d:Nat)(t:Ty)(ax:AV)(a:Nat):Rd (List W):=.fail
def C.plain:C->Bool
 | .d (.list _ _)=>false
 | .d _=>true
 | _=>false
def eff(E:Env)(o:Oper):Rd (List W):=
 match o.op with
 | .move x | .assign x=>(dZ x).bind λa=>.ret (fQ o a)
 | .pick c a b=>(dZ c).bind λc=>(avD c).bind λ
  | .bool true=>(dZ a).bind λv=>.ret (fQ o v)
  | .bool false=>(dZ b).bind λv=>.ret (fQ o v)
  | _=>.fail
 | .alloc e=>match o.dst,lk E.tt.zero e with
  | some d,some cs=>yA d cs
  | _,_=>.fail
 | .box _ x=>match o.dst with
  | some d=>(dZ x).bind λa=>(avV a).bind λv=>yA d v.cells
  | none=>.fail
 | .load t p=>match lk E.tt.shape t with
  | none=>.fail
  | some (agg,n)=>(dZ p).bind λ
   | .v (.one (.ptr b off))=>.gB b λ
    | some cs=>.opt (mkV agg (seg cs off n)) λv=>if (seg cs off n).length=n then .ret (fQ o (JH v))else .fail
    | none=>.fail
   | .elt t x off=>.opt (mkV agg ((seg (t.cells x) off n).map .d)) λv=>if (seg (t.cells x) off n).length=n then .ret (fQ o (JH v))else .fail
   | .oelt k j i sz off=>.gO k λos=>match bC os j with
    | .own t xs _ _=>if t.size=sz then .opt (xs[i]?) λx=>.opt (mkV agg ((seg (t.cells x) off n).map .d)) λv=>if (seg (t.cells x) off n).length=n then .ret (fQ o (JH v))else .fail
     else .fail
    | .part t xs m=>TQ o agg n k j i sz off t xs m
    | .tree t xs=>VD o agg n k j i sz off t xs (afE E o)
    | _=>.fail
   | _=>.fail
 | .store t p x=>match lk E.tt.shape t with
  | none=>.fail
  | some (_,n)=>(dZ x).bind λa=>(avV a).bind λv=>if v.cells.length=n then (dZ p).bind λ
   | .v (.one (.ptr b off))=>.gB b λ
    | some cs=>if off+n<=cs.length/\(E.ma||b != 0||(seg cs off n).all C.plain)=true then .ret (.b b (dO cs off v.cells)::fQ o (.tup []))else .fail
    | none=>.fail
   | .oelt k j i sz off=>.gO k λos=>match bC os j with
    | .own t xs deep true=>.opt (xs[i]?) λx=>
     if t.size=sz/\off+n<=t.size then
      (cDs (seg t.tys off n) v.cells).bind λds=>(vK v.cells).bind λdp=>.opt (t.ig (dO (t.cells x) off ds)) λy=>
       if nodupB ((k,j)::aO v.cells)then
        .ret (((aO v.cells).map λq=>.ro q.1 q.2)++(.upd k j (.own t (xs.set i y) (deep&&dp) true)::fQ o (.tup [])))
       else .fail
     else .fail
    | .hole t xs i0 q0=>VK o v n k j i sz off t xs i0 q0
    | _=>.fail
   | _=>.fail
   else .fail
 | .fieldAddr s p f=>match (lk E.tt.fields s).bind (·[f]?)with
  | none=>.fail
  | some (fo,_,_)=>(dZ p).bind λ
   | .v (.one (.ptr b off))=>.ret (fQ o (.v (.one (.ptr b (off+fo)))))
   | .elt t x off=>.ret (fQ o (.elt t x (off+fo)))
   | .oelt k j i sz off=>.ret (fQ o (.oelt k j i sz (off+fo)))
   | _=>.fail
 | .field s x f=>match (lk E.tt.fields s).bind (·[f]?)with
  | none=>.fail
  | some (fo,agg,n)=>(dZ x).bind λ
   | .v (.agg cs)=>.opt (mkV agg (seg cs fo n)) λv=>if (seg cs fo n).length=n then .ret (fQ o (JH v))else .fail
   | _=>.fail
 | .indexAddr T x i=>match lk E.tt.elem T with
  | none=>.fail
  | some t=>(dZ x).bind λa=>(dZ i).bind λai=>(PI ai).bind λn=>match a with
   | .v (.one (.d (.list t' xs)))=>if t'=t then .opt (idx xs n) λy=>.ret (fQ o (.elt t' y 0))else .fail
   | .v (.one (.own k j))=>.gO k λos=>match bC os j with
    | .own t' xs _ _=>if t'=t then .opt (idx xs n) λ_=>.ret (fQ o (.oelt k j n.toNat t.size 0))else .fail
    | .ro t' xs=>if t'=t then .opt (idx xs n) λy=>.ret (fQ o (.elt t' y 0))else .fail
    | .part t' xs _=>if t'=t then .opt (idx xs n) λ_=>.ret (fQ o (.oelt k j n.toNat t.size 0))else .fail
    | .hole t' xs _ _=>if t'=t then .opt (idx xs n) λ_=>.ret (fQ o (.oelt k j n.toNat t.size 0))else .fail
    | .tree t' xs=>if t'=t then .opt (idx xs n) λ_=>if afE E o=true then .ret (fQ o (.oelt k j n.toNat t.size 0))else .ret (.upd k j (.part t' xs n.toNat)::fQ o (.oelt k j n.toNat t.size 0))else .fail
    | _=>.fail
   | _=>.fail
 | .index T x i=>if E.tt.strs.contains T then (dZ x).bind λa=>(avD a).bind λ
   | .str s=>(dZ i).bind λai=>(PI ai).bind λn=>.opt (idx s n) λc=>.ret (fQ o (.v (.one (.d (.int .u8 c.toNat)))))
   | _=>.fail
  else .fail
 | .extract x i=>(dZ x).bind λ
  | .tup vs=>.opt (vs[i]?) λv=>.ret (fQ o (JH v))
  | _=>.fail
 | .binOp op T x y _=>(dZ x).bind λa=>(dZ y).bind λb=>match a,b with
  | .v (.agg cs),.v (.agg cs')=>match lk E.tt.eqs T with
   | none=>.fail
   | some ks=>match Yo ks cs,Yo ks cs' with
    | some ds,some ds'=>match op with
     | .eql=>.ret (fQ o (.v (.one (.d (.bool (Dc ds ds'))))))
     | .neq=>.ret (fQ o (.v (.one (.d (.bool (!(Dc ds ds')))))))
     | _=>.fail
    | _,_=>.fail
  | a,b=>(avD a).bind λdx=>(avD b).bind λdy=>match op,dx,dy with
   | .quo,.int k p,.int k' q=>if k=k' then .opt (quoI k p q) λz=>.ret (fQ o (.v (.one (.d (.int k z)))))else .fail
   | .rem,.int k p,.int k' q=>if k=k' then .opt (Qr p q) λz=>.ret (fQ o (.v (.one (.d (.int k z)))))else .fail
   | .shl,.int k p,.int _ q=>.opt (shlI k p q) λz=>.ret (fQ o (.v (.one (.d (.int k z)))))
   | .shr,.int k p,.int _ q=>.opt (shrI k p q) λz=>.ret (fQ o (.v (.one (.d (.int k z)))))
   | .add,.str p,.str q=>.opt (gd (p.length+q.length)) λ_=>.ret (fQ o (.v (.one (.d (.str (p++q))))))
   | op,dx,dy=>if isBool dx->E.tt.bools.contains T then .opt (alj op dx dy) λz=>.ret (fQ o (.v (.one (.d z))))else .fail
 | .unOp op _ x=>(dZ x).bind λa=>(avD a).bind λ
  | .bool b=>match op with
   | .not=>.ret (fQ o (.v (.one (.d (.bool (!b))))))
   | _=>.fail
  | .int k n=>match op with
   | .neg=>.ret (fQ o (.v (.one (.d (.int k (k.wrap (0-n)))))))
   | _=>.fail
  | _=>.fail
 | .convert u T x=>(dZ x).bind λa=>match lk E.tt.ints u,lk E.tt.ints T with
  | some _,some k=>(PI a).bind λn=>.ret (fQ o (.v (.one (.d (.int k (k.wrap n))))))
  | _,_=>if E.tt.strs.contains T=true/\lk E.tt.elem u=some (.base .u8)then match a with
    | .v (.one c)=>(listOf (.base .u8) c).bind λxs=>.ret (fQ o (.v (.one (.d (.str (bytesOf xs))))))
    | _=>.fail
   else .fail
 | .nilCheck x=>(dZ x).bind λ
  | .v (.one (.ptr b off))=>.ret (fQ o (.v (.one (.ptr b off))))
  | _=>.fail
 | .build T parts=>match lk E.tt.zero T,lk E.tt.fields T with
  | some z,some fs=>(fillA fs parts.toList z).bind λcs=>.ret (fQ o (.v (.agg cs)))
  | _,_=>.fail
 | .buildSlice T n parts=>match o.dst,lk E.tt.elem T with
  | some d,some t=>(NF parts.toList 0).bind λvs=>if vs.length=n/\n*t.size<=16777216 then
    (abP t vs).bind λxs=>(vK (vs.flatMap V.cells)).bind λdp=>
     if nodupB (aO (vs.flatMap V.cells))then
      (fresh d [.own t xs dp true]).bind λws=>.ret (((aO (vs.flatMap V.cells)).map λq=>.ro q.1 q.2)++ws++[.t d (.v (.one (.own d 0)))])
     else .fail
   else .fail
  | _,_=>.fail
 | .makeSlice T l c=>match o.dst,lk E.tt.elem T with
  | some d,some t=>match l,c with
   | .tmp i,.tmp j=>if i=j then (dZ l).bind λa=>(PI a).bind λn=>.opt (mk n) λm=>
     (fresh d [.own t (List.replicate m t.zero) true true]).bind λws=>.ret (ws++[.t d (.v (.one (.own d 0)))])
    else .fail
   | _,_=>.fail
  | _,_=>.fail
 | .call c=>match c.callee with
  | .builtin .len=>match c.args.toList,c.argTypes.toList with
   | [x],[T]=>(dZ x).bind λ
    | .v (.one (.d (.str s)))=>if E.tt.strs.contains T then .ret (fQ o (.v (.one (.d (.int .i64 s.length)))))else .fail
    | .v (.one (.d (.list _ xs)))=>if (lk E.tt.elem T).isSome then .ret (fQ o (.v (.one (.d (.int .i64 xs.length)))))else .fail
    | .v (.one .nil)=>if (lk E.tt.elem T).isSome then .ret (fQ o (.v (.one (.d (.int .i64 0)))))else .fail
    | .v (.one (.own k j))=>if (lk E.tt.elem T).isSome then .gO k λos=>match bC os j with
     | .own _ xs _ _ | .ro _ xs | .tree _ xs=>.ret (fQ o (.v (.one (.d (.int .i64 xs.length)))))
     | _=>.fail
     else .fail
    | _=>.fail
   | _,_=>.fail
  | .builtin .append=>match o.dst,c.args.toList,c.argTypes.toList with
   | some d,[x,y],[T,T']=>if T=T' then match lk E.tt.elem T with
    | none=>.fail
    | some t=>(dZ x).bind λax=>(dZ y).bind λay=>match ay with
     | .seg g=>ad4 d t ax g
     | .suf w g A B=>adS d t ax w g A B
     | ay=>(avV ay).bind λvy=>match vy with
      | .agg _=>.fail
      | .one cy=>(listOf t cy).bind λys=>(if t.flat then .ret true else Dq cy).bind λdp=>match ax with
       | .v (.one .nil)=>.opt (gd ys.length) λ_=>
        (fresh d [.own t ys dp true]).bind λws=>.ret ((if t.flat then []else (aO [cy]).map λq=>.ro q.1 q.2)++ws++[.t d (.v (.one (.own d 0)))])
       | .v (.one (.own k j))=>.gO k λos=>match (bC os j).sZ with
        | .own t' xs deep m=>if h:t'=t then
          if nodupB ((k,j)::aO [cy])then
           .opt (gd ((h▸xs:List t.den).length+ys.length)) λ_=>
            (fresh d [.own t ((h▸xs:List t.den)++ys) (deep&&dp) m]).bind λws=>
             .ret (.upd k j .dead::(if t.flat then []else (aO [cy]).map λq=>.ro q.1 q.2)++ws++[.t d (.v (.one (.own d 0)))])
          else .fail
         else .fail
        | _=>.fail
       | .pre k j n=>.gO k λos=>match bC os j with
        | .own t' xs deep true=>if h:t'=t then
          if nodupB ((k,j)::aO [cy])then
           .opt (gd (((h▸xs:List t.den).take n).length+ys.length)) λ_=>
            (fresh d [.own t ((h▸xs:List t.den).take n++ys) (deep&&dp) true]).bind λws=>
             .ret (.upd k j .dead::(if t.flat then []else (aO [cy]).map λq=>.ro q.1 q.2)++ws++[.t d (.v (.one (.own d 0)))])
          else .fail
         else .fail
        | _=>.fail
       | _=>.fail
    else if lk E.tt.elem T=some (.base .u8)/\E.tt.strs.contains T'=true then (dZ x).bind λax=>(dZ y).bind λay=>(avD ay).bind λ
     | .str s=>match ax with
      | .v (.one .nil)=>.opt (gd (NU s).length) λ_=>
       (fresh d [.own (.base .u8) (NU s) true true]).bind λws=>.ret (ws++[.t d (.v (.one (.own d 0)))])
      | .v (.one (.own k j))=>.gO k λos=>match bC os j with
       | .own t' xs deep m=>if h:t'=.base .u8 then
         .opt (gd ((h▸xs:List (Ty.base .u8).den).length+(NU s).length)) λ_=>
          (fresh d [.own (.base .u8) ((h▸xs:List (Ty.base .u8).den)++NU s) deep m]).bind λws=>
           .ret (.upd k j .dead::ws++[.t d (.v (.one (.own d 0)))])
        else .fail
       | _=>.fail
      | _=>.fail
     | _=>.fail
    else .fail
   | _,_,_=>.fail
  | .builtin .max=>match c.args.toList with
   | [x,y]=>(dZ x).bind λa=>(avD a).bind λ
    | .int .i64 m=>(dZ y).bind λb=>(avD b).bind λ
     | .int .i64 n=>.ret (fQ o (.v (.one (.d (.int .i64 (if n>m then n else m))))))
     | _=>.fail
    | _=>.fail
   | _=>.fail
  | .builtin .min=>match c.args.toList with
   | [x,y]=>(dZ x).bind λa=>(avD a).bind λ
    | .int .i64 m=>(dZ y).bind λb=>(avD b).bind λ
     | .int .i64 n=>.ret (fQ o (.v (.one (.d (.int .i64 (if n<m then n else m))))))
     | _=>.fail
    | _=>.fail
   | _=>.fail
  | .value (.func f)=>match E.fs.find? (λs=>s.fid==f)with
   | none=>af7 E o c f
   | some s=>(vJ c.args.toList).bind λvs=>(vTs s.ps vs).bind λx=>.opt (s.fn x) λy=>
    let keys:=aO (vs.flatMap V.cells)
    if s.ex||nodupB keys then
     let cut:List W:=if s.ex then []else keys.map λq=>.nomut q.1 q.2
     match o.dst with
     | none=>.ret cut
     | some d=>
      if s.ex&&(dI s.rs y).any isList then
       (fresh d (Zz E.trees (dI s.rs y))).bind λws=>.ret (ws++[.t d (qy (pM d s.ex 0 s.rs y))])
      else .ret (cut++[.t d (qy (pM d s.ex 0 s.rs y))])
    else .fail
  | _=>.fail
 | .slice T x lo hi mx=>match mx with
  | some _=>.fail
  | none=>(dZ x).bind λa=>(bnd lo).bind λlo=>(bnd hi).bind λhi=>match a with
   | .v (.one (.d (.str s)))=>if E.tt.strs.contains T then .opt (cutL s lo hi) λr=>.ret (fQ o (.v (.one (.d (.str r)))))else .fail
   | .v (.one (.d (.list t xs)))=>if (lk E.tt.elem T)=some t then .opt (cutL xs lo hi) λr=>.ret (fQ o (.v (.one (.d (.list t r)))))else .fail
   | .v (.one (.own k j))=>if akh E o=true then aeK E o T k j lo hi else .gO k λos=>match bC os j with
    | .own t xs _ m=>if (lk E.tt.elem T)=some t then .opt (cutL xs lo hi) λr=>.ret (match m with | true=>.nomut k j::fQ o (.v (.one (.d (.list t r)))) | false=>fQ o (.v (.one (.d (.list t r)))))else .fail
    | .ro t xs=>if (lk E.tt.elem T)=some t then .opt (cutL xs lo hi) λr=>.ret (fQ o (.v (.one (.d (.list t r)))))else .fail
    | _=>.fail
   | .cut t _ n g D=>if (lk E.tt.elem T)=some t then match lo,hi with
     | none,some h=>.opt (if h=(n:Int)then some ()else none) λ_=>.ret (fQ o (.seg g))
     | some l,none=>.opt (if l=(n:Int)then some ()else none) λ_=>.ret (fQ o (.seg D))
     | _,_=>.fail
    else .fail
   | _=>.fail
 | _=>.fail
where
 fillA (fs:List (Nat×Bool×Nat)):List (Nat×Operand)->List C->Rd (List C)
  | [],z=>.ret z
  | (i,x)::r,z=>match fs[i]? with
   | none=>.fail
   | some (fo,_,n)=>(dZ x).bind λa=>(avV a).bind λv=>
    if v.cells.length=n/\fo+n<=z.length then fillA fs r (dO z fo v.cells)else .fail
 bnd:Option Operand->Rd (Option Int)
  | none=>.ret none
  | some x=>(dZ x).bind λa=>(PI a).bind λn=>.ret (some n)
 cutL {α:Type} (xs:List α) (lo hi:Option Int):Option (List α):=
  let l:=lo.getD 0
  let h:=hi.getD xs.length
  if 0<=l/\l<=h/\h<=xs.length then some ((xs.take h.toNat).drop l.toNat)else none
def fork{ρ:Type}(t:Nat)(S:St)(k:St->Option ρ):Option ρ:=
 match S.je t with
 | .v (.one (.d (.bool b)))=>cond b (k (S.jh t (.v (.one (.d (.bool true)))))) (k (S.jh t (.v (.one (.d (.bool false))))))
 | _=>k S
def JC{ρ:Type}(x:Option Nat)(S:St)(k:St->Option ρ):Option ρ:=
 match x with
 | none=>k S
 | some t=>fork t S k
def aaj(ops:Array Oper)(o:Oper):Option Nat:=match o.guard with
 | none=>none
 | some (j,_)=>(ops[j]?).bind (·.dst)
def aeQ(o:Oper):Option Nat:=match o.op with
 | .pick (.tmp c) _ _=>some c
 | _=>none
def TB(ops:Array Oper)(o:Oper):Rd Bool:=match o.guard with
 | none=>.ret true
 | some (j,want)=>match (ops[j]?).bind (·.dst)with
  | none=>.fail
  | some t=>.gT t λ
   | .v (.one (.d (.bool b)))=>.ret (b==want)
   | .tup []=>.ret false
   | _=>.fail
def EL(E:Env)(ops:Array Oper)(o:Oper):Rd (List W):=
 (TB ops o).bind λ
  | true=>eff E o
  | false=>.ret (fQ o (.tup []))
def TV(E:Env)(a:Oper)(_:List Oper):Option (Srt×Operand×Nat×Nat×Nat×Oper):=none
def ah7(q:Srt×Operand×Nat×Nat×Nat×Oper):Rd (List W):=.fail
def ZC{ρ:Type}(E:Env)(ops:Array Oper):Nat->List Oper->St->(St->Option ρ)->Option ρ
 | _,[],S,k=>k S
 | n+1,_::r,S,k=>ZC E ops n r S k
 | 0,o::r,S,k=>match TV E o r with
  | some q=>(ah7 q).runK S λws=>ZC E ops 2 r (S.puts ws) k
  | none=>JC (aaj ops o) S λS=>JC (aeQ o) S λS=>(EL E ops o).runK S λws=>ZC E ops 0 r (S.puts ws) k
def akJ{ρ:Type}(E:Env)(ops:Array Oper)(l:List Oper)(S:St)(k:St->Option ρ):Option ρ:=ZC E ops 0 l S k
structure Lg where
 i:Nat
 reads:List L
 writes:List L
def opsL{ρ:Type}(E:Env)(ops:Array Oper):List (Oper×Nat)->St->List Lg->(St->List Lg->Option ρ)->Option ρ
 | [],S,g,k=>k S g
 | (o,i)::r,S,g,k=>JC (aaj ops o) S λS=>JC (aeQ o) S λS=>
   (EL E ops o).UJ S [] λws rs=>opsL E ops r (S.puts ws) ({ i,reads:=rs,writes:=ws.map W.loc } :: g) k
def meets(a b:List L):Bool:=a.any λx=>b.any λy=>decide (x=y)
def Lg.free(a b:Lg):Bool:=!meets a.writes b.reads&&!meets a.writes b.writes&&!meets b.writes a.reads
def AA(acc:List Nat)(o:Oper):Nat:=o.after.toList.foldl (λs e=>if Region.binds .any e then s ||| 2 ^ e.on ||| acc.getD e.on 0 else s) 0
def masks:List Nat->List Oper->List Nat
 | acc,[]=>acc
 | acc,o::r=>masks (acc++[AA acc o]) r
def CQ(bf:List Nat):List Lg->Bool
 | []=>true
 | a::r=>(r.all λb=>(bf.getD a.i 0).testBit b.i||b.free a)&&CQ bf r
def Jc(l:List (Oper×Nat)):Bool:=l.all λx=>x.1.after.toList.all λe=>!Region.binds .any e||decide (e.on<x.2)
def aeL(E:Env)(id:Nat):List (Nat×Nat):=(lk E.pre id).getD []
def acK{ρ:Type}(E:Env)(ops:Array Oper)(id:Nat)(S:St)(k:St->Option ρ):Option ρ:=
 opsL E ops ops.toList.zipIdx (S.puts ((aeL E id).map λq=>W.nomut q.1 q.2)) [] λS' g=>if Jc ops.toList.zipIdx&&CQ (masks [] ops.toList) g then k S' else none
def alh{ρ:Type}(E:Env)(id:Nat)(S:St)(k:St->Option ρ):Option ρ:=k S
inductive Ex where
 | normal
 | exit (id:Nat)
 | ret
inductive Sr where
 | ro (t:Ty)
 | own (t:Ty) (deep m:Bool) (key:Nat)
 | part (t:Ty) (key:Nat)
 | tree (t:Ty) (key:Nat)
abbrev Sr.den:Sr->Type
 | .ro t=>t.den
 | .own t _ _ _=>List t.den
 | .part t _=>List t.den×Nat
 | .tree t _=>List t.den
inductive It where
 | t (i:Nat) (s:Sr)
 | b (b off:Nat) (s:Sr)
def It.sr:It->Sr
 | .t _ s=>s
 | .b _ _ s=>s
structure LA where
 n:Nat
 its:List It
 boxes:List (Nat×Nat)
 ptrs:List (Nat×Nat×Nat)
 als:List (Nat×Nat×Nat):=[]
 bls:List (Nat×Nat×Nat×Nat):=[]
 tls:List (Nat×Nat):=[]
abbrev Its:List It->Type
 | []=>Unit
 | [x]=>x.sr.den
 | x::r=>x.sr.den×Its r
def ad6:Ty->Bool
 | .base .int=>true
 | .base .u8=>true
 | .base .bool=>true
 | .base .str=>true
 | .list _=>true
 | _=>false
def avC:AV->Rd C
 | .v (.one c)=>.ret c
 | _=>.fail
def aam(s:Sr)(c:C):Rd s.den:=
 match s with
 | .ro t=>if ad6 t then (cDs t.tys [c]).bind λds=>.opt (t.ig ds) .ret else .fail
 | .own t deep m _=>match c with
  | .nil=>.ret ([]:List t.den)
  | .own k j=>.gO k λos=>match bC os j with
   | .own t' xs deep' m'=>if h:t'=t then if (deep->deep')/\(m->m')then .ret (h▸xs:List t.den)else .fail else .fail
   | .tree t' xs=>if h:t'=t then .ret (h▸xs:List t.den)else .fail
   | _=>.fail
  | _=>.fail
 | .part t _=>match c with
  | .own k j=>.gO k λos=>match bC os j with
   | .tree t' xs=>if h:t'=t then .ret ((h▸xs:List t.den),(0:Nat))else .fail
   | .part t' xs i=>if h:t'=t then .ret ((h▸xs:List t.den),i)else .fail
   | _=>.fail
  | _=>.fail
 | .tree t _=>match c with
  | .own k j=>.gO k λos=>match bC os j with
   | .tree t' xs=>if h:t'=t then .ret (h▸xs:List t.den)else .fail
   | _=>.fail
  | _=>.fail
def cAt:It->Rd C
 | .t i _=>.gT i avC
 | .b b off _=>.gB b λ
  | some cs=>.opt (cs[off]?) .ret
  | none=>.fail
def afU(x:It):Rd x.sr.den:=(cAt x).bind λc=>aam x.sr c
def abp:(l:List It)->Rd (Its l)
 | []=>.ret ()
 | [x]=>afU x
 | x::y::r=>(afU x).bind λa=>(abp (y::r)).bind λb=>.ret (a,b)
def keysOf:List It->Rd (List (Nat×Nat)×List (Nat×Nat))
 | []=>.ret ([],[])
 | x::r=>(cAt x).bind λc=>(keysOf r).bind λp=>
  match x.sr with
  | .own _ _ _ _=>.ret (aO [c]++p.1,p.2)
  | .part _ _=>.ret (aO [c]++p.1,p.2)
  | .tree _ _=>.ret (aO [c]++p.1,p.2)
  | .ro _=>.ret (p.1,aO [c]++p.2)
def GN:List (Nat×Nat)->Rd Unit
 | []=>.ret ()
 | (b,n)::r=>.gB b λ
  | some cs=>if cs.length=n then GN r else .fail
  | none=>.fail
def Nz:List (Nat×Nat×Nat)->Rd Unit
 | []=>.ret ()
 | (i,b,off)::r=>.gT i λ
  | .v (.one (.ptr b' off'))=>if b'=b/\off'=off then Nz r else .fail
  | _=>.fail
def abC:List (Nat×Nat×Nat)->Rd Unit
 | []=>.ret ()
 | (i,b,off)::r=>.gT i λ
  | .v (.one (.own k j))=>.gB b λ
   | some cs=>match cs[off]? with
    | some (.own k' j')=>if k=k'/\j=j' then abC r else .fail
    | _=>.fail
   | none=>.fail
  | _=>.fail
def aby:List (Nat×Nat×Nat×Nat)->Rd Unit
 | []=>.ret ()
 | (b',off',b,off)::r=>.gB b' λ
  | some cs'=>.gB b λ
   | some cs=>match cs'[off']?,cs[off]? with
    | some (.own k' j'),some (.own k j)=>if k=k'/\j=j' then aby r else .fail
    | _,_=>.fail
   | none=>.fail
  | none=>.fail
def aaL:List (Nat×Nat)->Rd Unit
 | []=>.ret ()
 | (i,i')::r=>.gT i λ
  | .v (.one (.own k j))=>.gT i' λ
   | .v (.one (.own k' j'))=>if k=k'/\j=j' then aaL r else .fail
   | _=>.fail
  | _=>.fail
def dJ:List It->List Nat
 | []=>[]
 | x::r=>match x.sr with
  | .own _ _ _ key=>key::dJ r
  | .part _ key=>key::dJ r
  | .tree _ key=>key::dJ r
  | .ro _=>dJ r
def Eb:List Nat->Bool
 | []=>true
 | x::r=>!(r.any λy=>y==x)&&Eb r
def LA.get(la:LA):Rd (Its la.its):=.gN λn=>if n=la.n/\Eb (dJ la.its)=true/\(dJ la.its).all (λk=>decide (k<la.n))=true/\la.ptrs.all (λp=>la.boxes.any λq=>q.1==p.2.1)=true/\la.its.all (λit=>match it with
      | .b bx _ _=>la.boxes.any λq=>q.1==bx
      | _=>true)=true then
  (GN la.boxes).bind λ_=>(Nz la.ptrs).bind λ_=>(abC la.als).bind λ_=>(aby la.bls).bind λ_=>(aaL la.tls).bind λ_=>(keysOf la.its).bind λp=>
   if nodupB p.1&&p.1.all (λx=>!p.2.any λy=>y.1==x.1&&y.2==x.2)then abp la.its else .fail
 else .fail
def LA.base(la:LA):St:=
 { tmps:=la.ptrs.foldl (λl p=>l.set p.1 (.v (.one (.ptr p.2.1 p.2.2)))) (List.replicate la.n .undef),boxes:=la.boxes.foldl (λl p=>l.set p.1 (some (List.replicate p.2 .undef))) (List.replicate la.n none),owns:=List.replicate la.n [] }
def dOf(t:Ty)(x:t.den):C:=match t.cells x with
 | [d]=>.d d
 | _=>.undef
def St.oD(S:St)(it:It)(c:C):St:=match it with
 | .t i _=>S.jh i (.v (.one c))
 | .b b off _=>match S.fK b with
  | some cs=>S.setB b (some (cs.set off c))
  | none=>S
def St.Nw(S:St)(it:It)(x:it.sr.den):St:=
 match it.sr,x with
 | .ro t,x=>S.oD it (dOf t x)
 | .own t deep m key,xs=>(S.cO key [.own t xs deep m]).oD it (.own key 0)
 | .part t key,(xs,i)=>(S.cO key [.part t xs i]).oD it (.own key 0)
 | .tree t key,xs=>(S.cO key [.tree t xs]).oD it (.own key 0)
def St.aa5(S:St):(l:List It)->Its l->St
 | [],_=>S
 | [x],a=>S.Nw x a
 | x::y::r,(a,b)=>(S.Nw x a).aa5 (y::r) b
def St.Iz(S:St):List (Nat×Nat×Nat)->St
 | []=>S
 | (i,b,off)::r=>match S.fK b with
  | some cs=>match cs[off]? with
   | some (.own k j)=>(S.jh i (.v (.one (.own k j)))).Iz r
   | _=>S.Iz r
  | none=>S.Iz r
def St.Iy(S:St):List (Nat×Nat×Nat×Nat)->St
 | []=>S
 | (b',off',b,off)::r=>match S.fK b',S.fK b with
  | some cs',some cs=>match cs[off]? with
   | some (.own k j)=>(S.setB b' (some (cs'.set off' (.own k j)))).Iy r
   | _=>S.Iy r
  | _,_=>S.Iy r
def St.Nv(S:St):List (Nat×Nat)->St
 | []=>S
 | (i,i')::r=>match S.je i' with
  | .v (.one (.own k j))=>(S.jh i (.v (.one (.own k j)))).Nv r
  | _=>S.Nv r
def LA.put(la:LA)(x:Its la.its):St:=(((la.base.aa5 la.its x).Iz la.als).Iy la.bls).Nv la.tls
def iter{X ρ:Type}(f:X->Option (X⊕ρ)):Nat->X->Option ρ
 | 0,_=>none
 | n+1,x=>match f x with
  | none=>none
  | some (.inl y)=>iter f n y
  | some (.inr r)=>some r
open Classical in
def aN{X ρ:Type}(f:X->Option (X⊕ρ))(x:X):Option ρ:=
 if h:∃n r,iter f n x=some r then some h.choose_spec.choose else none
def jL{X ρ:Type}(p:Option (X⊕ρ))(f:X->Option ρ):Option ρ:=p.bind λj=>match j with
 | .inl x=>f x
 | .inr r=>some r
def nR:Code->Option Nat
 | .region id _ _=>some id
 | .seq a b=>(nR a).or (nR b)
 | .cond _ a b=>(nR a).or (nR b)
 | .block _ c=>nR c
 | .loop c=>nR c
 | .scope c=>nR c
 | _=>none
def den(E:Env)(an:List (Nat×LA)):Code->{ρ:Type}->St->(Ex->St->Option ρ)->Option ρ
 | .skip,_,S,k=>k .normal S
 | .label _,_,S,k=>k .normal S
 | .region id ops false,_,S,k=>alh E id S λS=>akJ E ops ops.toList S λS=>k .normal S
 | .region id ops true,_,S,k=>alh E id S λS=>acK E ops id S λS=>k .normal S
 | .seq a b,_,S,k=>match (nR b).bind λi=>lk an (i+1000000)with
  | none=>den E an a S λe S=>match e with
   | .normal=>den E an b S k
   | e=>k e S
  | some la=>jL (den E an a S λe S=>match e with
   | .normal=>la.get.runK S λx=>some (.inl x)
   | e=>(k e S).bind λr=>some (.inr r)) λx=>den E an b (la.put x) k
 | .cond c a b,_,S,k=>match c with
  | .tmp t=>fork t S λS=>match S.je t with
   | .v (.one (.d (.bool true)))=>den E an a S k
   | .v (.one (.d (.bool false)))=>den E an b S k
   | _=>none
  | _=>none
 | .block id c,_,S,k=>den E an c S λe S=>match e with
  | .exit i=>if i=id then k .normal S else k (.exit i) S
  | e=>k e S
 | .loop c,_,S,k=>match (nR c).bind (lk an)with
  | none=>none
  | some la=>la.get.runK S λf=>aN (λx=>den E an c (la.put x) λe S=>match e with
    | .normal=>la.get.runK S λy=>some (.inl y)
    | e=>(k e S).bind λr=>some (.inr r)) f
 | .exit id,_,S,k=>k (.exit id) S
 | .ret,_,S,k=>k .ret S
 | .scope _,_,_,_=>none
 | .goto _,_,_,_=>none
 | .rangeFunc ..,_,_,_=>none
 | .refuse _,_,_,_=>none
def ade(s:Sh)(x:s.t.den):V:=mkV' s.agg ((s.t.cells x).map .d)
def xw:(ss:List Sh)->Tup ss->List V
 | [],_=>[]
 | [s],x=>[ade s x]
 | s::s'::r,(x,y)=>ade s x::xw (s'::r) y
def yE(n:Nat)(vs:List V):St:=
 { tmps:=(vs.map .v)++List.replicate (n-vs.length) .undef,boxes:=List.replicate (vs.length+(n-vs.length)) none,owns:=List.replicate (vs.length+(n-vs.length)) [] }
def nK(n:Nat)(cs:List C)(vs:List V):St:=
 { tmps:=(.v (.one (.ptr 0 0))::vs.map .v)++List.replicate (n-(vs.length+1)) .undef,boxes:=some cs::List.replicate (vs.length+(n-(vs.length+1))) none,owns:=List.replicate (vs.length+1+(n-(vs.length+1))) [] }
def resV(E:Env):ResultVar->Rd V
 | .tmp t=>.gT t avV
 | .cell p ty=>match lk E.tt.shape ty with
  | none=>.fail
  | some (agg,n)=>.gT p λ
   | .v (.one (.ptr b off))=>.gB b λ
    | some cs=>.opt (mkV agg (seg cs off n)) λv=>if (seg cs off n).length=n then .ret v else .fail
    | none=>.fail
   | _=>.fail
def Ak(E:Env):List ResultVar->Rd (List V)
 | []=>.ret []
 | x::r=>(resV E x).bind λv=>(Ak E r).bind λvs=>.ret (v::vs)
def ah5(cs:List C):Rd Bool:=(vK cs).bind λb=>.ret (b&&nodupB (aO cs))
def finish(E:Env)(fn:Func)(rs:List Sh)(ex:Bool):Rd (Tup rs):=
 (Ak E fn.results.toList).bind λvs=>(if ex then ah5 (vs.flatMap V.cells)else .ret true).bind λok=>if ok then vTs rs vs else .fail
def ale(E:Env)(an:List (Nat×LA))(fn:Func)(ps rs:List Sh)(ex:Bool)(x:Tup ps):Option (Tup rs):=
 match fn.body with
 | none=>none
 | some c=>den E an c (yE fn.ntmps (xw ps x)) λe S=>match e with
  | .exit _=>none
  | _=>(finish E fn rs ex).runK S some
def agr:List Sh->Bool
 | c::_=>c.agg
 | []=>false
def cSh:C->Rd Bool
 | .d (.list _ _)=>.ret false
 | .d _=>.ret true
 | .nil=>.ret true
 | .own k j=>.gO k λos=>match bC os j with
  | .own _ _ _ true=>.ret true
  | _=>.ret false
 | _=>.ret false
def aib:List C->Rd Bool
 | []=>.ret true
 | c::r=>(cSh c).bind λb=>(aib r).bind λb'=>.ret (b&&b')
def UL(cs:List C):Rd Bool:=(aib cs).bind λb=>.ret (b&&nodupB (aO cs))
def CG(E:Env)(fn:Func)(rs:List Sh):Rd (Tup rs):=
 (Ak E fn.results.toList).bind λvs=>(UL (vs.flatMap V.cells)).bind λok=>if ok then vTs rs vs else .fail
def alc(E:Env)(an:List (Nat×LA))(fn:Func)(ps rs:List Sh)(x:Tup ps):Option (Tup rs):=
 match fn.body with
 | none=>none
 | some c=>den E an c (yE fn.ntmps (xw ps x)) λe S=>match e with
  | .exit _=>none
  | _=>(CG E fn rs).runK S some
def CO(E:Env)(fn:Func)(rs:List Sh)(ex sh:Bool):Rd (Tup rs):=if agr rs=true then .gB 0 λ
 | some cs=>if aO cs=[]then (Ak E fn.results.toList).bind λvs=>(if ex then ah5 (vs.flatMap V.cells)else if sh then UL (vs.flatMap V.cells)else .ret true).bind λok=>if ok then vTs rs (.agg cs::vs)else .fail
  else .fail
 | none=>.fail
 else .fail
def sameBox:List Sh->List Sh->Bool
 | p::_,r::_=>p.agg&&decide (p.t=r.t)
 | _,_=>false
def alf(E:Env)(an:List (Nat×LA))(fn:Func)(ps rs:List Sh)(ex sh:Bool)(x:Tup ps):Option (Tup rs):=
 match fn.body,xw ps x with
 | some c,.agg cs::vs=>if E.ma=false/\(ex=true->sameBox ps rs=true)then den E an c (nK fn.ntmps cs vs) λe S=>match e with
  | .exit _=>none
  | _=>(CO E fn rs ex sh).runK S some
  else none
 | _,_=>none
def sD(n ap:Nat)(cs:List C)(vs:List V)(t:Ty)(xs:List t.den):St:=
 { nK n (cs.set ap (.own 0 0)) vs with owns:=[.own t xs false false]::List.replicate (vs.length+(n-(vs.length+1))) [] }
def xq(E:Env)(fn:Func)(rs:List Sh)(ap:Nat):Rd (Tup rs):=if agr rs=true then .gB 0 λ
 | some cs=>if aO (cs.set ap .nil)=[]then match cs[ap]? with
  | some (.own k j)=>.gO k λos=>match bC os j with
   | .own _ _ _ _=>(Ak E fn.results.toList).bind λvs=>if nodupB ((k,j)::aO (vs.flatMap V.cells))=true then vTs rs (.agg cs::vs)else .fail
   | _=>.fail
  | _=>.fail
  else .fail
 | none=>.fail
 else .fail
def af9(E:Env)(an:List (Nat×LA))(fn:Func)(ps rs:List Sh)(ap:Nat)(x:Tup ps):Option (Tup rs):=
 match fn.body,xw ps x with
 | some c,.agg cs::vs=>match cs[ap]? with
  | some (.d (.list t xs))=>den E an c (sD fn.ntmps ap cs vs t xs) λe S=>match e with
   | .exit _=>none
   | _=>(xq E fn rs ap).runK S some
  | _=>none
 | _,_=>none
def CJ(fn:Func)(rs:List Sh):Rd (Tup rs):=if agr rs=true then match fn.results.toList with
 | [.tmp t]=>.gT t λ
  | .v (.one (.ptr b 0))=>.gB b λ
   | some cs=>if aO cs=[]then vTs rs [.agg cs]else .fail
   | none=>.fail
  | _=>.fail
 | _=>.fail
 else .fail
def ald(E:Env)(an:List (Nat×LA))(fn:Func)(ps rs:List Sh)(x:Tup ps):Option (Tup rs):=
 match fn.body with
 | none=>none
 | some c=>den E an c (yE fn.ntmps (xw ps x)) λe S=>match e with
  | .exit _=>none
  | _=>(CJ fn rs).runK S some
end
end Go.Abs
/- Cells of the right kinds are data of the type. Written by genkinds.py. -/
namespace Go.Abs
theorem bY{d:D}{k:IntKind}(h:kd d=.int k):∃n,d=.int k n:=by
 cases d<;>simp only[kd]at h<;>cases h
 exact⟨_,rfl⟩
theorem abk{d:D}(h:kd d=.bool):∃b,d=.bool b:=by
 cases d<;>simp only[kd]at h<;>cases h
 exact⟨_,rfl⟩
theorem kJ{d:D}(h:kd d=.str):∃s,d=.str s:=by
 cases d<;>simp only[kd]at h<;>cases h
 exact⟨_,rfl⟩
theorem eP{d:D}{t:Ty}(h:kd d=.list t):∃xs,d=.list t xs:=by
 cases d<;>simp only[kd]at h<;>cases h
 exact⟨_,rfl⟩
def Base.kinds:Base->List Kd
 | .int=>[.int .i64] | .u8=>[.int .u8] | .bool=>[.bool] | .str=>[.str]
 | .origin=>[.int .i64,.int .i64]
 | .row=>[.list (.base .int),.list (.base .origin)]
 | .val=>[.int .i64,.int .i64,.int .i64,.str,.list (.base .val),.list (.base .str),.list (.base .row)]
 | .expr=>[.int .i64,.int .i64,.str,.list (.base .expr)]
 | .file=>[.str,.int .i64]
 | .read=>[.int .i64,.int .i64,.int .i64,.str,.int .i64,.int .i64,.int .i64,.str,.list (.base .val),.list (.base .str),.list (.base .row)]
 | .binding=>[.str,.int .i64,.int .i64,.int .i64,.str,.list (.base .val),.list (.base .str),.list (.base .row)]
 | .cell=>[.int .i64,.int .i64,.int .i64,.str,.str,.int .i64]
 | .edit=>[.int .i64,.int .i64,.int .i64,.int .i64,.int .i64,.str,.str,.int .i64]
 | .tape=>[.int .i64,.int .i64,.list (.base .read)]
 | .notebook=>[.list (.base .cell)]
 | .op=>[.int .i64,.int .i64,.int .i64,.list (.base .int),.int .i64,.int .i64,.int .i64,.int .i64,.int .i64,.str,.str,.int .i64,.str,.str,.int .i64,.int .i64,.list (.base .read)]
 | .document=>[.list (.base .cell),.list (.base .tape),.list (.base .op)]
 | .world=>[.int .i64,.int .i64,.list (.base .file)]
 | .cur=>[.list (.base .u8),.int .i64,.int .i64]
 | .outcome=>[.int .i64,.int .i64,.int .i64,.str,.list (.base .val),.list (.base .str),.list (.base .row),.list (.base .read),.int .i64]
 | .iy=>[.list (.base .read),.int .i64,.int .i64,.list (.base .file),.int .i64,.int .i64,.list (.base .read),.int .i64,.bool]
def Ty.kinds:Ty->List Kd
 | .base b=>b.kinds
 | .list t=>[.list t]
theorem Vj{ds:List D}(h:ds.map kd=Base.kinds .origin):∃x,wJ ds=some x:=by
 obtain⟨c,d,rfl,a,h⟩:=zH.1 h;obtain⟨e,f,rfl,b,h⟩:=zH.1 h;obtain rfl:=List.map_eq_nil_iff.1 h;obtain⟨g,rfl⟩:=bY a;obtain⟨i,rfl⟩:=bY b;refine Option.isSome_iff_exists.1 ?_;simp[wJ,D.cZ]
theorem acV{ds:List D}(h:ds.map kd=Base.kinds .row):∃x,NR ds=some x:=by
 obtain⟨c,d,rfl,a,h⟩:=zH.1 h;obtain⟨e,f,rfl,b,h⟩:=zH.1 h;obtain rfl:=List.map_eq_nil_iff.1 h;obtain⟨g,rfl⟩:=eP a;obtain⟨i,rfl⟩:=eP b;refine Option.isSome_iff_exists.1 ?_;simp[NR,D.cZ]
theorem acU{ds:List D}(h:ds.map kd=Base.kinds .val):∃x,NQ ds=some x:=by
 obtain⟨i,j,rfl,a,h⟩:=zH.1 h;obtain⟨k,l,rfl,b,h⟩:=zH.1 h;obtain⟨m,n,rfl,c,h⟩:=zH.1 h;obtain⟨o,p,rfl,d,h⟩:=zH.1 h;obtain⟨q,r,rfl,e,h⟩:=zH.1 h;obtain⟨s,t,rfl,f,h⟩:=zH.1 h;obtain⟨u,v,rfl,g,h⟩:=zH.1 h;obtain rfl:=List.map_eq_nil_iff.1 h;obtain⟨w,rfl⟩:=bY a;obtain⟨y,rfl⟩:=bY b;obtain⟨z,rfl⟩:=bY c;obtain⟨A,rfl⟩:=kJ d;obtain⟨B,rfl⟩:=eP e;obtain⟨C,rfl⟩:=eP f;obtain⟨E,rfl⟩:=eP g;refine Option.isSome_iff_exists.1 ?_;simp[NQ,D.cZ]
theorem ZT{ds:List D}(h:ds.map kd=Base.kinds .expr):∃x,FT ds=some x:=by
 obtain⟨e,f,rfl,a,h⟩:=zH.1 h;obtain⟨g,i,rfl,b,h⟩:=zH.1 h;obtain⟨j,k,rfl,c,h⟩:=zH.1 h;obtain⟨l,m,rfl,d,h⟩:=zH.1 h;obtain rfl:=List.map_eq_nil_iff.1 h;obtain⟨n,rfl⟩:=bY a;obtain⟨o,rfl⟩:=bY b;obtain⟨p,rfl⟩:=kJ c;obtain⟨q,rfl⟩:=eP d;refine Option.isSome_iff_exists.1 ?_;simp[FT,D.cZ]
theorem ZR{ds:List D}(h:ds.map kd=Base.kinds .file):∃x,FQ ds=some x:=by
 obtain⟨c,d,rfl,a,h⟩:=zH.1 h;obtain⟨e,f,rfl,b,h⟩:=zH.1 h;obtain rfl:=List.map_eq_nil_iff.1 h;obtain⟨g,rfl⟩:=kJ a;obtain⟨i,rfl⟩:=bY b;refine Option.isSome_iff_exists.1 ?_;simp[FQ,D.cZ]
theorem ZP{ds:List D}(h:ds.map kd=Base.kinds .read):∃x,FM ds=some x:=by
 obtain⟨p,q,rfl,b,h⟩:=zH.1 h;obtain⟨r,s,rfl,c,h⟩:=zH.1 h;obtain⟨t,u,rfl,d,h⟩:=zH.1 h;obtain⟨v,w,rfl,e,h⟩:=zH.1 h;obtain⟨y,z,rfl,f,h⟩:=zH.1 h;obtain⟨A,B,rfl,g,h⟩:=zH.1 h;obtain⟨C,E,rfl,i,h⟩:=zH.1 h;obtain⟨F,G,rfl,j,h⟩:=zH.1 h;obtain⟨H,I,rfl,k,h⟩:=zH.1 h;obtain⟨J,K,rfl,l,h⟩:=zH.1 h;obtain⟨m,n,rfl,a,h⟩:=zH.1 h;obtain rfl:=List.map_eq_nil_iff.1 h;obtain⟨L,rfl⟩:=bY b;obtain⟨M,rfl⟩:=bY c;obtain⟨N,rfl⟩:=bY d;obtain⟨O,rfl⟩:=kJ e;obtain⟨P,rfl⟩:=bY f;obtain⟨Q,rfl⟩:=bY g;obtain⟨R,rfl⟩:=bY i;obtain⟨S,rfl⟩:=kJ j;obtain⟨T,rfl⟩:=eP k;obtain⟨U,rfl⟩:=eP l;obtain⟨o,rfl⟩:=eP a;refine Option.isSome_iff_exists.1 ?_;simp[FM,D.cZ]
theorem QE{ds:List D}(h:ds.map kd=Base.kinds .binding):∃x,rX ds=some x:=by
 obtain⟨j,k,rfl,a,h⟩:=zH.1 h;obtain⟨l,m,rfl,b,h⟩:=zH.1 h;obtain⟨n,o,rfl,c,h⟩:=zH.1 h;obtain⟨p,q,rfl,d,h⟩:=zH.1 h;obtain⟨r,s,rfl,e,h⟩:=zH.1 h;obtain⟨t,u,rfl,f,h⟩:=zH.1 h;obtain⟨v,w,rfl,g,h⟩:=zH.1 h;obtain⟨y,z,rfl,i,h⟩:=zH.1 h;obtain rfl:=List.map_eq_nil_iff.1 h;obtain⟨A,rfl⟩:=kJ a;obtain⟨B,rfl⟩:=bY b;obtain⟨C,rfl⟩:=bY c;obtain⟨E,rfl⟩:=bY d;obtain⟨F,rfl⟩:=kJ e;obtain⟨G,rfl⟩:=eP f;obtain⟨H,rfl⟩:=eP g;obtain⟨I,rfl⟩:=eP i;refine Option.isSome_iff_exists.1 ?_;simp[rX,D.cZ]
theorem ZV{ds:List D}(h:ds.map kd=Base.kinds .cell):∃x,of_cell ds=some x:=by
 obtain⟨g,i,rfl,a,h⟩:=zH.1 h;obtain⟨j,k,rfl,b,h⟩:=zH.1 h;obtain⟨l,m,rfl,c,h⟩:=zH.1 h;obtain⟨n,o,rfl,d,h⟩:=zH.1 h;obtain⟨p,q,rfl,e,h⟩:=zH.1 h;obtain⟨r,s,rfl,f,h⟩:=zH.1 h;obtain rfl:=List.map_eq_nil_iff.1 h;obtain⟨t,rfl⟩:=bY a;obtain⟨u,rfl⟩:=bY b;obtain⟨v,rfl⟩:=bY c;obtain⟨w,rfl⟩:=kJ d;obtain⟨y,rfl⟩:=kJ e;obtain⟨z,rfl⟩:=bY f;refine Option.isSome_iff_exists.1 ?_;simp[of_cell,D.cZ]
theorem ZU{ds:List D}(h:ds.map kd=Base.kinds .edit):∃x,FU ds=some x:=by
 obtain⟨j,k,rfl,a,h⟩:=zH.1 h;obtain⟨l,m,rfl,b,h⟩:=zH.1 h;obtain⟨n,o,rfl,c,h⟩:=zH.1 h;obtain⟨p,q,rfl,d,h⟩:=zH.1 h;obtain⟨r,s,rfl,e,h⟩:=zH.1 h;obtain⟨t,u,rfl,f,h⟩:=zH.1 h;obtain⟨v,w,rfl,g,h⟩:=zH.1 h;obtain⟨y,z,rfl,i,h⟩:=zH.1 h;obtain rfl:=List.map_eq_nil_iff.1 h;obtain⟨A,rfl⟩:=bY a;obtain⟨B,rfl⟩:=bY b;obtain⟨C,rfl⟩:=bY c;obtain⟨E,rfl⟩:=bY d;obtain⟨F,rfl⟩:=bY e;obtain⟨G,rfl⟩:=kJ f;obtain⟨H,rfl⟩:=kJ g;obtain⟨I,rfl⟩:=bY i;refine Option.isSome_iff_exists.1 ?_;simp[FU,D.cZ]
theorem ZO{ds:List D}(h:ds.map kd=Base.kinds .tape):∃x,FK ds=some x:=by
 obtain⟨d,e,rfl,a,h⟩:=zH.1 h;obtain⟨f,g,rfl,b,h⟩:=zH.1 h;obtain⟨i,j,rfl,c,h⟩:=zH.1 h;obtain rfl:=List.map_eq_nil_iff.1 h;obtain⟨k,rfl⟩:=bY a;obtain⟨l,rfl⟩:=bY b;obtain⟨m,rfl⟩:=eP c;refine Option.isSome_iff_exists.1 ?_;simp[FK,D.cZ]
theorem Oh{ds:List D}(h:ds.map kd=Base.kinds .notebook):∃x,pO ds=some x:=by
 obtain⟨b,c,rfl,a,h⟩:=zH.1 h;obtain rfl:=List.map_eq_nil_iff.1 h;obtain⟨d,rfl⟩:=eP a;refine Option.isSome_iff_exists.1 ?_;simp[pO,D.cZ]
theorem afx{ds:List D}(h:ds.map kd=Base.kinds .op):∃x,Xm ds=some x:=by
 obtain⟨P,Q,rfl,i,h⟩:=zH.1 h;obtain⟨R,S,rfl,j,h⟩:=zH.1 h;obtain⟨T,U,rfl,k,h⟩:=zH.1 h;obtain⟨V,W,rfl,l,h⟩:=zH.1 h;obtain⟨X,Y,rfl,m,h⟩:=zH.1 h;obtain⟨Z,r5,rfl,n,h⟩:=zH.1 h;obtain⟨d6,r6,rfl,o,h⟩:=zH.1 h;obtain⟨d7,r7,rfl,p,h⟩:=zH.1 h;obtain⟨d8,r8,rfl,q,h⟩:=zH.1 h;obtain⟨d9,r9,rfl,r,h⟩:=zH.1 h;obtain⟨s,t,rfl,a,h⟩:=zH.1 h;obtain⟨u,v,rfl,b,h⟩:=zH.1 h;obtain⟨w,y,rfl,c,h⟩:=zH.1 h;obtain⟨z,A,rfl,d,h⟩:=zH.1 h;obtain⟨B,C,rfl,e,h⟩:=zH.1 h;obtain⟨E,F,rfl,f,h⟩:=zH.1 h;obtain⟨G,H,rfl,g,h⟩:=zH.1 h;obtain rfl:=List.map_eq_nil_iff.1 h;obtain⟨x0,rfl⟩:=bY i;obtain⟨x1,rfl⟩:=bY j;obtain⟨x2,rfl⟩:=bY k;obtain⟨x3,rfl⟩:=eP l;obtain⟨x4,rfl⟩:=bY m;obtain⟨x5,rfl⟩:=bY n;obtain⟨x6,rfl⟩:=bY o;obtain⟨x7,rfl⟩:=bY p;obtain⟨x8,rfl⟩:=bY q;obtain⟨x9,rfl⟩:=kJ r;obtain⟨I,rfl⟩:=kJ a;obtain⟨J,rfl⟩:=bY b;obtain⟨K,rfl⟩:=kJ c;obtain⟨L,rfl⟩:=kJ d;obtain⟨M,rfl⟩:=bY e;obtain⟨N,rfl⟩:=bY f;obtain⟨O,rfl⟩:=eP g;refine Option.isSome_iff_exists.1 ?_;simp[Xm,D.cZ]
theorem Oi{ds:List D}(h:ds.map kd=Base.kinds .document):∃x,pR ds=some x:=by
 obtain⟨d,e,rfl,a,h⟩:=zH.1 h;obtain⟨f,g,rfl,b,h⟩:=zH.1 h;obtain⟨i,j,rfl,c,h⟩:=zH.1 h;obtain rfl:=List.map_eq_nil_iff.1 h;obtain⟨k,rfl⟩:=eP a;obtain⟨l,rfl⟩:=eP b;obtain⟨m,rfl⟩:=eP c;refine Option.isSome_iff_exists.1 ?_;simp[pR,D.cZ]
theorem Xz{ds:List D}(h:ds.map kd=Base.kinds .world):∃x,Ar ds=some x:=by
 obtain⟨d,e,rfl,a,h⟩:=zH.1 h;obtain⟨f,g,rfl,b,h⟩:=zH.1 h;obtain⟨i,j,rfl,c,h⟩:=zH.1 h;obtain rfl:=List.map_eq_nil_iff.1 h;obtain⟨k,rfl⟩:=bY a;obtain⟨l,rfl⟩:=bY b;obtain⟨m,rfl⟩:=eP c;refine Option.isSome_iff_exists.1 ?_;simp[Ar,D.cZ]
theorem acW{ds:List D}(h:ds.map kd=Base.kinds .cur):∃x,NT ds=some x:=by
 obtain⟨d,e,rfl,a,h⟩:=zH.1 h;obtain⟨f,g,rfl,b,h⟩:=zH.1 h;obtain⟨i,j,rfl,c,h⟩:=zH.1 h;obtain rfl:=List.map_eq_nil_iff.1 h;obtain⟨k,rfl⟩:=eP a;obtain⟨l,rfl⟩:=bY b;obtain⟨m,rfl⟩:=bY c;refine Option.isSome_iff_exists.1 ?_;simp[NT,D.cZ]
theorem QD{ds:List D}(h:ds.map kd=Base.kinds .outcome):∃x,rW ds=some x:=by
 obtain⟨k,l,rfl,a,h⟩:=zH.1 h;obtain⟨m,n,rfl,b,h⟩:=zH.1 h;obtain⟨o,p,rfl,c,h⟩:=zH.1 h;obtain⟨q,r,rfl,d,h⟩:=zH.1 h;obtain⟨s,t,rfl,e,h⟩:=zH.1 h;obtain⟨u,v,rfl,f,h⟩:=zH.1 h;obtain⟨w,y,rfl,g,h⟩:=zH.1 h;obtain⟨z,A,rfl,i,h⟩:=zH.1 h;obtain⟨B,C,rfl,j,h⟩:=zH.1 h;obtain rfl:=List.map_eq_nil_iff.1 h;obtain⟨E,rfl⟩:=bY a;obtain⟨F,rfl⟩:=bY b;obtain⟨G,rfl⟩:=bY c;obtain⟨H,rfl⟩:=kJ d;obtain⟨I,rfl⟩:=eP e;obtain⟨J,rfl⟩:=eP f;obtain⟨K,rfl⟩:=eP g;obtain⟨L,rfl⟩:=eP i;obtain⟨M,rfl⟩:=bY j;refine Option.isSome_iff_exists.1 ?_;simp[rW,D.cZ]
theorem ZQ{ds:List D}(h:ds.map kd=Base.kinds .iy):∃x,FP ds=some x:=by
 obtain⟨k,l,rfl,a,h⟩:=zH.1 h;obtain⟨m,n,rfl,b,h⟩:=zH.1 h;obtain⟨o,p,rfl,c,h⟩:=zH.1 h;obtain⟨q,r,rfl,d,h⟩:=zH.1 h;obtain⟨s,t,rfl,e,h⟩:=zH.1 h;obtain⟨u,v,rfl,f,h⟩:=zH.1 h;obtain⟨w,y,rfl,g,h⟩:=zH.1 h;obtain⟨z,A,rfl,i,h⟩:=zH.1 h;obtain⟨B,C,rfl,j,h⟩:=zH.1 h;obtain rfl:=List.map_eq_nil_iff.1 h;obtain⟨E,rfl⟩:=eP a;obtain⟨F,rfl⟩:=bY b;obtain⟨G,rfl⟩:=bY c;obtain⟨H,rfl⟩:=eP d;obtain⟨I,rfl⟩:=bY e;obtain⟨J,rfl⟩:=bY f;obtain⟨K,rfl⟩:=eP g;obtain⟨L,rfl⟩:=bY i;obtain⟨M,rfl⟩:=abk j;refine Option.isSome_iff_exists.1 ?_;simp[FP,D.cZ]
theorem Dn{t:Ty}{ds:List D}(h:ds.map kd=t.kinds):∃x,t.ig ds=some x:=by
 cases t with
 | list t=>
  obtain⟨d,r,rfl,a,h⟩:=zH.1 h;obtain rfl:=List.map_eq_nil_iff.1 h;obtain⟨xs,rfl⟩:=eP a;exact⟨xs,by simp[Ty.ig,D.cZ]⟩
 | base b=>
  cases b
  case int=>
   obtain⟨d,r,rfl,a,h⟩:=zH.1 h
   obtain rfl:=List.map_eq_nil_iff.1 h
   obtain⟨n,rfl⟩:=bY a
   exact⟨n,rfl⟩
  case u8=>
   obtain⟨d,r,rfl,a,h⟩:=zH.1 h
   obtain rfl:=List.map_eq_nil_iff.1 h
   obtain⟨n,rfl⟩:=bY a
   exact⟨n,rfl⟩
  case bool=>
   obtain⟨d,r,rfl,a,h⟩:=zH.1 h
   obtain rfl:=List.map_eq_nil_iff.1 h
   obtain⟨n,rfl⟩:=abk a
   exact⟨n,rfl⟩
  case str=>
   obtain⟨d,r,rfl,a,h⟩:=zH.1 h
   obtain rfl:=List.map_eq_nil_iff.1 h
   obtain⟨n,rfl⟩:=kJ a
   exact⟨n,rfl⟩
  case origin=>exact Vj h
  case row=>exact acV h
  case val=>exact acU h
  case expr=>exact ZT h
  case file=>exact ZR h
  case read=>exact ZP h
  case binding=>exact QE h
  case cell=>exact ZV h
  case edit=>exact ZU h
  case tape=>exact ZO h
  case notebook=>exact Oh h
  case op=>exact afx h
  case document=>exact Oi h
  case world=>exact Xz h
  case cur=>exact acW h
  case outcome=>exact QD h
  case iy=>exact ZQ h
end Go.Abs
