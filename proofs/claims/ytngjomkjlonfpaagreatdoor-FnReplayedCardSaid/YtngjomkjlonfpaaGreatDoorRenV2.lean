import Derived.Test.YtngjomkjlonfpaaGreatDoorComp1
import Derived.Test.YtngjomkjlonfpaaGreatDoorFree1
set_option linter.unusedSimpArgs false
set_option linter.unusedVariables false
/- Plain laws: RenameVariable alike on both sides; the law FnExactRenameVariable. -/
namespace Go.Proofs.YtngjomkjlonfpaaGreatDoor
noncomputable section
open Go.Abs Go.Proofs
theorem xO(a:Str)(b:a.length<=34359738368):aZ a=some (fF a)/\bM a=some (fF a):=by
 obtain⟨v,h⟩:=mO a b;have e:fF a=v:=by unfold fF;rw[h];rfl
 rw[e];exact⟨h,by rw[<- oQ a b,h]⟩
def partsOf(cs:List ah):List bF:=(lX ⟨cs⟩).getD []
theorem QN(cs:List ah)(a:cs.length<=1048576)(h:∀c,c∈cs->lJ c):mJ ⟨cs⟩=some (partsOf cs)/\lX ⟨cs⟩=some (partsOf cs)/\(∀p,p∈partsOf cs->qh p)/\(wu cs=true->(partsOf cs).length=cs.length)/\(partsOf cs).length<=8:=by
 obtain⟨ps,h1,h2,b,d,f⟩:=VF cs a h;have e:partsOf cs=ps:=by unfold partsOf;rw[h2];rfl
 rw[e];exact⟨h1,h2,b,d,f⟩
def Bq(b c:Str)(p:bF):Bool:=(p.kind==2)&&ahK p b c
def Fe(c:Str)(p:bF):Bool:=LQ p c
theorem EX{α:Type}(f:α->Bool){xs:List α}{i:Nat}{x:α}(h:xs[i]?=some x):(xs.take (i+1)).any f=((xs.take i).any f||f x):=by
 obtain⟨hi,rfl⟩:=zC.1 h;rw[List.take_succ_eq_append_getElem hi,List.any_append];simp
def pJ(c:Str)(cs:List ah)(k:Nat):List ah:=match cs[k]? with
 | some x=>cs.set k ⟨x.id,x.version,x.kind,c,x.code,x.n⟩
 | none=>cs
theorem EC(c:Str)(cs:List ah)(k:Nat):(pJ c cs k).length=cs.length:=by
 unfold pJ;split
 ·rw[List.length_set]
 ·rfl
theorem KU{c:Str}{cs:List ah}{k:Nat}(h:∀x,x∈cs->1<=x.version/\x.version<=999):∀x,x∈pJ c cs k->1<=x.version/\x.version<=999:=by
 intro x a;unfold pJ at a;split at a
 ·rename_i y b;rcases List.mem_or_eq_of_mem_set a with a | rfl
  ·exact h x a
  ·exact h y (zG b)
 ·exact h x a
def qG(cs:List ah)(b c:Str)(d:Bool):ak×Int:=
 bif !(wu cs)then (⟨cs⟩,1)else bif !(fF b)then (⟨cs⟩,1)else bif !(fF c)then (⟨cs⟩,1)else bif (b==c)then (⟨cs⟩,1)
 else bif decide (yB (dU b 0 (partsOf cs))<0)then (⟨cs⟩,2)
 else bif (decide (((dU c 0 (partsOf cs)).length:Int)>0)||(partsOf cs).any (Fe c))then (⟨cs⟩,3)
 else bif (partsOf cs).any (Bq b c)then (⟨cs⟩,4)
 else abJ cs (lH d b c 0 (partsOf cs) (pJ c cs (yB (dU b 0 (partsOf cs))).toNat) false)
theorem Y8(cs:List ah)(a:cs.length<=1048576):bY ⟨cs⟩=some ⟨cs⟩:=by
 unfold bY;rw[gdp (by simp;omega)];rfl
theorem aiw(cs:List ah)(a:cs.length<=1048576):jo ⟨cs⟩=some ⟨cs⟩:=by
 unfold jo;rw[gdp (by simp;omega)];rfl
theorem YL(cs:List ah)(b c:Str)(d:Bool)(l:cs.length<=1048576)(h:∀c,c∈cs->lJ c)(w:b.length<=34359738368)(y:c.length<=34359738368):qN ⟨cs⟩ b c d=some (qG cs b c d):=by
 obtain⟨C,_,z,E,O⟩:=QN cs l h;have hv:=abB cs l h;have vb:=(xO b w).1;have vc:=(xO c y).1;unfold qN qG;simp only[C,hv,vb,vc,zA];cases e:wu cs with
 | false=>rfl
 | true=>
  have hlen:=E e;obtain⟨P,f⟩:=wo h e;cases fF b with
  | false=>rfl
  | true=>
   cases fF c with
   | false=>rfl
   | true=>
    cases (b==c)with
    | true=>rfl
    | false=>
     have F:=alO (partsOf cs) b (by omega);have G:=afK (partsOf cs) c (by omega);simp only[aM,aa,F,G,zA];cases hneg:decide (yB (dU b 0 (partsOf cs))<0)with
     | true=>rfl
     | false=>
      obtain⟨k,H,I⟩:=adF (partsOf cs) b (by have:=of_decide_eq_false hneg;omega);rw[H,aD];simp only[aa];generalize J:partsOf cs=ps at *;generalize Q:decide (((dU c 0 ps).length:Int)>0)=D;refine rO (dK (fun (s:Bool×Bool) (i:Nat)=>((b,c,d,cs,[],ps,(k:Int),s.1,s.2,ps,(ps.length:Int),(i:Int)):Str×Str×Bool×(List ah)×(List ah)×(List bF)×Int×Bool×Bool×(List bF)×Int×Int)) ps (fun i s=>s.1=(D||(ps.take i).any (Fe c))/\s.2=(ps.take i).any (Bq b c)) _ (fun i p s a m=>.inl ?_) (fun s m=>?_) (D,false) ⟨by simp,by simp⟩)
      ·obtain⟨g,j⟩:=m;have o:=z p (zG a);obtain⟨K,R,S⟩:=Ef p o;obtain⟨q,L,M,T⟩:=aa9 p o c;refine⟨(s.1||Fe c p,s.2||Bq b c p),?_,by rw[EX _ a,g,Bool.or_assoc],by rw[EX _ a,j]⟩;simp only[dw a,ac,au,a,zA,uz,aO,K,L,M,dn a (by omega)];unfold Bq Fe;cases t:(p.kind==2)with
       | false=>cases s.1<;>cases s.2<;>simp
       | true=>
        have u:=(akc p o (eq_of_beq t) b c).1;cases s.1<;>cases s.2<;>simp[u]
      ·obtain⟨g,j⟩:=m;rw[List.take_length]at g j;have v:k<cs.length:=by omega
       have A:=zF v;have hver:∀x,x∈cs->1<=x.version/\x.version<=999:=fun x a=>⟨(f x a).2.v0,(f x a).2.v9⟩
       have B:=apm d b c w y cs ps z (by omega) (pJ c cs k) (by rw[EC,hlen]) (KU hver);have N:pJ c cs k=cs.set k ⟨cs[k].id,cs[k].version,cs[k].kind,c,cs[k].code,cs[k].n⟩:=by unfold pJ;rw[A]
       refine⟨_,?_,rfl⟩;simp only[bG,aa,g,j,Y8 cs l,zA,au,A,aD];cases (D||ps.any (Fe c))with
       | true=>rfl
       | false=>
        cases ps.any (Bq b c)with
        | true=>rfl
        | false=>
         simp only[aa];rw[N]at B ⊢;show (aA aiy (b,c,d,cs,[],cs.set k ⟨cs[k].id,cs[k].version,cs[k].kind,c,cs[k].code,cs[k].n⟩,false,ps,(ps.length:Int),0)).bind (fun r=>some (Sum.inr r))=_
         rw[B];rfl
theorem agI(ps:List bF)(b c:Str)(m:ps.length<=1048576)(h:∀p,p∈ps->qh p):En ps b c=some (bif decide (yB (dU b 0 ps)<0)then 2 else bif (decide (((dU c 0 ps).length:Int)>0)||ps.any (Fe c))then 3 else bif ps.any (Bq b c)then 4 else 0):=by
 unfold En;rw[ae5 ps b m,zA];cases decide (yB (dU b 0 ps)<0)with
 | true=>rfl
 | false=>
  simp only[aa];have n:=ae6 ps c m;refine rO (dK (fun (s:Bool) (i:Nat)=>((ps,b,c,(bif s then 4 else 0),(i:Int)):(List bF)×Str×Str×Int×Int)) ps (fun i s=>(ps.take i).any (Fe c)=false/\s=(ps.take i).any (Bq b c)) _ (fun i p s a g=>?_) (fun s g=>?_) false ⟨by simp,by simp⟩)
  ·obtain⟨e,f⟩:=g;have j:=h p (zG a);obtain⟨r,o,t⟩:=Ef p j;have q:=ajM p j c;simp only[dw a,ac,au,a,zA,uz,aO,o,q,dn a (by omega)];cases hh:LQ p c with
   | true=>
    refine .inr ⟨3,rfl,?_⟩;have:ps.any (Fe c)=true:=List.any_eq_true.2 ⟨p,zG a,hh⟩;rw[this,Bool.or_true];rfl
   | false=>
    refine .inl ⟨s||Bq b c p,?_,by rw[EX _ a,e];exact hh,by rw[EX _ a,f]⟩;unfold Bq;cases k:(p.kind==2)with
    | false=>cases s<;>simp
    | true=>
     have d:=(akc p j (eq_of_beq k) b c).2;cases l:ahK p b c<;>rw[l]at d<;>cases s<;>simp[d]
  ·obtain⟨e,f⟩:=g;rw[List.take_length]at e f;refine⟨_,?_,rfl⟩;simp only[bG,aa,n,zA,e,f,Bool.or_false];cases decide (((dU c 0 ps).length:Int)>0)<;>cases ps.any (Bq b c)<;>rfl
theorem acJ(cs:List ah)(b c:Str)(e:cs.length<=1048576)(h:∀c,c∈cs->lJ c)(g:b.length<=34359738368)(i:c.length<=34359738368):nZ ⟨cs⟩ b c=some (qG cs b c true):=by
 obtain⟨_,p,j,q,z⟩:=QN cs e h;have hv:=aau cs e h;have vb:=(xO b g).2;have vc:=(xO c i).2;unfold nZ qG;simp only[aiw cs e,hv,vb,vc,zA];cases a:wu cs with
 | false=>rfl
 | true=>
  have hlen:=q a;obtain⟨A,d⟩:=wo h a;cases fF b with
  | false=>rfl
  | true=>
   cases fF c with
   | false=>rfl
   | true=>
    cases (b==c)with
    | true=>rfl
    | false=>
     have r:=ae5 (partsOf cs) b (by omega);have s:=agI (partsOf cs) b c (by omega) j;simp only[aM,aa,p,r,s,zA];cases hneg:decide (yB (dU b 0 (partsOf cs))<0)with
     | true=>rfl
     | false=>
      obtain⟨k,t,u⟩:=adF (partsOf cs) b (by have:=of_decide_eq_false hneg;omega);rw[t,aD];generalize v:partsOf cs=ps at *;cases (decide (((dU c 0 ps).length:Int)>0)||ps.any (Fe c))with
      | true=>rfl
      | false=>
       cases ps.any (Bq b c)with
       | true=>rfl
       | false=>
        have f:k<cs.length:=by omega
        have l:=zF f;have hver:∀x,x∈cs->1<=x.version/\x.version<=999:=fun x m=>⟨(d x m).2.v0,(d x m).2.v9⟩
        have o:=ao1 b c g i cs e ps j (by omega) (pJ c cs k) (by rw[EC,hlen]) (KU hver);have w:pJ c cs k=cs.set k ⟨cs[k].id,cs[k].version,cs[k].kind,c,cs[k].code,cs[k].n⟩:=by unfold pJ;rw[l]
        have y:((0:Int) != 0)=false:=rfl;simp only[aa,y,au,l,aD,zA];rw[w]at o ⊢;exact o
theorem ajS{cs:List ah}{n:Nat}{r:Option (List ah×Bool)}(h:cs.length<=n)(a:∀x,r=some x->x.1.length<=n):(abJ cs r).1.cells.length<=n:=by
 unfold abJ;split
 ·exact h
 ·exact h
 ·exact a _ rfl
theorem EF(d:Bool)(b c:Str):∀(ps:List bF) (i:Nat) (cs:List ah) (full:Bool) (x:List ah×Bool),lH d b c i ps cs full=some x->x.1.length=cs.length
 | [],i,cs,full,x,h=>by cases h;rfl
 | p::r,i,cs,full,x,h=>by
  unfold lH at h;split at h
  ·split at h
   ·split at h
    ·have:=EF d b c r (i+1) _ _ x h;rw[List.length_set]at this;exact this
    ·cases h
   ·cases h
  ·exact EF d b c r (i+1) cs full x h
theorem QF(cs:List ah)(b c:Str)(d:Bool):(qG cs b c d).1.cells.length<=cs.length:=by
 have bb:∀(x:Bool) (p q:ak×Int),p.1.cells.length<=cs.length->q.1.cells.length<=cs.length->(bif x then p else q).1.cells.length<=cs.length:=by
  intro x p q a e;cases x
  ·exact e
  ·exact a
 have self:∀n:Int,((⟨cs⟩,n):ak×Int).1.cells.length<=cs.length:=fun n=>az _
 unfold qG;refine bb _ _ _ (self _) (bb _ _ _ (self _) (bb _ _ _ (self _) (bb _ _ _ (self _) (bb _ _ _ (self _) (bb _ _ _ (self _) (bb _ _ _ (self _) ?_))))));refine ajS (az _) fun x f=>?_
 have:=EF _ _ _ _ _ _ _ _ f;rw[this,EC];exact az _
end
end Go.Proofs.YtngjomkjlonfpaaGreatDoor
/- Plain law: a renaming that counts versions and one that keeps them are alike but for the versions. -/
namespace Go.Proofs.YtngjomkjlonfpaaGreatDoor
open Go.Abs Go.Proofs
def bare(x:ah):ah:=⟨x.id,0,x.kind,x.name,x.code,x.n⟩
theorem akm{cs cs':List ah}(h:cs.map bare=cs'.map bare)(i:Nat):(cs[i]?=none/\cs'[i]?=none)\/∃x x',cs[i]?=some x/\cs'[i]?=some x'/\bare x=bare x':=by
 have:=congrArg (·[i]?) h;simp only[List.getElem?_map]at this;cases h1:cs[i]? with
 | none=>
  rw[h1]at this;cases h2:cs'[i]? with
  | none=>exact .inl ⟨rfl,rfl⟩
  | some x'=>rw[h2]at this;cases this
 | some x=>
  rw[h1]at this;cases h2:cs'[i]? with
  | none=>rw[h2]at this;cases this
  | some x'=>rw[h2]at this;exact .inr ⟨x,x',rfl,rfl,by simpa using this⟩
theorem akl{cs cs':List ah}(h:cs.map bare=cs'.map bare)(i:Nat){y y':ah}(a:bare y=bare y'):(cs.set i y).map bare=(cs'.set i y').map bare:=by
 rw[List.map_set,List.map_set,h,a]
theorem ahO{x x':ah}(h:bare x=bare x')(d d':Bool)(t:Str):bare (Xq d t x)=bare (Xq d' t x'):=by
 unfold bare at h ⊢;unfold Xq;injection h with h1 h2 a b e c;simp only[h1,a,b,c]
theorem KY(b c:Str):∀(ps:List bF) (i:Nat) (cs cs':List ah),cs.map bare=cs'.map bare->(∀j y,i<=j->cs[j]?=some y->y.version=1) ->
  (lH true b c i ps cs false=none/\lH false b c i ps cs' false=none)\/∃x x',lH true b c i ps cs false=some (x,false)/\lH false b c i ps cs' false=some (x',false)/\x.map bare=x'.map bare
 | [],i,cs,cs',h,_=>.inr ⟨cs,cs',rfl,rfl,h⟩
 | p::r,i,cs,cs',h,hv=>by
  unfold lH;by_cases h1:LQ p b=true
  ·rw[if_pos h1,if_pos h1];by_cases h2:(textOf p b c).length<=120
   ·rw[if_pos h2,if_pos h2];rcases akm h i with ⟨e,e'⟩ | ⟨x,x',e,e',f⟩
    ·rw[e,e'];exact .inl ⟨rfl,rfl⟩
    ·rw[e,e'];have hver:=hv i x (az _) e;have g:(false||(true&&decide (x.version>=999)))=false:=by rw[hver];rfl
     have d:(false||(false&&decide (x'.version>=999)))=false:=rfl;simp only[g,d];refine KY b c r (i+1) _ _ (akl h i (ahO f true false _)) fun j y k a=>?_
     rw[List.getElem?_set_ne (by omega)]at a;exact hv j y (by omega) a
   ·rw[if_neg h2,if_neg h2];exact .inl ⟨rfl,rfl⟩
  ·rw[if_neg h1,if_neg h1];exact KY b c r (i+1) cs cs' h fun j y k a=>hv j y (by omega) a
theorem aiB(cs:List ah)(b c:Str)(hv:∀x,x∈cs->x.version=1):(qG cs b c true).2=(qG cs b c false).2/\(qG cs b c true).1.cells.map bare=(qG cs b c false).1.cells.map bare:=by
 have key:∀z z':ak×Int,z.2=z'.2/\z.1.cells.map bare=z'.1.cells.map bare->∀(q:Bool) (n:Int),(bif q then ((⟨cs⟩,n):ak×Int)else z).2=(bif q then ((⟨cs⟩,n):ak×Int)else z').2 /\
   (bif q then ((⟨cs⟩,n):ak×Int)else z).1.cells.map bare=(bif q then ((⟨cs⟩,n):ak×Int)else z').1.cells.map bare:=by
  intro z z' h q n;cases q
  ·exact h
  ·exact⟨rfl,rfl⟩
 unfold qG;refine key _ _ (key _ _ (key _ _ (key _ _ (key _ _ (key _ _ (key _ _ ?_ _ _) _ _) _ _) _ _) _ _) _ _) _ _;have g:∀x,x∈pJ c cs (yB (dU b 0 (partsOf cs))).toNat->x.version=1:=by
  intro x a;unfold pJ at a;split at a
  ·rename_i y d;rcases List.mem_or_eq_of_mem_set a with a | rfl
   ·exact hv x a
   ·exact hv y (zG d)
  ·exact hv x a
 rcases KY b c (partsOf cs) 0 _ _ rfl (fun j y _ d=>g y (zG d))with ⟨e,f⟩ | ⟨x,x',e,f,h⟩
 ·rw[e,f];exact⟨rfl,rfl⟩
 ·rw[e,f];exact⟨rfl,h⟩
end Go.Proofs.YtngjomkjlonfpaaGreatDoor
/- Plain laws of the functions that mark a value and look for the marks. -/
namespace Go.Proofs.YtngjomkjlonfpaaGreatDoor
open Go.Abs Go.Proofs
theorem dec_lt{α:Type}{xs:List α}{i:Nat}{x:α}(h:xs[i]?=some x):decide ((i:Int)<(xs.length:Int))=true:=by
 have:=(zC.1 h).1;simpa using this
theorem gG{α:Type}{xs:List α}{i:Nat}{x:α}(h:xs[i]?=some x)(a:xs.length<4611686018427387904):w64 ((i:Int)+1)=((i+1:Nat):Int):=by
 have:=(zC.1 h).1;rw[bK (by omega) (by omega)];omega
theorem TS(a:Int):(a != a)=false:=by simp
end Go.Proofs.YtngjomkjlonfpaaGreatDoor
/- Plain laws of marks, by genmark.py. -/
namespace Go.Proofs.YtngjomkjlonfpaaGreatDoor
open Go.Abs Go.Proofs
end Go.Proofs.YtngjomkjlonfpaaGreatDoor
/- Notebooks that fit. -/
namespace Go.Proofs.YtngjomkjlonfpaaGreatDoor
open Go.Abs Go.Proofs
abbrev Zt(cs:List ah):Prop:=∀x,x∈cs->Fit B20 (.base .cell) x
theorem uK{cs:List ah}(h:Fit B20 (.base .notebook) ⟨cs⟩):Zt cs/\cs.length<=1048576:=by
 rw[fH]at h;have b:(cs.length:Int)<=1048576:=dh h;exact⟨fun x a=>h.bQ x a,by omega⟩
theorem uI{cs:List ah}(h:Zt cs)(a:cs.length<=1048576):Fit B20 (.base .notebook) ⟨cs⟩:=by
 rw[fH];exact gu (by show (cs.length:Int)<=_;omega) h
theorem TM{cs:List ah}(h:Zt cs):∀x,x∈cs->lJ x:=by
 intro x a;have:=h x a;rw[fK]at this;have b:=AY this.2.2.2.1;have c:=AY this.2.2.2.2.1;exact⟨by omega,by omega⟩
end Go.Proofs.YtngjomkjlonfpaaGreatDoor
/- Plain law: RenameVariable. -/
namespace Go.Proofs.YtngjomkjlonfpaaGreatDoor
open Go.Abs Go.Proofs
theorem wfS{n:Int}(a:-1000000000<=n)(h1:n<=1000000000):(Lit.int .i64 n).wf=true:=by
 unfold Lit.wf;simp[IntKind.bits,IntKind.signed,IntKind.min,IntKind.max];omega
theorem aoZ{cs:List ah}(h:Zt cs)(k:Nat){y:ah}(b:Fit B20 (.base .cell) y):Zt (cs.set k y):=by
 intro x a;rcases List.mem_or_eq_of_mem_set a with a | rfl
 ·exact h x a
 ·exact b
theorem ahX{x:ah}(h:Fit B20 (.base .cell) x)(d:Bool){t:Str}(a:t.length<=120)(b:1<=x.version)(c:x.version<=999):Fit B20 (.base .cell) (Xq d t x):=by
 rw[fK]at h ⊢;refine⟨h.1,.int .i64 _ (wfS ?_ ?_),h.2.2.1,h.2.2.2.1,Ad (by show (t.length:Int)<=_;omega),h.2.2.2.2.2⟩
 ·show -1000000000<=(if d=true then x.version+1 else x.version)
  split<;>omega
 ·show (if d=true then x.version+1 else x.version)<=_
  split<;>omega
theorem KZ(d:Bool)(b c:Str):∀(ps:List bF) (i:Nat) (cs:List ah) (full:Bool) (x:List ah×Bool),Zt cs->(∀j y,i<=j->cs[j]?=some y->1<=y.version/\y.version<=999)->lH d b c i ps cs full=some x->Zt x.1
 | [],i,cs,full,x,a,_,h=>by cases h;exact a
 | p::r,i,cs,full,x,a,hv,h=>by
  unfold lH at h;split at h
  ·split at h
   ·rename_i g;split at h
    ·rename_i y e;refine KZ d b c r (i+1) _ _ x (aoZ a i (ahX (a y (zG e)) d g (hv i y (az _) e).1 (hv i y (az _) e).2)) (fun j z k f=>?_) h;rw[List.getElem?_set_ne (by omega)]at f;exact hv j z (by omega) f
    ·cases h
   ·cases h
  ·exact KZ d b c r (i+1) cs full x a (fun j y k e=>hv j y (by omega) e) h
theorem ag3{c:Str}(b:c.length<=1048576){cs:List ah}(h:Zt cs)(k:Nat):Zt (pJ c cs k):=by
 unfold pJ;split
 ·rename_i x a;refine aoZ h k ?_;have:=h x (zG a);rw[fK]at this ⊢;exact⟨this.1,this.2.1,this.2.2.1,Ad (by show (c.length:Int)<=_;omega),this.2.2.2.2.1,this.2.2.2.2.2⟩
 ·exact h
theorem aiC(cs:List ah)(b c:Str)(d:Bool)(h:Fit B20 (.base .notebook) ⟨cs⟩)(k:c.length<=1048576):Fit B20 (.base .notebook) (qG cs b c d).1:=by
 obtain⟨f,o⟩:=uK h;have bb:∀(x:Bool) (p q:ak×Int),(x=true->Fit B20 (.base .notebook) p.1)->(x=false->Fit B20 (.base .notebook) q.1)->Fit B20 (.base .notebook) (bif x then p else q).1:=by
  intro x p q l m;cases x
  ·exact m rfl
  ·exact l rfl
 unfold qG;refine bb _ _ _ (fun _=>h) fun hv=>?_
 have a:wu cs=true:=by simpa using hv
 refine bb _ _ _ (fun _=>h) fun _=>bb _ _ _ (fun _=>h) fun _=>bb _ _ _ (fun _=>h) fun _=>bb _ _ _ (fun _=>h) fun _=>bb _ _ _ (fun _=>h) fun _=>bb _ _ _ (fun _=>h) fun _=>?_
 have g:=wo (TM f) a;have hver:∀x,x∈cs->1<=x.version/\x.version<=999:=fun x i=>⟨(g.2 x i).2.v0,(g.2 x i).2.v9⟩
 unfold abJ;split
 ·exact h
 ·exact h
 ·rename_i out e;have h1:=KZ d b c _ 0 _ _ _ (ag3 k f _) (fun j y _ n=>KU hver y (zG n)) e;have h2:=EF _ _ _ _ _ _ _ _ e;rw[EC]at h2;exact uI h1 (by show out.length<=_;have r:out.length=cs.length:=h2;omega)
end Go.Proofs.YtngjomkjlonfpaaGreatDoor
/- Plain laws: AdaptEdit is alike on both sides. -/
namespace Go.Proofs.YtngjomkjlonfpaaGreatDoor
open Go.Abs Go.Proofs
theorem aeH(a b c:Str)(g:b.length<=34359738368)(h:c.length<=34359738368):∃s,gX a b c=some s/\lQ a b c=some s/\(s=a\/s.length<=120):=by
 obtain⟨e,p,h1,h2,i⟩:=Ny a;unfold gX lQ;simp only[h1,h2,zA,aO];by_cases d:p>=0
 ·rw[aq d];exact⟨a,rfl,rfl,.inl rfl⟩
 ·rw[ae d];obtain⟨hv,u⟩:=i (by omega);obtain⟨ys,j,k,_,w,_⟩:=Bl e (by omega);obtain⟨q,l,m⟩:=ahr ys b (by omega);obtain⟨x,v,n,o,y⟩:=yD e b c (by omega) g h;obtain⟨s,r,t,_⟩:=Zf x (by omega);simp only[aa,j,k,l,m,n,o,r,t,zA,Bool.not_not];cases decide (q<0)with
  | true=>exact⟨a,rfl,rfl,.inl rfl⟩
  | false=>
   simp only[aa];cases v with
   | false=>exact⟨a,rfl,rfl,.inl rfl⟩
   | true=>
    by_cases f:(s.length:Int)<=120
    ·rw[aq f,ae (by omega)];exact⟨s,rfl,rfl,.inr (by omega)⟩
    ·rw[ae f,aq (by omega)];exact⟨a,rfl,rfl,.inl rfl⟩
abbrev AdI:=Int×Int×Int×Int×Int×Str×Str×Int×Int×Int×Int×Int×Int×Str×Str×Int×(List GOp)×Int×Int
abbrev AdS:=(List GOp)×Int×Int×Int×Int×Int×Str×Str×Int×Int×Int×Int×Int×Int×Str×Str×Int×Int
noncomputable def apD:AdI->Option (AdI⊕dR):=(fun (a:Int×Int×Int×Int×Int×Str×Str×Int×Int×Int×Int×Int×Int×Str×Str×Int×(List GOp)×Int×Int)=>
      bif (decide (a.2.2.2.2.2.2.2.2.2.2.2.2.2.2.2.2.2.2<a.2.2.2.2.2.2.2.2.2.2.2.2.2.2.2.2.2.1))then
       (idx a.2.2.2.2.2.2.2.2.2.2.2.2.2.2.2.2.1 a.2.2.2.2.2.2.2.2.2.2.2.2.2.2.2.2.2.2).bind fun b=>
       bif (a.2.2.2.2.2.1==b.src)then
        bif (a.1==4)then
         (gX a.2.2.2.2.2.2.1 b.src b.dst).bind fun c=>
         some (.inl (a.1,a.2.1,a.2.2.1,a.2.2.2.1,a.2.2.2.2.1,b.dst,c,a.2.2.2.2.2.2.2.1,a.2.2.2.2.2.2.2.2.1,a.2.2.2.2.2.2.2.2.2.1,a.2.2.2.2.2.2.2.2.2.2.1,a.2.2.2.2.2.2.2.2.2.2.2.1,a.2.2.2.2.2.2.2.2.2.2.2.2.1,a.2.2.2.2.2.2.2.2.2.2.2.2.2.1,a.2.2.2.2.2.2.2.2.2.2.2.2.2.2.1,a.2.2.2.2.2.2.2.2.2.2.2.2.2.2.2.1,a.2.2.2.2.2.2.2.2.2.2.2.2.2.2.2.2.1,a.2.2.2.2.2.2.2.2.2.2.2.2.2.2.2.2.2.1,w64 (a.2.2.2.2.2.2.2.2.2.2.2.2.2.2.2.2.2.2+1)))
        else
         bif (a.1==1)then
          bif (a.2.2.2.2.1==2)then
           (gX a.2.2.2.2.2.2.1 b.src b.dst).bind fun d=>
           some (.inl (a.1,a.2.1,a.2.2.1,a.2.2.2.1,a.2.2.2.2.1,b.dst,d,a.2.2.2.2.2.2.2.1,a.2.2.2.2.2.2.2.2.1,a.2.2.2.2.2.2.2.2.2.1,a.2.2.2.2.2.2.2.2.2.2.1,a.2.2.2.2.2.2.2.2.2.2.2.1,a.2.2.2.2.2.2.2.2.2.2.2.2.1,a.2.2.2.2.2.2.2.2.2.2.2.2.2.1,a.2.2.2.2.2.2.2.2.2.2.2.2.2.2.1,a.2.2.2.2.2.2.2.2.2.2.2.2.2.2.2.1,a.2.2.2.2.2.2.2.2.2.2.2.2.2.2.2.2.1,a.2.2.2.2.2.2.2.2.2.2.2.2.2.2.2.2.2.1,w64 (a.2.2.2.2.2.2.2.2.2.2.2.2.2.2.2.2.2.2+1)))
          else
           some (.inl (a.1,a.2.1,a.2.2.1,a.2.2.2.1,a.2.2.2.2.1,b.dst,a.2.2.2.2.2.2.1,a.2.2.2.2.2.2.2.1,a.2.2.2.2.2.2.2.2.1,a.2.2.2.2.2.2.2.2.2.1,a.2.2.2.2.2.2.2.2.2.2.1,a.2.2.2.2.2.2.2.2.2.2.2.1,a.2.2.2.2.2.2.2.2.2.2.2.2.1,a.2.2.2.2.2.2.2.2.2.2.2.2.2.1,a.2.2.2.2.2.2.2.2.2.2.2.2.2.2.1,a.2.2.2.2.2.2.2.2.2.2.2.2.2.2.2.1,a.2.2.2.2.2.2.2.2.2.2.2.2.2.2.2.2.1,a.2.2.2.2.2.2.2.2.2.2.2.2.2.2.2.2.2.1,w64 (a.2.2.2.2.2.2.2.2.2.2.2.2.2.2.2.2.2.2+1)))
         else
          some (.inl (a.1,a.2.1,a.2.2.1,a.2.2.2.1,a.2.2.2.2.1,b.dst,a.2.2.2.2.2.2.1,a.2.2.2.2.2.2.2.1,a.2.2.2.2.2.2.2.2.1,a.2.2.2.2.2.2.2.2.2.1,a.2.2.2.2.2.2.2.2.2.2.1,a.2.2.2.2.2.2.2.2.2.2.2.1,a.2.2.2.2.2.2.2.2.2.2.2.2.1,a.2.2.2.2.2.2.2.2.2.2.2.2.2.1,a.2.2.2.2.2.2.2.2.2.2.2.2.2.2.1,a.2.2.2.2.2.2.2.2.2.2.2.2.2.2.2.1,a.2.2.2.2.2.2.2.2.2.2.2.2.2.2.2.2.1,a.2.2.2.2.2.2.2.2.2.2.2.2.2.2.2.2.2.1,w64 (a.2.2.2.2.2.2.2.2.2.2.2.2.2.2.2.2.2.2+1)))
       else
       bif (a.1==4)then
        (gX a.2.2.2.2.2.2.1 b.src b.dst).bind fun e=>
        some (.inl (a.1,a.2.1,a.2.2.1,a.2.2.2.1,a.2.2.2.2.1,a.2.2.2.2.2.1,e,a.2.2.2.2.2.2.2.1,a.2.2.2.2.2.2.2.2.1,a.2.2.2.2.2.2.2.2.2.1,a.2.2.2.2.2.2.2.2.2.2.1,a.2.2.2.2.2.2.2.2.2.2.2.1,a.2.2.2.2.2.2.2.2.2.2.2.2.1,a.2.2.2.2.2.2.2.2.2.2.2.2.2.1,a.2.2.2.2.2.2.2.2.2.2.2.2.2.2.1,a.2.2.2.2.2.2.2.2.2.2.2.2.2.2.2.1,a.2.2.2.2.2.2.2.2.2.2.2.2.2.2.2.2.1,a.2.2.2.2.2.2.2.2.2.2.2.2.2.2.2.2.2.1,w64 (a.2.2.2.2.2.2.2.2.2.2.2.2.2.2.2.2.2.2+1)))
       else
        bif (a.1==1)then
         bif (a.2.2.2.2.1==2)then
          (gX a.2.2.2.2.2.2.1 b.src b.dst).bind fun f=>
          some (.inl (a.1,a.2.1,a.2.2.1,a.2.2.2.1,a.2.2.2.2.1,a.2.2.2.2.2.1,f,a.2.2.2.2.2.2.2.1,a.2.2.2.2.2.2.2.2.1,a.2.2.2.2.2.2.2.2.2.1,a.2.2.2.2.2.2.2.2.2.2.1,a.2.2.2.2.2.2.2.2.2.2.2.1,a.2.2.2.2.2.2.2.2.2.2.2.2.1,a.2.2.2.2.2.2.2.2.2.2.2.2.2.1,a.2.2.2.2.2.2.2.2.2.2.2.2.2.2.1,a.2.2.2.2.2.2.2.2.2.2.2.2.2.2.2.1,a.2.2.2.2.2.2.2.2.2.2.2.2.2.2.2.2.1,a.2.2.2.2.2.2.2.2.2.2.2.2.2.2.2.2.2.1,w64 (a.2.2.2.2.2.2.2.2.2.2.2.2.2.2.2.2.2.2+1)))
         else
          some (.inl (a.1,a.2.1,a.2.2.1,a.2.2.2.1,a.2.2.2.2.1,a.2.2.2.2.2.1,a.2.2.2.2.2.2.1,a.2.2.2.2.2.2.2.1,a.2.2.2.2.2.2.2.2.1,a.2.2.2.2.2.2.2.2.2.1,a.2.2.2.2.2.2.2.2.2.2.1,a.2.2.2.2.2.2.2.2.2.2.2.1,a.2.2.2.2.2.2.2.2.2.2.2.2.1,a.2.2.2.2.2.2.2.2.2.2.2.2.2.1,a.2.2.2.2.2.2.2.2.2.2.2.2.2.2.1,a.2.2.2.2.2.2.2.2.2.2.2.2.2.2.2.1,a.2.2.2.2.2.2.2.2.2.2.2.2.2.2.2.2.1,a.2.2.2.2.2.2.2.2.2.2.2.2.2.2.2.2.2.1,w64 (a.2.2.2.2.2.2.2.2.2.2.2.2.2.2.2.2.2.2+1)))
        else
         some (.inl (a.1,a.2.1,a.2.2.1,a.2.2.2.1,a.2.2.2.2.1,a.2.2.2.2.2.1,a.2.2.2.2.2.2.1,a.2.2.2.2.2.2.2.1,a.2.2.2.2.2.2.2.2.1,a.2.2.2.2.2.2.2.2.2.1,a.2.2.2.2.2.2.2.2.2.2.1,a.2.2.2.2.2.2.2.2.2.2.2.1,a.2.2.2.2.2.2.2.2.2.2.2.2.1,a.2.2.2.2.2.2.2.2.2.2.2.2.2.1,a.2.2.2.2.2.2.2.2.2.2.2.2.2.2.1,a.2.2.2.2.2.2.2.2.2.2.2.2.2.2.2.1,a.2.2.2.2.2.2.2.2.2.2.2.2.2.2.2.2.1,a.2.2.2.2.2.2.2.2.2.2.2.2.2.2.2.2.2.1,w64 (a.2.2.2.2.2.2.2.2.2.2.2.2.2.2.2.2.2.2+1)))
      else
       some (.inr (dR.mk a.1 a.2.1 (ah.mk a.2.2.1 a.2.2.2.1 a.2.2.2.2.1 a.2.2.2.2.2.1 a.2.2.2.2.2.2.1 a.2.2.2.2.2.2.2.1)))
  )
noncomputable def apC:AdS->Option (AdS⊕dR):=(fun (a:(List GOp)×Int×Int×Int×Int×Int×Str×Str×Int×Int×Int×Int×Int×Int×Str×Str×Int×Int)=>
      bif (decide (a.2.2.2.2.2.2.2.2.2.2.2.2.2.2.2.2.2<(a.1.length:Int)))then
       (idx a.1 a.2.2.2.2.2.2.2.2.2.2.2.2.2.2.2.2.2).bind fun b=>
       bif (a.2.2.2.2.2.2.1==b.src)then
        bif (a.2.1==4)then
         (lQ a.2.2.2.2.2.2.2.1 b.src b.dst).bind fun c=>
         some (.inl (a.1,a.2.1,a.2.2.1,a.2.2.2.1,a.2.2.2.2.1,a.2.2.2.2.2.1,b.dst,c,a.2.2.2.2.2.2.2.2.1,a.2.2.2.2.2.2.2.2.2.1,a.2.2.2.2.2.2.2.2.2.2.1,a.2.2.2.2.2.2.2.2.2.2.2.1,a.2.2.2.2.2.2.2.2.2.2.2.2.1,a.2.2.2.2.2.2.2.2.2.2.2.2.2.1,a.2.2.2.2.2.2.2.2.2.2.2.2.2.2.1,a.2.2.2.2.2.2.2.2.2.2.2.2.2.2.2.1,a.2.2.2.2.2.2.2.2.2.2.2.2.2.2.2.2.1,w64 (a.2.2.2.2.2.2.2.2.2.2.2.2.2.2.2.2.2+1)))
        else
         bif (a.2.1==1)then
          bif (a.2.2.2.2.2.1==2)then
           (lQ a.2.2.2.2.2.2.2.1 b.src b.dst).bind fun d=>
           some (.inl (a.1,a.2.1,a.2.2.1,a.2.2.2.1,a.2.2.2.2.1,a.2.2.2.2.2.1,b.dst,d,a.2.2.2.2.2.2.2.2.1,a.2.2.2.2.2.2.2.2.2.1,a.2.2.2.2.2.2.2.2.2.2.1,a.2.2.2.2.2.2.2.2.2.2.2.1,a.2.2.2.2.2.2.2.2.2.2.2.2.1,a.2.2.2.2.2.2.2.2.2.2.2.2.2.1,a.2.2.2.2.2.2.2.2.2.2.2.2.2.2.1,a.2.2.2.2.2.2.2.2.2.2.2.2.2.2.2.1,a.2.2.2.2.2.2.2.2.2.2.2.2.2.2.2.2.1,w64 (a.2.2.2.2.2.2.2.2.2.2.2.2.2.2.2.2.2+1)))
          else
           some (.inl (a.1,a.2.1,a.2.2.1,a.2.2.2.1,a.2.2.2.2.1,a.2.2.2.2.2.1,b.dst,a.2.2.2.2.2.2.2.1,a.2.2.2.2.2.2.2.2.1,a.2.2.2.2.2.2.2.2.2.1,a.2.2.2.2.2.2.2.2.2.2.1,a.2.2.2.2.2.2.2.2.2.2.2.1,a.2.2.2.2.2.2.2.2.2.2.2.2.1,a.2.2.2.2.2.2.2.2.2.2.2.2.2.1,a.2.2.2.2.2.2.2.2.2.2.2.2.2.2.1,a.2.2.2.2.2.2.2.2.2.2.2.2.2.2.2.1,a.2.2.2.2.2.2.2.2.2.2.2.2.2.2.2.2.1,w64 (a.2.2.2.2.2.2.2.2.2.2.2.2.2.2.2.2.2+1)))
         else
          some (.inl (a.1,a.2.1,a.2.2.1,a.2.2.2.1,a.2.2.2.2.1,a.2.2.2.2.2.1,b.dst,a.2.2.2.2.2.2.2.1,a.2.2.2.2.2.2.2.2.1,a.2.2.2.2.2.2.2.2.2.1,a.2.2.2.2.2.2.2.2.2.2.1,a.2.2.2.2.2.2.2.2.2.2.2.1,a.2.2.2.2.2.2.2.2.2.2.2.2.1,a.2.2.2.2.2.2.2.2.2.2.2.2.2.1,a.2.2.2.2.2.2.2.2.2.2.2.2.2.2.1,a.2.2.2.2.2.2.2.2.2.2.2.2.2.2.2.1,a.2.2.2.2.2.2.2.2.2.2.2.2.2.2.2.2.1,w64 (a.2.2.2.2.2.2.2.2.2.2.2.2.2.2.2.2.2+1)))
       else
       bif (a.2.1==4)then
        (lQ a.2.2.2.2.2.2.2.1 b.src b.dst).bind fun e=>
        some (.inl (a.1,a.2.1,a.2.2.1,a.2.2.2.1,a.2.2.2.2.1,a.2.2.2.2.2.1,a.2.2.2.2.2.2.1,e,a.2.2.2.2.2.2.2.2.1,a.2.2.2.2.2.2.2.2.2.1,a.2.2.2.2.2.2.2.2.2.2.1,a.2.2.2.2.2.2.2.2.2.2.2.1,a.2.2.2.2.2.2.2.2.2.2.2.2.1,a.2.2.2.2.2.2.2.2.2.2.2.2.2.1,a.2.2.2.2.2.2.2.2.2.2.2.2.2.2.1,a.2.2.2.2.2.2.2.2.2.2.2.2.2.2.2.1,a.2.2.2.2.2.2.2.2.2.2.2.2.2.2.2.2.1,w64 (a.2.2.2.2.2.2.2.2.2.2.2.2.2.2.2.2.2+1)))
       else
        bif (a.2.1==1)then
         bif (a.2.2.2.2.2.1==2)then
          (lQ a.2.2.2.2.2.2.2.1 b.src b.dst).bind fun f=>
          some (.inl (a.1,a.2.1,a.2.2.1,a.2.2.2.1,a.2.2.2.2.1,a.2.2.2.2.2.1,a.2.2.2.2.2.2.1,f,a.2.2.2.2.2.2.2.2.1,a.2.2.2.2.2.2.2.2.2.1,a.2.2.2.2.2.2.2.2.2.2.1,a.2.2.2.2.2.2.2.2.2.2.2.1,a.2.2.2.2.2.2.2.2.2.2.2.2.1,a.2.2.2.2.2.2.2.2.2.2.2.2.2.1,a.2.2.2.2.2.2.2.2.2.2.2.2.2.2.1,a.2.2.2.2.2.2.2.2.2.2.2.2.2.2.2.1,a.2.2.2.2.2.2.2.2.2.2.2.2.2.2.2.2.1,w64 (a.2.2.2.2.2.2.2.2.2.2.2.2.2.2.2.2.2+1)))
         else
          some (.inl (a.1,a.2.1,a.2.2.1,a.2.2.2.1,a.2.2.2.2.1,a.2.2.2.2.2.1,a.2.2.2.2.2.2.1,a.2.2.2.2.2.2.2.1,a.2.2.2.2.2.2.2.2.1,a.2.2.2.2.2.2.2.2.2.1,a.2.2.2.2.2.2.2.2.2.2.1,a.2.2.2.2.2.2.2.2.2.2.2.1,a.2.2.2.2.2.2.2.2.2.2.2.2.1,a.2.2.2.2.2.2.2.2.2.2.2.2.2.1,a.2.2.2.2.2.2.2.2.2.2.2.2.2.2.1,a.2.2.2.2.2.2.2.2.2.2.2.2.2.2.2.1,a.2.2.2.2.2.2.2.2.2.2.2.2.2.2.2.2.1,w64 (a.2.2.2.2.2.2.2.2.2.2.2.2.2.2.2.2.2+1)))
        else
         some (.inl (a.1,a.2.1,a.2.2.1,a.2.2.2.1,a.2.2.2.2.1,a.2.2.2.2.2.1,a.2.2.2.2.2.2.1,a.2.2.2.2.2.2.2.1,a.2.2.2.2.2.2.2.2.1,a.2.2.2.2.2.2.2.2.2.1,a.2.2.2.2.2.2.2.2.2.2.1,a.2.2.2.2.2.2.2.2.2.2.2.1,a.2.2.2.2.2.2.2.2.2.2.2.2.1,a.2.2.2.2.2.2.2.2.2.2.2.2.2.1,a.2.2.2.2.2.2.2.2.2.2.2.2.2.2.1,a.2.2.2.2.2.2.2.2.2.2.2.2.2.2.2.1,a.2.2.2.2.2.2.2.2.2.2.2.2.2.2.2.2.1,w64 (a.2.2.2.2.2.2.2.2.2.2.2.2.2.2.2.2.2+1)))
      else
       some (.inr (dR.mk a.2.1 a.2.2.1 (ah.mk a.2.2.2.1 a.2.2.2.2.1 a.2.2.2.2.2.1 a.2.2.2.2.2.2.1 a.2.2.2.2.2.2.2.1 a.2.2.2.2.2.2.2.2.1)))
  )
structure Xf(a e:dR):Prop where
 kind:e.kind=a.kind
 pos:e.pos=a.pos
 id:e.cell.id=a.cell.id
 version:e.cell.version=a.cell.version
 ckind:e.cell.kind=a.cell.kind
 n:e.cell.n=a.cell.n
 name:e.cell.name.length<=1048576
 code:e.cell.code.length<=1048576
theorem acu(a:dR)(b:List GOp)(q:b.length<=1048576)(j:a.cell.name.length<=1048576)(k:a.cell.code.length<=1048576)(l:∀o,o∈b->o.src.length<=1048576/\o.dst.length<=1048576):∃e,Az a b=some e/\Gf a b=some e/\Xf a e:=by
 refine Xt (f:=apD) (g:=apC) (fun (s:Str×Str) (i:Nat)=>((a.kind,a.pos,a.cell.id,a.cell.version,a.cell.kind,s.1,s.2,a.cell.n,0,0,0,0,0,[],[],0,b,(b.length:Int),(i:Int)):AdI)) (fun (s:Str×Str) (i:Nat)=>((b,a.kind,a.pos,a.cell.id,a.cell.version,a.cell.kind,s.1,s.2,a.cell.n,0,0,0,0,0,[],[],0,(i:Int)):AdS)) b (fun _ s=>s.1.length<=1048576/\s.2.length<=1048576) (Xf a) (fun i o s c d=>.inl ?_) (fun s d=>?_) (a.cell.name,a.cell.code) ⟨j,k⟩
 ·obtain⟨h1,h2⟩:=l o (zG c);obtain⟨t,m,p,h⟩:=aeH s.2 o.src o.dst (by omega) (by omega);refine⟨(if (s.1==o.src)=true then o.dst else s.1,if ((a.kind==4)||((a.kind==1)&&(a.cell.kind==2)))=true then t else s.2),?_,?_,?_,?_⟩
  ·simp only[apD,dw c,ac,au,c,zA,m,dn c (by omega)];cases (s.1==o.src)<;>cases (a.kind==4)<;>cases (a.kind==1)<;>cases (a.cell.kind==2)<;>rfl
  ·simp only[apC,dw c,ac,au,c,zA,p,dn c (by omega)];cases (s.1==o.src)<;>cases (a.kind==4)<;>cases (a.kind==1)<;>cases (a.cell.kind==2)<;>rfl
  ·show (if (s.1==o.src)=true then o.dst else s.1).length<=1048576
   split
   ·exact h2
   ·exact d.1
  ·show (if ((a.kind==4)||((a.kind==1)&&(a.cell.kind==2)))=true then t else s.2).length<=1048576
   split
   ·rcases h with rfl | h
    ·exact d.2
    ·omega
   ·exact d.2
 ·refine⟨⟨a.kind,a.pos,⟨a.cell.id,a.cell.version,a.cell.kind,s.1,s.2,a.cell.n⟩⟩,?_,?_,⟨rfl,rfl,rfl,rfl,rfl,rfl,d.1,d.2⟩⟩
  ·simp only[apD,bG,aa]
  ·simp only[apC,bG,aa]
end Go.Proofs.YtngjomkjlonfpaaGreatDoor
/- Plain law: IsValidOp. -/
namespace Go.Proofs.YtngjomkjlonfpaaGreatDoor
open Go.Abs Go.Proofs
theorem Pe(a:GOp)(h:Fit B20 (.base .op) a):∃v,oG a=some v/\vO a=some v:=by
 rw[AB]at h;have e:=dX (dh h.2.2.2.1);unfold oG vO;simp only[fO,Aj,zA,ZX _ e];cases (decide (1<=a.time)&&decide (a.time<=300))with
 | false=>exact⟨false,rfl,rfl⟩
 | true=>
 cases (decide (0<=a.by_)&&decide (a.by_<=2))with
 | false=>exact⟨false,rfl,rfl⟩
 | true=>
 simp only[aM,aa];have j:((a.seen.length:Int) != 3) = !((a.seen.length:Int)==3):=rfl;rw[j];cases ((a.seen.length:Int)==3)with
 | false=>exact⟨false,by simp,rfl⟩
 | true=>
 simp only[aM,aa,Bool.and_true];rw[acG (fun i:Nat=>(a.time,a.by_,a.kind,a.seen,a.edit.kind,a.edit.pos,a.edit.cell.id,a.edit.cell.version,a.edit.cell.kind,a.edit.cell.name,a.edit.cell.code,a.edit.cell.n,a.src,a.dst,a.cell,a.version,a.reads,a.seen,(a.seen.length:Int),(i:Int))) (a.time,a.by_,a.kind,a.seen,a.edit.kind,a.edit.pos,a.edit.cell.id,a.edit.cell.version,a.edit.cell.kind,a.edit.cell.name,a.edit.cell.code,a.edit.cell.n,a.src,a.dst,a.cell,a.version,a.reads,a.seen,(a.seen.length:Int),0) rfl a.seen (fun n=>decide (0<=n)&&decide (n<=60)) false _ (fun i x f=>by
  obtain⟨b,rfl⟩:=zC.1 f;simp only[cZ b,ac,au,f,zA,dF b e];cases (decide (0<=a.seen[i])&&decide (a.seen[i]<=60))<;>rfl) (by
  simp only[aT,aa];rfl)]
 unfold amr;rw[Xb (fun n=>decide (0<=n)&&decide (n<=60))];cases (a.seen.all fun n=>decide (0<=n)&&decide (n<=60))with
 | false=>exact⟨false,rfl,rfl⟩
 | true=>
 simp only[aM,aa,ac];generalize ((a.edit.kind==0)&&((a.edit.pos==0)&&((a.edit.cell.id==0)&&((a.edit.cell.version==0)&&((a.edit.cell.kind==0)&&((a.edit.cell.name==[])&&((a.edit.cell.code==[])&&(a.edit.cell.n==0))))))))=E;generalize (a.src==[])=s;generalize (a.dst==[])=d;generalize (a.cell==0)=c;generalize (a.version==0)=v;generalize ((a.reads.length:Int)==0)=r;have k:(decide (1<=a.kind)&&decide (a.kind<=3))=((a.kind==1)||(a.kind==2)||(a.kind==3)):=by
  by_cases h1:a.kind=1
  ·rw[h1];rfl
  by_cases h2:a.kind=2
  ·rw[h2];rfl
  by_cases g:a.kind=3
  ·rw[g];rfl
  rw[beq_eq_false_iff_ne.2 h1,beq_eq_false_iff_ne.2 h2,beq_eq_false_iff_ne.2 g];by_cases l:1<=a.kind
  ·rw[ae (show ¬a.kind<=3 by omega)];simp
  ·rw[ae l];rfl
 rw[k];generalize (a.kind==1)=m;generalize (a.kind==2)=o;generalize (a.kind==3)=p;cases m<;>cases o<;>cases p<;>cases s<;>cases d<;>cases c<;>cases v<;>cases r<;>cases E<;>first | exact⟨true,rfl,rfl⟩ | exact⟨false,rfl,rfl⟩
end Go.Proofs.YtngjomkjlonfpaaGreatDoor
/- Plain laws: equality of lists, values, reads, operations; valid logs and replicas; HasSeen. -/
namespace Go.Proofs.YtngjomkjlonfpaaGreatDoor
open Go.Abs Go.Proofs
section eqs
noncomputable def eqd{α:Type}(a b:α):Bool:=@decide (a=b) (Classical.propDecidable _)
theorem kW{α:Type}{a b:α}:eqd a b=true↔a=b:=by unfold eqd;exact @decide_eq_true_iff _ (Classical.propDecidable _)
theorem dV{α:Type}{a b:α}(h:a=b):eqd a b=true:=kW.2 h
theorem fJ{α:Type}{a b:α}(h:¬a=b):eqd a b=false:=by
 cases c:eqd a b with
 | false=>rfl
 | true=>exact absurd (kW.1 c) h
theorem TA{α:Type}(a:α):eqd a a=true:=dV rfl
theorem kC{α X ρ:Type}{g:X->Option (X⊕ρ)}(pk:Nat->X)(z:X)(d:pk 0=z)(xs ys:List α)(f:xs.length=ys.length)(no:ρ)(fin:Option ρ)
  (h1:∀i x y,xs[i]?=some x->ys[i]?=some y->i<xs.length->g (pk i)=bif eqd x y then some (.inl (pk (i+1)))else some (.inr no))
  (h2:g (pk xs.length)=fin.bind fun r=>some (.inr r)):aA g z=bif eqd xs ys then fin else some no:=by
 have key:∀(n i:Nat),xs.length=i+n->aA g (pk i)=bif eqd (xs.drop i) (ys.drop i)then fin else some no:=by
  intro n;induction n with
  | zero=>
   intro i hi;rw[List.drop_eq_nil_of_le (by omega),List.drop_eq_nil_of_le (by omega),aH];have:i=xs.length:=by omega
   subst this;rw[h2,TA];cases fin<;>rfl
  | succ n ih=>
   intro i hi;have b:i<xs.length:=by omega
   have a:i<ys.length:=by omega
   rw[List.drop_eq_getElem_cons b,List.drop_eq_getElem_cons a,aH,h1 i xs[i] ys[i] (zF b) (zF a) b];by_cases c:xs[i]=ys[i]
   ·rw[dV c];have e:eqd (xs[i]::xs.drop (i+1)) (ys[i]::ys.drop (i+1))=eqd (xs.drop (i+1)) (ys.drop (i+1)):=by
     rw[Bool.eq_iff_iff,kW,kW,c];exact⟨fun h=>(List.cons.inj h).2,fun h=>by rw[h]⟩
    rw[e];exact ih (i+1) (by omega)
   ·rw[fJ c,fJ (fun h=>c (List.cons.inj h).1)];rfl
 rw[<- d];simpa using key xs.length 0 (by omega)
theorem ou{α ρ:Type}{xs ys:List α}{r:Option ρ}{no:ρ}{fin:Option ρ}(h:xs.length=ys.length->r=bif eqd xs ys then fin else some no) :
  (bif ((xs.length:Int) != (ys.length:Int))then some no else r)=bif eqd xs ys then fin else some no:=by
 by_cases a:xs.length=ys.length
 ·rw[h a,a];simp
 ·have:((xs.length:Int) != (ys.length:Int))=true:=by
   simp only[bne_iff_ne,ne_eq];omega
  rw[this,ac,fJ (fun e=>a (by rw[e]))];rfl
theorem jT(b:Bool):(bif b then some true else some false)=some b:=by cases b<;>rfl
theorem iV{α:Type}(b:Bool)(x y:α):(bif (!b)then x else y)=bif b then y else x:=by cases b<;>rfl
theorem lI{α:Type}[BEq α][LawfulBEq α](a b:α):(a==b)=eqd a b:=by
 rw[Bool.eq_iff_iff,kW];exact beq_iff_eq
theorem AQ{α:Type}[BEq α][LawfulBEq α](a b:α):(a != b) = !eqd a b:=by
 rw[<- lI];rfl
theorem Qa(a b:List Int)(h:a.length<lim):OX a b=some (eqd a b):=by
 rw[<- jT];refine ou fun d=>kC (fun i=>((a,b,(i:Int)):List Int×List Int×Int)) _ rfl a b d _ _ (fun i x y e f c=>?_) ?_
 ·simp only[cZ c,ac,au,e,f,zA,dF c h,AQ,iV]
 ·simp only[aT,aa];rfl
theorem abe(a b:List Int)(h:a.length<lim):Sv a b=some (eqd a b):=by
 rw[<- jT];refine ou fun d=>kC (fun i=>((a,b,(a.length:Int),(i:Int)):List Int×List Int×Int×Int)) _ rfl a b d _ _ (fun i x y e f c=>?_) ?_
 ·simp only[cZ c,ac,au,e,f,zA,dF c h,AQ,iV]
 ·simp only[aT,aa];rfl
theorem ZY(a b:List Str)(h:a.length<lim):PX a b=some (eqd a b):=by
 rw[<- jT];refine ou fun d=>kC (fun i=>((a,b,(i:Int)):List Str×List Str×Int)) _ rfl a b d _ _ (fun i x y e f c=>?_) ?_
 ·simp only[cZ c,ac,au,e,f,zA,dF c h,lI,iV]
 ·simp only[aT,aa];rfl
theorem Sl(a b:List Str)(h:a.length<lim):Dj a b=some (eqd a b):=by
 rw[<- jT];refine ou fun d=>kC (fun i=>((a,b,(a.length:Int),(i:Int)):List Str×List Str×Int×Int)) _ rfl a b d _ _ (fun i x y e f c=>?_) ?_
 ·simp only[cZ c,ac,au,e,f,zA,dF c h,lI,iV]
 ·simp only[aT,aa];rfl
theorem QU(x y:dN):((x.cell==y.cell)&&(x.row==y.row))=eqd x y:=by
 simp only[lI];rw[Bool.eq_iff_iff];simp only[kW,zI];cases x;cases y
 simp only[dN.mk.injEq]
theorem Uw(a b:List dN)(h:a.length<lim):F6 a b=some (eqd a b):=by
 rw[<- jT];refine ou fun d=>kC (fun i=>((a,b,(i:Int)):List dN×List dN×Int)) _ rfl a b d _ _ (fun i x y e f c=>?_) ?_
 ·simp only[cZ c,ac,au,e,f,zA,dF c h,QU,iV]
 ·simp only[aT,aa];rfl
theorem Sm(a b:List dN)(h:a.length<lim):Dk a b=some (eqd a b):=by
 rw[<- jT];refine ou fun d=>kC (fun i=>((a,b,(a.length:Int),(i:Int)):List dN×List dN×Int×Int)) _ rfl a b d _ _ (fun i x y e f c=>?_) ?_
 ·simp only[cZ c,ac,au,e,f,zA,dF c h,QU,iV]
 ·simp only[aT,aa];rfl
theorem ae7(x y:cO):(bif eqd x.cells y.cells then eqd x.orig y.orig else false)=eqd x y:=by
 have e:eqd x y=(eqd x.cells y.cells&&eqd x.orig y.orig):=by
  rw[Bool.eq_iff_iff];simp only[kW,zI];cases x;cases y
  simp only[cO.mk.injEq]
 rw[e];cases eqd x.cells y.cells<;>rfl
theorem MQ:∀(n:Nat) (a b:aQ),siz a<n->Fit B20 (.base .val) a->BZ n a b true=some (eqd a b)
 | 0,a,b,h,_=>absurd h (Nat.not_lt_zero _)
 | n+1,a,b,C,s=>by
  have ih:=MQ n;rw[JG]at s;obtain⟨_,_,_,_,t,A,u⟩:=s;have m:=dX (dh t);have o:=dX (dh u);show PZ (BZ n) a b true=_
  unfold PZ;rw[ZY _ _ (dX (dh A)),zA];simp only[AQ,lI,iV];have no:∀ {p:Prop},(a=b->p)->¬p->eqd a b=false:=fun h B=>fJ fun e=>B (h e)
  by_cases d:a.kind=b.kind
  case neg=>rw[fJ d,no (fun h=>by rw[h]) d];rfl
  by_cases f:a.n=b.n
  case neg=>rw[dV d,fJ f,no (fun h=>by rw[h]) f];rfl
  by_cases g:a.step=b.step
  case neg=>rw[dV d,dV f,fJ g,no (fun h=>by rw[h]) g];rfl
  by_cases k:a.text=b.text
  case neg=>rw[dV d,dV f,dV g,fJ k,no (fun h=>by rw[h]) k];rfl
  rw[dV d,dV f,dV g,dV k];simp only[ac];by_cases l:a.columns=b.columns
  case neg=>
   rw[fJ l,no (fun h=>by rw[h]) l]
   cases eqd (a.list.length:Int) (b.list.length:Int)<;>rfl
  rw[dV l];simp only[ac];by_cases w:a.list.length=b.list.length
  case neg=>
   rw[fJ (show ¬((a.list.length:Int)=(b.list.length:Int)) by omega),no (fun h=>by rw[h]) w]
   rfl
  by_cases z:a.rows.length=b.rows.length
  case neg=>
   rw[fJ (show ¬((a.rows.length:Int)=(b.rows.length:Int)) by omega),no (fun h=>by rw[h]) z]
   cases eqd (a.list.length:Int) (b.list.length:Int)<;>rfl
  rw[dV (show (a.list.length:Int)=(b.list.length:Int) by omega),dV (show (a.rows.length:Int)=(b.rows.length:Int) by omega)];simp only[ac];rw[kC (fun i:Nat=>(true,a.kind,a.n,a.step,a.text,a.list,a.columns,a.rows,b.kind,b.n,b.step,b.text,b.list,b.columns,b.rows,(i:Int))) (true,a.kind,a.n,a.step,a.text,a.list,a.columns,a.rows,b.kind,b.n,b.step,b.text,b.list,b.columns,b.rows,0) rfl a.list b.list w false (some (eqd a.rows b.rows)) (fun i x y j q c=>by
   simp only[cZ c,ac,au,j,q,zA,dF c m,jr,iV];rw[ih x y (by have:=OV (zG j);have:=H9 (v:=a);omega) (t.bQ x (zG j)),zA]) (by
   simp only[aT,aa];rw[kC (fun i:Nat=>(true,a.kind,a.n,a.step,a.text,a.list,a.columns,a.rows,b.kind,b.n,b.step,b.text,b.list,b.columns,b.rows,(i:Int))) (true,a.kind,a.n,a.step,a.text,a.list,a.columns,a.rows,b.kind,b.n,b.step,b.text,b.list,b.columns,b.rows,0) rfl a.rows b.rows z false (some true) (fun i x y j q c=>by
    have r:=u.bQ x (zG j);rw[O1]at r;simp only[cZ c,ac,au,j,q,zA,dF c o,Qa _ _ (dX (dh r.1)),Uw _ _ (dX (dh r.2)),iV,<- ae7 x y];cases eqd x.cells y.cells<;>cases eqd x.orig y.orig<;>rfl) (by
    simp only[aT,aa];rfl),jT])]
  have hval:eqd a b=(eqd a.list b.list&&eqd a.rows b.rows):=by
   rw[Bool.eq_iff_iff];simp only[kW,zI];constructor
   ·intro h;rw[h];exact⟨rfl,rfl⟩
   ·intro h;cases a;cases b
    simp only at d f g k l h;rw[d,f,g,k,l,h.1,h.2]
  rw[hval];cases eqd a.list b.list<;>rfl
theorem ac1(a b:aQ)(c:Fit B20 (.base .val) a):XL a b true=some (eqd a b):=MQ _ a b (by omega) c
theorem Qz(a b:aQ)(c:Fit B20 (.base .val) a):wR a b=some (eqd a b):=by
 unfold wR;simp only[jr];rw[ac1 a b c,zA]
theorem Td:∀(n:Nat) (a b:aQ),siz a<n->Fit B20 (.base .val) a->Jw n a b true=some (eqd a b)
 | 0,a,b,h,_=>absurd h (Nat.not_lt_zero _)
 | n+1,a,b,C,s=>by
  have ih:=Td n;rw[JG]at s;obtain⟨_,_,_,_,t,A,u⟩:=s;have m:=dX (dh t);have o:=dX (dh u);show Y3 (Jw n) a b true=_
  unfold Y3;rw[Sl _ _ (dX (dh A)),zA];simp only[AQ,lI,iV];have no:∀ {p:Prop},(a=b->p)->¬p->eqd a b=false:=fun h B=>fJ fun e=>B (h e)
  by_cases d:a.kind=b.kind
  case neg=>rw[fJ d,no (fun h=>by rw[h]) d];rfl
  by_cases f:a.n=b.n
  case neg=>rw[dV d,fJ f,no (fun h=>by rw[h]) f];rfl
  by_cases g:a.step=b.step
  case neg=>rw[dV d,dV f,fJ g,no (fun h=>by rw[h]) g];rfl
  by_cases k:a.text=b.text
  case neg=>rw[dV d,dV f,dV g,fJ k,no (fun h=>by rw[h]) k];rfl
  rw[dV d,dV f,dV g,dV k];simp only[ac];by_cases l:a.columns=b.columns
  case neg=>
   rw[fJ l,no (fun h=>by rw[h]) l]
   cases eqd (a.list.length:Int) (b.list.length:Int)<;>rfl
  rw[dV l];simp only[ac];by_cases w:a.list.length=b.list.length
  case neg=>
   rw[fJ (show ¬((a.list.length:Int)=(b.list.length:Int)) by omega),no (fun h=>by rw[h]) w]
   rfl
  by_cases z:a.rows.length=b.rows.length
  case neg=>
   rw[fJ (show ¬((a.rows.length:Int)=(b.rows.length:Int)) by omega),no (fun h=>by rw[h]) z]
   cases eqd (a.list.length:Int) (b.list.length:Int)<;>rfl
  rw[dV (show (a.list.length:Int)=(b.list.length:Int) by omega),dV (show (a.rows.length:Int)=(b.rows.length:Int) by omega)];simp only[ac];rw[kC (fun i:Nat=>(true,a.kind,a.n,a.step,a.text,a.list,a.columns,a.rows,b.kind,b.n,b.step,b.text,b.list,b.columns,b.rows,(a.list.length:Int),(i:Int))) (true,a.kind,a.n,a.step,a.text,a.list,a.columns,a.rows,b.kind,b.n,b.step,b.text,b.list,b.columns,b.rows,(a.list.length:Int),0) rfl a.list b.list w false (some (eqd a.rows b.rows)) (fun i x y j q c=>by
   simp only[cZ c,ac,au,j,q,zA,dF c m,jr,iV];rw[ih x y (by have:=OV (zG j);have:=H9 (v:=a);omega) (t.bQ x (zG j)),zA]) (by
   simp only[aT,aa];rw[kC (fun i:Nat=>(true,a.kind,a.n,a.step,a.text,a.list,a.columns,a.rows,b.kind,b.n,b.step,b.text,b.list,b.columns,b.rows,(a.rows.length:Int),(i:Int))) (true,a.kind,a.n,a.step,a.text,a.list,a.columns,a.rows,b.kind,b.n,b.step,b.text,b.list,b.columns,b.rows,(a.rows.length:Int),0) rfl a.rows b.rows z false (some true) (fun i x y j q c=>by
    have r:=u.bQ x (zG j);rw[O1]at r;simp only[cZ c,ac,au,j,q,zA,dF c o,abe _ _ (dX (dh r.1)),Sm _ _ (dX (dh r.2)),iV,<- ae7 x y];cases eqd x.cells y.cells<;>cases eqd x.orig y.orig<;>rfl) (by
    simp only[aT,aa];rfl),jT])]
  have hval:eqd a b=(eqd a.list b.list&&eqd a.rows b.rows):=by
   rw[Bool.eq_iff_iff];simp only[kW,zI];constructor
   ·intro h;rw[h];exact⟨rfl,rfl⟩
   ·intro h;cases a;cases b
    simp only at d f g k l h;rw[d,f,g,k,l,h.1,h.2]
  rw[hval];cases eqd a.list b.list<;>rfl
theorem ahn(a b:aQ)(c:Fit B20 (.base .val) a):aeu a b true=some (eqd a b):=Td _ a b (by omega) c
theorem SY(a b:aQ)(c:Fit B20 (.base .val) a):wZ a b=some (eqd a b):=by
 unfold wZ;simp only[jr];rw[ahn a b c,zA]
theorem aaC(x y:aN):eqd x y=(eqd x.kind y.kind&&(eqd x.n y.n&&(eqd x.time y.time&&(eqd x.text y.text&&eqd x.result y.result)))):=by
 rw[Bool.eq_iff_iff];simp only[kW,zI];cases x;cases y
 simp only[aN.mk.injEq]
theorem Ib(x y:aN):xZ x y=some (eqd x.kind y.kind&&(eqd x.n y.n&&(eqd x.text y.text&&eqd x.time y.time))):=by
 unfold xZ;simp only[lI];cases eqd x.kind y.kind<;>cases eqd x.n y.n<;>cases eqd x.text y.text<;>rfl
theorem FD(x y:aN):uF x y=some (eqd x.kind y.kind&&(eqd x.n y.n&&(eqd x.text y.text&&eqd x.time y.time))):=by
 unfold uF;simp only[lI];cases eqd x.kind y.kind<;>cases eqd x.n y.n<;>cases eqd x.text y.text<;>rfl
theorem MP(a b:List aN)(d:aW B20 (.list (.base .read) a)):Ih a b=some (eqd a b):=by
 have h:=dX (dh d);rw[<- jT];refine ou fun g=>kC (fun i=>((a,b,(i:Int)):List aN×List aN×Int)) _ rfl a b g _ _ (fun i x y e j c=>?_) ?_
 ·have f:=d.bQ x (zG e);rw[vV]at f;simp only[cZ c,ac,au,e,j,zA,dF c h,qH,jr,Ib,Qz x.result y.result f.2.2.2.2,iV,aaC];cases eqd x.kind y.kind<;>cases eqd x.n y.n<;>cases eqd x.text y.text<;>cases eqd x.time y.time<;>cases eqd x.result y.result<;>rfl
 ·simp only[aT,aa];rfl
theorem Tc(a b:List aN)(d:aW B20 (.list (.base .read) a)):DK a b=some (eqd a b):=by
 have h:=dX (dh d);rw[<- jT];refine ou fun g=>kC (fun i=>((a,b,(a.length:Int),(i:Int)):List aN×List aN×Int×Int)) _ rfl a b g _ _ (fun i x y e j c=>?_) ?_
 ·have f:=d.bQ x (zG e);rw[vV]at f;simp only[cZ c,ac,au,e,j,zA,dF c h,qH,jr,FD,SY x.result y.result f.2.2.2.2,iV,aaC];cases eqd x.kind y.kind<;>cases eqd x.n y.n<;>cases eqd x.text y.text<;>cases eqd x.time y.time<;>cases eqd x.result y.result<;>rfl
 ·simp only[aT,aa];rfl
theorem TK(x y:ah):((x.id==y.id)&&((x.version==y.version)&&((x.kind==y.kind)&&((x.name==y.name)&&((x.code==y.code)&&(x.n==y.n))))))=eqd x y:=by
 simp only[lI];rw[Bool.eq_iff_iff];simp only[kW,zI];cases x;cases y
 simp only[ah.mk.injEq]
theorem ajY(x y:dR):((x.kind==y.kind)&&((x.pos==y.pos)&&((x.cell.id==y.cell.id)&&((x.cell.version==y.cell.version)&&((x.cell.kind==y.cell.kind)&&((x.cell.name==y.cell.name)&&((x.cell.code==y.cell.code)&&(x.cell.n==y.cell.n))))))))=eqd x y:=by
 rw[TK];simp only[lI];rw[Bool.eq_iff_iff];simp only[kW,zI];cases x;cases y
 simp only[dR.mk.injEq]
theorem apc(x y:GOp):eqd x y=(eqd x.time y.time&&(eqd x.by_ y.by_&&(eqd x.kind y.kind&&(eqd x.seen y.seen&&(eqd x.edit y.edit&&(eqd x.src y.src&&(eqd x.dst y.dst&&(eqd x.cell y.cell&&(eqd x.version y.version&&eqd x.reads y.reads))))))))):=by
 rw[Bool.eq_iff_iff];simp only[kW,zI];cases x;cases y
 simp only[GOp.mk.injEq]
theorem aaq(a b:GOp)(c:Fit B20 (.base .op) a):IC a b=some (eqd a b):=by
 rw[AB]at c;obtain⟨_,_,_,d,_,_,_,_,_,e⟩:=c;unfold IC;simp only[ajY,Qa _ _ (dX (dh d)),MP _ _ e,zA,iV,apc];simp only[lI,AQ,iV];cases eqd a.time b.time<;>cases eqd a.by_ b.by_<;>cases eqd a.kind b.kind<;>cases eqd a.seen b.seen<;>cases eqd a.edit b.edit<;>cases eqd a.src b.src<;>
  cases eqd a.dst b.dst<;>cases eqd a.cell b.cell<;>cases eqd a.version b.version<;>rfl
end eqs
end Go.Proofs.YtngjomkjlonfpaaGreatDoor
/- Plain laws: names, cells and notebooks that are valid; both sides alike. Plain laws: valid cells, notebooks and histories; both sides alike. -/
namespace Go.Proofs.YtngjomkjlonfpaaGreatDoor
open Go.Abs Go.Proofs
def printable(a:Str):Bool:=iw (fun c _=>!(decide ((c.toNat:Int)<32))&&!(decide ((c.toNat:Int)>126))) a 0&&decide ((a.length:Int)<=120)
theorem Bc(a:Str)(h:a.length<lim):kT a=some (printable a):=by
 refine nM (fun i=>((a,(i:Int)):Str×Int)) a _ _ (fun i x c=>?_) ?_
 ·obtain⟨b,rfl⟩:=zC.1 c;simp only[cZ b,ac,au,c,zA,dF b h];cases decide ((a[i].toNat:Int)<32)<;>cases decide ((a[i].toNat:Int)>126)<;>rfl
 ·simp only[aT,aa]
theorem Ox(a:Str)(h:a.length<lim):gW a=some (printable a):=Bc a h
def okc(c:UInt8)(i:Nat):Bool:=(decide ((c.toNat:Int)>=97)&&decide ((c.toNat:Int)<=122))||(!((i:Int)==0)&&decide ((c.toNat:Int)>=48)&&decide ((c.toNat:Int)<=57))
theorem MS(a:Str)(h:a.length<lim):Ce a=some (iw okc a 0&&decide ((a.length:Int)>0)):=by
 refine nM (fun i=>((a,(i:Int)):Str×Int)) a _ _ (fun i x c=>?_) ?_
 ·obtain⟨b,rfl⟩:=zC.1 c;simp only[cZ b,ac,au,c,zA,dF b h,okc];cases decide ((a[i].toNat:Int)>=97)<;>cases decide ((a[i].toNat:Int)<=122)<;>cases decide ((a[i].toNat:Int)>=48)<;>cases decide ((a[i].toNat:Int)<=57)<;>cases ((i:Int)==0)<;>rfl
 ·simp only[aT,aa]
theorem aeo(a:Str)(h:a.length<lim):Jr a=some (iw okc a 0&&(decide (1<=(a.length:Int))&&decide ((a.length:Int)<=8))):=by
 refine nM (fun i=>((a,(i:Int)):Str×Int)) a _ _ (fun i x c=>?_) ?_
 ·obtain⟨b,rfl⟩:=zC.1 c;simp only[cZ b,ac,au,c,zA,dF b h,okc,dnlt,dngt];cases decide ((a[i].toNat:Int)>=97)<;>cases decide ((a[i].toNat:Int)<=122)<;>cases decide ((a[i].toNat:Int)>=48)<;>cases decide ((a[i].toNat:Int)<=57)<;>cases ((i:Int)==0)<;>rfl
 ·simp only[aT,aa,Aj,zA]
def ahs:List Str->Str->Bool
 | [],_=>false
 | x::r,a=>x==a||ahs r a
theorem V5(xs:List Str)(a:Str)(h:xs.length<lim):lu xs a=some (ahs xs a):=by
 have key:∀(n i:Nat),xs.length=i+n->aA (fun (c:(List Str)×Str×Int)=>
  bif (decide (c.2.2<(c.1.length:Int)))then
   (idx c.1 c.2.2).bind fun d=>
   bif (d==c.2.1)then
    some (.inr (true))
   else
    some (.inl (c.1,c.2.1,w64 (c.2.2+1)))
  else
   some (.inr (false))) (xs,a,(i:Int))=some (ahs (xs.drop i) a):=by
  intro n
  induction n with
  | zero=>
   intro i hi
   have:i=xs.length:=by omega
   subst this
   rw[aH]
   simp only[aT,aa,List.drop_length]
   rfl
  | succ n ih=>
   intro i hi
   have b:i<xs.length:=by omega
   rw[List.drop_eq_getElem_cons b,aH]
   simp only[cZ b,ac,au,zF b,zA,dF b h,ahs]
   cases xs[i]==a with
   | true=>rfl
   | false=>exact ih (i+1) (by omega)
 exact key xs.length 0 (by omega)
theorem aaw(a:Str):∃b,o6 a=some b/\ji a=some b:=by
 have y:ji a=some (ahs [[108,101,116],[105,110],[105,102],[116,104,101,110],[101,108,115,101],[102,111,114],[100,111],[108,101,110],[115,117,109],[116,97,107,101],[115,107,105,112],[114,97,110,103,101],[110,116,104],[119,104,101,114,101],[107,101,101,112],[97,100,100],[103,114,111,117,112],[106,111,105,110],[99,111,108,117,109,110],[114,111,119,115],[99,108,111,99,107],[99,104,97,110,99,101],[102,105,108,101],[116,97,98,108,101]] a):=by
  unfold ji oV;rw[zA,V5 _ _ (by decide)];rfl
 refine⟨_,?_,y⟩;unfold o6 fQ;simp only[ahs,aki _ a];rcases Bool.eq_false_or_eq_true (a==[108,101,116])with q | q
 ·rw[eq_of_beq q];rfl
 rcases Bool.eq_false_or_eq_true (a==[105,110])with h1 | h1
 ·rw[eq_of_beq h1];rfl
 rcases Bool.eq_false_or_eq_true (a==[105,102])with h2 | h2
 ·rw[eq_of_beq h2];rfl
 rcases Bool.eq_false_or_eq_true (a==[116,104,101,110])with r | r
 ·rw[eq_of_beq r];rfl
 rcases Bool.eq_false_or_eq_true (a==[101,108,115,101])with s | s
 ·rw[eq_of_beq s];rfl
 rcases Bool.eq_false_or_eq_true (a==[102,111,114])with t | t
 ·rw[eq_of_beq t];rfl
 rcases Bool.eq_false_or_eq_true (a==[100,111])with u | u
 ·rw[eq_of_beq u];rfl
 rcases Bool.eq_false_or_eq_true (a==[108,101,110])with v | v
 ·rw[eq_of_beq v];rfl
 rcases Bool.eq_false_or_eq_true (a==[115,117,109])with w | w
 ·rw[eq_of_beq w];rfl
 rcases Bool.eq_false_or_eq_true (a==[116,97,107,101])with x | x
 ·rw[eq_of_beq x];rfl
 rcases Bool.eq_false_or_eq_true (a==[115,107,105,112])with c | c
 ·rw[eq_of_beq c];rfl
 rcases Bool.eq_false_or_eq_true (a==[114,97,110,103,101])with d | d
 ·rw[eq_of_beq d];rfl
 rcases Bool.eq_false_or_eq_true (a==[110,116,104])with e | e
 ·rw[eq_of_beq e];rfl
 rcases Bool.eq_false_or_eq_true (a==[119,104,101,114,101])with f | f
 ·rw[eq_of_beq f];rfl
 rcases Bool.eq_false_or_eq_true (a==[107,101,101,112])with g | g
 ·rw[eq_of_beq g];rfl
 rcases Bool.eq_false_or_eq_true (a==[97,100,100])with h | h
 ·rw[eq_of_beq h];rfl
 rcases Bool.eq_false_or_eq_true (a==[103,114,111,117,112])with i | i
 ·rw[eq_of_beq i];rfl
 rcases Bool.eq_false_or_eq_true (a==[106,111,105,110])with j | j
 ·rw[eq_of_beq j];rfl
 rcases Bool.eq_false_or_eq_true (a==[99,111,108,117,109,110])with k | k
 ·rw[eq_of_beq k];rfl
 rcases Bool.eq_false_or_eq_true (a==[114,111,119,115])with l | l
 ·rw[eq_of_beq l];rfl
 rcases Bool.eq_false_or_eq_true (a==[99,108,111,99,107])with m | m
 ·rw[eq_of_beq m];rfl
 rcases Bool.eq_false_or_eq_true (a==[99,104,97,110,99,101])with n | n
 ·rw[eq_of_beq n];rfl
 rcases Bool.eq_false_or_eq_true (a==[102,105,108,101])with o | o
 ·rw[eq_of_beq o];rfl
 rcases Bool.eq_false_or_eq_true (a==[116,97,98,108,101])with p | p
 ·rw[eq_of_beq p];rfl
 simp only[q,h1,h2,r,s,t,u,v,w,x,c,d,e,f,g,h,i,j,k,l,m,n,o,p];rfl
theorem Xn(a:Str)(h:a.length<lim):∃b,aZ a=some b/\bM a=some b:=by
 obtain⟨b,d,c⟩:=aaw a;unfold aZ bM;rw[aeo a h,MS a h,d,c];have e:decide (1<=(a.length:Int))=decide ((a.length:Int)>0):=rfl;rw[e];cases iw okc a 0<;>cases decide ((a.length:Int)>0)<;>cases decide ((a.length:Int)<=8)<;>exact⟨_,rfl,rfl⟩
theorem jc(c:ah)(h:Fit B20 (.base .cell) c):∃b,bH c=some b/\dm c=some b:=by
 rw[fK]at h;obtain⟨b,d,a⟩:=Xn c.name (dX (AY h.2.2.2.1));have h2:=dX (AY h.2.2.2.2.1);unfold bH dm;rw[Ox _ h2,Bc _ h2];simp only[Aj,fO,d,a,zA];refine alW ?_;repeat' first | exact⟨_,rfl⟩ | apply apn
theorem jk(a:ak)(b:Int)(h:a.cells.length<lim):jX a b=some (dB (fun c=>c.id==b) a.cells 0):=by
 refine uS (fun i=>((b,a.cells,(i:Int)):Int×List ah×Int)) a.cells (fun c=>c.id==b) (fun i x e=>?_) ?_
 ·obtain⟨d,rfl⟩:=zC.1 e;simp only[cZ d,ac,au,e,zA,dF d h]
 ·simp only[aT,aa]
theorem xK(a:ak)(b:Int)(h:a.cells.length<lim):iG a b=some (dB (fun c=>c.id==b) a.cells 0):=by
 refine uS (fun i=>((b,a.cells,(a.cells.length:Int),(i:Int)):Int×List ah×Int×Int)) a.cells (fun c=>c.id==b) (fun i x e=>?_) ?_
 ·obtain⟨d,rfl⟩:=zC.1 e;simp only[cZ d,ac,au,e,zA,dF d h]
 ·simp only[aT,aa]
open Classical in
noncomputable def iC(c:ah):Bool:=(dm c).getD false
theorem kD(n:ak)(f:Fit B20 (.base .notebook) n):∃b,gy n=some b/\dH n=some b:=by
 rw[fH]at f;have h:n.cells.length<lim/\∀x∈n.cells,Fit B20 (.base .cell) x:=⟨dX (dh f),f.bQ⟩;refine⟨iw (fun c i=>iC c&&!(dB (fun d=>d.id==c.id) n.cells 0 != (i:Int))) n.cells 0&&decide ((n.cells.length:Int)<=8),?_,?_⟩
 ·refine nM (fun i=>((n.cells,n.cells,(n.cells.length:Int),(i:Int)):List ah×List ah×Int×Int)) n.cells _ _ (fun i x e=>?_) ?_
  ·obtain⟨a,rfl⟩:=zC.1 e;obtain⟨b,h1,h2⟩:=jc _ (h.2 _ (List.getElem_mem a));have g:iC n.cells[i]=b:=by unfold iC;rw[h2];rfl
   simp only[cZ a,ac,au,e,zA,dF a h.1,h1,g,xK ⟨n.cells⟩ _ h.1];cases b<;>cases (dB (fun d=>d.id==n.cells[i].id) n.cells 0 != (i:Int))<;>rfl
  ·simp only[aT,aa]
 ·refine nM (fun i=>((n.cells,(i:Int)):List ah×Int)) n.cells _ _ (fun i x e=>?_) ?_
  ·obtain⟨a,rfl⟩:=zC.1 e;obtain⟨b,h1,h2⟩:=jc _ (h.2 _ (List.getElem_mem a));have g:iC n.cells[i]=b:=by unfold iC;rw[h2];rfl
   simp only[cZ a,ac,au,e,zA,dF a h.1,h2,g,jk ⟨n.cells⟩ _ h.1];cases b<;>cases (dB (fun d=>d.id==n.cells[i].id) n.cells 0 != (i:Int))<;>rfl
  ·simp only[aT,aa]
end Go.Proofs.YtngjomkjlonfpaaGreatDoor
/- The plain law of IsValidHistory. -/
namespace Go.Proofs.YtngjomkjlonfpaaGreatDoor
open Go.Abs Go.Proofs
end Go.Proofs.YtngjomkjlonfpaaGreatDoor
