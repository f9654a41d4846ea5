import Derived.Test.YtapgeemjgckgaaaGreatDoorModels
import Derived.Test.YtapgeemjgckgaaaGreatDoorS4
import Derived.Test.YtapgeemjgckgaaaGreatDoorLink1
set_option linter.unusedSimpArgs false
set_option linter.unusedVariables false
/- Plain laws of the evaluator's loops over lists. -/
namespace Go.Proofs.YtapgeemjgckgaaaGreatDoor
open Go.Abs Go.Proofs
theorem aX{n:Int}(a:-9223372036854775808<=n)(b:n<9223372036854775808):w64 n=n:=by
 simp only[w64,IntKind.wrap,IntKind.bits,IntKind.signed];simp;omega
theorem aA{α:Type}(xs:List α)(i:Nat):idx xs (i:Int)=xs[i]?:=by
 simp[idx]
def KZ{α σ ρ:Type}(f:α->Nat->σ->Option (σ⊕ρ))(fin:σ->Option ρ):List α->Nat->σ->Option ρ
 | [],_,s=>fin s
 | x::r,i,s=>match f x i s with
  | none=>none
  | some (.inl s')=>KZ f fin r (i+1) s'
  | some (.inr r)=>some r
theorem yh{α σ ρ X:Type}{g:X->Option (X⊕ρ)}(pk:σ->Nat->X)(xs:List α)(f:α->Nat->σ->Option (σ⊕ρ))(fin:σ->Option ρ)
  (b:∀i x s,xs[i]?=some x->g (pk s i)=match f x i s with
   | none=>none
   | some (.inl s')=>some (.inl (pk s' (i+1)))
   | some (.inr r)=>some (.inr r))
  (c:∀s,g (pk s xs.length)=(fin s).bind fun r=>some (.inr r)) (s:σ):ak g (pk s 0)=KZ f fin xs 0 s:=by
 have key:∀(n i:Nat) (s:σ),xs.length=i+n->ak g (pk s i)=KZ f fin (xs.drop i) i s:=by
  intro n;induction n with
  | zero=>
   intro i s hi;rw[List.drop_eq_nil_of_le (by omega)];rw[aI];have:i=xs.length:=by omega
   subst this;rw[c];show _=fin s
   cases fin s<;>rfl
  | succ n ih=>
   intro i s hi;have a:i<xs.length:=by omega
   rw[List.drop_eq_getElem_cons a,aI,b i xs[i] s (zF a)];simp only[KZ];cases f xs[i] i s with
   | none=>rfl
   | some y=>cases y with
    | inl s'=>exact ih (i+1) s' (by omega)
    | inr r=>rfl
 simpa using key xs.length 0 s (by omega)
theorem aj0{α:Type}(f:α->Option α)(xs:List α)(m:∀x∈xs,f x=some x)(q:xs.length<4611686018427387904)(out:List α)(b:out.length=xs.length) :
  ak (fun (x:List α×List α×Int)=>
   bif (decide (x.2.2<(x.1.length:Int)))then
    (idx x.1 x.2.2).bind fun d=>
    (f d).bind fun e=>
    (idx x.2.1 x.2.2).bind fun _=>
    (x.2.1[x.2.2.toNat]?).bind fun o=>
    some (.inl (x.1,x.2.1.set x.2.2.toNat e,w64 (x.2.2+1)))
   else
    some (.inr (x.2.1))) (xs,out,0)=some xs:=by
 have key:∀(n i:Nat) (out:List α),xs.length=i+n->out.length=xs.length->out.take i=xs.take i->ak (fun (x:List α×List α×Int)=>
   bif (decide (x.2.2<(x.1.length:Int)))then
    (idx x.1 x.2.2).bind fun d=>
    (f d).bind fun e=>
    (idx x.2.1 x.2.2).bind fun _=>
    (x.2.1[x.2.2.toNat]?).bind fun o=>
    some (.inl (x.1,x.2.1.set x.2.2.toNat e,w64 (x.2.2+1)))
   else
    some (.inr (x.2.1))) (xs,out,(i:Int))=some xs:=by
  intro n;induction n with
  | zero=>
   intro i out hi b c;rw[aI];have h:¬((i:Int)<(xs.length:Int)):=by omega
   simp only[h,decide_false,aa];rw[List.take_of_length_le (by omega),List.take_of_length_le (by omega)]at c;rw[c]
  | succ n ih=>
   intro i out hi b c;have a:i<xs.length:=by omega
   rw[aI];have h:((i:Int)<(xs.length:Int)):=by omega
   have p:out[i]?=some (out[i]'(by omega)):=zF (by omega);simp only[h,decide_true,ac,aA,zF a,zA,m _ (List.getElem_mem a),p,az];rw[aX (by omega) (by omega)];have:=ih (i+1) (out.set i xs[i]) (by omega) (by simpa using b) (by
    apply List.ext_getElem?;intro j;have g:=congrArg (·[j]?) c;simp only[List.getElem?_take]at g ⊢;by_cases k:j<i
    ·simp only[k,if_true]at g;simp only[show j<i+1 by omega,if_true,List.getElem?_set,show ¬i=j by omega,if_false];exact g
    ·by_cases l:j=i
     ·subst l;simp[List.getElem?_set,show j<out.length by omega,zF a]
     ·simp[show ¬j<i+1 by omega])
   simpa using this
 exact key xs.length 0 out (by omega) b (by simp)
end Go.Proofs.YtapgeemjgckgaaaGreatDoor
/- Plain laws: loops that scan, sizes, equality with itself. -/
namespace Go.Proofs.YtapgeemjgckgaaaGreatDoor
open Go.Abs Go.Proofs
def SS{α:Type}(p:α->Nat->Bool):List α->Nat->Bool
 | [],_=>true
 | x::r,i=>p x i&&SS p r (i+1)
theorem ah8{α X:Type}{g:X->Option (X⊕Bool)}(pk:Nat->X)(xs:List α)(p:α->Nat->Bool)(fin:Bool)
  (b:∀i x,xs[i]?=some x->g (pk i)=bif p x i then some (.inl (pk (i+1)))else some (.inr false))
  (c:g (pk xs.length)=some (.inr fin)):ak g (pk 0)=some (SS p xs 0&&fin):=by
 have key:∀(n i:Nat),xs.length=i+n->ak g (pk i)=some (SS p (xs.drop i) i&&fin):=by
  intro n;induction n with
  | zero=>
   intro i hi;rw[List.drop_eq_nil_of_le (by omega),aI];have:i=xs.length:=by omega
   subst this;rw[c];simp[SS]
  | succ n ih=>
   intro i hi;have a:i<xs.length:=by omega
   rw[List.drop_eq_getElem_cons a,aI,b i xs[i] (zF a)];simp only[SS];cases p xs[i] i with
   | false=>simp
   | true=>simpa using ih (i+1) (by omega)
 simpa using key xs.length 0 (by omega)
def eF{α:Type}(p:α->Bool):List α->Nat->Int
 | [],_=>-1
 | x::r,i=>bif p x then (i:Int)else eF p r (i+1)
theorem oW{α X:Type}{g:X->Option (X⊕Int)}(pk:Nat->X)(xs:List α)(p:α->Bool)
  (b:∀i x,xs[i]?=some x->g (pk i)=bif p x then some (.inr (i:Int))else some (.inl (pk (i+1))))
  (c:g (pk xs.length)=some (.inr (-1))):ak g (pk 0)=some (eF p xs 0):=by
 have key:∀(n i:Nat),xs.length=i+n->ak g (pk i)=some (eF p (xs.drop i) i):=by
  intro n;induction n with
  | zero=>
   intro i hi;rw[List.drop_eq_nil_of_le (by omega),aI];have:i=xs.length:=by omega
   subst this;rw[c];simp[eF]
  | succ n ih=>
   intro i hi;have a:i<xs.length:=by omega
   rw[List.drop_eq_getElem_cons a,aI,b i xs[i] (zF a)];simp only[eF];cases p xs[i]with
   | false=>simpa using ih (i+1) (by omega)
   | true=>simp
 simpa using key xs.length 0 (by omega)
def SzOk{α:Type}(f:α->Int->Option Int)(P:α->Prop)(cE:α->Nat)(x:α):Prop:=
 ∀l:Int,0<=l->l<=1048576->∃r,f x l=some r/\(r<0\/(0<=r/\r<=l/\20*r+cE x<=20*l+20/\P x))
theorem aos{α:Type}(f:α->Int->Option Int)(P:α->Prop)(cE:α->Nat)(xs:List α)(q:∀x∈xs,SzOk f P cE x)(B:xs.length<4611686018427387904)(l:Int)(s:0<=l)(C:l<=1048576) :
  ∃r,ak (fun (a:List α×Int×Int)=>
   bif (decide (a.2.2<(a.1.length:Int)))then
    (idx a.1 a.2.2).bind fun k=>
    (f k a.2.1).bind fun e=>
    bif (decide (e<0))then
     some (.inr ((-1)))
    else
     some (.inl (a.1,e,w64 (a.2.2+1)))
   else
    some (.inr (a.2.1))) (xs,l,0)=some r/\(r<0\/(0<=r/\r<=l/\20*r+(xs.map cE).sum<=20*l+20*xs.length/\∀x∈xs,P x)):=by
 have key:∀(n i:Nat) (l':Int),xs.length=i+n->0<=l'->l'<=l->20*l'+((xs.take i).map cE).sum<=20*l+20*i->(∀j x,xs[j]?=some x->j<i->P x)->∃r,ak (fun (a:List α×Int×Int)=>
   bif (decide (a.2.2<(a.1.length:Int)))then
    (idx a.1 a.2.2).bind fun k=>
    (f k a.2.1).bind fun e=>
    bif (decide (e<0))then
     some (.inr ((-1)))
    else
     some (.inl (a.1,e,w64 (a.2.2+1)))
   else
    some (.inr (a.2.1))) (xs,l',(i:Int))=some r/\(r<0\/(0<=r/\r<=l/\20*r+(xs.map cE).sum<=20*l+20*xs.length/\∀x∈xs,P x)):=by
  intro n;induction n with
  | zero=>
   intro i l' hi c g p m;have t:xs.take i=xs:=List.take_of_length_le (by omega);rw[t]at p;refine⟨l',?_,.inr ⟨c,g,by omega,fun x u=>?_⟩⟩
   ·rw[aI];have h:¬((i:Int)<(xs.length:Int)):=by omega
    simp only[h,decide_false,aa]
   ·obtain⟨j,d,rfl⟩:=List.mem_iff_getElem.1 u;exact m j _ (zF d) (by omega)
  | succ n ih=>
   intro i l' hi c g p m;have b:i<xs.length:=by omega
   obtain⟨r,v,h⟩:=q _ (List.getElem_mem b) l' c (by omega);have hd:((i:Int)<(xs.length:Int)):=by omega
   rw[aI];simp only[hd,decide_true,ac,aA,zF b,zA,v];rcases h with h | ⟨w,D,E,y⟩
   ·exact⟨-1,by simp[h],.inl (by omega)⟩
   ·have z:¬(r<0):=by omega
    simp only[z,decide_false,aa];rw[aX (by omega) (by omega)];have hsum:((xs.take (i+1)).map cE).sum=((xs.take i).map cE).sum+cE xs[i]:=by
     rw[List.take_add_one,zF b,List.map_append,List.sum_append];simp only[Option.toList_some,List.map_cons,List.map_nil,List.sum_cons,List.sum_nil,Nat.add_zero]
    have:=ih (i+1) r (by omega) w (by omega) (by rw[hsum];omega) (by
     intro j x d A;by_cases o:j=i
     ·subst o;rw[zF b]at d;cases d
      exact y
     ·exact m j x d (by omega))
    simpa using this
 exact key xs.length 0 l (by omega) s (Int.le_refl _) (by simp) (fun j x _ d=>absurd d (by omega))
theorem aoO{α:Type}(f:α->α->Option Bool)(xs:List α)(m:∀x∈xs,f x x=some true)(n:xs.length<4611686018427387904) :
  ak (fun (a:List α×List α×Int)=>
   bif (decide (a.2.2<(a.1.length:Int)))then
    (idx a.1 a.2.2).bind fun b=>
    (idx a.2.1 a.2.2).bind fun c=>
    (f b c).bind fun d=>
    bif (!d)then
     some (.inr (false))
    else
     some (.inl (a.1,a.2.1,w64 (a.2.2+1)))
   else
    some (.inr (true))) (xs,xs,0)=some true:=by
 have:=ah8 (g:=fun (a:List α×List α×Int)=>
   bif (decide (a.2.2<(a.1.length:Int)))then
    (idx a.1 a.2.2).bind fun b=>
    (idx a.2.1 a.2.2).bind fun c=>
    (f b c).bind fun d=>
    bif (!d)then
     some (.inr (false))
    else
     some (.inl (a.1,a.2.1,w64 (a.2.2+1)))
   else
    some (.inr (true))) (fun i=>(xs,xs,(i:Int))) xs (fun _ _=>true) true (by
  intro i x k;obtain⟨j,rfl⟩:=zC.1 k;have hd:((i:Int)<(xs.length:Int)):=by omega
  simp only[hd,decide_true,ac,aA,k,zA,m _ (List.getElem_mem j),aL,aa];rw[aX (by omega) (by omega)];rfl) (by
  have h:¬((xs.length:Int)<(xs.length:Int)):=by omega
  simp only[h,decide_false,aa])
 have e:∀(l:List α) i,SS (fun (_:α) (_:Nat)=>true) l i=true:=by
  intro l;induction l with
  | nil=>intro i;rfl
  | cons x r ih=>intro i;simpa [SS] using ih (i+1)
 rw[e]at this;exact this
end Go.Proofs.YtapgeemjgckgaaaGreatDoor
/- Plain laws of sizes, copies and equality, for every type of data. -/
namespace Go.Abs
theorem aT.ah0{L:Nat}{s:Str}(h:aT L (.str s)):s.length<=L:=by
 generalize hd:D.str s=d at h;cases h<;>cases hd
 assumption
theorem aT.wf{L:Nat}{k:IntKind}{n:Int}(h:aT L (.int k n)):(Lit.int k n).wf=true:=by
 generalize hd:D.int k n=d at h;cases h<;>cases hd
 assumption
theorem aT.X5{L:Nat}{t:Ty}{xs:List t.den}(h:aT L (.list t xs)):xs.length<=L:=by
 generalize hd:D.list t xs=d at h;cases h<;>cases hd
 assumption
def Fit(L:Nat)(t:Ty)(x:t.den):Prop:=∀d,d∈t.cells x->aT L d
theorem aT.cO{L:Nat}{t:Ty}{xs:List t.den}(h:aT L (.list t xs)):∀x,x∈xs->Fit L t x:=by
 generalize hd:D.list t xs=d at h;cases h<;>cases hd
 rename_i b;intro x c d a;obtain⟨i,hi⟩:=List.mem_iff_getElem?.1 c;obtain⟨j,e⟩:=List.mem_iff_getElem?.1 a;exact b i x j d hi e
theorem aT.aoH{L:Nat}{t:Ty}{xs:List t.den}(h:xs.length<=L)(a:∀x,x∈xs->Fit L t x):aT L (.list t xs):=
 .list t xs h fun _ x _ d hi b=>a x (zG hi) d (zG b)
theorem aT.fM{L L':Nat}{k:IntKind}{n:Int}(h:aT L (.int k n)):aT L' (.int k n):=.int k n h.wf
theorem aT.aj7{L:Nat}{b:Bool}:aT L (.bool b):=.bool b
theorem aT.mono{L L':Nat}(a:L<=L'){d:D}(h:aT L d):aT L' d:=by
 induction h with
 | int k n h=>exact .int k n h
 | bool b=>exact .bool b
 | str s h=>exact .str s (Nat.le_trans h a)
 | list t xs h _ ih=>exact .list t xs (Nat.le_trans h a) ih
theorem Fit.mono{L L':Nat}(a:L<=L'){t:Ty}{x:t.den}(h:Fit L t x):Fit L' t x:=fun d hd=>(h d hd).mono a
end Go.Abs
namespace Go.Proofs.YtapgeemjgckgaaaGreatDoor
open Go.Abs Go.Proofs
abbrev B47:Nat:=140737488351232
abbrev B20:Nat:=1048576
abbrev B24:Nat:=16777216
theorem ajc:B20<=B24:=by decide
theorem qN{t:Ty}{xs:List t.den}(h:aT B24 (.list t xs)):(xs.length:Int)<=16777216:=by
 have a:xs.length<=16777216:=h.X5;omega
theorem aja{t:Ty}{xs:List t.den}(h:aT B47 (.list t xs)):(xs.length:Int)<=140737488351232:=by
 have a:xs.length<=140737488351232:=h.X5;omega
theorem dN{t:Ty}{xs:List t.den}(h:aT B20 (.list t xs)):(xs.length:Int)<=1048576:=by
 have a:xs.length<=1048576:=h.X5;omega
theorem Vk{s:Str}(h:aT B47 (.str s)):(s.length:Int)<=140737488351232:=by
 have a:s.length<=140737488351232:=h.ah0;omega
theorem alE{s:Str}(h:aT B20 (.str s)):(s.length:Int)<=1048576:=by
 have a:s.length<=1048576:=h.ah0;omega
theorem vW{s:Str}(h:(s.length:Int)<=1048576):aT B20 (.str s):=.str s (by show s.length<=1048576;omega)
theorem jR{t:Ty}{xs:List t.den}(h:(xs.length:Int)<=1048576)(a:∀x,x∈xs->Fit B20 t x):aT B20 (.list t xs):=.aoH (by show xs.length<=1048576;omega) a
def SzK{α:Type}(f:α->Int->Option Int)(P:Prop)(x:α)(c s:Nat):Prop:=
 ∀l:Int,0<=l->l<=1048576->∃r,f x l=some r/\(r<0\/(0<=r/\r<=l/\20*r+c<=20*l+s/\P))
theorem JK{α:Type}(f:α->Nat):∀(xs:List α) (c:Nat),(∀x,x∈xs->f x<=c)->(xs.map f).sum<=xs.length*c
 | [],c,_=>by simp
 | x::xs,c,h=>by
  have b:=JK f xs c fun y a=>h y (aq _ a)
  have d:=h x ar;simp only[List.map_cons,List.sum_cons,List.length_cons,Nat.succ_mul];omega
theorem Vh{t:Ty}{g:List t.den->Int->Option Int}(hflat:∀x:t.den,Fit B47 t x->Fit B20 t x)
  (d:∀a b,g a b=bif (decide ((w64 (b-(a.length:Int)))<0))then
  some ((-1))
 else
  some (w64 (b-(a.length:Int)))) (cE:t.den->Nat) (e:∀x,cE x<=20) (xs:List t.den) (h:aT B47 (.list t xs)):SzK g (aT B20 (.list t xs)) xs ((xs.map cE).sum) 0:=by
 intro l i j
 have k:=aja h
 rw[d,aX (by omega) (by omega)]
 by_cases c:l-(xs.length:Int)<0
 ·exact⟨-1,by simp only[c,decide_true,ac],.inl (by omega)⟩
 ·have m:=JK cE xs 20 fun x _=>e x
  exact⟨_,by simp only[c,decide_false,aa];rfl,.inr ⟨by omega,by omega,by omega,jR (by omega) fun x f=>hflat x (h.cO x f)⟩⟩
theorem nY{t:Ty}{f:t.den->Int->Option Int}{g:List t.den->Int->Option Int}
  (o:∀a b,g a b=(bif (decide ((w64 (b-(a.length:Int)))<0))then
  some ((-1))
 else
 ak (fun (c:(List t.den)×Int×Int)=>
  bif (decide (c.2.2<(c.1.length:Int)))then
   (idx c.1 c.2.2).bind fun q=>
   (f q c.2.1).bind fun i=>
   bif (decide (i<0))then
    some (.inr ((-1)))
   else
    some (.inl (c.1,i,w64 (c.2.2+1)))
  else
   some (.inr (c.2.1))
 ) (a,w64 (b-(a.length:Int)),0))) (cE:t.den->Nat) (s:Nat) (B:s<=20) (xs:List t.den) (u:∀x,x∈xs->Fit B47 t x->SzK f (Fit B20 t x) x (cE x) s) (h:aT B47 (.list t xs)):SzK g (aT B20 (.list t xs)) xs ((xs.map cE).sum) 0:=by
 intro l j k
 have C:=aja h
 rw[o,aX (by omega) (by omega)]
 by_cases m:l-(xs.length:Int)<0
 ·exact⟨-1,by simp only[m,decide_true,ac],.inl (by omega)⟩
 ·simp only[m,decide_false,aa];obtain⟨r,v,d⟩:=aos f (Fit B20 t) cE xs (fun x n l j k=>by
   obtain⟨r,e,p⟩:=u x n (h.cO x n) l j k;refine⟨r,e,?_⟩;rcases p with p | ⟨w,y,D,z⟩
   ·exact .inl p
   ·exact .inr ⟨w,y,by omega,z⟩) (by omega) (l-xs.length) (by omega) (by omega)
  refine⟨r,v,?_⟩;rcases d with d | ⟨d,E,F,A⟩
  ·exact .inl d
  ·exact .inr ⟨d,by omega,by omega,jR (by omega) A⟩
theorem afQ{g:List Str->Int->Option Int}
  (j:∀a b,g a b=(bif (decide ((w64 (b-(a.length:Int)))<0))then
  some ((-1))
 else
  ak (fun (c:(List Str)×Int×Int)=>
   bif (decide (c.2.2<(c.1.length:Int)))then
    (idx c.1 c.2.2).bind fun i=>
    bif (decide ((w64 (c.2.1-(i.length:Int)))<0))then
     some (.inr ((-1)))
    else
     some (.inl (c.1,w64 (c.2.1-(i.length:Int)),w64 (c.2.2+1)))
   else
    some (.inr (c.2.1))
  ) (a,w64 (b-(a.length:Int)),0))) (xs:List Str) (h:aT B47 (.list (.base .str) xs)):SzK g (aT B20 (.list (.base .str) xs)) xs ((xs.map fun _=>1).sum) 0:=by
 refine nY (t:=.base .str) (f:=fun s b=>some (w64 (b-(s.length:Int)))) j (fun _=>1) 1 (by omega) xs (fun s _ k l n o=>?_) h
 have e:aT B47 (.str s):=k (.str s) (by simp[Ty.cells,Base.cells])
 have:=Vk e
 refine⟨w64 (l-(List.length s:Int)),rfl,?_⟩
 rw[aX (by omega) (by omega)]
 by_cases m:l-(s.length:Int)<0
 ·exact .inl m
 ·exact .inr ⟨by omega,by omega,by omega,fun d hd=>by
   simp only[Ty.cells,Base.cells,List.mem_singleton]at hd;subst hd;exact vW (by omega)⟩
theorem kM{t:Ty}{f:t.den->Option t.den}{z:t.den}{g:List t.den->Option (List t.den)}
  (d:∀a,g a=(mk (a.length:Int)).bind fun e=>
 ak (fun (b:(List t.den)×(List t.den)×Int)=>
  bif (decide (b.2.2<(b.1.length:Int)))then
   (idx b.1 b.2.2).bind fun i=>
   (f i).bind fun j=>
   (idx b.2.1 b.2.2).bind fun _=>
   (b.2.1[b.2.2.toNat]?).bind fun m=>
   some (.inl (b.1,b.2.1.set b.2.2.toNat j,w64 (b.2.2+1)))
  else
   some (.inr (b.2.1))
 ) (a,List.replicate e z,0)) (xs:List t.den) (k:∀x,x∈xs->Fit B20 t x->f x=some x) (h:aT B20 (.list t xs)):g xs=some xs:=by
 have n:=dN h
 rw[d]
 have l:mk (xs.length:Int)=some xs.length:=by
  unfold mk;rw[if_pos (by omega)];simp
 rw[l,zA]
 exact aj0 f xs (fun x c=>k x c (h.cO x c)) (by omega) _ (by simp)
theorem kN{t:Ty}{f:t.den->t.den->Option Bool}{g:List t.den->List t.den->Option Bool}
  (i:∀a b,g a b=bif ((a.length:Int) != (b.length:Int))then
  some (false)
 else
 ak (fun (c:(List t.den)×(List t.den)×Int)=>
  bif (decide (c.2.2<(c.1.length:Int)))then
   (idx c.1 c.2.2).bind fun j=>
   (idx c.2.1 c.2.2).bind fun k=>
   (f j k).bind fun l=>
   bif (!l)then
    some (.inr (false))
   else
    some (.inl (c.1,c.2.1,w64 (c.2.2+1)))
  else
   some (.inr (true))
 ) (a,b,0)) (xs:List t.den) (m:∀x,x∈xs->Fit B24 t x->f x x=some true) (h:aT B24 (.list t xs)):g xs xs=some true:=by
 have n:=qN h
 rw[i]
 have e:((xs.length:Int) != (xs.length:Int))=false:=by simp
 rw[e,aa]
 exact aoO f xs (fun x d=>m x d (h.cO x d)) (by omega)
end Go.Proofs.YtapgeemjgckgaaaGreatDoor
/- Sizes, copies and equality of this translation, by genbasic.py. -/
namespace Go.Proofs.YtapgeemjgckgaaaGreatDoor
noncomputable section
open Go.Abs Go.Proofs
theorem xw{v:aC}:siz v.list<siz v:=by
 cases v;simp only[siz];rw[aC.mk.sizeOf_spec];omega
theorem DK{α:Type}[SizeOf α]{x:α}{xs:List α}(h:x∈xs):siz x<siz xs:=List.sizeOf_lt_of_mem h
theorem adY{L:Nat}{x:bK}:Fit L (.base .origin) x↔aT L (.int .i64 x.cell)/\aT L (.int .i64 x.row):=by
 simp only[Fit,Ty.cells,Base.cells,ba,List.not_mem_nil,or_false,forall_eq_or_imp,forall_eq]
theorem EF{L:Nat}{x:bF}:Fit L (.base .row) x↔aT L (.list (.base .int) x.cells)/\aT L (.list (.base .origin) x.orig):=by
 simp only[Fit,Ty.cells,Base.cells,ba,List.not_mem_nil,or_false,forall_eq_or_imp,forall_eq]
theorem wI{L:Nat}{x:aC}:Fit L (.base .val) x↔aT L (.int .i64 x.kind)/\aT L (.int .i64 x.n)/\aT L (.int .i64 x.step)/\aT L (.str x.text)/\aT L (.list (.base .val) x.list)/\aT L (.list (.base .str) x.columns)/\aT L (.list (.base .row) x.rows):=by
 simp only[Fit,Ty.cells,Base.cells,ba,List.not_mem_nil,or_false,forall_eq_or_imp,forall_eq]
theorem ajG{L:Nat}{x:dh}:Fit L (.base .file) x↔aT L (.str x.name)/\aT L (.int .i64 x.n):=by
 simp only[Fit,Ty.cells,Base.cells,ba,List.not_mem_nil,or_false,forall_eq_or_imp,forall_eq]
theorem qI{L:Nat}{x:aN}:Fit L (.base .read) x↔aT L (.int .i64 x.kind)/\aT L (.int .i64 x.n)/\aT L (.int .i64 x.time)/\aT L (.str x.text)/\Fit L (.base .val) x.result:=by
 simp only[Fit,Ty.cells,Base.cells,ba,List.not_mem_nil,or_false,forall_eq_or_imp,forall_eq,and_assoc]
theorem yL{L:Nat}{x:aj}:Fit L (.base .cell) x↔aT L (.int .i64 x.id)/\aT L (.int .i64 x.version)/\aT L (.int .i64 x.kind)/\aT L (.str x.name)/\aT L (.str x.code)/\aT L (.int .i64 x.n):=by
 simp only[Fit,Ty.cells,Base.cells,ba,List.not_mem_nil,or_false,forall_eq_or_imp,forall_eq]
theorem yK{L:Nat}{x:aB}:Fit L (.base .tape) x↔aT L (.int .i64 x.cell)/\aT L (.int .i64 x.version)/\aT L (.list (.base .read) x.reads):=by
 simp only[Fit,Ty.cells,Base.cells,ba,List.not_mem_nil,or_false,forall_eq_or_imp,forall_eq]
theorem gm{L:Nat}{x:au}:Fit L (.base .notebook) x↔aT L (.list (.base .cell) x.cells):=by
 simp only[Fit,Ty.cells,Base.cells,ba,List.not_mem_nil,or_false,forall_eq_or_imp,forall_eq]
theorem tq{L:Nat}{x:dJ}:Fit L (.base .world) x↔aT L (.int .i64 x.clock)/\aT L (.int .i64 x.seed)/\aT L (.list (.base .file) x.files):=by
 simp only[Fit,Ty.cells,Base.cells,ba,List.not_mem_nil,or_false,forall_eq_or_imp,forall_eq]
theorem tu{L:Nat}{x:aO}:Fit L (.base .entry) x↔aT L (.int .i64 x.cell)/\aT L (.int .i64 x.version)/\aT L (.int .i64 x.stamp)/\aT L (.list (.base .int) x.inputs)/\Fit L (.base .val) x.value/\aT L (.bool x.has):=by
 simp only[Fit,Ty.cells,Base.cells,ba,List.not_mem_nil,or_false,forall_eq_or_imp,forall_eq,and_assoc]
theorem jF{L:Nat}{x:bM}:Fit L (.base .engine) x↔Fit L (.base .notebook) x.notebook/\Fit L (.base .world) x.world/\aT L (.list (.base .tape) x.tapes)/\aT L (.list (.base .entry) x.entries)/\aT L (.int .i64 x.next)/\aT L (.int .i64 x.limit)/\aT L (.int .i64 x.work):=by
 simp only[Fit,Ty.cells,Base.cells,ba,List.not_mem_nil,or_false,forall_eq_or_imp,forall_eq,and_assoc]
def qg(xs:List Int):Nat:=(xs.map fun _=>1).sum
def eY(xs:List Str):Nat:=(xs.map fun _=>1).sum
def lV(x:bK):Nat:=1+1
def uZ(xs:List bK):Nat:=(xs.map lV).sum
theorem U2(x:bK):lV x=1+1:=by
 unfold lV;simp only[Nat.add_assoc];try omega
def sJ(x:bF):Nat:=qg x.cells+uZ x.orig
def nC(xs:List bF):Nat:=(xs.map sJ).sum
theorem aek(x:bF):sJ x=qg x.cells+uZ x.orig:=by
 unfold sJ;simp only[Nat.add_assoc];try omega
def ou(x:aC):Nat:=aC.rec (motive_1:=fun _=>Nat) (motive_2:=fun _=>Nat) (fun a0 e f g h c d ih=>1+1+1+1+ih+eY c+nC d) 0 (fun _ _ a b=>a+b) x
def eP(xs:List aC):Nat:=aC.rec_1 (motive_1:=fun _=>Nat) (motive_2:=fun _=>Nat) (fun a0 e f g h c d ih=>1+1+1+1+ih+eY c+nC d) 0 (fun _ _ a b=>a+b) xs
theorem sH(x:aC):ou x=1+1+1+1+eP x.list+eY x.columns+nC x.rows:=by cases x;rfl
theorem Ar:∀xs:List aC,eP xs=(xs.map ou).sum
 | []=>rfl
 | x::xs=>by rw[List.map_cons,List.sum_cons,<- Ar xs];rfl
def oP(x:dh):Nat:=1+1
def ve(xs:List dh):Nat:=(xs.map oP).sum
theorem abN(x:dh):oP x=1+1:=by
 unfold oP;simp only[Nat.add_assoc];try omega
def mX(x:aN):Nat:=1+1+1+1+1+1+1+1+eP x.result.list+eY x.result.columns+nC x.result.rows
def oO(xs:List aN):Nat:=(xs.map mX).sum
theorem abM(x:aN):mX x=1+1+1+1+ou x.result:=by
 unfold mX;simp only[sH,Nat.add_assoc];try omega
def iY(x:aj):Nat:=1+1+1+1+1+1
def yP(xs:List aj):Nat:=(xs.map iY).sum
theorem abO(x:aj):iY x=1+1+1+1+1+1:=by
 unfold iY;simp only[Nat.add_assoc];try omega
def dF(x:aB):Nat:=1+1+oO x.reads
def lU(xs:List aB):Nat:=(xs.map dF).sum
theorem wJ(x:aB):dF x=1+1+oO x.reads:=by
 unfold dF;simp only[Nat.add_assoc];try omega
theorem Dp(xs:List aB):lU xs=(xs.map dF).sum:=rfl
def tC(x:dJ):Nat:=1+1+ve x.files
theorem YV(x:dJ):tC x=1+1+ve x.files:=by
 unfold tC;simp only[Nat.add_assoc];try omega
def kP(x:aO):Nat:=1+1+1+qg x.inputs+1+1+1+1+eP x.value.list+eY x.value.columns+nC x.value.rows+1
def jg(xs:List aO):Nat:=(xs.map kP).sum
theorem YW(x:aO):kP x=1+1+1+qg x.inputs+ou x.value+1:=by
 unfold kP;simp only[sH,Nat.add_assoc];try omega
theorem Vg(xs:List Int)(h:aT B47 (.list (.base .int) xs)):SzK WT (aT B20 (.list (.base .int) xs)) xs (qg xs) 0:=
 Vh (t:=.base .int) (fun x a d hd=>by simp only[Ty.cells,Base.cells,List.mem_singleton]at hd;subst hd;exact aT.fM (a _ (by simp[Ty.cells,Base.cells]))) (fun _ _=>rfl) (fun _=>1) (fun _=>by omega) xs h
theorem WO(xs:List Str)(h:aT B47 (.list (.base .str) xs)):SzK JI (aT B20 (.list (.base .str) xs)) xs (eY xs) 0:=afQ (fun _ _=>rfl) xs h
theorem Vb(xs:List Int)(h:aT B20 (.list (.base .int) xs)):WI xs=some xs:=kM (t:=.base .int) (f:=fun e=>some e) (z:=(0:Int)) (fun _=>rfl) xs (fun _ _ _=>rfl) h
theorem WC(xs:List Str)(h:aT B20 (.list (.base .str) xs)):JE xs=some xs:=kM (t:=.base .str) (f:=fun e=>some e) (z:=([]:Str)) (fun _=>rfl) xs (fun _ _ _=>rfl) h
theorem VR(xs:List Int)(h:aT B24 (.list (.base .int) xs)):YO xs xs=some true:=kN (t:=.base .int) (f:=fun e e'=>some (e==e')) (fun _ _=>rfl) xs (fun _ _ _=>by simp) h
theorem YK(xs:List Str)(h:aT B24 (.list (.base .str) xs)):La xs xs=some true:=kN (t:=.base .str) (f:=fun e e'=>some (e==e')) (fun _ _=>rfl) xs (fun _ _ _=>by simp) h
theorem WR(xs:List bK)(h:aT B47 (.list (.base .origin) xs)):SzK JJ (aT B20 (.list (.base .origin) xs)) xs (uZ xs) 0:=
 Vh (t:=.base .origin) (fun x a=>by rw[adY]at a ⊢;obtain⟨b,c⟩:=a;exact⟨b.fM,c.fM⟩) (fun _ _=>rfl) lV (fun x=>by rw[U2];simp[]) xs h
theorem Zh(x:bK)(h:Fit B20 (.base .origin) x):OM x=some x:=by
 rfl
theorem WE(xs:List bK)(h:aT B20 (.list (.base .origin) xs)):JF xs=some xs:=
 kM (t:=.base .origin) (fun _=>rfl) xs (fun y _ a=>Zh y a) h
theorem abp(x:bK)(h:Fit B24 (.base .origin) x):Jj x x=some true:=by
 unfold Jj;simp
theorem YM(xs:List bK)(h:aT B24 (.list (.base .origin) xs)):Lc xs xs=some true:=
 kN (t:=.base .origin) (fun _ _=>rfl) xs (fun y _ a=>abp y a) h
theorem ahS(x:bF)(h:Fit B47 (.base .row) x):SzK Zp (Fit B20 (.base .row) x) x (sJ x) 0:=by
 intro l j k;rw[EF]at h ⊢;obtain⟨e,f⟩:=h;unfold Zp;obtain⟨c,g,a⟩:=Vg x.cells e l (by omega) (by omega);rw[g,zA];rcases a with a | ⟨m,n,o,a⟩
 ·exact⟨-1,by simp only[a,decide_true,ac],.inl (by omega)⟩
 rw[ae (show ¬c<0 by omega),aa];obtain⟨d,i,b⟩:=WR x.orig f c (by omega) (by omega);rw[i,zA];rcases b with b | ⟨p,q,r,b⟩
 ·exact⟨-1,by simp only[b,decide_true,ac],.inl (by omega)⟩
 rw[ae (show ¬d<0 by omega),aa];exact⟨d,rfl,.inr ⟨by omega,by omega,by rw[aek];omega,a,b⟩⟩
theorem afR(xs:List bF)(h:aT B47 (.list (.base .row) xs)):SzK acr (aT B20 (.list (.base .row) xs)) xs (nC xs) 0:=
 nY (t:=.base .row) (f:=fun e b=>Zp e b) (fun _ _=>rfl) sJ 0 (by omega) xs (fun y _ a=>ahS y a) h
theorem ahJ(x:bF)(h:Fit B20 (.base .row) x):aey x=some x:=by
 rw[EF]at h;obtain⟨a,b⟩:=h;unfold aey;rw[Vb x.cells a,zA,WE x.orig b];rfl
theorem afD(xs:List bF)(h:aT B20 (.list (.base .row) xs)):acd xs=some xs:=
 kM (t:=.base .row) (fun _=>rfl) xs (fun y _ a=>ahJ y a) h
theorem ajN(x:bF)(h:Fit B24 (.base .row) x):afk x x=some true:=by
 rw[EF]at h;obtain⟨a,b⟩:=h;unfold afk;rw[VR x.cells a,YM x.orig b];simp
theorem ahf(xs:List bF)(h:aT B24 (.list (.base .row) xs)):ad4 xs xs=some true:=
 kN (t:=.base .row) (fun _ _=>rfl) xs (fun y _ a=>ajN y a) h
theorem LJ:∀n,(∀v:aC,siz v<n->Fit B47 (.base .val) v->SzK (jJ n).1 (Fit B20 (.base .val) v) v (ou v) 4)/\(∀xs:List aC,siz xs<n->aT B47 (.list (.base .val) xs)->SzK (jJ n).2 (aT B20 (.list (.base .val) xs)) xs (eP xs) 0)
 | 0=>⟨fun v h=>absurd h (Nat.not_lt_zero _),fun v h=>absurd h (Nat.not_lt_zero _)⟩
 | n+1=>by
  have ih:=LJ n;refine⟨fun x o h=>?_,fun xs o h=>Ar xs▸nY (t:=.base .val) (f:=fun e b=>(jJ n).1 (bW e) b) (fun _ _=>rfl) ou 4 (by omega) xs (fun y p q=>by simp only[SzK,bT];exact ih.1 y (by have:=DK p;omega) q) h⟩;intro l H I;rw[wI]at h ⊢;obtain⟨s,u,w,z,A,B,C⟩:=h;show ∃r,OU (jJ n).1 (jJ n).2 x l=some r/\_
  unfold OU;have J:=Vk z;rw[aX (n:=l-(x.text.length:Int)) (by omega) (by omega)];by_cases i:l-(x.text.length:Int)<0
  ·exact⟨-1,by simp only[i,decide_true,ac],.inl (by omega)⟩
  rw[ae i,aa];obtain⟨D,g⟩:∃r,r=l-(x.text.length:Int):=⟨_,rfl⟩;rw[<- g];obtain⟨j,E,a⟩:=ih.2 x.list (by have:=xw (v:=x);omega) A D (by omega) (by omega);rw[E,zA];rcases a with a | ⟨K,L,M,a⟩
  ·exact⟨-1,by simp only[a,decide_true,ac],.inl (by omega)⟩
  rw[ae (show ¬j<0 by omega),aa];obtain⟨k,F,c⟩:=WO x.columns B j (by omega) (by omega);rw[F,zA];rcases c with c | ⟨N,O,P,c⟩
  ·exact⟨-1,by simp only[c,decide_true,ac],.inl (by omega)⟩
  rw[ae (show ¬k<0 by omega),aa];obtain⟨m,G,d⟩:=afR x.rows C k (by omega) (by omega);rw[G,zA];rcases d with d | ⟨Q,R,S,d⟩
  ·exact⟨-1,by simp only[d,decide_true,ac],.inl (by omega)⟩
  rw[ae (show ¬m<0 by omega),aa];exact⟨m,rfl,.inr ⟨by omega,by omega,by rw[sH];omega,s.fM,u.fM,w.fM,vW (by omega),a,c,d⟩⟩
theorem OO(x:aC)(h:Fit B47 (.base .val) x):SzK NW (Fit B20 (.base .val) x) x (ou x) 4:=(LJ (siz x+1)).1 x (Nat.lt_succ_self _) h
theorem LG:∀n,(∀v:aC,siz v<n->Fit B20 (.base .val) v->(iT n).1 v=some v)/\(∀xs:List aC,siz xs<n->aT B20 (.list (.base .val) xs)->(iT n).2 xs=some xs)
 | 0=>⟨fun v h=>absurd h (Nat.not_lt_zero _),fun v h=>absurd h (Nat.not_lt_zero _)⟩
 | n+1=>by
  have ih:=LG n;refine⟨fun x b h=>?_,fun xs b h=>kM (t:=.base .val) (f:=fun e=>((iT n).1 (bW e)).bind fun r=>some (bW r)) (z:=aC.mk 0 0 0 [] [] [] []) (fun a=>?_) xs (fun y c d=>?_) h⟩
  ·rw[wI]at h;obtain⟨k,l,m,o,g,i,j⟩:=h;show OI (iT n).1 (iT n).2 x=some x
   unfold OI;rw[ih.2 x.list (by have:=xw (v:=x);omega) g,WC _ i,afD _ j];cases x;rfl
  ·show JD (iT n).1 (iT n).2 a=_
   unfold JD;simp only[Option.bind_assoc,zA]
  ·simp only[bT];rw[ih.1 y (by have:=DK c;omega) d];rfl
theorem OE(x:aC)(h:Fit B20 (.base .val) x):NS x=some x:=(LG (siz x+1)).1 x (Nat.lt_succ_self _) h
theorem Na:∀n,(∀v:aC,siz v<n->Fit B24 (.base .val) v->(jX n).1 v v=some true)/\(∀xs:List aC,siz xs<n->aT B24 (.list (.base .val) xs)->(jX n).2 xs xs=some true)
 | 0=>⟨fun v h=>absurd h (Nat.not_lt_zero _),fun v h=>absurd h (Nat.not_lt_zero _)⟩
 | n+1=>by
  have ih:=Na n;refine⟨fun x a h=>?_,fun xs a h=>kN (t:=.base .val) (f:=fun e e'=>(jX n).1 (bW e) (bW e')) (fun _ _=>rfl) xs (fun y b c=>by simp only[bT];exact ih.1 y (by have:=DK b;omega) c) h⟩;rw[wI]at h;obtain⟨j,k,l,m,d,g,i⟩:=h;show RX (jX n).1 (jX n).2 x x=some true
  unfold RX;rw[ih.2 x.list (by have:=xw (v:=x);omega) d,YK _ g,ahf _ i];simp
theorem RQ(x:aC)(h:Fit B24 (.base .val) x):Oj x x=some true:=(Na (siz x+siz x+1)).1 x (by omega) h
theorem afU(x:dh)(h:Fit B47 (.base .file) x):SzK OY (Fit B20 (.base .file) x) x (oP x) 2:=by
 intro l f g;rw[ajG]at h ⊢;obtain⟨c,d⟩:=h;unfold OY;have i:=Vk c;rw[aX (n:=l-(x.name.length:Int)) (by omega) (by omega)];by_cases b:l-(x.name.length:Int)<0
 ·exact⟨-1,by simp only[b,decide_true,ac],.inl (by omega)⟩
 rw[ae b,aa];obtain⟨e,a⟩:∃r,r=l-(x.name.length:Int):=⟨_,rfl⟩;rw[<- a];exact⟨e,rfl,.inr ⟨by omega,by omega,by rw[abN];omega,vW (by omega),d.fM⟩⟩
theorem acu(xs:List dh)(h:aT B47 (.list (.base .file) xs)):SzK WU (aT B20 (.list (.base .file) xs)) xs (ve xs) 0:=
 nY (t:=.base .file) (f:=fun e b=>OY e b) (fun _ _=>rfl) oP 2 (by omega) xs (fun y _ a=>afU y a) h
theorem afG(x:dh)(h:Fit B20 (.base .file) x):ach x=some x:=by
 rfl
theorem acg(xs:List dh)(h:aT B20 (.list (.base .file) xs)):WJ xs=some xs:=
 kM (t:=.base .file) (fun _=>rfl) xs (fun y _ a=>afG y a) h
theorem ahi(x:dh)(h:Fit B24 (.base .file) x):YQ x x=some true:=by
 unfold YQ;simp
theorem ad7(xs:List dh)(h:aT B24 (.list (.base .file) xs)):YP xs xs=some true:=
 kN (t:=.base .file) (fun _ _=>rfl) xs (fun y _ a=>ahi y a) h
theorem afS(x:aN)(h:Fit B47 (.base .read) x):SzK OW (Fit B20 (.base .read) x) x (mX x) 8:=by
 intro l o p;rw[qI]at h ⊢;obtain⟨e,f,g,i,j⟩:=h;unfold OW;simp only[bT];have q:=Vk i;rw[aX (n:=l-(x.text.length:Int)) (by omega) (by omega)];by_cases c:l-(x.text.length:Int)<0
 ·exact⟨-1,by simp only[c,decide_true,ac],.inl (by omega)⟩
 rw[ae c,aa];obtain⟨k,b⟩:∃r,r=l-(x.text.length:Int):=⟨_,rfl⟩;rw[<- b];obtain⟨d,m,a⟩:=OO x.result j k (by omega) (by omega);rw[m,zA];rcases a with a | ⟨s,t,u,a⟩
 ·exact⟨-1,by simp only[a,decide_true,ac],.inl (by omega)⟩
 rw[ae (show ¬d<0 by omega),aa];exact⟨d,rfl,.inr ⟨by omega,by omega,by rw[abM];omega,e.fM,f.fM,g.fM,vW (by omega),a⟩⟩
theorem acs(xs:List aN)(h:aT B47 (.list (.base .read) xs)):SzK WQ (aT B20 (.list (.base .read) xs)) xs (oO xs) 0:=
 nY (t:=.base .read) (f:=fun e b=>OW (iU e) b) (fun _ _=>rfl) mX 8 (by omega) xs (fun y _ a=>by simp only[SzK,dQ];exact afS y a) h
theorem afE(x:aN)(h:Fit B20 (.base .read) x):OL x=some x:=by
 rw[qI]at h;obtain⟨b,c,d,e,a⟩:=h;unfold OL;simp only[bT];rw[OE x.result a];simp only[zA,bT]
theorem ace(xs:List aN)(h:aT B20 (.list (.base .read) xs)):NT xs=some xs:=
 kM (t:=.base .read) (f:=fun e=>(OL (iU e)).bind fun r=>some (iU r)) (z:=(Base.zero .read)) (fun a=>by unfold NT;simp only[Option.bind_assoc,zA];rfl) xs (fun y _ b=>by simp only[dQ];rw[afE y b];rfl) h
theorem ahg(x:aN)(h:Fit B24 (.base .read) x):RY x x=some true:=by
 rw[qI]at h;obtain⟨b,c,d,e,a⟩:=h;unfold RY;simp only[bT];rw[RQ x.result a];simp
theorem ad5(xs:List aN)(h:aT B24 (.list (.base .read) xs)):YL xs xs=some true:=
 kN (t:=.base .read) (f:=fun e e'=>RY (iU e) (iU e')) (fun _ _=>rfl) xs (fun y _ a=>by simp only[dQ];exact ahg y a) h
theorem afX(x:aj)(h:Fit B47 (.base .cell) x):SzK O0 (Fit B20 (.base .cell) x) x (iY x) 6:=by
 intro l p q;rw[yL]at h ⊢;obtain⟨f,g,i,j,k,m⟩:=h;unfold O0;have s:=Vk j;rw[aX (n:=l-(x.name.length:Int)) (by omega) (by omega)];by_cases d:l-(x.name.length:Int)<0
 ·exact⟨-1,by simp only[d,decide_true,ac],.inl (by omega)⟩
 rw[ae d,aa];obtain⟨a,b⟩:∃r,r=l-(x.name.length:Int):=⟨_,rfl⟩;rw[<- b];have t:=Vk k;rw[aX (n:=a-(x.code.length:Int)) (by omega) (by omega)];by_cases e:a-(x.code.length:Int)<0
 ·exact⟨-1,by simp only[e,decide_true,ac],.inl (by omega)⟩
 rw[ae e,aa];obtain⟨o,c⟩:∃r,r=a-(x.code.length:Int):=⟨_,rfl⟩;rw[<- c];exact⟨o,rfl,.inr ⟨by omega,by omega,by rw[abO];omega,f.fM,g.fM,i.fM,vW (by omega),vW (by omega),m.fM⟩⟩
theorem afJ(x:aj)(h:Fit B20 (.base .cell) x):toCell x=some x:=by
 rfl
theorem acn(xs:List aj)(h:aT B20 (.list (.base .cell) xs)):WL xs=some xs:=
 kM (t:=.base .cell) (fun _=>rfl) xs (fun y _ a=>afJ y a) h
theorem ahl(x:aj)(h:Fit B24 (.base .cell) x):YS x x=some true:=by
 unfold YS;simp
theorem aeb(xs:List aj)(h:aT B24 (.list (.base .cell) xs)):YR xs xs=some true:=
 kN (t:=.base .cell) (fun _ _=>rfl) xs (fun y _ a=>ahl y a) h
theorem afO(x:aB)(h:Fit B47 (.base .tape) x):SzK OV (Fit B20 (.base .tape) x) x (dF x) 2:=by
 intro l g i;rw[yK]at h ⊢;obtain⟨c,d,e⟩:=h;unfold OV;obtain⟨b,f,a⟩:=acs x.reads e l (by omega) (by omega);rw[f,zA];rcases a with a | ⟨j,k,m,a⟩
 ·exact⟨-1,by simp only[a,decide_true,ac],.inl (by omega)⟩
 rw[ae (show ¬b<0 by omega),aa];exact⟨b,rfl,.inr ⟨by omega,by omega,by rw[wJ];omega,c.fM,d.fM,a⟩⟩
theorem afB(x:aB)(h:Fit B20 (.base .tape) x):WB x=some x:=by
 rw[yK]at h;obtain⟨b,c,a⟩:=h;unfold WB;rw[ace x.reads a];rfl
theorem ab9(xs:List aB)(h:aT B20 (.list (.base .tape) xs)):WA xs=some xs:=
 kM (t:=.base .tape) (fun _=>rfl) xs (fun y _ a=>afB y a) h
theorem ahd(x:aB)(h:Fit B24 (.base .tape) x):YJ x x=some true:=by
 rw[yK]at h;obtain⟨b,c,a⟩:=h;unfold YJ;rw[ad5 x.reads a];simp
theorem ad3(xs:List aB)(h:aT B24 (.list (.base .tape) xs)):YI xs xs=some true:=
 kN (t:=.base .tape) (fun _ _=>rfl) xs (fun y _ a=>ahd y a) h
theorem Ti(x:au)(h:Fit B20 (.base .notebook) x):yZ x=some x:=by
 rw[gm]at h;have a:=h;unfold yZ;rw[acn x.cells a];rfl
theorem UX(x:au)(h:Fit B24 (.base .notebook) x):Ap x x=some true:=by
 rw[gm]at h;have a:=h;unfold Ap;rw[aeb x.cells a];simp
theorem aco(x:dJ)(h:Fit B47 (.base .world) x):SzK NV (Fit B20 (.base .world) x) x (tC x) 2:=by
 intro l g i;rw[tq]at h ⊢;obtain⟨c,d,e⟩:=h;unfold NV;obtain⟨b,f,a⟩:=acu x.files e l (by omega) (by omega);rw[f,zA];rcases a with a | ⟨j,k,m,a⟩
 ·exact⟨-1,by simp only[a,decide_true,ac],.inl (by omega)⟩
 rw[ae (show ¬b<0 by omega),aa];exact⟨b,rfl,.inr ⟨by omega,by omega,by rw[YV];omega,c.fM,d.fM,a⟩⟩
theorem ab7(x:dJ)(h:Fit B20 (.base .world) x):NR x=some x:=by
 rw[tq]at h;obtain⟨b,c,a⟩:=h;unfold NR;rw[acg x.files a];rfl
theorem ad1(x:dJ)(h:Fit B24 (.base .world) x):Oi x x=some true:=by
 rw[tq]at h;obtain⟨b,c,a⟩:=h;unfold Oi;rw[ad7 x.files a];simp
theorem acv(x:aO)(h:Fit B47 (.base .entry) x):SzK Hr (Fit B20 (.base .entry) x) x (kP x) 8:=by
 intro l n o;rw[tu]at h ⊢;obtain⟨e,f,g,i,j,p⟩:=h;unfold Hr;simp only[bT];obtain⟨c,k,a⟩:=Vg x.inputs i l (by omega) (by omega);rw[k,zA];rcases a with a | ⟨q,r,s,a⟩
 ·exact⟨-1,by simp only[a,decide_true,ac],.inl (by omega)⟩
 rw[ae (show ¬c<0 by omega),aa];obtain⟨d,m,b⟩:=OO x.value j c (by omega) (by omega);rw[m,zA];rcases b with b | ⟨t,u,v,b⟩
 ·exact⟨-1,by simp only[b,decide_true,ac],.inl (by omega)⟩
 rw[ae (show ¬d<0 by omega),aa];exact⟨d,rfl,.inr ⟨by omega,by omega,by rw[YW];omega,e.fM,f.fM,g.fM,a,b,.aj7⟩⟩
theorem Zr(xs:List aO)(h:aT B47 (.list (.base .entry) xs)):SzK OZ (aT B20 (.list (.base .entry) xs)) xs (jg xs) 0:=
 nY (t:=.base .entry) (f:=fun e b=>Hr (kF e) b) (fun _ _=>rfl) kP 8 (by omega) xs (fun y _ a=>by simp only[SzK,dX];exact acv y a) h
theorem aci(x:aO)(h:Fit B20 (.base .entry) x):toEntry x=some x:=by
 rw[tu]at h;obtain⟨c,d,e,a,b,f⟩:=h;unfold toEntry;simp only[bT];rw[Vb x.inputs a,zA,OE x.value b];simp only[zA,bT]
theorem Zj(xs:List aO)(h:aT B20 (.list (.base .entry) xs)):Ho xs=some xs:=
 kM (t:=.base .entry) (f:=fun e=>(toEntry (kF e)).bind fun r=>some (kF r)) (z:=(Base.zero .entry)) (fun a=>by unfold Ho;simp only[Option.bind_assoc,zA];rfl) xs (fun y _ b=>by simp only[dX];rw[aci y b];rfl) h
theorem ad8(x:aO)(h:Fit B24 (.base .entry) x):Jk x x=some true:=by
 rw[tu]at h;obtain⟨c,d,e,a,b,f⟩:=h;unfold Jk;simp only[bT];rw[VR x.inputs a,RQ x.value b];simp
theorem abv(xs:List aO)(h:aT B24 (.list (.base .entry) xs)):RZ xs xs=some true:=
 kN (t:=.base .entry) (f:=fun e e'=>Jk (kF e) (kF e')) (fun _ _=>rfl) xs (fun y _ a=>by simp only[dX];exact ad8 y a) h
theorem Zk(x:bM)(h:Fit B20 (.base .engine) x):tX x=some x:=by
 rw[jF]at h;obtain⟨a,b,c,d,e,f,g⟩:=h;unfold tX;rw[Ti x.notebook a,zA,ab7 x.world b,zA,ab9 x.tapes c,zA,Zj x.entries d];rfl
theorem abw(x:bM)(h:Fit B24 (.base .engine) x):qJ x x=some true:=by
 rw[jF]at h;obtain⟨a,b,c,d,e,f,g⟩:=h;unfold qJ;rw[UX x.notebook a,ad1 x.world b,ad3 x.tapes c,abv x.entries d];simp
theorem Nb(x:bM)(h:Fit B20 (.base .engine) x):qJ x x=some true:=abw x (h.mono ajc)
end
end Go.Proofs.YtapgeemjgckgaaaGreatDoor
/- Plain laws that hold of no one function: loops, Booleans, the first steps of a law. -/
namespace Go.Proofs.YtapgeemjgckgaaaGreatDoor
open Go.Abs Go.Proofs
abbrev lim:Nat:=4611686018427387904
theorem jk{n:Nat}(h:(n:Int)<=1048576):n<lim:=by
 show n<4611686018427387904
 omega
theorem Ed{a b:Nat}(h:a<b):decide ((a:Int)<(b:Int))=true:=by simpa using h
theorem fE{a:Nat}:decide ((a:Int)<(a:Int))=false:=by simp
theorem G9{i n:Nat}(h:i<n)(a:n<lim):w64 ((i:Int)+1)=((i+1:Nat):Int):=by
 have c:(i:Int)<(n:Int):=Int.ofNat_lt.2 h;have b:(n:Int)<4611686018427387904:=Int.ofNat_lt.2 a;rw[aX (by omega) (by omega)];rfl
theorem apa{α:Type}{f:α->Int->Option Int}{P:Prop}{x:α}{c s:Nat}(h:SzK f P x c s){k:Int->Option Bool}(l:Int)(b:0<=l)(d:l<=1048576)(g:P->∀r,0<=r->r<=l->20*r+c<=20*l+s->k r=some true) :
  ((f x l).bind fun a=>bif (decide (a<0))then some (true)else k a)=some true:=by
 obtain⟨r,e,p⟩:=h l b d;rw[e,zA];rcases p with p | ⟨p,q,i,j⟩
 ·rw[al p];rfl
 ·rw[ae (by omega),aa];exact g j r p q i
end Go.Proofs.YtapgeemjgckgaaaGreatDoor
/- Plain laws: OpBefore, StampVersion, IsValidOp, CountBy, LastTime. -/
namespace Go.Proofs.YtapgeemjgckgaaaGreatDoor
open Go.Abs Go.Proofs
end Go.Proofs.YtapgeemjgckgaaaGreatDoor
/- Plain law: IsValidOp. -/
namespace Go.Proofs.YtapgeemjgckgaaaGreatDoor
open Go.Abs Go.Proofs
end Go.Proofs.YtapgeemjgckgaaaGreatDoor
/- Plain laws: equality of lists, values, reads, operations; valid logs and replicas; HasSeen. -/
namespace Go.Proofs.YtapgeemjgckgaaaGreatDoor
open Go.Abs Go.Proofs
section eqs
noncomputable def eqd{α:Type}(a b:α):Bool:=@decide (a=b) (Classical.propDecidable _)
theorem alg{α:Type}{a b:α}:eqd a b=true↔a=b:=by unfold eqd;exact @decide_eq_true_iff _ (Classical.propDecidable _)
theorem EL{α:Type}[BEq α][LawfulBEq α](a b:α):(a==b)=eqd a b:=by
 rw[Bool.eq_iff_iff,alg];exact beq_iff_eq
theorem afo{α:Type}[BEq α][LawfulBEq α](a b:α):(a != b) = !eqd a b:=by
 rw[<- EL];rfl
theorem WY(x y:aN):BG x y=some (eqd x.kind y.kind&&(eqd x.n y.n&&(eqd x.text y.text&&eqd x.time y.time))):=by
 unfold BG;simp only[EL];cases eqd x.kind y.kind<;>cases eqd x.n y.n<;>cases eqd x.text y.text<;>rfl
theorem Us(x y:aN):yA x y=some (eqd x.kind y.kind&&(eqd x.n y.n&&(eqd x.text y.text&&eqd x.time y.time))):=by
 unfold yA;simp only[EL];cases eqd x.kind y.kind<;>cases eqd x.n y.n<;>cases eqd x.text y.text<;>rfl
end eqs
end Go.Proofs.YtapgeemjgckgaaaGreatDoor
/- Plain laws of the functions that mark a value and look for the marks. -/
namespace Go.Proofs.YtapgeemjgckgaaaGreatDoor
open Go.Abs Go.Proofs
theorem kC(k:Int)(l:0<=k)(g:k<9223372036854775808):∃t,fF k=some t:=by
 unfold fF;by_cases b:k<=0
 ·rw[al b,ac];exact⟨_,rfl⟩
 rw[ae b,aa];have key:∀(n:Nat) (k:Int) (s:Str),0<=k->k<9223372036854775808->k<10 ^ n->s.length+n<=40->∃t,ak (fun (a:Int×Str)=>
   bif (decide (a.1>0))then
    (gd ((bytesOf [w8 (w64 (48+(a.1.tmod 10)))]).length+a.2.length)).bind fun _=>
    some (.inl (w64 (a.1.tdiv 10),(bytesOf [w8 (w64 (48+(a.1.tmod 10)))])++a.2))
   else
    (
     (gd ([109].length+a.2.length)).bind fun _=>
     some ([109]++a.2)
    ).bind fun r=>some (.inr r)) (k,s)=some t:=by
  intro n;induction n with
  | zero=>
   intro k s c _ b h;have e:k=0:=by simp at b;omega
   subst e;rw[aI];have d:gd ([109].length+s.length)=some ():=by unfold gd;rw[if_pos (by simp;omega)]
   simp only[gt_iff_lt,Int.lt_irrefl,decide_false,aa,d,zA];exact⟨_,rfl⟩
  | succ n ih=>
   intro k s c i b h;rw[aI];by_cases f:k>0
   ·have d:gd ((bytesOf [w8 (w64 (48+(k.tmod 10)))]).length+s.length)=some ():=by unfold gd;rw[if_pos (by simp[bytesOf];omega)]
    simp only[al f,ac,d,zA];have hd:k.tdiv 10=k / 10:=by rw[Int.tdiv_eq_ediv_of_nonneg c]
    have j:w64 (k.tdiv 10)=k / 10:=by rw[hd];exact aX (by omega) (by omega)
    rw[j];refine ih (k / 10) _ (by omega) (by omega) ?_ (by simp[bytesOf];omega);have:(10:Int) ^ (n+1)=10 ^ n*10:=Int.pow_succ 10 n;rw[this]at b;generalize (10:Int) ^ n=p at b ⊢;omega
   ·have d:gd ([109].length+s.length)=some ():=by unfold gd;rw[if_pos (by simp;omega)]
    simp only[ae f,aa,d,zA];exact⟨_,rfl⟩
 exact key 19 k [] (by omega) g (by rw[show (10:Int) ^ 19=10000000000000000000 from rfl];omega) (by simp)
def Tc{α:Type}(mark:α->Int->Option (α×Int))(held:α->Int->Option Int)(x:α)(n:Nat):Prop:=
 ∀k:Int,0<=k->k+n<=4611686018427387904->∃y,mark x k=some (y,k+n)/\held y k=some (k+n)
theorem ji{α:Type}{mk:List α->Int->Option (List α×Int)}{hd:List α->Int->Option Int}{g:List α×Int×Int->Option ((List α×Int×Int)⊕(List α×Int))}{g':List α×Int×Int->Option ((List α×Int×Int)⊕Int)}
  (m:∀xs k,mk xs k=ak g (xs,0,k)) (o:∀xs k,hd xs k=ak g' (xs,k,0)) (cnt:α->Nat) (P:α->Prop)
  (hstep:∀(xs:List α) (i:Nat) (x:α) (k:Int),xs[i]?=some x->P x->xs.length<4611686018427387904->0<=k->k+cnt x<=4611686018427387904->∃y,g (xs,(i:Int),k)=some (.inl (xs.set i y,((i+1:Nat):Int),k+cnt x)) /\
   ∀ys:List α,ys.length<4611686018427387904->ys[i]?=some y->g' (ys,k,(i:Int))=some (.inl (ys,k+cnt x,((i+1:Nat):Int))))
  (hend:∀(xs:List α) (k:Int),g (xs,(xs.length:Int),k)=some (.inr (xs,k))) (hend':∀(xs:List α) (k:Int),g' (xs,k,(xs.length:Int))=some (.inr k))
  (xs:List α) (c:∀x,x∈xs->P x) (e:xs.length<4611686018427387904):Tc mk hd xs ((xs.map cnt).sum):=by
 have key:∀(n:Nat) (xs:List α) (i:Nat) (k:Int),i+n=xs.length->xs.length<4611686018427387904->(∀x,x∈xs.drop i->P x)->0<=k->k+((xs.drop i).map cnt).sum<=4611686018427387904 ->
   ∃ys,ak g (xs,(i:Int),k)=some (ys,k+((xs.drop i).map cnt).sum)/\ys.length=xs.length/\(∀j,j<i->ys[j]?=xs[j]?)/\ak g' (ys,k,(i:Int))=some (k+((xs.drop i).map cnt).sum):=by
  intro n;induction n with
  | zero=>
   intro xs i k hi e c f d;have p:i=xs.length:=by omega
   subst p;have q:xs.drop xs.length=[]:=List.drop_length;rw[q];refine⟨xs,?_,rfl,fun _ _=>rfl,?_⟩
   ·rw[aI,hend];simp
   ·rw[aI,hend'];simp
  | succ n ih=>
   intro xs i k hi e c f d;have a:i<xs.length:=by omega
   have r:xs[i]?=some xs[i]:=zF a;have s:xs.drop i=xs[i]::xs.drop (i+1):=List.drop_eq_getElem_cons a;rw[s]at c d ⊢;simp only[List.map_cons,List.sum_cons]at d ⊢;have hcast:((cnt xs[i]+((xs.drop (i+1)).map cnt).sum:Nat):Int)=(cnt xs[i]:Int)+(((xs.drop (i+1)).map cnt).sum:Nat):=by omega
   rw[hcast]at d ⊢;obtain⟨y,z,t⟩:=hstep xs i xs[i] k r (c _ ar) e f (by omega);have b:(xs.set i y).drop (i+1)=xs.drop (i+1):=by
    rw[List.drop_set];rw[if_pos (by omega)]
   obtain⟨ys,h,A,w,l⟩:=ih (xs.set i y) (i+1) (k+cnt xs[i]) (by simp;omega) (by simpa using e) (by rw[b];exact fun x r=>c x (aq _ r)) (by omega) (by rw[b];omega);rw[b]at h l;have u:ys.length=xs.length:=by rw[A];simp
   refine⟨ys,?_,u,fun j B=>?_,?_⟩
   ·rw[aI,z];simp only;rw[h,Int.add_assoc]
   ·rw[w j (by omega),List.getElem?_set,if_neg (by omega)]
   ·have v:ys[i]?=some y:=by
     rw[w i (by omega),List.getElem?_set,if_pos rfl,if_pos a]
    rw[aI,t ys (by omega) v];simp only;rw[l,Int.add_assoc]
 intro k f d;obtain⟨ys,h,_,_,l⟩:=key xs.length xs 0 k (by omega) e (by simpa using c) f (by simpa using d);refine⟨ys,?_,?_⟩
 ·rw[m];simpa using h
 ·rw[o];simpa using l
theorem agI{α ι:Type}{J:ι->Prop}{mk:ι->List α->Int->Option (List α×Int)}{hd:ι->List α->Int->Option Int}{g:ι->List α×Int×Int->Option ((List α×Int×Int)⊕(List α×Int))}{g':ι->List α×Int×Int->Option ((List α×Int×Int)⊕Int)}
  (u:∀j,J j->∀xs k,mk j xs k=ak (g j) (xs,0,k)) (v:∀j,J j->∀xs k,hd j xs k=ak (g' j) (xs,k,0)) (cnt:α->Nat) (P:α->Prop) (Q:α->α->Prop)
  (hstep:∀(xs:List α) (i:Nat) (x:α) (k:Int),xs[i]?=some x->P x->xs.length<4611686018427387904->0<=k->k+cnt x<=4611686018427387904->∃y,Q x y/\∀j,J j->g j (xs,(i:Int),k)=some (.inl (xs.set i y,((i+1:Nat):Int),k+cnt x)) /\
   ∀ys:List α,ys.length<4611686018427387904->ys[i]?=some y->g' j (ys,k,(i:Int))=some (.inl (ys,k+cnt x,((i+1:Nat):Int))))
  (hend:∀j,J j->∀(xs:List α) (k:Int),g j (xs,(xs.length:Int),k)=some (.inr (xs,k))) (hend':∀j,J j->∀(xs:List α) (k:Int),g' j (xs,k,(xs.length:Int))=some (.inr k))
  (xs:List α) (f:∀x,x∈xs->P x) (m:xs.length<4611686018427387904) (k:Int) (s:0<=k) (h:k+(xs.map cnt).sum<=4611686018427387904) :
  ∃ys,ys.length=xs.length/\(∀(i:Nat) (x y:α),xs[i]?=some x->ys[i]?=some y->Q x y)/\∀j,J j->mk j xs k=some (ys,k+(xs.map cnt).sum)/\hd j ys k=some (k+(xs.map cnt).sum):=by
 have key:∀(n:Nat) (xs:List α) (i:Nat) (k:Int),i+n=xs.length->xs.length<4611686018427387904->(∀x,x∈xs.drop i->P x)->0<=k->k+((xs.drop i).map cnt).sum<=4611686018427387904 ->
   ∃ys,ys.length=xs.length/\(∀j,j<i->ys[j]?=xs[j]?)/\(∀(p:Nat) (x y:α),i<=p->xs[p]?=some x->ys[p]?=some y->Q x y)/\∀j,J j->ak (g j) (xs,(i:Int),k)=some (ys,k+((xs.drop i).map cnt).sum)/\ak (g' j) (ys,k,(i:Int))=some (k+((xs.drop i).map cnt).sum):=by
  intro n;induction n with
  | zero=>
   intro xs i k hi m f s h;have w:i=xs.length:=by omega
   subst w;have A:xs.drop xs.length=[]:=List.drop_length;rw[A];refine⟨xs,rfl,fun _ _=>rfl,fun p x y F l=>?_,fun j a=>⟨?_,?_⟩⟩
   ·have:=(zC.1 l).1;omega
   ·rw[aI,hend j a];simp
   ·rw[aI,hend' j a];simp
  | succ n ih=>
   intro xs i k hi m f s h;have b:i<xs.length:=by omega
   have l:xs[i]?=some xs[i]:=zF b;have B:xs.drop i=xs[i]::xs.drop (i+1):=List.drop_eq_getElem_cons b;rw[B]at f h ⊢;simp only[List.map_cons,List.sum_cons]at h ⊢;have hcast:((cnt xs[i]+((xs.drop (i+1)).map cnt).sum:Nat):Int)=(cnt xs[i]:Int)+(((xs.drop (i+1)).map cnt).sum:Nat):=by omega
   rw[hcast]at h ⊢;obtain⟨y,G,o⟩:=hstep xs i xs[i] k l (f _ ar) m s (by omega);have c:(xs.set i y).drop (i+1)=xs.drop (i+1):=by
    rw[List.drop_set];rw[if_pos (by omega)]
   obtain⟨ys,H,t,eQ,q⟩:=ih (xs.set i y) (i+1) (k+cnt xs[i]) (by simp;omega) (by simpa using m) (by rw[c];exact fun x l=>f x (aq _ l)) (by omega) (by rw[c];omega);rw[c]at q;have C:ys.length=xs.length:=by rw[H];simp
   have r:ys[i]?=some y:=by
    rw[t i (by omega),List.getElem?_set,if_pos rfl,if_pos b]
   refine⟨ys,C,fun j a=>?_,fun p x z F d e=>?_,fun j a=>⟨?_,?_⟩⟩
   ·rw[t j (by omega),List.getElem?_set,if_neg (by omega)]
   ·by_cases D:p=i
    ·subst D;rw[r]at e;rw[l]at d;cases e;cases d
     exact G
    ·exact eQ p x z (by omega) (by rw[List.getElem?_set,if_neg (by omega)];exact d) e
   ·rw[aI,(o j a).1];simp only;rw[(q j a).1,Int.add_assoc]
   ·rw[aI,(o j a).2 ys (by omega) r];simp only;rw[(q j a).2,Int.add_assoc]
 obtain⟨ys,q,_,t,E⟩:=key xs.length xs 0 k (by omega) m (by simpa using f) s (by simpa using h);refine⟨ys,q,fun i x y=>t i x y (Nat.zero_le _),fun j a=>⟨?_,?_⟩⟩
 ·rw[u j a];simpa using (E j a).1
 ·rw[v j a];simpa using (E j a).2
theorem vJ{α:Type}{xs:List α}{i:Nat}{x y:α}(h:xs[i]?=some x):(xs.set i y)[i]?=some y:=by
 rw[List.getElem?_set,if_pos rfl,if_pos (zC.1 h).1]
theorem dec_lt{α:Type}{xs:List α}{i:Nat}{x:α}(h:xs[i]?=some x):decide ((i:Int)<(xs.length:Int))=true:=by
 have:=(zC.1 h).1;simpa using this
theorem dn{α:Type}{xs:List α}{i:Nat}{x:α}(h:xs[i]?=some x)(a:xs.length<4611686018427387904):w64 ((i:Int)+1)=((i+1:Nat):Int):=by
 have:=(zC.1 h).1;rw[aX (by omega) (by omega)];omega
theorem iZ(a:Int):(a != a)=false:=by simp
theorem iP(a:Str):(!(a==a))=false:=by simp
end Go.Proofs.YtapgeemjgckgaaaGreatDoor
