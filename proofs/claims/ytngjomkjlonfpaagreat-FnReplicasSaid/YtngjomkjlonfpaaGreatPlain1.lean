import Derived.Test.YtngjomkjlonfpaaGreatModels
import Derived.Test.YtngjomkjlonfpaaGreatS4
import Derived.Test.YtngjomkjlonfpaaGreatLink1
set_option linter.unusedSimpArgs false
set_option linter.unusedVariables false
/- Plain laws of the evaluator's loops over lists. -/
namespace Go.Proofs.YtngjomkjlonfpaaGreat
open Go.Abs Go.Proofs
theorem bM{n:Int}(a:-9223372036854775808<=n)(b:n<9223372036854775808):w64 n=n:=by
 simp only[w64,IntKind.wrap,IntKind.bits,IntKind.signed];simp;omega
theorem au{α:Type}(xs:List α)(i:Nat):idx xs (i:Int)=xs[i]?:=by
 simp[idx]
def La{α σ ρ:Type}(f:α->Nat->σ->Option (σ⊕ρ))(fin:σ->Option ρ):List α->Nat->σ->Option ρ
 | [],_,s=>fin s
 | x::r,i,s=>match f x i s with
  | none=>none
  | some (.inl s')=>La f fin r (i+1) s'
  | some (.inr r)=>some r
theorem yO{α σ ρ X:Type}{g:X->Option (X⊕ρ)}(pk:σ->Nat->X)(xs:List α)(f:α->Nat->σ->Option (σ⊕ρ))(fin:σ->Option ρ)
  (b:∀i x s,xs[i]?=some x->g (pk s i)=match f x i s with
   | none=>none
   | some (.inl s')=>some (.inl (pk s' (i+1)))
   | some (.inr r)=>some (.inr r))
  (c:∀s,g (pk s xs.length)=(fin s).bind fun r=>some (.inr r)) (s:σ):aA g (pk s 0)=La f fin xs 0 s:=by
 have key:∀(n i:Nat) (s:σ),xs.length=i+n->aA g (pk s i)=La f fin (xs.drop i) i s:=by
  intro n;induction n with
  | zero=>
   intro i s hi;rw[List.drop_eq_nil_of_le (by omega)];rw[aF];have:i=xs.length:=by omega
   subst this;rw[c];show _=fin s
   cases fin s<;>rfl
  | succ n ih=>
   intro i s hi;have a:i<xs.length:=by omega
   rw[List.drop_eq_getElem_cons a,aF,b i xs[i] s (zF a)];simp only[La];cases f xs[i] i s with
   | none=>rfl
   | some y=>cases y with
    | inl s'=>exact ih (i+1) s' (by omega)
    | inr r=>rfl
 simpa using key xs.length 0 s (by omega)
end Go.Proofs.YtngjomkjlonfpaaGreat
/- Plain laws: loops that scan, sizes, equality with itself. -/
namespace Go.Proofs.YtngjomkjlonfpaaGreat
open Go.Abs Go.Proofs
def iW{α:Type}(p:α->Nat->Bool):List α->Nat->Bool
 | [],_=>true
 | x::r,i=>p x i&&iW p r (i+1)
theorem o9{α X:Type}{g:X->Option (X⊕Bool)}(pk:Nat->X)(xs:List α)(p:α->Nat->Bool)(fin:Bool)
  (b:∀i x,xs[i]?=some x->g (pk i)=bif p x i then some (.inl (pk (i+1)))else some (.inr false))
  (c:g (pk xs.length)=some (.inr fin)):aA g (pk 0)=some (iW p xs 0&&fin):=by
 have key:∀(n i:Nat),xs.length=i+n->aA g (pk i)=some (iW p (xs.drop i) i&&fin):=by
  intro n;induction n with
  | zero=>
   intro i hi;rw[List.drop_eq_nil_of_le (by omega),aF];have:i=xs.length:=by omega
   subst this;rw[c];simp[iW]
  | succ n ih=>
   intro i hi;have a:i<xs.length:=by omega
   rw[List.drop_eq_getElem_cons a,aF,b i xs[i] (zF a)];simp only[iW];cases p xs[i] i with
   | false=>simp
   | true=>simpa using ih (i+1) (by omega)
 simpa using key xs.length 0 (by omega)
def dG{α:Type}(p:α->Bool):List α->Nat->Int
 | [],_=>-1
 | x::r,i=>bif p x then (i:Int)else dG p r (i+1)
theorem uM{α X:Type}{g:X->Option (X⊕Int)}(pk:Nat->X)(xs:List α)(p:α->Bool)
  (b:∀i x,xs[i]?=some x->g (pk i)=bif p x then some (.inr (i:Int))else some (.inl (pk (i+1))))
  (c:g (pk xs.length)=some (.inr (-1))):aA g (pk 0)=some (dG p xs 0):=by
 have key:∀(n i:Nat),xs.length=i+n->aA g (pk i)=some (dG p (xs.drop i) i):=by
  intro n;induction n with
  | zero=>
   intro i hi;rw[List.drop_eq_nil_of_le (by omega),aF];have:i=xs.length:=by omega
   subst this;rw[c];simp[dG]
  | succ n ih=>
   intro i hi;have a:i<xs.length:=by omega
   rw[List.drop_eq_getElem_cons a,aF,b i xs[i] (zF a)];simp only[dG];cases p xs[i]with
   | false=>simpa using ih (i+1) (by omega)
   | true=>simp
 simpa using key xs.length 0 (by omega)
end Go.Proofs.YtngjomkjlonfpaaGreat
/- Plain laws of sizes, copies and equality, for every type of data. -/
namespace Go.Abs
theorem aX.alH{L:Nat}{s:Str}(h:aX L (.str s)):s.length<=L:=by
 generalize a:D.str s=d at h;cases h<;>cases a
 assumption
theorem aX.wf{L:Nat}{k:IntKind}{n:Int}(h:aX L (.int k n)):(Lit.int k n).wf=true:=by
 generalize a:D.int k n=d at h;cases h<;>cases a
 assumption
theorem aX.ajr{L:Nat}{t:Ty}{xs:List t.den}(h:aX L (.list t xs)):xs.length<=L:=by
 generalize a:D.list t xs=d at h;cases h<;>cases a
 assumption
def Fit(L:Nat)(t:Ty)(x:t.den):Prop:=∀d,d∈t.cells x->aX L d
theorem aX.aZ{L:Nat}{t:Ty}{xs:List t.den}(h:aX L (.list t xs)):∀x,x∈xs->Fit L t x:=by
 generalize b:D.list t xs=d at h;cases h<;>cases b
 rename_i c;intro x e d a;obtain⟨i,hi⟩:=List.mem_iff_getElem?.1 e;obtain⟨j,f⟩:=List.mem_iff_getElem?.1 a;exact c i x j d hi f
theorem aX.al0{L:Nat}{t:Ty}{xs:List t.den}(h:xs.length<=L)(a:∀x,x∈xs->Fit L t x):aX L (.list t xs):=
 .list t xs h fun _ x _ d hi b=>a x (zG hi) d (zG b)
theorem aX.mono{L L':Nat}(a:L<=L'){d:D}(h:aX L d):aX L' d:=by
 induction h with
 | int k n h=>exact .int k n h
 | bool b=>exact .bool b
 | str s h=>exact .str s (Nat.le_trans h a)
 | list t xs h _ ih=>exact .list t xs (Nat.le_trans h a) ih
theorem Fit.mono{L L':Nat}(a:L<=L'){t:Ty}{x:t.den}(h:Fit L t x):Fit L' t x:=fun d b=>(h d b).mono a
end Go.Abs
namespace Go.Proofs.YtngjomkjlonfpaaGreat
open Go.Abs Go.Proofs
abbrev B47:Nat:=140737488351232
abbrev B20:Nat:=1048576
theorem dA{t:Ty}{xs:List t.den}(h:aX B20 (.list t xs)):(xs.length:Int)<=1048576:=by
 have a:xs.length<=1048576:=h.ajr;omega
theorem AZ{s:Str}(h:aX B20 (.str s)):(s.length:Int)<=1048576:=by
 have a:s.length<=1048576:=h.alH;omega
theorem Ad{s:Str}(h:(s.length:Int)<=1048576):aX B20 (.str s):=.str s (by show s.length<=1048576;omega)
theorem dY{t:Ty}{xs:List t.den}(h:(xs.length:Int)<=1048576)(a:∀x,x∈xs->Fit B20 t x):aX B20 (.list t xs):=.al0 (by show xs.length<=1048576;omega) a
def SzK{α:Type}(f:α->Int->Option Int)(P:Prop)(x:α)(c s:Nat):Prop:=
 ∀l:Int,0<=l->l<=1048576->∃r,f x l=some r/\(r<0\/(0<=r/\r<=l/\20*r+c<=20*l+s/\P))
end Go.Proofs.YtngjomkjlonfpaaGreat
/- Sizes, copies and equality of this translation, by genbasic.py. -/
namespace Go.Proofs.YtngjomkjlonfpaaGreat
noncomputable section
open Go.Abs Go.Proofs
theorem OT{v:aS}:siz v.list<siz v:=by
 cases v;simp only[siz];rw[aS.mk.sizeOf_spec];omega
theorem VP{α:Type}[SizeOf α]{x:α}{xs:List α}(h:x∈xs):siz x<siz xs:=List.sizeOf_lt_of_mem h
theorem Xz{L:Nat}{x:dh}:Fit L (.base .row) x↔aX L (.list (.base .int) x.cells)/\aX L (.list (.base .origin) x.orig):=by
 simp only[Fit,Ty.cells,Base.cells,a8,List.not_mem_nil,or_false,forall_eq_or_imp,forall_eq]
theorem Oj{L:Nat}{x:aS}:Fit L (.base .val) x↔aX L (.int .i64 x.kind)/\aX L (.int .i64 x.n)/\aX L (.int .i64 x.step)/\aX L (.str x.text)/\aX L (.list (.base .val) x.list)/\aX L (.list (.base .str) x.columns)/\aX L (.list (.base .row) x.rows):=by
 simp only[Fit,Ty.cells,Base.cells,a8,List.not_mem_nil,or_false,forall_eq_or_imp,forall_eq]
theorem Jq{L:Nat}{x:af}:Fit L (.base .expr) x↔aX L (.int .i64 x.kind)/\aX L (.int .i64 x.n)/\aX L (.str x.text)/\aX L (.list (.base .expr) x.args):=by
 simp only[Fit,Ty.cells,Base.cells,a8,List.not_mem_nil,or_false,forall_eq_or_imp,forall_eq]
theorem yX{L:Nat}{x:aN}:Fit L (.base .read) x↔aX L (.int .i64 x.kind)/\aX L (.int .i64 x.n)/\aX L (.int .i64 x.time)/\aX L (.str x.text)/\Fit L (.base .val) x.result:=by
 simp only[Fit,Ty.cells,Base.cells,a8,List.not_mem_nil,or_false,forall_eq_or_imp,forall_eq,and_assoc]
theorem fM{L:Nat}{x:ah}:Fit L (.base .cell) x↔aX L (.int .i64 x.id)/\aX L (.int .i64 x.version)/\aX L (.int .i64 x.kind)/\aX L (.str x.name)/\aX L (.str x.code)/\aX L (.int .i64 x.n):=by
 simp only[Fit,Ty.cells,Base.cells,a8,List.not_mem_nil,or_false,forall_eq_or_imp,forall_eq]
theorem vN{L:Nat}{x:dM}:Fit L (.base .edit) x↔aX L (.int .i64 x.kind)/\aX L (.int .i64 x.pos)/\Fit L (.base .cell) x.cell:=by
 simp only[Fit,Ty.cells,Base.cells,a8,List.not_mem_nil,or_false,forall_eq_or_imp,forall_eq,and_assoc]
theorem Jp{L:Nat}{x:aO}:Fit L (.base .tape) x↔aX L (.int .i64 x.cell)/\aX L (.int .i64 x.version)/\aX L (.list (.base .read) x.reads):=by
 simp only[Fit,Ty.cells,Base.cells,a8,List.not_mem_nil,or_false,forall_eq_or_imp,forall_eq]
theorem gU{L:Nat}{x:ak}:Fit L (.base .notebook) x↔aX L (.list (.base .cell) x.cells):=by
 simp only[Fit,Ty.cells,Base.cells,a8,List.not_mem_nil,or_false,forall_eq_or_imp,forall_eq]
theorem xP{L:Nat}{x:GOp}:Fit L (.base .op) x↔aX L (.int .i64 x.time)/\aX L (.int .i64 x.by_)/\aX L (.int .i64 x.kind)/\aX L (.list (.base .int) x.seen)/\Fit L (.base .edit) x.edit/\aX L (.str x.src)/\aX L (.str x.dst)/\aX L (.int .i64 x.cell)/\aX L (.int .i64 x.version)/\aX L (.list (.base .read) x.reads):=by
 simp only[Fit,Ty.cells,Base.cells,a8,List.not_mem_nil,or_false,forall_eq_or_imp,forall_eq,and_assoc]
theorem Jr{L:Nat}{x:aK}:Fit L (.base .document) x↔Fit L (.base .notebook) x.notebook/\aX L (.list (.base .tape) x.tapes)/\aX L (.list (.base .op) x.renames):=by
 simp only[Fit,Ty.cells,Base.cells,a8,List.not_mem_nil,or_false,forall_eq_or_imp,forall_eq,and_assoc]
theorem dF{L:Nat}{x:aB}:Fit L (.base .replica) x↔aX L (.int .i64 x.id)/\aX L (.list (.base .op) x.ops):=by
 simp only[Fit,Ty.cells,Base.cells,a8,List.not_mem_nil,or_false,forall_eq_or_imp,forall_eq]
def ajY(xs:List Int):Nat:=(xs.map fun _=>1).sum
def Rt(xs:List Str):Nat:=(xs.map fun _=>1).sum
def acA(x:fB):Nat:=1+1
def acz(xs:List fB):Nat:=(xs.map acA).sum
def ajX(x:dh):Nat:=ajY x.cells+acz x.orig
def adV(xs:List dh):Nat:=(xs.map ajX).sum
def afy(xs:List aS):Nat:=aS.rec_1 (motive_1:=fun _=>Nat) (motive_2:=fun _=>Nat) (fun e f g h i c d ih=>1+1+1+1+ih+Rt c+adV d) 0 (fun _ _ a b=>a+b) xs
def eH(x:af):Nat:=af.rec (motive_1:=fun _=>Nat) (motive_2:=fun _=>Nat) (fun c d e f ih=>1+1+1+ih) 0 (fun _ _ a b=>a+b) x
def nP(xs:List af):Nat:=af.rec_1 (motive_1:=fun _=>Nat) (motive_2:=fun _=>Nat) (fun c d e f ih=>1+1+1+ih) 0 (fun _ _ a b=>a+b) xs
theorem DL(x:af):eH x=1+1+1+nP x.args:=by cases x;rfl
theorem jH:∀xs:List af,nP xs=(xs.map eH).sum
 | []=>rfl
 | x::xs=>by rw[List.map_cons,List.sum_cons,<- jH xs];rfl
def Z7(x:aN):Nat:=1+1+1+1+1+1+1+1+afy x.result.list+Rt x.result.columns+adV x.result.rows
def jG(xs:List aN):Nat:=(xs.map Z7).sum
theorem DK(xs:List aN):jG xs=(xs.map Z7).sum:=rfl
def DJ(x:aO):Nat:=1+1+jG x.reads
def lg(xs:List aO):Nat:=(xs.map DJ).sum
theorem Ns(x:aO):DJ x=1+1+jG x.reads:=by
 unfold DJ;simp only[Nat.add_assoc];try omega
theorem rZ(xs:List aO):lg xs=(xs.map DJ).sum:=rfl
end
end Go.Proofs.YtngjomkjlonfpaaGreat
/- Plain laws that hold of no one function: loops, Booleans, the first steps of a law. -/
namespace Go.Proofs.YtngjomkjlonfpaaGreat
open Go.Abs Go.Proofs
abbrev lim:Nat:=4611686018427387904
theorem fD{n:Nat}(h:(n:Int)<=1048576):n<lim:=by
 show n<4611686018427387904
 omega
theorem dN{a b:Nat}(h:a<b):decide ((a:Int)<(b:Int))=true:=by simpa using h
theorem aV{a:Nat}:decide ((a:Int)<(a:Int))=false:=by simp
theorem eu{i n:Nat}(h:i<n)(a:n<lim):w64 ((i:Int)+1)=((i+1:Nat):Int):=by
 have c:(i:Int)<(n:Int):=Int.ofNat_lt.2 h;have b:(n:Int)<4611686018427387904:=Int.ofNat_lt.2 a;rw[bM (by omega) (by omega)];rfl
theorem dnlt(a b:Int):decide (a<b) = !decide (a>=b):=by
 by_cases h:a<b
 ·simp[h]
 ·simp[h];omega
theorem dngt(a b:Int):decide (a>b) = !decide (a<=b):=by
 by_cases h:a>b
 ·simp[h]
 ·simp[h];omega
theorem aia(a b:Str):(a==b)=(b==a):=by
 by_cases h:a=b
 ·subst h;rfl
 ·rw[beq_eq_false_iff_ne.2 h,beq_eq_false_iff_ne.2 (Ne.symm h)]
theorem Ae{α σ ρ X:Type}{g:X->Option (X⊕ρ)}(pk:σ->Nat->X)(xs:List α)(f:σ->α->σ)(fin:σ->ρ)
  (b:∀i x s,xs[i]?=some x->g (pk s i)=some (.inl (pk (f s x) (i+1))))
  (c:∀s,g (pk s xs.length)=some (.inr (fin s))) (s:σ):aA g (pk s 0)=some (fin (xs.foldl f s)):=by
 have key:∀(n i:Nat) (s:σ),xs.length=i+n->aA g (pk s i)=some (fin ((xs.drop i).foldl f s)):=by
  intro n;induction n with
  | zero=>
   intro i s hi;rw[List.drop_eq_nil_of_le (by omega),aF];have:i=xs.length:=by omega
   subst this;rw[c];rfl
  | succ n ih=>
   intro i s hi;have a:i<xs.length:=by omega
   rw[List.drop_eq_getElem_cons a,aF,b i xs[i] s (zF a)];exact ih (i+1) (f s xs[i]) (by omega)
 simpa using key xs.length 0 s (by omega)
theorem aei{α X ρ:Type}{g:X->Option (X⊕ρ)}(pk:Nat->X)(xs:List α)(p:α->Bool)(no:ρ)(fin:Option ρ)
  (b:∀i x,xs[i]?=some x->g (pk i)=bif p x then some (.inl (pk (i+1)))else some (.inr no))
  (c:g (pk xs.length)=fin.bind fun r=>some (.inr r)):aA g (pk 0)=bif xs.all p then fin else some no:=by
 have key:∀(n i:Nat),xs.length=i+n->aA g (pk i)=bif (xs.drop i).all p then fin else some no:=by
  intro n;induction n with
  | zero=>
   intro i hi;rw[List.drop_eq_nil_of_le (by omega),aF];have:i=xs.length:=by omega
   subst this;rw[c];cases fin<;>rfl
  | succ n ih=>
   intro i hi;have a:i<xs.length:=by omega
   rw[List.drop_eq_getElem_cons a,aF,b i xs[i] (zF a)];simp only[List.all_cons];cases p xs[i]with
   | false=>rfl
   | true=>simpa using ih (i+1) (by omega)
 simpa using key xs.length 0 (by omega)
theorem aaF{α X ρ:Type}{g:X->Option (X⊕ρ)}(pk:Nat->X)(z:X)(a:pk 0=z)(xs:List α)(p:α->Bool)(no:ρ)(fin:Option ρ)
  (b:∀i x,xs[i]?=some x->g (pk i)=bif p x then some (.inl (pk (i+1)))else some (.inr no))
  (c:g (pk xs.length)=fin.bind fun r=>some (.inr r)):aA g z=bif xs.all p then fin else some no:=by
 rw[<- a];exact aei pk xs p no fin b c
theorem Vk{α:Type}(p:α->Bool):∀(xs:List α) (i:Nat),iW (fun x _=>p x) xs i=xs.all p
 | [],_=>rfl
 | x::r,i=>by simp only[iW,List.all_cons,Vk p r]
theorem ajO{α:Type}{x:Option α}(h:∃b,x=some b):∃b,x=some b/\x=some b:=by
 obtain⟨b,h⟩:=h;exact⟨b,h,h⟩
theorem al7{α:Type}{c:Bool}{x y:Option α}(h:∃b,x=some b)(a:∃b,y=some b):∃b,(bif c then x else y)=some b:=by
 cases c with
 | true=>exact h
 | false=>exact a
theorem vH(a b c:Int):iH a b c=some (decide (b<=a)&&decide (a<=c)):=by
 unfold iH;cases decide (b<=a)<;>rfl
theorem fG(a b c:Int):kX a b c=some (decide (b<=a)&&decide (a<=c)):=by
 unfold kX;show (bif decide (b<=a)then _ else _)=_
 cases decide (b<=a)<;>rfl
end Go.Proofs.YtngjomkjlonfpaaGreat
/- Plain laws of the functions that mark a value and look for the marks. -/
namespace Go.Proofs.YtngjomkjlonfpaaGreat
open Go.Abs Go.Proofs
theorem dec_lt{α:Type}{xs:List α}{i:Nat}{x:α}(h:xs[i]?=some x):decide ((i:Int)<(xs.length:Int))=true:=by
 have:=(zC.1 h).1;simpa using this
theorem dX{α:Type}{xs:List α}{i:Nat}{x:α}(h:xs[i]?=some x)(a:xs.length<4611686018427387904):w64 ((i:Int)+1)=((i+1:Nat):Int):=by
 have:=(zC.1 h).1;rw[bM (by omega) (by omega)];omega
theorem Gw(a:Int):(a != a)=false:=by simp
end Go.Proofs.YtngjomkjlonfpaaGreat
/- Plain laws of marks, by genmark.py. -/
namespace Go.Proofs.YtngjomkjlonfpaaGreat
open Go.Abs Go.Proofs
end Go.Proofs.YtngjomkjlonfpaaGreat
/- Plain laws: names, cells and notebooks that are valid; both sides alike. Plain laws: valid cells, notebooks and histories; both sides alike. -/
namespace Go.Proofs.YtngjomkjlonfpaaGreat
open Go.Abs Go.Proofs
def printable(a:Str):Bool:=iW (fun c _=>!(decide ((c.toNat:Int)<32))&&!(decide ((c.toNat:Int)>126))) a 0&&decide ((a.length:Int)<=120)
theorem Be(a:Str)(h:a.length<lim):kN a=some (printable a):=by
 refine o9 (fun i=>((a,(i:Int)):Str×Int)) a _ _ (fun i x c=>?_) ?_
 ·obtain⟨b,rfl⟩:=zC.1 c;simp only[dN b,ab,au,c,zA,eu b h];cases decide ((a[i].toNat:Int)<32)<;>cases decide ((a[i].toNat:Int)>126)<;>rfl
 ·simp only[aV,aa]
theorem NQ(a:Str)(h:a.length<lim):iI a=some (printable a):=Be a h
def okc(c:UInt8)(i:Nat):Bool:=(decide ((c.toNat:Int)>=97)&&decide ((c.toNat:Int)<=122))||(!((i:Int)==0)&&decide ((c.toNat:Int)>=48)&&decide ((c.toNat:Int)<=57))
theorem LU(a:Str)(h:a.length<lim):Cc a=some (iW okc a 0&&decide ((a.length:Int)>0)):=by
 refine o9 (fun i=>((a,(i:Int)):Str×Int)) a _ _ (fun i x c=>?_) ?_
 ·obtain⟨b,rfl⟩:=zC.1 c;simp only[dN b,ab,au,c,zA,eu b h,okc];cases decide ((a[i].toNat:Int)>=97)<;>cases decide ((a[i].toNat:Int)<=122)<;>cases decide ((a[i].toNat:Int)>=48)<;>cases decide ((a[i].toNat:Int)<=57)<;>cases ((i:Int)==0)<;>rfl
 ·simp only[aV,aa]
theorem ack(a:Str)(h:a.length<lim):Oh a=some (iW okc a 0&&(decide (1<=(a.length:Int))&&decide ((a.length:Int)<=8))):=by
 refine o9 (fun i=>((a,(i:Int)):Str×Int)) a _ _ (fun i x c=>?_) ?_
 ·obtain⟨b,rfl⟩:=zC.1 c;simp only[dN b,ab,au,c,zA,eu b h,okc,dnlt,dngt];cases decide ((a[i].toNat:Int)>=97)<;>cases decide ((a[i].toNat:Int)<=122)<;>cases decide ((a[i].toNat:Int)>=48)<;>cases decide ((a[i].toNat:Int)<=57)<;>cases ((i:Int)==0)<;>rfl
 ·simp only[aV,aa,vH,zA]
def afo:List Str->Str->Bool
 | [],_=>false
 | x::r,a=>x==a||afo r a
theorem UD(xs:List Str)(a:Str)(h:xs.length<lim):lD xs a=some (afo xs a):=by
 have key:∀(n i:Nat),xs.length=i+n->aA (fun (c:(List Str)×Str×Int)=>
  bif (decide (c.2.2<(c.1.length:Int)))then
   (idx c.1 c.2.2).bind fun d=>
   bif (d==c.2.1)then
    some (.inr (true))
   else
    some (.inl (c.1,c.2.1,w64 (c.2.2+1)))
  else
   some (.inr (false))) (xs,a,(i:Int))=some (afo (xs.drop i) a):=by
  intro n
  induction n with
  | zero=>
   intro i hi
   have:i=xs.length:=by omega
   subst this
   rw[aF]
   simp only[aV,aa,List.drop_length]
   rfl
  | succ n ih=>
   intro i hi
   have b:i<xs.length:=by omega
   rw[List.drop_eq_getElem_cons b,aF]
   simp only[dN b,ab,au,zF b,zA,eu b h,afo]
   cases xs[i]==a with
   | true=>rfl
   | false=>exact ih (i+1) (by omega)
 exact key xs.length 0 (by omega)
theorem YN(a:Str):∃b,rW a=some b/\jg a=some b:=by
 have A:jg a=some (afo [[108,101,116],[105,110],[105,102],[116,104,101,110],[101,108,115,101],[102,111,114],[100,111],[108,101,110],[115,117,109],[116,97,107,101],[115,107,105,112],[114,97,110,103,101],[110,116,104],[119,104,101,114,101],[107,101,101,112],[97,100,100],[103,114,111,117,112],[106,111,105,110],[99,111,108,117,109,110],[114,111,119,115],[99,108,111,99,107],[99,104,97,110,99,101],[102,105,108,101],[116,97,98,108,101]] a):=by
  unfold jg oK;rw[zA,UD _ _ (by decide)];rfl
 refine⟨_,?_,A⟩;unfold rW gQ;simp only[afo,aia _ a];rcases Bool.eq_false_or_eq_true (a==[108,101,116])with q | q
 ·rw[eq_of_beq q];rfl
 rcases Bool.eq_false_or_eq_true (a==[105,110])with r | r
 ·rw[eq_of_beq r];rfl
 rcases Bool.eq_false_or_eq_true (a==[105,102])with s | s
 ·rw[eq_of_beq s];rfl
 rcases Bool.eq_false_or_eq_true (a==[116,104,101,110])with t | t
 ·rw[eq_of_beq t];rfl
 rcases Bool.eq_false_or_eq_true (a==[101,108,115,101])with u | u
 ·rw[eq_of_beq u];rfl
 rcases Bool.eq_false_or_eq_true (a==[102,111,114])with v | v
 ·rw[eq_of_beq v];rfl
 rcases Bool.eq_false_or_eq_true (a==[100,111])with w | w
 ·rw[eq_of_beq w];rfl
 rcases Bool.eq_false_or_eq_true (a==[108,101,110])with x | x
 ·rw[eq_of_beq x];rfl
 rcases Bool.eq_false_or_eq_true (a==[115,117,109])with y | y
 ·rw[eq_of_beq y];rfl
 rcases Bool.eq_false_or_eq_true (a==[116,97,107,101])with z | z
 ·rw[eq_of_beq z];rfl
 rcases Bool.eq_false_or_eq_true (a==[115,107,105,112])with c | c
 ·rw[eq_of_beq c];rfl
 rcases Bool.eq_false_or_eq_true (a==[114,97,110,103,101])with d | d
 ·rw[eq_of_beq d];rfl
 rcases Bool.eq_false_or_eq_true (a==[110,116,104])with e | e
 ·rw[eq_of_beq e];rfl
 rcases Bool.eq_false_or_eq_true (a==[119,104,101,114,101])with f | f
 ·rw[eq_of_beq f];rfl
 rcases Bool.eq_false_or_eq_true (a==[107,101,101,112])with g | g
 ·rw[eq_of_beq g];rfl
 rcases Bool.eq_false_or_eq_true (a==[97,100,100])with h | h
 ·rw[eq_of_beq h];rfl
 rcases Bool.eq_false_or_eq_true (a==[103,114,111,117,112])with i | i
 ·rw[eq_of_beq i];rfl
 rcases Bool.eq_false_or_eq_true (a==[106,111,105,110])with j | j
 ·rw[eq_of_beq j];rfl
 rcases Bool.eq_false_or_eq_true (a==[99,111,108,117,109,110])with k | k
 ·rw[eq_of_beq k];rfl
 rcases Bool.eq_false_or_eq_true (a==[114,111,119,115])with l | l
 ·rw[eq_of_beq l];rfl
 rcases Bool.eq_false_or_eq_true (a==[99,108,111,99,107])with m | m
 ·rw[eq_of_beq m];rfl
 rcases Bool.eq_false_or_eq_true (a==[99,104,97,110,99,101])with n | n
 ·rw[eq_of_beq n];rfl
 rcases Bool.eq_false_or_eq_true (a==[102,105,108,101])with o | o
 ·rw[eq_of_beq o];rfl
 rcases Bool.eq_false_or_eq_true (a==[116,97,98,108,101])with p | p
 ·rw[eq_of_beq p];rfl
 simp only[q,r,s,t,u,v,w,x,y,z,c,d,e,f,g,h,i,j,k,l,m,n,o,p];rfl
theorem Vz(a:Str)(h:a.length<lim):∃b,bg a=some b/\bU a=some b:=by
 obtain⟨b,d,c⟩:=YN a;unfold bg bU;rw[ack a h,LU a h,d,c];have e:decide (1<=(a.length:Int))=decide ((a.length:Int)>0):=rfl;rw[e];cases iW okc a 0<;>cases decide ((a.length:Int)>0)<;>cases decide ((a.length:Int)<=8)<;>exact⟨_,rfl,rfl⟩
theorem iY(c:ah)(h:Fit B20 (.base .cell) c):∃b,bV c=some b/\cZ c=some b:=by
 rw[fM]at h;obtain⟨b,e,a⟩:=Vz c.name (fD (AZ h.2.2.2.1));have d:=fD (AZ h.2.2.2.2.1);unfold bV cZ;rw[NQ _ d,Be _ d];simp only[vH,fG,e,a,zA];refine ajO ?_;repeat' first | exact⟨_,rfl⟩ | apply al7
theorem jP(a:ak)(b:Int)(h:a.cells.length<lim):jQ a b=some (dG (fun c=>c.id==b) a.cells 0):=by
 refine uM (fun i=>((b,a.cells,(i:Int)):Int×List ah×Int)) a.cells (fun c=>c.id==b) (fun i x e=>?_) ?_
 ·obtain⟨d,rfl⟩:=zC.1 e;simp only[dN d,ab,au,e,zA,eu d h]
 ·simp only[aV,aa]
theorem xO(a:ak)(b:Int)(h:a.cells.length<lim):iT a b=some (dG (fun c=>c.id==b) a.cells 0):=by
 refine uM (fun i=>((b,a.cells,(a.cells.length:Int),(i:Int)):Int×List ah×Int×Int)) a.cells (fun c=>c.id==b) (fun i x e=>?_) ?_
 ·obtain⟨d,rfl⟩:=zC.1 e;simp only[dN d,ab,au,e,zA,eu d h]
 ·simp only[aV,aa]
open Classical in
noncomputable def iM(c:ah):Bool:=(cZ c).getD false
theorem mG(n:ak)(g:Fit B20 (.base .notebook) n):∃b,iC n=some b/\eU n=some b:=by
 rw[gU]at g;have h:n.cells.length<lim/\∀x∈n.cells,Fit B20 (.base .cell) x:=⟨fD (dA g),g.aZ⟩;refine⟨iW (fun c i=>iM c&&!(dG (fun d=>d.id==c.id) n.cells 0 != (i:Int))) n.cells 0&&decide ((n.cells.length:Int)<=8),?_,?_⟩
 ·refine o9 (fun i=>((n.cells,n.cells,(n.cells.length:Int),(i:Int)):List ah×List ah×Int×Int)) n.cells _ _ (fun i x e=>?_) ?_
  ·obtain⟨a,rfl⟩:=zC.1 e;obtain⟨b,k,f⟩:=iY _ (h.2 _ (List.getElem_mem a));have j:iM n.cells[i]=b:=by unfold iM;rw[f];rfl
   simp only[dN a,ab,au,e,zA,eu a h.1,k,j,xO ⟨n.cells⟩ _ h.1];cases b<;>cases (dG (fun d=>d.id==n.cells[i].id) n.cells 0 != (i:Int))<;>rfl
  ·simp only[aV,aa]
 ·refine o9 (fun i=>((n.cells,(i:Int)):List ah×Int)) n.cells _ _ (fun i x e=>?_) ?_
  ·obtain⟨a,rfl⟩:=zC.1 e;obtain⟨b,k,f⟩:=iY _ (h.2 _ (List.getElem_mem a));have j:iM n.cells[i]=b:=by unfold iM;rw[f];rfl
   simp only[dN a,ab,au,e,zA,eu a h.1,f,j,jP ⟨n.cells⟩ _ h.1];cases b<;>cases (dG (fun d=>d.id==n.cells[i].id) n.cells 0 != (i:Int))<;>rfl
  ·simp only[aV,aa]
end Go.Proofs.YtngjomkjlonfpaaGreat
/- Plain laws: OpBefore, StampVersion, IsValidOp, CountBy, LastTime. -/
namespace Go.Proofs.YtngjomkjlonfpaaGreat
open Go.Abs Go.Proofs
theorem sW(a:List GOp)(b:Int)(h:a.length<lim):∃v,uZ a b=some v/\(v=0\/∃n,v=w64 n):=by
 have wf:∀(xs:List GOp) (s:Int),(s=0\/∃n,s=w64 n)->(xs.foldl (fun s x=>bif x.by_==b then w64 (s+1)else s) s=0\/∃n,xs.foldl (fun s x=>bif x.by_==b then w64 (s+1)else s) s=w64 n):=by
  intro xs;induction xs with
  | nil=>exact fun s d=>d
  | cons x xs ih=>
   intro s d;refine ih _ ?_;show (bif x.by_==b then w64 (s+1)else s)=0\/∃n,(bif x.by_==b then w64 (s+1)else s)=w64 n
   cases x.by_==b with
   | true=>exact .inr ⟨_,rfl⟩
   | false=>exact d
 refine⟨a.foldl (fun s x=>bif x.by_==b then w64 (s+1)else s) 0,?_,wf a 0 (.inl rfl)⟩
 ·refine Ae (fun (s:Int) i=>((a,b,s,(i:Int)):List GOp×Int×Int×Int)) a (fun s x=>bif x.by_==b then w64 (s+1)else s) id (fun i x s e=>?_) (fun s=>?_) 0
  ·obtain⟨c,rfl⟩:=zC.1 e;simp only[dN c,ab,au,e,zA,eu c h];cases a[i].by_==b<;>rfl
  ·simp only[aV,aa];rfl
theorem ZY(a:List GOp)(b:Int)(h:a.length<lim):∃v,uZ a b=some v/\rX a b=some v/\(v=0\/∃n,v=w64 n):=by
 have wf:∀(xs:List GOp) (s:Int),(s=0\/∃n,s=w64 n)->(xs.foldl (fun s x=>bif x.by_==b then w64 (s+1)else s) s=0\/∃n,xs.foldl (fun s x=>bif x.by_==b then w64 (s+1)else s) s=w64 n):=by
  intro xs;induction xs with
  | nil=>exact fun s e=>e
  | cons x xs ih=>
   intro s e;refine ih _ ?_;show (bif x.by_==b then w64 (s+1)else s)=0\/∃n,(bif x.by_==b then w64 (s+1)else s)=w64 n
   cases x.by_==b with
   | true=>exact .inr ⟨_,rfl⟩
   | false=>exact e
 refine⟨a.foldl (fun s x=>bif x.by_==b then w64 (s+1)else s) 0,?_,?_,wf a 0 (.inl rfl)⟩
 ·refine Ae (fun (s:Int) i=>((a,b,s,(i:Int)):List GOp×Int×Int×Int)) a (fun s x=>bif x.by_==b then w64 (s+1)else s) id (fun i x s d=>?_) (fun s=>?_) 0
  ·obtain⟨c,rfl⟩:=zC.1 d;simp only[dN c,ab,au,d,zA,eu c h];cases a[i].by_==b<;>rfl
  ·simp only[aV,aa];rfl
 ·refine Ae (fun (s:Int) i=>((b,s,a,(a.length:Int),(i:Int)):Int×Int×List GOp×Int×Int)) a (fun s x=>bif x.by_==b then w64 (s+1)else s) id (fun i x s d=>?_) (fun s=>?_) 0
  ·obtain⟨c,rfl⟩:=zC.1 d;simp only[dN c,ab,au,d,zA,eu c h];cases a[i].by_==b<;>rfl
  ·simp only[aV,aa];rfl
theorem acw(a:List GOp)(b:Int)(h:a.length<lim):∃v,uZ a b=some v/\rX a b=some v:=by
 obtain⟨v,c,d,_⟩:=ZY a b h;exact⟨v,c,d⟩
theorem EW(a:List GOp)(h:a.length<lim):yc a=some (a.foldl (fun s x=>if x.time>s then x.time else s) 0):=by
 ·refine Ae (fun (s:Int) i=>((a,s,(i:Int)):List GOp×Int×Int)) a (fun s x=>if x.time>s then x.time else s) id (fun i x s c=>?_) (fun s=>?_) 0
  ·obtain⟨b,rfl⟩:=zC.1 c;have e:pz s a[i].time=some (if a[i].time>s then a[i].time else s):=by
    unfold pz;by_cases d:s>a[i].time
    ·rw[ae d,if_neg (by omega)];rfl
    ·rw[ac d,aa];by_cases f:a[i].time>s
     ·rw[if_pos f]
     ·rw[if_neg f];congr 1;omega
   simp only[dN b,ab,au,c,zA,eu b h,e]
  ·simp only[aV,aa];rfl
def akj(s:List Int):Bool:=iW (fun n _=>decide (0<=n)&&decide (n<=60)) s 0
theorem Yj(a:List Int)(h:a.length<lim):O0 a=some (akj a&&((a.length:Int)==3)):=by
 refine o9 (fun i=>((a,(i:Int)):List Int×Int)) a _ _ (fun i x c=>?_) ?_
 ·obtain⟨b,rfl⟩:=zC.1 c;simp only[dN b,ab,au,c,zA,eu b h,fG];cases (decide (0<=a[i])&&decide (a[i]<=60))<;>rfl
 ·simp only[aV,aa]
end Go.Proofs.YtngjomkjlonfpaaGreat
/- The plain law of IsValidHistory. -/
namespace Go.Proofs.YtngjomkjlonfpaaGreat
open Go.Abs Go.Proofs
end Go.Proofs.YtngjomkjlonfpaaGreat
/- Plain law: IsValidOp. -/
namespace Go.Proofs.YtngjomkjlonfpaaGreat
open Go.Abs Go.Proofs
theorem Ov(a:GOp)(h:Fit B20 (.base .op) a):∃v,nY a=some v/\vM a=some v:=by
 rw[xP]at h;have e:=fD (dA h.2.2.2.1);unfold nY vM;simp only[fG,vH,zA,Yj _ e];cases (decide (1<=a.time)&&decide (a.time<=300))with
 | false=>exact⟨false,rfl,rfl⟩
 | true=>
 cases (decide (0<=a.by_)&&decide (a.by_<=2))with
 | false=>exact⟨false,rfl,rfl⟩
 | true=>
 simp only[aE,aa];have l:((a.seen.length:Int) != 3) = !((a.seen.length:Int)==3):=rfl;rw[l];cases ((a.seen.length:Int)==3)with
 | false=>exact⟨false,by simp,rfl⟩
 | true=>
 simp only[aE,aa,Bool.and_true];rw[aaF (fun i:Nat=>(a.time,a.by_,a.kind,a.seen,a.edit.kind,a.edit.pos,a.edit.cell.id,a.edit.cell.version,a.edit.cell.kind,a.edit.cell.name,a.edit.cell.code,a.edit.cell.n,a.src,a.dst,a.cell,a.version,a.reads,a.seen,(a.seen.length:Int),(i:Int))) (a.time,a.by_,a.kind,a.seen,a.edit.kind,a.edit.pos,a.edit.cell.id,a.edit.cell.version,a.edit.cell.kind,a.edit.cell.name,a.edit.cell.code,a.edit.cell.n,a.src,a.dst,a.cell,a.version,a.reads,a.seen,(a.seen.length:Int),0) rfl a.seen (fun n=>decide (0<=n)&&decide (n<=60)) false _ (fun i x f=>by
  obtain⟨b,rfl⟩:=zC.1 f;simp only[dN b,ab,au,f,zA,eu b e];cases (decide (0<=a.seen[i])&&decide (a.seen[i]<=60))<;>rfl) (by
  simp only[aV,aa];rfl)]
 unfold akj;rw[Vk (fun n=>decide (0<=n)&&decide (n<=60))];cases (a.seen.all fun n=>decide (0<=n)&&decide (n<=60))with
 | false=>exact⟨false,rfl,rfl⟩
 | true=>
 simp only[aE,aa,ab];generalize ((a.edit.kind==0)&&((a.edit.pos==0)&&((a.edit.cell.id==0)&&((a.edit.cell.version==0)&&((a.edit.cell.kind==0)&&((a.edit.cell.name==[])&&((a.edit.cell.code==[])&&(a.edit.cell.n==0))))))))=E;generalize (a.src==[])=s;generalize (a.dst==[])=d;generalize (a.cell==0)=c;generalize (a.version==0)=v;generalize ((a.reads.length:Int)==0)=r;have m:(decide (1<=a.kind)&&decide (a.kind<=3))=((a.kind==1)||(a.kind==2)||(a.kind==3)):=by
  by_cases g:a.kind=1
  ·rw[g];rfl
  by_cases j:a.kind=2
  ·rw[j];rfl
  by_cases k:a.kind=3
  ·rw[k];rfl
  rw[beq_eq_false_iff_ne.2 g,beq_eq_false_iff_ne.2 j,beq_eq_false_iff_ne.2 k];by_cases o:1<=a.kind
  ·rw[ac (show ¬a.kind<=3 by omega)];simp
  ·rw[ac o];rfl
 rw[m];generalize (a.kind==1)=p;generalize (a.kind==2)=q;generalize (a.kind==3)=t;cases p<;>cases q<;>cases t<;>cases s<;>cases d<;>cases c<;>cases v<;>cases r<;>cases E<;>first | exact⟨true,rfl,rfl⟩ | exact⟨false,rfl,rfl⟩
end Go.Proofs.YtngjomkjlonfpaaGreat
/- Plain laws: equality of lists, values, reads, operations; valid logs and replicas; HasSeen. -/
namespace Go.Proofs.YtngjomkjlonfpaaGreat
open Go.Abs Go.Proofs
section eqs
noncomputable def eqd{α:Type}(a b:α):Bool:=@decide (a=b) (Classical.propDecidable _)
theorem lJ{α:Type}{a b:α}:eqd a b=true↔a=b:=by unfold eqd;exact @decide_eq_true_iff _ (Classical.propDecidable _)
theorem jo{α:Type}{a b:α}(h:a=b):eqd a b=true:=lJ.2 h
theorem kG{α:Type}{a b:α}(h:¬a=b):eqd a b=false:=by
 cases c:eqd a b with
 | false=>rfl
 | true=>exact absurd (lJ.1 c) h
theorem Rn{α:Type}(a:α):eqd a a=true:=jo rfl
theorem xg{α X ρ:Type}{g:X->Option (X⊕ρ)}(pk:Nat->X)(z:X)(d:pk 0=z)(xs ys:List α)(k:xs.length=ys.length)(no:ρ)(fin:Option ρ)
  (f:∀i x y,xs[i]?=some x->ys[i]?=some y->i<xs.length->g (pk i)=bif eqd x y then some (.inl (pk (i+1)))else some (.inr no))
  (j:g (pk xs.length)=fin.bind fun r=>some (.inr r)):aA g z=bif eqd xs ys then fin else some no:=by
 have key:∀(n i:Nat),xs.length=i+n->aA g (pk i)=bif eqd (xs.drop i) (ys.drop i)then fin else some no:=by
  intro n;induction n with
  | zero=>
   intro i hi;rw[List.drop_eq_nil_of_le (by omega),List.drop_eq_nil_of_le (by omega),aF];have:i=xs.length:=by omega
   subst this;rw[j,Rn];cases fin<;>rfl
  | succ n ih=>
   intro i hi;have b:i<xs.length:=by omega
   have a:i<ys.length:=by omega
   rw[List.drop_eq_getElem_cons b,List.drop_eq_getElem_cons a,aF,f i xs[i] ys[i] (zF b) (zF a) b];by_cases c:xs[i]=ys[i]
   ·rw[jo c];have e:eqd (xs[i]::xs.drop (i+1)) (ys[i]::ys.drop (i+1))=eqd (xs.drop (i+1)) (ys.drop (i+1)):=by
     rw[Bool.eq_iff_iff,lJ,lJ,c];exact⟨fun h=>(List.cons.inj h).2,fun h=>by rw[h]⟩
    rw[e];exact ih (i+1) (by omega)
   ·rw[kG c,kG (fun h=>c (List.cons.inj h).1)];rfl
 rw[<- d];simpa using key xs.length 0 (by omega)
theorem EJ{α ρ:Type}{xs ys:List α}{r:Option ρ}{no:ρ}{fin:Option ρ}(h:xs.length=ys.length->r=bif eqd xs ys then fin else some no) :
  (bif ((xs.length:Int) != (ys.length:Int))then some no else r)=bif eqd xs ys then fin else some no:=by
 by_cases a:xs.length=ys.length
 ·rw[h a,a];simp
 ·have:((xs.length:Int) != (ys.length:Int))=true:=by
   simp only[bne_iff_ne,ne_eq];omega
  rw[this,ab,kG (fun e=>a (by rw[e]))];rfl
theorem vV(b:Bool):(bif b then some true else some false)=some b:=by cases b<;>rfl
theorem pX{α:Type}(b:Bool)(x y:α):(bif (!b)then x else y)=bif b then y else x:=by cases b<;>rfl
theorem nU{α:Type}[BEq α][LawfulBEq α](a b:α):(a==b)=eqd a b:=by
 rw[Bool.eq_iff_iff,lJ];exact beq_iff_eq
theorem Oo{α:Type}[BEq α][LawfulBEq α](a b:α):(a != b) = !eqd a b:=by
 rw[<- nU];rfl
theorem Pe(a b:List Int)(h:a.length<lim):Oa a b=some (eqd a b):=by
 rw[<- vV];refine EJ fun d=>xg (fun i=>((a,b,(i:Int)):List Int×List Int×Int)) _ rfl a b d _ _ (fun i x y e f c=>?_) ?_
 ·simp only[dN c,ab,au,e,f,zA,eu c h,Oo,pX]
 ·simp only[aV,aa];rfl
theorem Yk(a b:List Str)(h:a.length<lim):O3 a b=some (eqd a b):=by
 rw[<- vV];refine EJ fun d=>xg (fun i=>((a,b,(i:Int)):List Str×List Str×Int)) _ rfl a b d _ _ (fun i x y e f c=>?_) ?_
 ·simp only[dN c,ab,au,e,f,zA,eu c h,nU,pX]
 ·simp only[aV,aa];rfl
theorem abQ(x y:fB):((x.cell==y.cell)&&(x.row==y.row))=eqd x y:=by
 simp only[nU];rw[Bool.eq_iff_iff];simp only[lJ,zI];cases x;cases y
 simp only[fB.mk.injEq]
theorem SI(a b:List fB)(h:a.length<lim):FK a b=some (eqd a b):=by
 rw[<- vV];refine EJ fun d=>xg (fun i=>((a,b,(i:Int)):List fB×List fB×Int)) _ rfl a b d _ _ (fun i x y e f c=>?_) ?_
 ·simp only[dN c,ab,au,e,f,zA,eu c h,abQ,pX]
 ·simp only[aV,aa];rfl
theorem aiX(x y:dh):(bif eqd x.cells y.cells then eqd x.orig y.orig else false)=eqd x y:=by
 have e:eqd x y=(eqd x.cells y.cells&&eqd x.orig y.orig):=by
  rw[Bool.eq_iff_iff];simp only[lJ,zI];cases x;cases y
  simp only[dh.mk.injEq]
 rw[e];cases eqd x.cells y.cells<;>rfl
theorem LP:∀(n:Nat) (a b:aS),siz a<n->Fit B20 (.base .val) a->BX n a b true=some (eqd a b)
 | 0,a,b,h,_=>absurd h (Nat.not_lt_zero _)
 | n+1,a,b,C,s=>by
  have ih:=LP n;rw[Oj]at s;obtain⟨_,_,_,_,t,A,u⟩:=s;have m:=fD (dA t);have o:=fD (dA u);show O5 (BX n) a b true=_
  unfold O5;rw[Yk _ _ (fD (dA A)),zA];simp only[Oo,nU,pX];have no:∀ {p:Prop},(a=b->p)->¬p->eqd a b=false:=fun h B=>kG fun e=>B (h e)
  by_cases d:a.kind=b.kind
  case neg=>rw[kG d,no (fun h=>by rw[h]) d];rfl
  by_cases f:a.n=b.n
  case neg=>rw[jo d,kG f,no (fun h=>by rw[h]) f];rfl
  by_cases g:a.step=b.step
  case neg=>rw[jo d,jo f,kG g,no (fun h=>by rw[h]) g];rfl
  by_cases k:a.text=b.text
  case neg=>rw[jo d,jo f,jo g,kG k,no (fun h=>by rw[h]) k];rfl
  rw[jo d,jo f,jo g,jo k];simp only[ab];by_cases l:a.columns=b.columns
  case neg=>
   rw[kG l,no (fun h=>by rw[h]) l]
   cases eqd (a.list.length:Int) (b.list.length:Int)<;>rfl
  rw[jo l];simp only[ab];by_cases w:a.list.length=b.list.length
  case neg=>
   rw[kG (show ¬((a.list.length:Int)=(b.list.length:Int)) by omega),no (fun h=>by rw[h]) w]
   rfl
  by_cases z:a.rows.length=b.rows.length
  case neg=>
   rw[kG (show ¬((a.rows.length:Int)=(b.rows.length:Int)) by omega),no (fun h=>by rw[h]) z]
   cases eqd (a.list.length:Int) (b.list.length:Int)<;>rfl
  rw[jo (show (a.list.length:Int)=(b.list.length:Int) by omega),jo (show (a.rows.length:Int)=(b.rows.length:Int) by omega)];simp only[ab];rw[xg (fun i:Nat=>(true,a.kind,a.n,a.step,a.text,a.list,a.columns,a.rows,b.kind,b.n,b.step,b.text,b.list,b.columns,b.rows,(i:Int))) (true,a.kind,a.n,a.step,a.text,a.list,a.columns,a.rows,b.kind,b.n,b.step,b.text,b.list,b.columns,b.rows,0) rfl a.list b.list w false (some (eqd a.rows b.rows)) (fun i x y j q c=>by
   simp only[dN c,ab,au,j,q,zA,eu c m,kZ,pX];rw[ih x y (by have:=VP (zG j);have:=OT (v:=a);omega) (t.aZ x (zG j)),zA]) (by
   simp only[aV,aa];rw[xg (fun i:Nat=>(true,a.kind,a.n,a.step,a.text,a.list,a.columns,a.rows,b.kind,b.n,b.step,b.text,b.list,b.columns,b.rows,(i:Int))) (true,a.kind,a.n,a.step,a.text,a.list,a.columns,a.rows,b.kind,b.n,b.step,b.text,b.list,b.columns,b.rows,0) rfl a.rows b.rows z false (some true) (fun i x y j q c=>by
    have r:=u.aZ x (zG j);rw[Xz]at r;simp only[dN c,ab,au,j,q,zA,eu c o,Pe _ _ (fD (dA r.1)),SI _ _ (fD (dA r.2)),pX,<- aiX x y];cases eqd x.cells y.cells<;>cases eqd x.orig y.orig<;>rfl) (by
    simp only[aV,aa];rfl),vV])]
  have hval:eqd a b=(eqd a.list b.list&&eqd a.rows b.rows):=by
   rw[Bool.eq_iff_iff];simp only[lJ,zI];constructor
   ·intro h;rw[h];exact⟨rfl,rfl⟩
   ·intro h;cases a;cases b
    simp only at d f g k l h;rw[d,f,g,k,l,h.1,h.2]
  rw[hval];cases eqd a.list b.list<;>rfl
theorem aa1(a b:aS)(c:Fit B20 (.base .val) a):V8 a b true=some (eqd a b):=LP _ a b (by omega) c
theorem PX(a b:aS)(c:Fit B20 (.base .val) a):wK a b=some (eqd a b):=by
 unfold wK;simp only[kZ];rw[aa1 a b c,zA]
theorem agG(x y:aN):eqd x y=(eqd x.kind y.kind&&(eqd x.n y.n&&(eqd x.time y.time&&(eqd x.text y.text&&eqd x.result y.result)))):=by
 rw[Bool.eq_iff_iff];simp only[lJ,zI];cases x;cases y
 simp only[aN.mk.injEq]
theorem G9(x y:aN):yu x y=some (eqd x.kind y.kind&&(eqd x.n y.n&&(eqd x.text y.text&&eqd x.time y.time))):=by
 unfold yu;simp only[nU];cases eqd x.kind y.kind<;>cases eqd x.n y.n<;>cases eqd x.text y.text<;>rfl
theorem TN(x y:aN):Es x y=some (eqd x.kind y.kind&&(eqd x.n y.n&&(eqd x.text y.text&&eqd x.time y.time))):=by
 unfold Es;simp only[nU];cases eqd x.kind y.kind<;>cases eqd x.n y.n<;>cases eqd x.text y.text<;>rfl
theorem LK(a b:List aN)(d:aX B20 (.list (.base .read) a)):Hr a b=some (eqd a b):=by
 have h:=fD (dA d);rw[<- vV];refine EJ fun g=>xg (fun i=>((a,b,(i:Int)):List aN×List aN×Int)) _ rfl a b g _ _ (fun i x y e j c=>?_) ?_
 ·have f:=d.aZ x (zG e);rw[yX]at f;simp only[dN c,ab,au,e,j,zA,eu c h,ul,kZ,G9,PX x.result y.result f.2.2.2.2,pX,agG];cases eqd x.kind y.kind<;>cases eqd x.n y.n<;>cases eqd x.text y.text<;>cases eqd x.time y.time<;>cases eqd x.result y.result<;>rfl
 ·simp only[aV,aa];rfl
theorem aac(x y:ah):((x.id==y.id)&&((x.version==y.version)&&((x.kind==y.kind)&&((x.name==y.name)&&((x.code==y.code)&&(x.n==y.n))))))=eqd x y:=by
 simp only[nU];rw[Bool.eq_iff_iff];simp only[lJ,zI];cases x;cases y
 simp only[ah.mk.injEq]
theorem ahT(x y:dM):((x.kind==y.kind)&&((x.pos==y.pos)&&((x.cell.id==y.cell.id)&&((x.cell.version==y.cell.version)&&((x.cell.kind==y.cell.kind)&&((x.cell.name==y.cell.name)&&((x.cell.code==y.cell.code)&&(x.cell.n==y.cell.n))))))))=eqd x y:=by
 rw[aac];simp only[nU];rw[Bool.eq_iff_iff];simp only[lJ,zI];cases x;cases y
 simp only[dM.mk.injEq]
theorem alV(x y:GOp):eqd x y=(eqd x.time y.time&&(eqd x.by_ y.by_&&(eqd x.kind y.kind&&(eqd x.seen y.seen&&(eqd x.edit y.edit&&(eqd x.src y.src&&(eqd x.dst y.dst&&(eqd x.cell y.cell&&(eqd x.version y.version&&eqd x.reads y.reads))))))))):=by
 rw[Bool.eq_iff_iff];simp only[lJ,zI];cases x;cases y
 simp only[GOp.mk.injEq]
theorem YF(a b:GOp)(c:Fit B20 (.base .op) a):Ij a b=some (eqd a b):=by
 rw[xP]at c;obtain⟨_,_,_,d,_,_,_,_,_,e⟩:=c;unfold Ij;simp only[ahT,Pe _ _ (fD (dA d)),LK _ _ e,zA,pX,alV];simp only[nU,Oo,pX];cases eqd a.time b.time<;>cases eqd a.by_ b.by_<;>cases eqd a.kind b.kind<;>cases eqd a.seen b.seen<;>cases eqd a.edit b.edit<;>cases eqd a.src b.src<;>
  cases eqd a.dst b.dst<;>cases eqd a.cell b.cell<;>cases eqd a.version b.version<;>rfl
end eqs
end Go.Proofs.YtngjomkjlonfpaaGreat
/- Plain laws: HasSeen, valid logs and replicas, equality of documents. -/
namespace Go.Proofs.YtngjomkjlonfpaaGreat
open Go.Abs Go.Proofs
theorem QU{α:Type}{xs:List α}{n:Int}(b:0<=n)(c:n<xs.length):∃x,idx xs n=some x/\xs[n.toNat]?=some x:=by
 have a:n.toNat<xs.length:=by omega
 exact⟨xs[n.toNat],by unfold idx;rw[if_pos b];simp[a],by simp[a]⟩
theorem ahW{α:Type}{xs:List α}{n:Int}(a:0<=n)(b:n<=xs.length):eff.cutL xs none (some n)=some (xs.take n.toNat):=by
 unfold eff.cutL;simp[a,b]
theorem acN{n:Nat}(h:n<lim):w64 ((n:Int)-1)=(n:Int)-1:=by
 have a:(n:Int)<4611686018427387904:=Int.ofNat_lt.2 h;exact bM (by omega) (by omega)
theorem acr(a:GOp)(b:List GOp)(c:Int)(i:a.seen.length<lim)(j:b.length<lim):∃v,yE a b c=some v/\Jl a b c=some v:=by
 unfold yE Jl;rw[fG,acN j];by_cases d:c<0
 ·refine⟨false,?_,?_⟩
  ·rw[ac (show ¬0<=c by omega)];rfl
  ·rw[ae d];rfl
 rw[ae (show 0<=c by omega),ac d];by_cases f:c>=b.length
 ·refine⟨false,?_,?_⟩
  ·rw[ac (show ¬c<=(b.length:Int)-1 by omega)];rfl
  ·rw[ae f];rfl
 rw[ae (show c<=(b.length:Int)-1 by omega),ac f];obtain⟨e,k,_⟩:=QU (xs:=b) (n:=c) (by omega) (by omega);simp only[Bool.and_self,zA,aE,aa,k,fG,acN i];by_cases g:e.by_<0
 ·refine⟨false,?_,?_⟩
  ·rw[ac (show ¬0<=e.by_ by omega)];rfl
  ·rw[ae g];rfl
 rw[ae (show 0<=e.by_ by omega),ac g];by_cases h:e.by_>=a.seen.length
 ·refine⟨false,?_,?_⟩
  ·rw[ac (show ¬e.by_<=(a.seen.length:Int)-1 by omega)];rfl
  ·rw[ae h];rfl
 rw[ae (show e.by_<=(a.seen.length:Int)-1 by omega),ac h];obtain⟨s,l,_⟩:=QU (xs:=a.seen) (n:=e.by_) (by omega) (by omega);obtain⟨v,m,o⟩:=acw (b.take c.toNat) e.by_ (by rw[a7];omega);simp only[Bool.and_self,aE,aa,ahW (show 0<=c by omega) (show c<=(b.length:Int) by omega),zA,m,o,l];exact⟨_,rfl,rfl⟩
theorem Xo(a b:GOp):qL a b=oJ a b:=rfl
theorem sS(a b:GOp):oJ a b=some (decide (a.time<b.time)||((a.time==b.time)&&decide (a.by_<b.by_))):=by
 unfold oJ;cases decide (a.time<b.time)<;>cases (a.time==b.time)<;>rfl
noncomputable def opB(a:GOp):Bool:=(nY a).getD false
theorem Tc(a:GOp)(h:Fit B20 (.base .op) a):nY a=some (opB a):=by
 obtain⟨v,b,_⟩:=Ov a h;rw[b];unfold opB;rw[b];rfl
theorem TR(a:GOp)(h:Fit B20 (.base .op) a):vM a=some (opB a):=by
 obtain⟨v,b,c⟩:=Ov a h;rw[c];unfold opB;rw[b];rfl
noncomputable def pK(a:List GOp)(x:GOp)(i:Nat):Bool:=
 opB x&&(!decide ((i:Int)>0)||(match a[i-1]? with
  | some y=>decide (y.time<x.time)||((y.time==x.time)&&decide (y.by_<x.by_))
  | none=>false))
theorem Uk{i n:Nat}(h:i<n)(a:n<lim)(c:(i:Int)>0):w64 ((i:Int)-1)=((i-1:Nat):Int):=by
 have d:(i:Int)<(n:Int):=Int.ofNat_lt.2 h;have b:(n:Int)<4611686018427387904:=Int.ofNat_lt.2 a;rw[bM (by omega) (by omega)];omega
theorem zo(a:List GOp)(h:aX B20 (.list (.base .op) a)):oM a=some (iW (pK a) a 0&&decide ((a.length:Int)<=60))/\oP a=some (iW (pK a) a 0&&decide ((a.length:Int)<=60)):=by
 have e:=fD (dA h);refine⟨?_,?_⟩
 ·refine o9 (fun i=>((a,(i:Int)):List GOp×Int)) a _ _ (fun i x d=>?_) ?_
  ·obtain⟨b,rfl⟩:=zC.1 d;have f:=h.aZ a[i] (List.getElem_mem b);simp only[dN b,ab,au,d,zA,eu b e,Tc _ f,pK];cases opB a[i]with
   | false=>rfl
   | true=>
    by_cases c:(i:Int)>0
    ·have g:a[i-1]?=some (a[i-1]'(by omega)):=zF (by omega);rw[Uk b e c];simp only[ae c,ab,au,g,zA,sS,aE,aa,Bool.true_and,Bool.false_or];cases (decide ((a[i-1]'(by omega)).time<a[i].time)||(((a[i-1]'(by omega)).time==a[i].time)&&decide ((a[i-1]'(by omega)).by_<a[i].by_)))<;>rfl
    ·simp only[ac c];rfl
  ·simp only[aV,aa]
 ·refine o9 (fun i=>((a,a,(a.length:Int),(i:Int)):List GOp×List GOp×Int×Int)) a _ _ (fun i x d=>?_) ?_
  ·obtain⟨b,rfl⟩:=zC.1 d;have f:=h.aZ a[i] (List.getElem_mem b);simp only[dN b,ab,au,d,zA,eu b e,TR _ f,pK,Xo];cases opB a[i]with
   | false=>rfl
   | true=>
    by_cases c:(i:Int)>0
    ·have g:a[i-1]?=some (a[i-1]'(by omega)):=zF (by omega);rw[Uk b e c];simp only[ae c,ab,au,g,zA,sS,aE,aa,Bool.true_and,Bool.false_or];cases (decide ((a[i-1]'(by omega)).time<a[i].time)||(((a[i-1]'(by omega)).time==a[i].time)&&decide ((a[i-1]'(by omega)).by_<a[i].by_)))<;>rfl
    ·simp only[ac c];rfl
  ·simp only[aV,aa]
theorem VA(a:List GOp)(h:aX B20 (.list (.base .op) a)):∃v,oM a=some v/\oP a=some v/\(v=true->(a.length:Int)<=60):=by
 obtain⟨c,d⟩:=zo a h;exact⟨_,c,d,fun b=>by simp only[zI,decide_eq_true_eq]at b;exact b.2⟩
theorem Xb(a b:ak):eqd a b=eqd a.cells b.cells:=by
 rw[Bool.eq_iff_iff];simp only[lJ];cases a;cases b
 simp only[ak.mk.injEq]
theorem Ik(a b:ak)(h:a.cells.length<lim):uY a b=some (eqd a b):=by
 rw[Xb,<- vV];refine EJ fun d=>xg (fun i=>((a.cells,b.cells,(i:Int)):List ah×List ah×Int)) _ rfl a.cells b.cells d _ _ (fun i x y e f c=>?_) ?_
 ·simp only[dN c,ab,au,e,f,zA,eu c h,aac,pX]
 ·simp only[aV,aa];rfl
theorem afW(x y:aO):eqd x y=(eqd x.cell y.cell&&(eqd x.version y.version&&eqd x.reads y.reads)):=by
 rw[Bool.eq_iff_iff];simp only[lJ,zI];cases x;cases y
 simp only[aO.mk.injEq]
theorem V6(a b:List aO)(d:aX B20 (.list (.base .tape) a)):JV a b=some (eqd a b):=by
 have h:=fD (dA d);rw[<- vV];refine EJ fun g=>xg (fun i=>((a,b,(i:Int)):List aO×List aO×Int)) _ rfl a b g _ _ (fun i x y e j c=>?_) ?_
 ·have f:=d.aZ x (zG e);rw[Jp]at f;simp only[dN c,ab,au,e,j,zA,eu c h,LK _ _ f.2.2,pX,afW,Oo];cases eqd x.cell y.cell<;>cases eqd x.version y.version<;>cases eqd x.reads y.reads<;>rfl
 ·simp only[aV,aa];rfl
theorem Il(a b:aK)(h:Fit B20 (.base .document) a):pF a b=some (eqd a.notebook b.notebook&&eqd a.tapes b.tapes):=by
 rw[Jr,gU]at h;unfold pF;rw[Ik _ _ (fD (dA h.1)),V6 _ _ h.2.1];cases eqd a.notebook b.notebook<;>rfl
end Go.Proofs.YtngjomkjlonfpaaGreat
