import Derived.Test.YtjbajpfonnnfoaaGreatDoorModels
import Derived.Test.YtjbajpfonnnfoaaGreatDoorS4
import Derived.Test.YtjbajpfonnnfoaaGreatDoorLink1
set_option linter.unusedSimpArgs false
set_option linter.unusedVariables false
/- Plain laws of the evaluator's loops over lists. -/
namespace Go.Proofs.YtjbajpfonnnfoaaGreatDoor
open Go.Abs Go.Proofs
theorem bQ{n:Int}(a:-9223372036854775808<=n)(b:n<9223372036854775808):w64 n=n:=by
 simp only[w64,IntKind.wrap,IntKind.bits,IntKind.signed];simp;omega
theorem aP{α:Type}(xs:List α)(i:Nat):idx xs (i:Int)=xs[i]?:=by
 simp[idx]
def O7{α σ ρ:Type}(f:α->Nat->σ->Option (σ⊕ρ))(fin:σ->Option ρ):List α->Nat->σ->Option ρ
 | [],_,s=>fin s
 | x::r,i,s=>match f x i s with
  | none=>none
  | some (.inl s')=>O7 f fin r (i+1) s'
  | some (.inr r)=>some r
theorem BP{α σ ρ X:Type}{g:X->Option (X⊕ρ)}(pk:σ->Nat->X)(xs:List α)(f:α->Nat->σ->Option (σ⊕ρ))(fin:σ->Option ρ)
  (b:∀i x s,xs[i]?=some x->g (pk s i)=match f x i s with
   | none=>none
   | some (.inl s')=>some (.inl (pk s' (i+1)))
   | some (.inr r)=>some (.inr r))
  (c:∀s,g (pk s xs.length)=(fin s).bind λr=>some (.inr r)) (s:σ):aN g (pk s 0)=O7 f fin xs 0 s:=by
 have key:∀(n i:Nat) (s:σ),xs.length=i+n->aN g (pk s i)=O7 f fin (xs.drop i) i s:=by
  intro n;induction n with
  | zero=>
   intro i s hi;rw[List.drop_eq_nil_of_le (by omega)];rw[aX];have:i=xs.length:=by omega
   subst this;rw[c];show _=fin s
   cases fin s<;>rfl
  | succ n ih=>
   intro i s hi;have a:i<xs.length:=by omega
   rw[amg a,aX,b i xs[i] s (zF a)];simp only[O7];cases f xs[i] i s with
   | none=>rfl
   | some y=>cases y with
    | inl s'=>exact ih (i+1) s' (by omega)
    | inr r=>rfl
 simpa using key xs.length 0 s (by omega)
end Go.Proofs.YtjbajpfonnnfoaaGreatDoor
/- Plain laws of sizes, copies and equality, for every type of data. -/
namespace Go.Abs
theorem cu.akp{L:Nat}{s:Str}(h:cu L (.str s)):s.length<=L:=by
 generalize a:D.str s=d at h;cases h<;>cases a
 assumption
theorem cu.wf{L:Nat}{k:IntKind}{n:Int}(h:cu L (.int k n)):(Lit.int k n).wf=true:=by
 generalize a:D.int k n=d at h;cases h<;>cases a
 assumption
theorem cu.ahG{L:Nat}{t:Ty}{xs:List t.den}(h:cu L (.list t xs)):xs.length<=L:=by
 generalize a:D.list t xs=d at h;cases h<;>cases a
 assumption
def Fit(L:Nat)(t:Ty)(x:t.den):Prop:=∀d,d∈t.cells x->cu L d
theorem cu.dG{L:Nat}{t:Ty}{xs:List t.den}(h:cu L (.list t xs)):∀x,x∈xs->Fit L t x:=by
 generalize b:D.list t xs=d at h;cases h<;>cases b
 rename_i c;intro x e d a;obtain⟨i,hi⟩:=List.mem_iff_getElem?.1 e;obtain⟨j,f⟩:=List.mem_iff_getElem?.1 a;exact c i x j d hi f
theorem cu.akP{L:Nat}{t:Ty}{xs:List t.den}(h:xs.length<=L)(a:∀x,x∈xs->Fit L t x):cu L (.list t xs):=
 .list t xs h λ_ x _ d hi b=>a x (zG hi) d (zG b)
end Go.Abs
namespace Go.Proofs.YtjbajpfonnnfoaaGreatDoor
open Go.Abs Go.Proofs
abbrev B47:Nat:=140737488351232
abbrev B20:Nat:=1048576
theorem bW{t:Ty}{xs:List t.den}(h:cu B20 (.list t xs)):(xs.length:Int)<=1048576:=by
 have a:xs.length<=1048576:=h.ahG;omega
theorem aaP{s:Str}(h:cu B20 (.str s)):(s.length:Int)<=1048576:=by
 have a:s.length<=1048576:=h.akp;omega
theorem FZ{s:Str}(h:(s.length:Int)<=1048576):cu B20 (.str s):=.str s (by show s.length<=1048576;omega)
theorem dB{t:Ty}{xs:List t.den}(h:(xs.length:Int)<=1048576)(a:∀x,x∈xs->Fit B20 t x):cu B20 (.list t xs):=.akP (by show xs.length<=1048576;omega) a
theorem lG{v:af}:siz v.list<siz v:=by
 cases v;simp only[siz];rw[af.mk.sizeOf_spec];omega
theorem qE{α:Type}[SizeOf α]{x:α}{xs:List α}(h:x∈xs):siz x<siz xs:=List.sizeOf_lt_of_mem h
theorem Ew{L:Nat}{x:aj}:Fit L (.base .origin) x↔cu L (.int .i64 x.cell)/\cu L (.int .i64 x.row):=by
 simp only[Fit,Ty.cells,Base.cells,bh,List.not_mem_nil,or_false,forall_eq_or_imp,forall_eq]
theorem iq{L:Nat}{x:aB}:Fit L (.base .row) x↔cu L (.list (.base .int) x.cells)/\cu L (.list (.base .origin) x.orig):=by
 simp only[Fit,Ty.cells,Base.cells,bh,List.not_mem_nil,or_false,forall_eq_or_imp,forall_eq]
theorem dQ{L:Nat}{x:af}:Fit L (.base .val) x↔cu L (.int .i64 x.kind)/\cu L (.int .i64 x.n)/\cu L (.int .i64 x.step)/\cu L (.str x.text)/\cu L (.list (.base .val) x.list)/\cu L (.list (.base .str) x.columns)/\cu L (.list (.base .row) x.rows):=by
 simp only[Fit,Ty.cells,Base.cells,bh,List.not_mem_nil,or_false,forall_eq_or_imp,forall_eq]
theorem Bg{L:Nat}{x:aG}:Fit L (.base .read) x↔cu L (.int .i64 x.kind)/\cu L (.int .i64 x.n)/\cu L (.int .i64 x.time)/\cu L (.str x.text)/\Fit L (.base .val) x.result:=by
 simp only[Fit,Ty.cells,Base.cells,bh,List.not_mem_nil,or_false,forall_eq_or_imp,forall_eq,and_assoc]
theorem X0{L:Nat}{x:nY}:Fit L (.base .tape) x↔cu L (.int .i64 x.cell)/\cu L (.int .i64 x.version)/\cu L (.list (.base .read) x.reads):=by
 simp only[Fit,Ty.cells,Base.cells,bh,List.not_mem_nil,or_false,forall_eq_or_imp,forall_eq]
theorem Gv{L:Nat}{x:iE}:Fit L (.base .notebook) x↔cu L (.list (.base .cell) x.cells):=by
 simp only[Fit,Ty.cells,Base.cells,bh,List.not_mem_nil,or_false,forall_eq_or_imp,forall_eq]
theorem Gw{L:Nat}{x:jV}:Fit L (.base .document) x↔Fit L (.base .notebook) x.notebook/\cu L (.list (.base .tape) x.tapes)/\cu L (.list (.base .op) x.renames):=by
 simp only[Fit,Ty.cells,Base.cells,bh,List.not_mem_nil,or_false,forall_eq_or_imp,forall_eq,and_assoc]
abbrev lim:Nat:=4611686018427387904
theorem lN{n:Nat}(h:(n:Int)<=1048576):n<lim:=by
 show n<4611686018427387904
 omega
theorem jl{a b:Nat}(h:a<b):decide ((a:Int)<(b:Int))=true:=by simpa using h
theorem dS{a:Nat}:decide ((a:Int)<(a:Int))=false:=by simp
theorem jg{i n:Nat}(h:i<n)(a:n<lim):w64 ((i:Int)+1)=((i+1:Nat):Int):=by
 have c:(i:Int)<(n:Int):=Int.ofNat_lt.2 h;have b:(n:Int)<4611686018427387904:=Int.ofNat_lt.2 a;rw[bQ (by omega) (by omega)];rfl
theorem N9{α σ ρ X:Type}{g:X->Option (X⊕ρ)}(pk:σ->Nat->X)(xs:List α)(f:σ->α->σ)(fin:σ->ρ)
  (b:∀i x s,xs[i]?=some x->g (pk s i)=some (.inl (pk (f s x) (i+1))))
  (c:∀s,g (pk s xs.length)=some (.inr (fin s))) (s:σ):aN g (pk s 0)=some (fin (xs.foldl f s)):=by
 have key:∀(n i:Nat) (s:σ),xs.length=i+n->aN g (pk s i)=some (fin ((xs.drop i).foldl f s)):=by
  intro n;induction n with
  | zero=>
   intro i s hi;rw[List.drop_eq_nil_of_le (by omega),aX];have:i=xs.length:=by omega
   subst this;rw[c];rfl
  | succ n ih=>
   intro i s hi;have a:i<xs.length:=by omega
   rw[amg a,aX,b i xs[i] s (zF a)];exact ih (i+1) (f s xs[i]) (by omega)
 simpa using key xs.length 0 s (by omega)
theorem vV(a b c:Int):vW a b c=some (decide (b<=a)&&decide (a<=c)):=by
 unfold vW;show (bif decide (b<=a)then _ else _)=_
 cases decide (b<=a)<;>rfl
theorem dec_lt{α:Type}{xs:List α}{i:Nat}{x:α}(h:xs[i]?=some x):decide ((i:Int)<(xs.length:Int))=true:=by
 have:=(zC.1 h).1;simpa using this
theorem Lp{α:Type}{xs:List α}{i:Nat}{x:α}(h:xs[i]?=some x)(a:xs.length<4611686018427387904):w64 ((i:Int)+1)=((i+1:Nat):Int):=by
 have:=(zC.1 h).1;rw[bQ (by omega) (by omega)];omega
section eqs
noncomputable def eqd{α:Type}(a b:α):Bool:=@decide (a=b) (Classical.propDecidable _)
theorem kD{α:Type}{a b:α}:eqd a b=true↔a=b:=by unfold eqd;exact @decide_eq_true_iff _ (Classical.propDecidable _)
theorem gU{α:Type}{a b:α}(h:a=b):eqd a b=true:=kD.2 h
theorem iC{α:Type}{a b:α}(h:¬a=b):eqd a b=false:=by
 cases c:eqd a b with
 | false=>rfl
 | true=>exact absurd (kD.1 c) h
theorem Pm{α:Type}(a:α):eqd a a=true:=gU rfl
theorem nS{α X ρ:Type}{g:X->Option (X⊕ρ)}(pk:Nat->X)(z:X)(d:pk 0=z)(xs ys:List α)(k:xs.length=ys.length)(no:ρ)(fin:Option ρ)
  (f:∀i x y,xs[i]?=some x->ys[i]?=some y->i<xs.length->g (pk i)=bif eqd x y then some (.inl (pk (i+1)))else some (.inr no))
  (j:g (pk xs.length)=fin.bind λr=>some (.inr r)):aN g z=bif eqd xs ys then fin else some no:=by
 have key:∀(n i:Nat),xs.length=i+n->aN g (pk i)=bif eqd (xs.drop i) (ys.drop i)then fin else some no:=by
  intro n;induction n with
  | zero=>
   intro i hi;rw[List.drop_eq_nil_of_le (by omega),List.drop_eq_nil_of_le (by omega),aX];have:i=xs.length:=by omega
   subst this;rw[j,Pm];cases fin<;>rfl
  | succ n ih=>
   intro i hi;have b:i<xs.length:=by omega
   have a:i<ys.length:=by omega
   rw[amg b,amg a,aX,f i xs[i] ys[i] (zF b) (zF a) b];by_cases c:xs[i]=ys[i]
   ·rw[gU c];have e:eqd (xs[i]::xs.drop (i+1)) (ys[i]::ys.drop (i+1))=eqd (xs.drop (i+1)) (ys.drop (i+1)):=by
     rw[Bool.eq_iff_iff,kD,kD,c];exact⟨λh=>(List.cons.inj h).2,λh=>by rw[h]⟩
    rw[e];exact ih (i+1) (by omega)
   ·rw[iC c,iC (λh=>c (List.cons.inj h).1)];rfl
 rw[<- d];simpa using key xs.length 0 (by omega)
theorem qO{α ρ:Type}{xs ys:List α}{r:Option ρ}{no:ρ}{fin:Option ρ}(h:xs.length=ys.length->r=bif eqd xs ys then fin else some no) :
  (bif ((xs.length:Int) != (ys.length:Int))then some no else r)=bif eqd xs ys then fin else some no:=by
 by_cases a:xs.length=ys.length
 ·rw[h a,a];simp
 ·have:((xs.length:Int) != (ys.length:Int))=true:=by
   simp only[bne_iff_ne,ne_eq];omega
  rw[this,ac,iC (λe=>a (by rw[e]))];rfl
theorem lT(b:Bool):(bif b then some true else some false)=some b:=by cases b<;>rfl
theorem jH{α:Type}(b:Bool)(x y:α):(bif (!b)then x else y)=bif b then y else x:=by cases b<;>rfl
theorem uO{α:Type}[BEq α][LawfulBEq α](a b:α):(a==b)=eqd a b:=by
 rw[Bool.eq_iff_iff,kD];exact beq_iff_eq
theorem GR{α:Type}[BEq α][LawfulBEq α](a b:α):(a != b) = !eqd a b:=by
 rw[<- uO];rfl
theorem MN(a b:List Int)(h:a.length<lim):Uy a b=some (eqd a b):=by
 rw[<- lT];refine qO λd=>nS (λi=>((a,b,(i:Int)):List Int×List Int×Int)) _ rfl a b d _ _ (λi x y e f c=>?_) ?_
 ·simp only[jl c,ac,aP,e,f,zA,jg c h,GR,jH]
 ·simp only[dS,aa];rfl
theorem XI(a b:List Int)(h:a.length<lim):OC a b=some (eqd a b):=by
 rw[<- lT];refine qO λd=>nS (λi=>((a,b,(a.length:Int),(i:Int)):List Int×List Int×Int×Int)) _ rfl a b d _ _ (λi x y e f c=>?_) ?_
 ·simp only[jl c,ac,aP,e,f,zA,jg c h,GR,jH]
 ·simp only[dS,aa];rfl
theorem Jp(a b:List Str)(h:a.length<lim):MG a b=some (eqd a b):=by
 rw[<- lT];refine qO λd=>nS (λi=>((a,b,(i:Int)):List Str×List Str×Int)) _ rfl a b d _ _ (λi x y e f c=>?_) ?_
 ·simp only[jl c,ac,aP,e,f,zA,jg c h,uO,jH]
 ·simp only[dS,aa];rfl
theorem OA(a b:List Str)(h:a.length<lim):AP a b=some (eqd a b):=by
 rw[<- lT];refine qO λd=>nS (λi=>((a,b,(a.length:Int),(i:Int)):List Str×List Str×Int×Int)) _ rfl a b d _ _ (λi x y e f c=>?_) ?_
 ·simp only[jl c,ac,aP,e,f,zA,jg c h,uO,jH]
 ·simp only[dS,aa];rfl
theorem NI(x y:aj):((x.cell==y.cell)&&(x.row==y.row))=eqd x y:=by
 simp only[uO];rw[Bool.eq_iff_iff];simp only[kD,zI];cases x;cases y
 simp only[aj.mk.injEq]
theorem Dk(a b:List aj)(h:a.length<lim):DF a b=some (eqd a b):=by
 rw[<- lT];refine qO λd=>nS (λi=>((a,b,(i:Int)):List aj×List aj×Int)) _ rfl a b d _ _ (λi x y e f c=>?_) ?_
 ·simp only[jl c,ac,aP,e,f,zA,jg c h,NI,jH]
 ·simp only[dS,aa];rfl
theorem OB(a b:List aj)(h:a.length<lim):AQ a b=some (eqd a b):=by
 rw[<- lT];refine qO λd=>nS (λi=>((a,b,(a.length:Int),(i:Int)):List aj×List aj×Int×Int)) _ rfl a b d _ _ (λi x y e f c=>?_) ?_
 ·simp only[jl c,ac,aP,e,f,zA,jg c h,NI,jH]
 ·simp only[dS,aa];rfl
theorem ahf(x y:aB):(bif eqd x.cells y.cells then eqd x.orig y.orig else false)=eqd x y:=by
 have e:eqd x y=(eqd x.cells y.cells&&eqd x.orig y.orig):=by
  rw[Bool.eq_iff_iff];simp only[kD,zI];cases x;cases y
  simp only[aB.mk.injEq]
 rw[e];cases eqd x.cells y.cells<;>rfl
theorem Jq:∀(n:Nat) (a b:af),siz a<n->Fit B20 (.base .val) a->pF n a b true=some (eqd a b)
 | 0,a,b,h,_=>absurd h (aml _)
 | n+1,a,b,z,r=>by
  have ih:=Jq n;rw[dQ]at r;obtain⟨_,_,_,_,c4,w,s⟩:=r;have m:=lN (bW c4);have o:=lN (bW s);show zQ (pF n) a b true=_
  unfold zQ;rw[Jp _ _ (lN (bW w)),zA];simp only[GR,uO,jH];have no:∀ {p:Prop},(a=b->p)->¬p->eqd a b=false:=λh hp=>iC λe=>hp (h e)
  by_cases d:a.kind=b.kind
  case neg=>rw[iC d,no (λh=>by rw[h]) d];rfl
  by_cases f:a.n=b.n
  case neg=>rw[gU d,iC f,no (λh=>by rw[h]) f];rfl
  by_cases g:a.step=b.step
  case neg=>rw[gU d,gU f,iC g,no (λh=>by rw[h]) g];rfl
  by_cases k:a.text=b.text
  case neg=>rw[gU d,gU f,gU g,iC k,no (λh=>by rw[h]) k];rfl
  rw[gU d,gU f,gU g,gU k];simp only[ac];by_cases l:a.columns=b.columns
  case neg=>
   rw[iC l,no (λh=>by rw[h]) l]
   cases eqd (a.list.length:Int) (b.list.length:Int)<;>rfl
  rw[gU l];simp only[ac];by_cases t:a.list.length=b.list.length
  case neg=>
   rw[iC (show ¬((a.list.length:Int)=(b.list.length:Int)) by omega),no (λh=>by rw[h]) t]
   rfl
  by_cases u:a.rows.length=b.rows.length
  case neg=>
   rw[iC (show ¬((a.rows.length:Int)=(b.rows.length:Int)) by omega),no (λh=>by rw[h]) u]
   cases eqd (a.list.length:Int) (b.list.length:Int)<;>rfl
  rw[gU (show (a.list.length:Int)=(b.list.length:Int) by omega),gU (show (a.rows.length:Int)=(b.rows.length:Int) by omega)];simp only[ac];rw[nS (λi:Nat=>(true,a.kind,a.n,a.step,a.text,a.list,a.columns,a.rows,b.kind,b.n,b.step,b.text,b.list,b.columns,b.rows,(i:Int))) (true,a.kind,a.n,a.step,a.text,a.list,a.columns,a.rows,b.kind,b.n,b.step,b.text,b.list,b.columns,b.rows,0) rfl a.list b.list t false (some (eqd a.rows b.rows)) (λi x y j q c=>by
   simp only[jl c,ac,aP,j,q,zA,jg c m,aC,jH];rw[ih x y (by have:=qE (zG j);have:=lG (v:=a);omega) (c4.dG x (zG j)),zA]) (by
   simp only[dS,aa];rw[nS (λi:Nat=>(true,a.kind,a.n,a.step,a.text,a.list,a.columns,a.rows,b.kind,b.n,b.step,b.text,b.list,b.columns,b.rows,(i:Int))) (true,a.kind,a.n,a.step,a.text,a.list,a.columns,a.rows,b.kind,b.n,b.step,b.text,b.list,b.columns,b.rows,0) rfl a.rows b.rows u false (some true) (λi x y j q c=>by
    have hf:=s.dG x (zG j);rw[iq]at hf;simp only[jl c,ac,aP,j,q,zA,jg c o,MN _ _ (lN (bW hf.1)),Dk _ _ (lN (bW hf.2)),jH,<- ahf x y];cases eqd x.cells y.cells<;>cases eqd x.orig y.orig<;>rfl) (by
    simp only[dS,aa];rfl),lT])]
  have hval:eqd a b=(eqd a.list b.list&&eqd a.rows b.rows):=by
   rw[Bool.eq_iff_iff];simp only[kD,zI];constructor
   ·intro h;rw[h];exact⟨rfl,rfl⟩
   ·intro h;cases a;cases b
    simp only at d f g k l h;rw[d,f,g,k,l,h.1,h.2]
  rw[hval];cases eqd a.list b.list<;>rfl
theorem Y2(a b:af)(c:Fit B20 (.base .val) a):EU a b true=some (eqd a b):=Jq _ a b (by omega) c
theorem Ai(a b:af)(c:Fit B20 (.base .val) a):pI a b=some (eqd a b):=by
 unfold pI;simp only[aC];rw[Y2 a b c,zA]
theorem aeF(x y:aG):eqd x y=(eqd x.kind y.kind&&(eqd x.n y.n&&(eqd x.time y.time&&(eqd x.text y.text&&eqd x.result y.result)))):=by
 rw[Bool.eq_iff_iff];simp only[kD,zI];cases x;cases y
 simp only[aG.mk.injEq]
theorem Ud(x y:aG):vX x y=some (eqd x.kind y.kind&&(eqd x.n y.n&&(eqd x.text y.text&&eqd x.time y.time))):=by
 unfold vX;simp only[uO];cases eqd x.kind y.kind<;>cases eqd x.n y.n<;>cases eqd x.text y.text<;>rfl
theorem Wy(a b:List aG)(d:cu B20 (.list (.base .read) a)):MF a b=some (eqd a b):=by
 have h:=lN (bW d);rw[<- lT];refine qO λf=>nS (λi=>((a,b,(i:Int)):List aG×List aG×Int)) _ rfl a b f _ _ (λi x y e g c=>?_) ?_
 ·have hf:=d.dG x (zG e);rw[Bg]at hf;simp only[jl c,ac,aP,e,g,zA,jg c h,BJ,aC,Ud,Ai x.result y.result hf.2.2.2.2,jH,aeF];cases eqd x.kind y.kind<;>cases eqd x.n y.n<;>cases eqd x.text y.text<;>cases eqd x.time y.time<;>cases eqd x.result y.result<;>rfl
 ·simp only[dS,aa];rfl
theorem agh(x y:Bo):((x.id==y.id)&&((x.version==y.version)&&((x.kind==y.kind)&&((x.name==y.name)&&((x.code==y.code)&&(x.n==y.n))))))=eqd x y:=by
 simp only[uO];rw[Bool.eq_iff_iff];simp only[kD,zI];cases x;cases y
 simp only[Bo.mk.injEq]
end eqs
theorem Z5{α:Type}{xs:List α}{n:Int}(b:0<=n)(c:n<xs.length):∃x,idx xs n=some x/\xs[n.toNat]?=some x:=by
 have a:n.toNat<xs.length:=by omega
 exact⟨xs[n.toNat],by unfold idx;rw[if_pos b];simp[a],by simp[a]⟩
theorem U8(a b:iE):eqd a b=eqd a.cells b.cells:=by
 rw[Bool.eq_iff_iff];simp only[kD];cases a;cases b
 simp only[iE.mk.injEq]
theorem Fj(a b:iE)(h:a.cells.length<lim):rO a b=some (eqd a b):=by
 rw[U8,<- lT];refine qO λd=>nS (λi=>((a.cells,b.cells,(i:Int)):List Bo×List Bo×Int)) _ rfl a.cells b.cells d _ _ (λi x y e f c=>?_) ?_
 ·simp only[jl c,ac,aP,e,f,zA,jg c h,agh,jH]
 ·simp only[dS,aa];rfl
theorem adQ(x y:nY):eqd x y=(eqd x.cell y.cell&&(eqd x.version y.version&&eqd x.reads y.reads)):=by
 rw[Bool.eq_iff_iff];simp only[kD,zI];cases x;cases y
 simp only[nY.mk.injEq]
theorem Un(a b:List nY)(d:cu B20 (.list (.base .tape) a)):Hw a b=some (eqd a b):=by
 have h:=lN (bW d);rw[<- lT];refine qO λf=>nS (λi=>((a,b,(i:Int)):List nY×List nY×Int)) _ rfl a b f _ _ (λi x y e g c=>?_) ?_
 ·have hf:=d.dG x (zG e);rw[X0]at hf;simp only[jl c,ac,aP,e,g,zA,jg c h,Wy _ _ hf.2.2,jH,adQ,GR];cases eqd x.cell y.cell<;>cases eqd x.version y.version<;>cases eqd x.reads y.reads<;>rfl
 ·simp only[dS,aa];rfl
theorem Fp(a b:jV)(h:Fit B20 (.base .document) a):nH a b=some (eqd a.notebook b.notebook&&eqd a.tapes b.tapes):=by
 rw[Gw,Gv]at h;unfold nH;rw[Fj _ _ (lN (bW h.1)),Un _ _ h.2.1];cases eqd a.notebook b.notebook<;>rfl
theorem su{α σ ρ X:Type}{g:X->Option (X⊕ρ)}(pk:σ->Nat->X)(xs:List α)(f:σ->α->σ)(fin:σ->ρ)(I:Nat->σ->Prop)
  (d:∀i x s,xs[i]?=some x->I i s->I (i+1) (f s x))
  (e:∀i x s,xs[i]?=some x->I i s->g (pk s i)=some (.inl (pk (f s x) (i+1))))
  (h:∀s,I xs.length s->g (pk s xs.length)=some (.inr (fin s))) (s:σ) (j:I 0 s):aN g (pk s 0)=some (fin (xs.foldl f s))/\I xs.length (xs.foldl f s):=by
 have key:∀(n i:Nat) (s:σ),xs.length=i+n->I i s->aN g (pk s i)=some (fin ((xs.drop i).foldl f s))/\I xs.length ((xs.drop i).foldl f s):=by
  intro n;induction n with
  | zero=>
   intro i s hi a;rw[List.drop_eq_nil_of_le (by omega),aX];have:i=xs.length:=by omega
   subst this;rw[h s a];exact⟨rfl,a⟩
  | succ n ih=>
   intro i s hi a;have b:i<xs.length:=by omega
   have c:=zF b;rw[amg b,aX,e i xs[i] s c a];exact ih (i+1) (f s xs[i]) (by omega) (d i xs[i] s c a)
 simpa using key xs.length 0 s (by omega) j
theorem bI{n:Nat}(h:n<=34359738368):gd n=some ():=by unfold gd;rw[if_pos h]
theorem adk{α:Type}(xs:List α)(n:Nat)(h:n<=xs.length):eff.cutL xs (some (n:Int)) none=some (xs.drop n):=by
 unfold eff.cutL;simp only[Option.getD_none,Option.getD_some];rw[if_pos ⟨by omega,by omega,by omega⟩];simp
theorem jS{α σ ρ X Y:Type}{c:X->Option (X⊕ρ)}{d:Y->Option (Y⊕ρ)}(a:σ->Nat->X)(b:σ->Nat->Y)(xs:List α)(I:Nat->σ->Prop)(R:ρ->Prop)
  (l:∀i x s,xs[i]?=some x->I i s->(∃s',c (a s i)=some (.inl (a s' (i+1)))/\d (b s i)=some (.inl (b s' (i+1)))/\I (i+1) s')\/∃r,c (a s i)=some (.inr r)/\d (b s i)=some (.inr r)/\R r)
  (m:∀s,I xs.length s->∃r,c (a s xs.length)=some (.inr r)/\d (b s xs.length)=some (.inr r)/\R r) (s:σ) (o:I 0 s) :
  ∃r,aN c (a s 0)=some r/\aN d (b s 0)=some r/\R r:=by
 have key:∀(n i:Nat) (s:σ),xs.length=i+n->I i s->∃r,aN c (a s i)=some r/\aN d (b s i)=some r/\R r:=by
  intro n;induction n with
  | zero=>
   intro i s hi h;have:i=xs.length:=by omega
   subst this;obtain⟨r,e,f,g⟩:=m s h;refine⟨r,?_,?_,g⟩
   ·rw[aX,e]
   ·rw[aX,f]
  | succ n ih=>
   intro i s hi h;have j:i<xs.length:=by omega
   rcases l i xs[i] s (zF j) h with ⟨s',e,f,k⟩ | ⟨r,e,f,g⟩
   ·obtain⟨r,p,q,g⟩:=ih (i+1) s' (by omega) k;refine⟨r,?_,?_,g⟩
    ·rw[aX,e];exact p
    ·rw[aX,f];exact q
   ·refine⟨r,?_,?_,g⟩
    ·rw[aX,e]
    ·rw[aX,f]
 exact key xs.length 0 s (by omega) o
theorem og{n:Int}(h:(Lit.int .i64 n).wf=true):cu B20 (.int .i64 n):=.int .i64 _ h
theorem dN{n:Int}(a:-1000000000<=n)(b:n<=1000000000):(Lit.int .i64 n).wf=true:=by
 unfold Lit.wf;simp[IntKind.bits,IntKind.signed,IntKind.min,IntKind.max];omega
theorem qh:cu B20 (.str []):=FZ (by simp)
theorem abz{X Y ρ:Type}{A B:Option ρ}{R:ρ->Prop}(h:∃r,A=some r/\B=some r/\R r) :
  ∃r,(A.bind λr=>some ((.inr r:X⊕ρ)))=some (.inr r)/\(B.bind λr=>some ((.inr r:Y⊕ρ)))=some (.inr r)/\R r:=by
 obtain⟨r,a,b,h⟩:=h;exact⟨r,by rw[a];rfl,by rw[b];rfl,h⟩
theorem take_snoc{α:Type}{xs:List α}{i:Nat}{x:α}(h:xs[i]?=some x):xs.take (i+1)=xs.take i++[x]:=by
 obtain⟨hi,rfl⟩:=zC.1 h;exact List.take_succ_eq_append_getElem hi
theorem yP{α X ρ:Type}{g:X->Option (X⊕ρ)}(pk:List α->Nat->X)(xs:List α)(fin:Option ρ)
  (c:∀i x,xs[i]?=some x->(xs.take i).length=i->g (pk (xs.take i) i)=some (.inl (pk (xs.take i++[x]) (i+1))))
  (d:g (pk xs xs.length)=fin.bind λr=>some (.inr r)):aN g (pk [] 0)=fin:=by
 have key:∀(n i:Nat),xs.length=i+n->aN g (pk (xs.take i) i)=fin:=by
  intro n;induction n with
  | zero=>
   intro i hi;have:i=xs.length:=by omega
   subst this;rw[aX,List.take_length,d];cases fin<;>rfl
  | succ n ih=>
   intro i hi;have a:i<xs.length:=by omega
   have b:=zF a;rw[aX,c i _ b (by simp;omega)];simp only;rw[<- take_snoc b];exact ih (i+1) (by omega)
 exact key xs.length 0 (by omega)
theorem gd1{α:Type}{s:List α}{i n:Nat}{x:α}(h:s.length=i)(hi:i<n)(a:(n:Int)<=1048576):gd (s.length+[x].length)=some ():=bI (by simp;omega)
theorem JB(x:aB)(h:Fit B20 (.base .row) x):Ba x=some x:=by
 rw[iq]at h;have:=bW h.1;have:=bW h.2;unfold Ba;rw[bI (by omega),zA,bI (by omega)];rfl
theorem Ry(x:aB)(h:Fit B20 (.base .row) x):MH x=some x:=by
 rw[iq]at h;have:=bW h.1;have:=bW h.2;unfold MH;rw[bI (by omega),zA,bI (by omega)];rfl
theorem sN:∀n,(∀v:af,siz v<n->Fit B20 (.base .val) v->(fF n).1 v=some v)/\(∀xs:List af,siz xs<n->cu B20 (.list (.base .val) xs)->(fF n).2 xs=some xs)
 | 0=>⟨λv h=>absurd h (aml _),λv h=>absurd h (aml _)⟩
 | n+1=>by
  have ih:=sN n;refine⟨λx d h=>?_,λxs d h=>?_⟩
  ·rw[dQ]at h;obtain⟨c0,c1,c2,c3,c4,e,c⟩:=h;have f:=bW e;have l6:=bW c;show A8 (fF n).1 (fF n).2 x=some x
   unfold A8;rw[ih.2 x.list (by have:=lG (v:=x);omega) c4,zA,bI (by omega),zA];refine yP (λ(s:List aB) (i:Nat)=>((0,0,0,[],[],[],[],x.kind,x.n,x.step,x.text,x.list,[]++x.columns,s,x.rows,(x.rows.length:Int),(i:Int)):Int×Int×Int×Str×(List af)×(List Str)×(List aB)×Int×Int×Int×Str×(List af)×(List Str)×(List aB)×(List aB)×Int×Int))
    x.rows (some x) (λi y a b=>?_) ?_
   ·have hi:=(zC.1 a).1;simp only[dec_lt a,ac,aP,a,zA,JB y (c.dG y (zG a)),gd1 b hi l6,Lp a (lN l6)]
   ·simp only[Int.lt_irrefl,decide_false,aa];cases x;rfl
  ·have l:=bW h;show yJ (fF n).1 (fF n).2 xs=some xs
   unfold yJ;refine yP (λ(s:List af) (i:Nat)=>((s,xs,(xs.length:Int),(i:Int)):(List af)×(List af)×Int×Int)) xs (some xs) (λi y a b=>?_) ?_
   ·have hi:=(zC.1 a).1;simp only[dec_lt a,ac,aP,a,aC,zA,ih.1 y (by have:=qE (zG a);omega) (h.dG y (zG a)),gd1 b hi l,Lp a (lN l)]
   ·simp only[Int.lt_irrefl,decide_false,aa];rfl
theorem fG(x:af)(h:Fit B20 (.base .val) x):fD x=some x:=(sN (siz x+1)).1 x (Nat.lt_succ_self _) h
theorem Jr:∀n,∀v:af,siz v<n->Fit B20 (.base .val) v->zU n v=some v
 | 0=>λv h=>absurd h (aml _)
 | n+1=>by
  have ih:=Jr n;intro x f h;rw[dQ]at h;obtain⟨c0,c1,c2,c3,c4,e,c⟩:=h;have d:=bW c4;have g:=bW e;have l6:=bW c;show MK (zU n) x=some x
  unfold MK;rw[bI (by omega),zA];refine yP (λ(s:List af) (i:Nat)=>((x.kind,x.n,x.step,x.text,x.list,x.columns,x.rows,0,0,0,[],[],[],[],x.kind,x.n,x.step,x.text,s,[]++x.columns,[],(i:Int)):Int×Int×Int×Str×(List af)×(List Str)×(List aB)×Int×Int×Int×Str×(List af)×(List Str)×(List aB)×Int×Int×Int×Str×(List af)×(List Str)×(List aB)×Int))
   x.list (some x) (λi y a b=>?_) ?_
  ·have hi:=(zC.1 a).1;simp only[dec_lt a,ac,aP,a,aC,zA,ih y (by have:=qE (zG a);have:=lG (v:=x);omega) (c4.dG y (zG a)),gd1 b hi d,Lp a (lN d)]
  ·simp only[Int.lt_irrefl,decide_false,aa];refine congrArg (λo=>Option.bind o _) (yP (λ(s:List aB) (i:Nat)=>((x.kind,x.n,x.step,x.text,x.list,x.columns,x.rows,0,0,0,[],[],[],[],x.kind,x.n,x.step,x.text,x.list,[]++x.columns,s,(i:Int)):Int×Int×Int×Str×(List af)×(List Str)×(List aB)×Int×Int×Int×Str×(List af)×(List Str)×(List aB)×Int×Int×Int×Str×(List af)×(List Str)×(List aB)×Int))
    x.rows (some x) (λi y a b=>?_) ?_)
   ·have hi:=(zC.1 a).1;simp only[dec_lt a,ac,aP,a,zA,Ry y (c.dG y (zG a)),gd1 b hi l6,Lp a (lN l6)]
   ·simp only[Int.lt_irrefl,decide_false,aa];cases x;rfl
theorem iG(x:af)(h:Fit B20 (.base .val) x):jY x=some x:=Jr (siz x+1) x (Nat.lt_succ_self _) h
def posOf(s:Str):Nat->List Str->Int
 | _,[]=>-1
 | i,x::r=>if x==s then i else posOf s (i+1) r
theorem qV(s:Str):∀(xs:List Str) (i:Nat),(posOf s i xs<0)↔xs.contains s=false
 | [],i=>by simp[posOf]
 | x::r,i=>by
  unfold posOf;by_cases h:x==s
  ·rw[if_pos h];have e:x=s:=by simpa using h
   subst e;constructor
   ·intro h;omega
   ·intro h;simp at h
  ·rw[if_neg h,qV s r (i+1)];have e:¬x=s:=by simpa using h
   have a:¬s=x:=λh=>e h.symm
   simp[a]
theorem uH(xs:List Str)(s:Str)(d:xs.length<=34359738368):wV xs s=some (posOf s 0 xs):=by
 unfold wV;have key:∀(ys:List Str) (i:Nat),O7 (λ(x:Str) i (_:Unit)=>if x==s then some (.inr (i:Int))else some (.inl ())) (λ_=>some (-1)) ys i ()=some (posOf s i ys):=by
  intro ys;induction ys with
  | nil=>intro i;rfl
  | cons y r ih=>
   intro i;unfold O7 posOf;by_cases h:y==s
   ·simp[h]
   ·simp only[h,if_false,aM];exact ih (i+1)
 rw[<- key xs 0];refine BP (λ(_:Unit) i=>(s,xs,(xs.length:Int),(i:Int))) xs _ _ ?_ ?_ ()
 ·intro i x u a;have hi:i<xs.length:=(zC.1 a).1;have b:w64 ((i:Int)+1)=((i+1:Nat):Int):=by rw[bQ (by omega) (by omega)];rfl
  simp only[aP,a,zA,b];have c:decide ((i:Int)<(xs.length:Int))=true:=by simp;omega
  rw[c];simp only[ac];by_cases h:x==s
  ·simp[h]
  ·simp[h]
 ·intro u;simp
def agf(i:Nat)(c:UInt8):Bool:=decide (97<=c.toNat/\c.toNat<=122)||(decide (i≠0)&&decide (48<=c.toNat/\c.toNat<=57))
def mX:Nat->Str->Bool
 | _,[]=>true
 | i,c::r=>agf i c&&mX (i+1) r
theorem Jb(fin:Bool):∀(xs:Str) (i:Nat),O7 (λ(c:UInt8) i (_:Unit)=>if agf i c=true then some (.inl ())else some (.inr false)) (λ_=>some fin) xs i ()=some (mX i xs&&fin)
 | [],i=>by simp[O7,mX]
 | c::r,i=>by
  unfold O7 mX;cases h:agf i c with
  | true=>simp only[if_true];rw[Jb fin r (i+1)];simp
  | false=>simp
theorem oG(a b c:Int):jC a b c=some (decide (b<=a)&&decide (a<=c)):=by
 unfold jC;cases decide (b<=a)<;>simp
theorem Py(i:Nat)(c:UInt8):agf i c=if 97<=c.toNat/\c.toNat<=122 then true else if i=0 then false else if 48<=c.toNat/\c.toNat<=57 then true else false:=by
 unfold agf;by_cases a:97<=c.toNat/\c.toNat<=122
 ·simp[a]
 ·by_cases b:i=0
  ·simp[a,b]
  ·by_cases d:48<=c.toNat/\c.toNat<=57<;>simp[a,b,d]
theorem Eo(a:Str)(q:a.length<=34359738368):KY a=some (mX 0 a&&(decide (1<=(a.length:Int))&&decide ((a.length:Int)<=8))):=by
 rw[<- Jb _ a 0];unfold KY;refine BP (λ(_:Unit) i=>(a,(i:Int))) a _ _ ?_ ?_ ()
 ·intro i c u hc;have hi:i<a.length:=(zC.1 hc).1;have b:w64 ((i:Int)+1)=((i+1:Nat):Int):=by rw[bQ (by omega) (by omega)];rfl
  have d:decide ((i:Int)<(a.length:Int))=true:=by simp;omega
  have e:((i:Int)==0)=decide (i=0):=by by_cases h:i=0<;>simp[h]
  simp only[aP,hc,zA,b,d,e,ac,Py];have f:decide ((c.toNat:Int)>=97)=decide (97<=c.toNat):=decide_eq_decide.2 (by omega);have g:decide ((c.toNat:Int)<=122)=decide (c.toNat<=122):=decide_eq_decide.2 (by omega);have j:decide ((c.toNat:Int)<48) = !decide (48<=c.toNat):=by by_cases h:48<=c.toNat<;>simp[h]<;>omega
  have k:decide ((c.toNat:Int)>57) = !decide (c.toNat<=57):=by by_cases h:c.toNat<=57<;>simp[h]<;>omega
  rw[f,g,j,k];by_cases l:97<=c.toNat<;>by_cases m:c.toNat<=122<;>by_cases n:i=0<;>by_cases o:48<=c.toNat<;>by_cases p:c.toNat<=57<;>simp[l,m,n,o,p]
 ·intro u;simp[oG]
theorem WE(a:Str)(q:a.length<=34359738368):EZ a=some (mX 0 a&&decide ((a.length:Int)>0)):=by
 rw[<- Jb _ a 0];unfold EZ;refine BP (λ(_:Unit) i=>(a,(i:Int))) a _ _ ?_ ?_ ()
 ·intro i c u hc;have hi:i<a.length:=(zC.1 hc).1;have b:w64 ((i:Int)+1)=((i+1:Nat):Int):=by rw[bQ (by omega) (by omega)];rfl
  have d:decide ((i:Int)<(a.length:Int))=true:=by simp;omega
  have e:((i:Int)==0)=decide (i=0):=by by_cases h:i=0<;>simp[h]
  simp only[aP,hc,zA,b,d,e,ac,Py];have f:decide ((c.toNat:Int)>=97)=decide (97<=c.toNat):=decide_eq_decide.2 (by omega);have g:decide ((c.toNat:Int)<=122)=decide (c.toNat<=122):=decide_eq_decide.2 (by omega);have j:decide ((c.toNat:Int)>=48)=decide (48<=c.toNat):=decide_eq_decide.2 (by omega);have k:decide ((c.toNat:Int)<=57)=decide (c.toNat<=57):=decide_eq_decide.2 (by omega);rw[f,g,j,k];by_cases l:97<=c.toNat<;>by_cases m:c.toNat<=122<;>by_cases n:i=0<;>by_cases o:48<=c.toNat<;>by_cases p:c.toNat<=57<;>simp[l,m,n,o,p]<;>omega
 ·intro u;simp
theorem HY(xs:List Str)(s:Str)(d:xs.length<=34359738368):DL xs s=some (xs.contains s):=by
 have key:∀(ys:List Str) (i:Nat),O7 (λ(x:Str) i (_:Unit)=>if x==s then some (.inr true)else some (.inl ())) (λ_=>some false) ys i ()=some (ys.contains s):=by
  intro ys;induction ys with
  | nil=>intro i;rfl
  | cons y r ih=>
   intro i;unfold O7;by_cases h:y==s
   ·have e:y=s:=by simpa using h
    subst e;simp
   ·simp only[h,if_false,aM];rw[ih (i+1)];have e:¬s=y:=λe=>h (by simp[e])
    simp[e]
 rw[<- key xs 0];unfold DL;refine BP (λ(_:Unit) i=>(xs,s,(i:Int))) xs _ _ ?_ ?_ ()
 ·intro i x u a;have hi:i<xs.length:=(zC.1 a).1;have b:w64 ((i:Int)+1)=((i+1:Nat):Int):=by rw[bQ (by omega) (by omega)];rfl
  have c:decide ((i:Int)<(xs.length:Int))=true:=by simp;omega
  simp only[aP,a,zA,b,c,ac];by_cases h:x==s<;>simp[h]
 ·intro u;simp
theorem Ns(a:Str):qc a=pG a:=by
 unfold pG uh;simp only[zA];rw[HY _ _ (by decide)];simp only[zA];by_cases h:a∈([[108,101,116],[105,110],[105,102],[116,104,101,110],[101,108,115,101],[102,111,114],[100,111],[108,101,110],[115,117,109],[116,97,107,101],[115,107,105,112],[114,97,110,103,101],[110,116,104],[119,104,101,114,101],[107,101,101,112],[97,100,100],[103,114,111,117,112],[106,111,105,110],[99,111,108,117,109,110],[114,111,119,115],[99,108,111,99,107],[99,104,97,110,99,101],[102,105,108,101],[116,97,98,108,101]]:List Str)
 ·simp only[bh,List.not_mem_nil,or_false]at h;rcases h with rfl | rfl | rfl | rfl | rfl | rfl | rfl | rfl | rfl | rfl | rfl | rfl | rfl | rfl | rfl | rfl | rfl | rfl | rfl | rfl | rfl | rfl | rfl | rfl<;>rfl
 ·have hc:([[108,101,116],[105,110],[105,102],[116,104,101,110],[101,108,115,101],[102,111,114],[100,111],[108,101,110],[115,117,109],[116,97,107,101],[115,107,105,112],[114,97,110,103,101],[110,116,104],[119,104,101,114,101],[107,101,101,112],[97,100,100],[103,114,111,117,112],[106,111,105,110],[99,111,108,117,109,110],[114,111,119,115],[99,108,111,99,107],[99,104,97,110,99,101],[102,105,108,101],[116,97,98,108,101]]:List Str).contains a=false:=by
   rw[Bool.eq_false_iff];intro hh;exact h (by simpa using hh)
  rw[hc];simp only[bh,List.not_mem_nil,or_false,not_or]at h;unfold qc dU;simp[Bool.cond_eq_ite,h]
theorem pq(a:Str)(b:a.length<=34359738368):dK a=bP a:=by
 unfold dK bP;rw[Eo a b,WE a b,Ns];simp only[zA];cases mX 0 a with
 | false=>simp
 | true=>
  by_cases c:a.length=0
  ·simp[c]
  ·have d:decide (1<=(a.length:Int))=true:=by simp;omega
   have e:decide ((a.length:Int)>0)=true:=by simp;omega
   rw[d,e];simp only[amy,ac]
theorem TI(a:Str)(b:a.length<=34359738368):∃v,dK a=some v:=by
 unfold dK;rw[Eo a b,Ns];unfold pG uh;simp only[zA];rw[HY _ _ (by decide)];simp only[zA];cases (mX 0 a&&(decide (1<=(a.length:Int))&&decide ((a.length:Int)<=8)))with
 | false=>exact⟨_,rfl⟩
 | true=>exact⟨_,rfl⟩
theorem dD{α:Type}{xs:List α}{i:Nat}{x:α}(h:xs[i]?=some x):decide ((i:Int)<(xs.length:Int))=true:=by
 have:=(zC.1 h).1;simp;omega
theorem bM{α:Type}(xs:List α):decide ((xs.length:Int)<(xs.length:Int))=false:=by simp
theorem dY{α:Type}{xs:List α}{i:Nat}{x:α}(h:xs[i]?=some x)(a:(xs.length:Int)<=1048576):w64 ((i:Int)+1)=((i+1:Nat):Int):=by
 have:=(zC.1 h).1;rw[bQ (by omega) (by omega)];rfl
def jP{α:Type}(p:Nat->α->Bool):Nat->List α->Bool
 | _,[]=>true
 | i,x::r=>p i x&&jP p (i+1) r
theorem jq{α:Type}(p:α->Bool):∀(xs:List α) (i:Nat),jP (λ_ x=>p x) i xs=xs.all p
 | [],_=>rfl
 | x::r,i=>by show (p x&&jP (λ_ x=>p x) (i+1) r)=(p x&&r.all p);rw[jq p r]
theorem nU{α X ρ:Type}{g:X->Option (X⊕ρ)}(pk:Nat->X)(xs:List α)(p:Nat->α->Bool)(no yes:ρ)
  (d:∀i x,xs[i]?=some x->g (pk i)=bif p i x then some (.inl (pk (i+1)))else some (.inr no))
  (hf:g (pk xs.length)=some (.inr yes)):aN g (pk 0)=some (bif jP p 0 xs then yes else no):=by
 have key:∀(ys:List α) (i:Nat),xs.drop i=ys->i<=xs.length->aN g (pk i)=some (bif jP p i ys then yes else no):=by
  intro ys;induction ys with
  | nil=>
   intro i a hi;have e:xs.length<=i:=List.drop_eq_nil_iff.1 a;have:i=xs.length:=by omega
   subst this;rw[aX,hf];rfl
  | cons y r ih=>
   intro i a hi;have c:xs[i]?=some y:=by
    have:=congrArg (·[0]?) a;simpa using this
   have b:=(zC.1 c).1;rw[aX,d i y c];show _=some (bif (p i y&&jP p (i+1) r)then yes else no)
   cases p i y with
   | true=>
    simp only[ac,amy];refine ih (i+1) ?_ b;have:=congrArg List.tail a;simpa using this
   | false=>rfl
 exact key xs 0 rfl (Nat.zero_le _)
theorem pos_at(s:Str):∀(xs:List Str) (i k:Nat),xs[i]?=some s->(posOf s k xs==((k+i:Nat):Int)) = !((xs.take i).contains s)
 | [],i,k,h=>by simp at h
 | x::r,i,k,h=>by
  unfold posOf;cases i with
  | zero=>
   simp at h;subst h;simp
  | succ i=>
   have h:r[i]?=some s:=by simpa using h
   by_cases a:x==s
   ·rw[if_pos a];have e:x=s:=by simpa using a
    subst e;have:((k:Int)==((k+(i+1):Nat):Int))=false:=by simp;omega
    rw[this];simp
   ·rw[if_neg a];have:=pos_at s r i (k+1) h;rw[show k+(i+1)=k+1+i by omega,this];have e:¬x=s:=by simpa using a
    have b:¬s=x:=λh=>e h.symm
    simp[b]
theorem adT{s:Str}(h:Fit B20 (.base .str) s):(s.length:Int)<=1048576:=aaP (h _ (List.mem_singleton.2 rfl))
theorem Yv(b:Bool):(bif b then true else false)=b:=by cases b<;>rfl
theorem PG(a b:Bool):(bif a then b else false)=(a&&b):=by cases a<;>rfl
noncomputable def nmB(s:Str):Bool:=(dK s).getD false
theorem OJ(s:Str)(h:(s.length:Int)<=1048576):dK s=some (nmB s):=by
 obtain⟨v,hv⟩:=TI s (by omega);unfold nmB;rw[hv];rfl
theorem MC(s:Str)(h:(s.length:Int)<=1048576):bP s=some (nmB s):=(pq s (by omega)).symm.trans (OJ s h)
def txB(s:Str):Bool:=(s.all λc=>(!decide ((c.toNat:Int)<32)&&!decide ((c.toNat:Int)>126))&&!((c.toNat:Int)==34))&&decide ((s.length:Int)<=20)
theorem XG(s:Str)(h:(s.length:Int)<=1048576):kZ s=some (txB s):=by
 unfold kZ;refine (nU (λi=>((s,(i:Int)):Str×Int)) s (λ_ c=>(!decide ((c.toNat:Int)<32)&&!decide ((c.toNat:Int)>126))&&!((c.toNat:Int)==34)) false (decide ((s.length:Int)<=20)) (λi c hc=>?_) ?_).trans ?_
 ·simp only[dD hc,ac,aP,hc,zA,dY hc h];cases decide ((c.toNat:Int)<32)<;>cases decide ((c.toNat:Int)>126)<;>cases ((c.toNat:Int)==34)<;>rfl
 ·simp only[bM,aa]
 ·rw[jq,PG];rfl
theorem EP(s:Str)(h:(s.length:Int)<=1048576):gZ s=some (txB s):=XG s h
theorem Ym{α:Type}(a:List α)(k:Nat)(h:k<=a.length):eff.cutL a none (some (k:Int))=some (a.take k):=by
 unfold eff.cutL;simp only[Option.getD_none,Option.getD_some];rw[if_pos]
 ·simp
 ·omega
def dsB(xs:List Str):Bool:=jP (λi x=>!((xs.take i).contains x)) 0 xs
theorem aag(xs:List Str)(b:(xs.length:Int)<=1048576):lg xs=some (dsB xs):=by
 unfold lg;refine (nU (λi=>((xs,xs,(xs.length:Int),(i:Int)):(List Str)×(List Str)×Int×Int)) xs (λi x=>!((xs.take i).contains x)) false true (λi x a=>?_) ?_).trans (congrArg some (Yv _))
 ·have hp:=pos_at x xs i 0 a;rw[amw]at hp;simp only[dD a,ac,aP,a,zA,uH xs x (by omega),bne,hp,dY a b];cases (xs.take i).contains x<;>rfl
 ·simp only[bM,aa]
theorem Zo(xs:List Str)(b:(xs.length:Int)<=1048576):kV xs=some (dsB xs):=by
 unfold kV;refine (nU (λi=>((xs,(i:Int)):(List Str)×Int)) xs (λi x=>!((xs.take i).contains x)) false true (λi x a=>?_) ?_).trans (congrArg some (Yv _))
 ·have hi:=(zC.1 a).1;simp only[dD a,ac,aP,a,zA,Ym xs i (by omega),HY (xs.take i) x (by rw[bc];omega),dY a b];cases (xs.take i).contains x<;>rfl
 ·simp only[bM,aa]
noncomputable def clB(xs:List Str):Bool:=xs.all nmB&&((decide (1<=(xs.length:Int))&&decide ((xs.length:Int)<=4))&&dsB xs)
theorem afQ(xs:List Str)(h:cu B20 (.list (.base .str) xs)):qf xs=some (clB xs):=by
 have b:=bW h;unfold qf;refine (nU (λi=>((xs,xs,(xs.length:Int),(i:Int)):(List Str)×(List Str)×Int×Int)) xs (λ_ x=>nmB x) false ((decide (1<=(xs.length:Int))&&decide ((xs.length:Int)<=4))&&dsB xs) (λi x a=>?_) ?_).trans ?_
 ·simp only[dD a,ac,aP,a,zA,OJ x (adT (h.dG x (zG a))),dY a b];cases nmB x<;>rfl
 ·simp only[bM,aa,oG,zA,aag xs b];cases (decide (1<=(xs.length:Int))&&decide ((xs.length:Int)<=4))<;>rfl
 ·rw[jq,PG];rfl
theorem aes(xs:List Str)(h:cu B20 (.list (.base .str) xs)):rE xs=some (clB xs):=by
 have b:=bW h;unfold rE;refine (nU (λi=>((xs,(i:Int)):(List Str)×Int)) xs (λ_ x=>nmB x) false ((decide (1<=(xs.length:Int))&&decide ((xs.length:Int)<=4))&&dsB xs) (λi x a=>?_) ?_).trans ?_
 ·simp only[dD a,ac,aP,a,zA,MC x (adT (h.dG x (zG a))),dY a b];cases nmB x<;>rfl
 ·simp only[bM,aa,vV,zA,Zo xs b];cases (decide (1<=(xs.length:Int))&&decide ((xs.length:Int)<=4))<;>rfl
 ·rw[jq,PG];rfl
def nB(n:Int):Bool:=decide (-1000000000<=n)&&decide (n<=1000000000)
theorem IX(n:Int):fO n=some (nB n):=by
 unfold fO;rw[oG];rfl
theorem Dz(n:Int):iO n=some (nB n):=by
 unfold iO;rw[vV];rfl
def bfB(a b:aj):Bool:=decide (a.cell<b.cell)||((a.cell==b.cell)&&decide (a.row<b.row))
theorem ak4(a b:aj):o8 a b=some (bfB a b):=by
 unfold o8 bfB;cases decide (a.cell<b.cell)<;>cases (a.cell==b.cell)<;>rfl
theorem UG(a b:aj):jQ a b=some (bfB a b):=by
 unfold jQ bfB;cases decide (a.cell<b.cell)<;>cases (a.cell==b.cell)<;>rfl
def VT(xs:List aj)(i:Nat)(o:aj):Bool:=(!decide (o.cell<0)&&!decide (o.row<0))&&match i,xs[i-1]? with
 | 0,_=>true
 | _,some q=>bfB q o
 | _,none=>false
def PK(xs:List aj):Bool:=jP (VT xs) 0 xs
theorem up1(i:Nat)(h:(i:Int)+1<=1048576):w64 (((i+1:Nat):Int)-1)=(i:Int):=by rw[bQ (by omega) (by omega)];omega
theorem aha(xs:List aj)(b:(xs.length:Int)<=1048576):qF xs=some (PK xs):=by
 unfold qF;refine (nU (λi=>((xs,(i:Int)):(List aj)×Int)) xs (VT xs) false true (λi o a=>?_) ?_).trans (congrArg some (Yv _))
 ·have hi:=(zC.1 a).1;simp only[dD a,ac,aP,a,zA,dY a b];unfold VT;cases decide (o.cell<0)with
  | true=>rfl
  | false=>
   cases decide (o.row<0)with
   | true=>rfl
   | false=>
    cases i with
    | zero=>rfl
    | succ i=>
     have d:decide (((i+1:Nat):Int)>0)=true:=by simp
     obtain⟨q,c⟩:∃q,xs[i]?=some q:=⟨_,zF (by omega)⟩;rw[d,up1 i (by omega)];simp only[ac,aa,aP,c,zA,UG,Nat.add_sub_cancel];cases bfB q o<;>rfl
 ·simp only[bM,aa]
def rwB(w:Int)(r:aB):Bool:=((r.cells.length:Int)==w)&&(r.cells.all nB&&PK r.orig)
noncomputable def tbB(cols:List Str)(rows:List aB):Bool:=clB cols&&(decide ((rows.length:Int)<=12)&&rows.all (rwB (cols.length:Int)))
abbrev X4:=Int×Int×Int×Str×(List af)×(List Str)×(List aB)×(List Int)×(List aj)×(List aB)×Int×Int×(List Int)×Int×Int
abbrev X7:=Int×Int×Int×Str×(List af)×(List Str)×(List aB)×(List Int)×(List aj)×(List aB)×Int×Int×(List aj)×Int×Int
theorem ak1(v:af)(h:Fit B20 (.base .val) v):Gn v=some (tbB v.columns v.rows):=by
 obtain⟨kd,n,step,text,l,cols,rows⟩:=v;obtain⟨_,_,_,_,_,k,p⟩:=dQ.1 h;have s:=bW k;have e:=bW p;unfold Gn tbB;simp only[afQ cols k,zA];cases clB cols with
 | false=>rfl
 | true=>
  simp only[aR,aa,amy];by_cases a:(rows.length:Int)>12
  ·rw[aq a,ae (by omega)];rfl
  ·rw[ae a,aq (by omega)];simp only[aa,amy];refine (nU (λi=>((kd,n,step,text,l,cols,rows,rows,(rows.length:Int),(i:Int)):Int×Int×Int×Str×(List af)×(List Str)×(List aB)×(List aB)×Int×Int)) rows (λ_ r=>rwB (cols.length:Int) r) false true (λi r b=>?_) ?_).trans (by rw[jq,Yv])
   ·obtain⟨t,u⟩:=iq.1 (p.dG r (zG b));have w:=bW t;have x:=bW u;have f:=dY b e;simp only[dD b,ac,aP,b,zA,bne];unfold rwB;cases ((r.cells.length:Int)==(cols.length:Int))with
    | false=>rfl
    | true=>
     simp only[aR,aa,amy];refine (nU (λj=>((kd,n,step,text,l,cols,rows,r.cells,r.orig,rows,(rows.length:Int),(i:Int),r.cells,(r.cells.length:Int),(j:Int)):X4)) r.cells (λ_ m=>nB m) (Sum.inr false) (bif PK r.orig then Sum.inl (kd,n,step,text,l,cols,rows,rows,(rows.length:Int),((i+1:Nat):Int))else Sum.inr false) (λj m g=>?_) ?_).trans ?_
     ·simp only[dD g,ac,aP,g,zA,IX,dY g w];cases nB m<;>rfl
     ·simp only[bM,aa];refine congrArg (λo=>Option.bind o _) (nU (λj=>((kd,n,step,text,l,cols,rows,r.cells,r.orig,rows,(rows.length:Int),(i:Int),r.orig,(r.orig.length:Int),(j:Int)):X7)) r.orig (VT r.orig) (Sum.inr false) (Sum.inl (kd,n,step,text,l,cols,rows,rows,(rows.length:Int),((i+1:Nat):Int))) (λj o c=>?_) ?_)
      ·have z:=(zC.1 c).1;simp only[dD c,ac,aP,c,zA,dY c x];unfold VT;cases decide (o.cell<0)with
       | true=>rfl
       | false=>
        cases decide (o.row<0)with
        | true=>rfl
        | false=>
         cases j with
         | zero=>rfl
         | succ j=>
          have d:decide (((j+1:Nat):Int)>0)=true:=by simp
          obtain⟨q,y⟩:∃q,r.orig[j]?=some q:=⟨_,zF (by omega)⟩;rw[d,up1 j (by omega)];simp only[ac,aa,aP,y,zA,ak4,Nat.add_sub_cancel];cases bfB q o<;>rfl
      ·simp only[bM,aa,f]
     ·rw[jq];unfold PK;cases r.cells.all nB<;>cases jP (VT r.orig) 0 r.orig<;>rfl
   ·simp only[bM,aa]
theorem akB(v:af)(h:Fit B20 (.base .val) v):zN v=some (tbB v.columns v.rows):=by
 obtain⟨kd,n,step,text,l,cols,rows⟩:=v;obtain⟨_,_,_,_,_,f,g⟩:=dQ.1 h;have k:=bW f;have c:=bW g;unfold zN tbB;simp only[aes cols f,zA];cases clB cols with
 | false=>rfl
 | true=>
  simp only[aR,aa,amy];by_cases a:(rows.length:Int)>12
  ·rw[aq a,ae (by omega)];rfl
  ·rw[ae a,aq (by omega)];simp only[aa,amy];refine (nU (λi=>((kd,n,step,text,l,cols,rows,(i:Int)):Int×Int×Int×Str×(List af)×(List Str)×(List aB)×Int)) rows (λ_ r=>rwB (cols.length:Int) r) false true (λi r b=>?_) ?_).trans (by rw[jq,Yv])
   ·obtain⟨o,p⟩:=iq.1 (g.dG r (zG b));have q:=bW o;have s:=bW p;have d:=dY b c;simp only[dD b,ac,aP,b,zA,aha _ s,bne];unfold rwB;cases ((r.cells.length:Int)==(cols.length:Int))with
    | false=>rfl
    | true=>
     simp only[aR,aa,amy];cases PK r.orig with
     | false=>simp only[Bool.not_false,ac,Bool.and_false];rfl
     | true=>
      simp only[aR,aa,Bool.and_true];refine (nU (λj=>((kd,n,step,text,l,cols,rows,(i:Int),r.cells,r.orig,(j:Int)):Int×Int×Int×Str×(List af)×(List Str)×(List aB)×Int×(List Int)×(List aj)×Int)) r.cells (λ_ m=>nB m) (Sum.inr false) (Sum.inl (kd,n,step,text,l,cols,rows,((i+1:Nat):Int))) (λj m e=>?_) ?_).trans ?_
      ·simp only[dD e,ac,aP,e,zA,Dz,dY e q];cases nB m<;>rfl
      ·simp only[bM,aa,d]
      ·rw[jq];cases r.cells.all nB<;>rfl
   ·simp only[bM,aa]
mutual
def dep:af->Int
 | ⟨_,_,_,_,l,_,_⟩=>w64 (oL l 0+1)
def oL:List af->Int->Int
 | [],s=>s
 | x::r,s=>oL r (if dep x>s then dep x else s)
end
theorem Ey:∀(l:List af) (s:Int),oL l s=l.foldl (λs x=>if dep x>s then dep x else s) s
 | [],s=>by simp[oL]
 | x::r,s=>by simp only[oL,List.foldl_cons];exact Ey r _
theorem Bh(v:af):dep v=w64 (oL v.list 0+1):=by cases v;simp only[dep]
theorem XR:∀(n:Nat) (v:af),siz v<n->Fit B20 (.base .val) v->wX n v=some (dep v)
 | 0,v,h,_=>absurd h (aml _)
 | n+1,v,c,h=>by
  have ih:=XR n;obtain⟨_,_,_,_,c4,_,_⟩:=dQ.1 h;have b:=bW c4;show I4 (wX n) v=_
  unfold I4;rw[Bh,Ey];refine N9 (λ(s:Int) i=>((s,v.list,(v.list.length:Int),(i:Int)):Int×(List af)×Int×Int)) v.list (λs x=>if dep x>s then dep x else s) (λs=>w64 (s+1)) (λi x s a=>?_) (λs=>?_) 0
  ·simp only[dD a,ac,aP,a,zA,aC,ih x (by have:=qE (zG a);have:=lG (v:=v);omega) (c4.dG x (zG a)),dY a b]
  ·simp only[bM,aa]
theorem abm(v:af)(h:Fit B20 (.base .val) v):Gs v=some (dep v):=XR _ v (Nat.lt_succ_self _) h
theorem ag3(a b:Int):DK a b=some (if b>a then b else a):=by
 unfold DK;by_cases c:a>b
 ·rw[aq c,if_neg (by omega)];rfl
 ·rw[ae c,aa];by_cases d:b>a
  ·rw[if_pos d]
  ·rw[if_neg d];congr 1;omega
theorem WS:∀(n:Nat) (v:af),siz v<n->Fit B20 (.base .val) v->wE n v=some (dep v)
 | 0,v,h,_=>absurd h (aml _)
 | n+1,v,c,h=>by
  have ih:=WS n;obtain⟨_,_,_,_,c4,_,_⟩:=dQ.1 h;have b:=bW c4;show Ij (wE n) v=_
  unfold Ij;rw[Bh,Ey];refine N9 (λ(s:Int) i=>((v.kind,v.n,v.step,v.text,v.list,v.columns,v.rows,s,(i:Int)):Int×Int×Int×Str×(List af)×(List Str)×(List aB)×Int×Int)) v.list (λs x=>if dep x>s then dep x else s) (λs=>w64 (s+1)) (λi x s a=>?_) (λs=>?_) 0
  ·simp only[dD a,ac,aP,a,zA,aC,ih x (by have:=qE (zG a);have:=lG (v:=v);omega) (c4.dG x (zG a)),ag3,dY a b]
  ·simp only[bM,aa]
theorem aaV(v:af)(h:Fit B20 (.base .val) v):Fq v=some (dep v):=WS _ v (Nat.lt_succ_self _) h
