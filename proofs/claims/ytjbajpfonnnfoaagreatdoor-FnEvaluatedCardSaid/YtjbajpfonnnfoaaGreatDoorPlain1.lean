import Derived.Test.YtjbajpfonnnfoaaGreatDoorModels
import Derived.Test.YtjbajpfonnnfoaaGreatDoorS4
import Derived.Test.YtjbajpfonnnfoaaGreatDoorLink1
set_option linter.unusedSimpArgs false
set_option linter.unusedVariables false
/- Plain laws of the evaluator's loops over lists. -/
namespace Go.Proofs.YtjbajpfonnnfoaaGreatDoor
open Go.Abs Go.Proofs
theorem bQ{n:Int}(a:-9223372036854775808<=n)(b:n<9223372036854775808):w64 n=n:=by
 simp only[w64,IntKind.wrap,IntKind.bits,IntKind.signed];simp;omega
theorem aQ{α:Type}(xs:List α)(i:Nat):idx xs (i:Int)=xs[i]?:=by
 simp[idx]
def OQ{α σ ρ:Type}(f:α->Nat->σ->Option (σ⊕ρ))(fin:σ->Option ρ):List α->Nat->σ->Option ρ
 | [],_,s=>fin s
 | x::r,i,s=>match f x i s with
  | none=>none
  | some (.inl s')=>OQ f fin r (i+1) s'
  | some (.inr r)=>some r
theorem Bz{α σ ρ X:Type}{g:X->Option (X⊕ρ)}(pk:σ->Nat->X)(xs:List α)(f:α->Nat->σ->Option (σ⊕ρ))(fin:σ->Option ρ)
  (b:∀i x s,xs[i]?=some x->g (pk s i)=match f x i s with
   | none=>none
   | some (.inl s')=>some (.inl (pk s' (i+1)))
   | some (.inr r)=>some (.inr r))
  (c:∀s,g (pk s xs.length)=(fin s).bind λr=>some (.inr r)) (s:σ):aO g (pk s 0)=OQ f fin xs 0 s:=by
 have key:∀(n i:Nat) (s:σ),xs.length=i+n->aO g (pk s i)=OQ f fin (xs.drop i) i s:=by
  intro n;induction n with
  | zero=>
   intro i s d;rw[List.drop_eq_nil_of_le (by omega)];rw[aX];have:i=xs.length:=by omega
   subst this;rw[c];show _=fin s
   cases fin s<;>rfl
  | succ n ih=>
   intro i s d;have a:i<xs.length:=by omega
   rw[List.drop_eq_getElem_cons a,aX,b i xs[i] s (zF a)];simp only[OQ];cases f xs[i] i s with
   | none=>rfl
   | some y=>cases y with
    | inl s'=>exact ih (i+1) s' (by omega)
    | inr r=>rfl
 simpa using key xs.length 0 s (by omega)
end Go.Proofs.YtjbajpfonnnfoaaGreatDoor
/- Plain laws of sizes, copies and equality, for every type of data. -/
namespace Go.Abs
theorem bZ.ajH{L:Nat}{s:Str}(h:bZ L (.str s)):s.length<=L:=by
 generalize a:D.str s=d at h;cases h<;>cases a
 assumption
theorem bZ.wf{L:Nat}{k:IntKind}{n:Int}(h:bZ L (.int k n)):(Lit.int k n).wf=true:=by
 generalize a:D.int k n=d at h;cases h<;>cases a
 assumption
theorem bZ.ag1{L:Nat}{t:Ty}{xs:List t.den}(h:bZ L (.list t xs)):xs.length<=L:=by
 generalize a:D.list t xs=d at h;cases h<;>cases a
 assumption
def Fit(L:Nat)(t:Ty)(x:t.den):Prop:=∀d,d∈t.cells x->bZ L d
theorem bZ.dB{L:Nat}{t:Ty}{xs:List t.den}(h:bZ L (.list t xs)):∀x,x∈xs->Fit L t x:=by
 generalize b:D.list t xs=d at h;cases h<;>cases b
 rename_i c;intro x e d a;obtain⟨i,f⟩:=List.mem_iff_getElem?.1 e;obtain⟨j,g⟩:=List.mem_iff_getElem?.1 a;exact c i x j d f g
theorem bZ.aj9{L:Nat}{t:Ty}{xs:List t.den}(h:xs.length<=L)(a:∀x,x∈xs->Fit L t x):bZ L (.list t xs):=
 .list t xs h λ_ x _ d b c=>a x (zG b) d (zG c)
end Go.Abs
namespace Go.Proofs.YtjbajpfonnnfoaaGreatDoor
open Go.Abs Go.Proofs
abbrev B47:Nat:=140737488351232
abbrev B20:Nat:=1048576
theorem bT{t:Ty}{xs:List t.den}(h:bZ B20 (.list t xs)):(xs.length:Int)<=1048576:=by
 have a:xs.length<=1048576:=h.ag1;omega
theorem aat{s:Str}(h:bZ B20 (.str s)):(s.length:Int)<=1048576:=by
 have a:s.length<=1048576:=h.ajH;omega
theorem Fz{s:Str}(h:(s.length:Int)<=1048576):bZ B20 (.str s):=.str s (by show s.length<=1048576;omega)
theorem dh{t:Ty}{xs:List t.den}(h:(xs.length:Int)<=1048576)(a:∀x,x∈xs->Fit B20 t x):bZ B20 (.list t xs):=.aj9 (by show xs.length<=1048576;omega) a
theorem lC{v:af}:siz v.list<siz v:=by
 cases v;simp only[siz];rw[af.mk.sizeOf_spec];omega
theorem qI{α:Type}[SizeOf α]{x:α}{xs:List α}(h:x∈xs):siz x<siz xs:=List.sizeOf_lt_of_mem h
theorem Ed{L:Nat}{x:aj}:Fit L (.base .origin) x↔bZ L (.int .i64 x.cell)/\bZ L (.int .i64 x.row):=by
 simp only[Fit,Ty.cells,Base.cells,ba,List.not_mem_nil,or_false,forall_eq_or_imp,forall_eq]
theorem iy{L:Nat}{x:aB}:Fit L (.base .row) x↔bZ L (.list (.base .int) x.cells)/\bZ L (.list (.base .origin) x.orig):=by
 simp only[Fit,Ty.cells,Base.cells,ba,List.not_mem_nil,or_false,forall_eq_or_imp,forall_eq]
theorem dK{L:Nat}{x:af}:Fit L (.base .val) x↔bZ L (.int .i64 x.kind)/\bZ L (.int .i64 x.n)/\bZ L (.int .i64 x.step)/\bZ L (.str x.text)/\bZ L (.list (.base .val) x.list)/\bZ L (.list (.base .str) x.columns)/\bZ L (.list (.base .row) x.rows):=by
 simp only[Fit,Ty.cells,Base.cells,ba,List.not_mem_nil,or_false,forall_eq_or_imp,forall_eq]
theorem AA{L:Nat}{x:aG}:Fit L (.base .read) x↔bZ L (.int .i64 x.kind)/\bZ L (.int .i64 x.n)/\bZ L (.int .i64 x.time)/\bZ L (.str x.text)/\Fit L (.base .val) x.result:=by
 simp only[Fit,Ty.cells,Base.cells,ba,List.not_mem_nil,or_false,forall_eq_or_imp,forall_eq,and_assoc]
theorem XK{L:Nat}{x:nS}:Fit L (.base .tape) x↔bZ L (.int .i64 x.cell)/\bZ L (.int .i64 x.version)/\bZ L (.list (.base .read) x.reads):=by
 simp only[Fit,Ty.cells,Base.cells,ba,List.not_mem_nil,or_false,forall_eq_or_imp,forall_eq]
theorem F9{L:Nat}{x:iH}:Fit L (.base .notebook) x↔bZ L (.list (.base .cell) x.cells):=by
 simp only[Fit,Ty.cells,Base.cells,ba,List.not_mem_nil,or_false,forall_eq_or_imp,forall_eq]
theorem Gf{L:Nat}{x:jT}:Fit L (.base .document) x↔Fit L (.base .notebook) x.notebook/\bZ L (.list (.base .tape) x.tapes)/\bZ L (.list (.base .op) x.renames):=by
 simp only[Fit,Ty.cells,Base.cells,ba,List.not_mem_nil,or_false,forall_eq_or_imp,forall_eq,and_assoc]
abbrev lim:Nat:=4611686018427387904
theorem lI{n:Nat}(h:(n:Int)<=1048576):n<lim:=by
 show n<4611686018427387904
 omega
theorem jl{a b:Nat}(h:a<b):decide ((a:Int)<(b:Int))=true:=by simpa using h
theorem dQ{a:Nat}:decide ((a:Int)<(a:Int))=false:=by simp
theorem ji{i n:Nat}(h:i<n)(a:n<lim):w64 ((i:Int)+1)=((i+1:Nat):Int):=by
 have c:(i:Int)<(n:Int):=Int.ofNat_lt.2 h;have b:(n:Int)<4611686018427387904:=Int.ofNat_lt.2 a;rw[bQ (by omega) (by omega)];rfl
theorem NM{α σ ρ X:Type}{g:X->Option (X⊕ρ)}(pk:σ->Nat->X)(xs:List α)(f:σ->α->σ)(fin:σ->ρ)
  (b:∀i x s,xs[i]?=some x->g (pk s i)=some (.inl (pk (f s x) (i+1))))
  (c:∀s,g (pk s xs.length)=some (.inr (fin s))) (s:σ):aO g (pk s 0)=some (fin (xs.foldl f s)):=by
 have key:∀(n i:Nat) (s:σ),xs.length=i+n->aO g (pk s i)=some (fin ((xs.drop i).foldl f s)):=by
  intro n;induction n with
  | zero=>
   intro i s d;rw[List.drop_eq_nil_of_le (by omega),aX];have:i=xs.length:=by omega
   subst this;rw[c];rfl
  | succ n ih=>
   intro i s d;have a:i<xs.length:=by omega
   rw[List.drop_eq_getElem_cons a,aX,b i xs[i] s (zF a)];exact ih (i+1) (f s xs[i]) (by omega)
 simpa using key xs.length 0 s (by omega)
theorem vK(a b c:Int):vM a b c=some (decide (b<=a)&&decide (a<=c)):=by
 unfold vM;show (bif decide (b<=a)then _ else _)=_
 cases decide (b<=a)<;>rfl
theorem dec_lt{α:Type}{xs:List α}{i:Nat}{x:α}(h:xs[i]?=some x):decide ((i:Int)<(xs.length:Int))=true:=by
 have:=(zC.1 h).1;simpa using this
theorem KZ{α:Type}{xs:List α}{i:Nat}{x:α}(h:xs[i]?=some x)(a:xs.length<4611686018427387904):w64 ((i:Int)+1)=((i+1:Nat):Int):=by
 have:=(zC.1 h).1;rw[bQ (by omega) (by omega)];omega
section eqs
noncomputable def eqd{α:Type}(a b:α):Bool:=@decide (a=b) (Classical.propDecidable _)
theorem ku{α:Type}{a b:α}:eqd a b=true↔a=b:=by unfold eqd;exact @decide_eq_true_iff _ (Classical.propDecidable _)
theorem gV{α:Type}{a b:α}(h:a=b):eqd a b=true:=ku.2 h
theorem iF{α:Type}{a b:α}(h:¬a=b):eqd a b=false:=by
 cases c:eqd a b with
 | false=>rfl
 | true=>exact absurd (ku.1 c) h
theorem OY{α:Type}(a:α):eqd a a=true:=gV rfl
theorem nO{α X ρ:Type}{g:X->Option (X⊕ρ)}(pk:Nat->X)(z:X)(d:pk 0=z)(xs ys:List α)(l:xs.length=ys.length)(no:ρ)(fin:Option ρ)
  (f:∀i x y,xs[i]?=some x->ys[i]?=some y->i<xs.length->g (pk i)=bif eqd x y then some (.inl (pk (i+1)))else some (.inr no))
  (j:g (pk xs.length)=fin.bind λr=>some (.inr r)):aO g z=bif eqd xs ys then fin else some no:=by
 have key:∀(n i:Nat),xs.length=i+n->aO g (pk i)=bif eqd (xs.drop i) (ys.drop i)then fin else some no:=by
  intro n;induction n with
  | zero=>
   intro i k;rw[List.drop_eq_nil_of_le (by omega),List.drop_eq_nil_of_le (by omega),aX];have:i=xs.length:=by omega
   subst this;rw[j,OY];cases fin<;>rfl
  | succ n ih=>
   intro i k;have b:i<xs.length:=by omega
   have a:i<ys.length:=by omega
   rw[List.drop_eq_getElem_cons b,List.drop_eq_getElem_cons a,aX,f i xs[i] ys[i] (zF b) (zF a) b];by_cases c:xs[i]=ys[i]
   ·rw[gV c];have e:eqd (xs[i]::xs.drop (i+1)) (ys[i]::ys.drop (i+1))=eqd (xs.drop (i+1)) (ys.drop (i+1)):=by
     rw[Bool.eq_iff_iff,ku,ku,c];exact⟨λh=>(List.cons.inj h).2,λh=>by rw[h]⟩
    rw[e];exact ih (i+1) (by omega)
   ·rw[iF c,iF (λh=>c (List.cons.inj h).1)];rfl
 rw[<- d];simpa using key xs.length 0 (by omega)
theorem qR{α ρ:Type}{xs ys:List α}{r:Option ρ}{no:ρ}{fin:Option ρ}(h:xs.length=ys.length->r=bif eqd xs ys then fin else some no) :
  (bif ((xs.length:Int) != (ys.length:Int))then some no else r)=bif eqd xs ys then fin else some no:=by
 by_cases a:xs.length=ys.length
 ·rw[h a,a];simp
 ·have:((xs.length:Int) != (ys.length:Int))=true:=by
   simp only[bne_iff_ne,ne_eq];omega
  rw[this,ab,iF (λe=>a (by rw[e]))];rfl
theorem lN(b:Bool):(bif b then some true else some false)=some b:=by cases b<;>rfl
theorem jF{α:Type}(b:Bool)(x y:α):(bif (!b)then x else y)=bif b then y else x:=by cases b<;>rfl
theorem uK{α:Type}[BEq α][LawfulBEq α](a b:α):(a==b)=eqd a b:=by
 rw[Bool.eq_iff_iff,ku];exact beq_iff_eq
theorem Gu{α:Type}[BEq α][LawfulBEq α](a b:α):(a != b) = !eqd a b:=by
 rw[<- uK];rfl
theorem Md(a b:List Int)(h:a.length<lim):Uh a b=some (eqd a b):=by
 rw[<- lN];refine qR λd=>nO (λi=>((a,b,(i:Int)):List Int×List Int×Int)) _ rfl a b d _ _ (λi x y e f c=>?_) ?_
 ·simp only[jl c,ab,aQ,e,f,zA,ji c h,Gu,jF]
 ·simp only[dQ,aa];rfl
theorem Xv(a b:List Int)(h:a.length<lim):Oh a b=some (eqd a b):=by
 rw[<- lN];refine qR λd=>nO (λi=>((a,b,(a.length:Int),(i:Int)):List Int×List Int×Int×Int)) _ rfl a b d _ _ (λi x y e f c=>?_) ?_
 ·simp only[jl c,ab,aQ,e,f,zA,ji c h,Gu,jF]
 ·simp only[dQ,aa];rfl
theorem Jd(a b:List Str)(h:a.length<lim):LY a b=some (eqd a b):=by
 rw[<- lN];refine qR λd=>nO (λi=>((a,b,(i:Int)):List Str×List Str×Int)) _ rfl a b d _ _ (λi x y e f c=>?_) ?_
 ·simp only[jl c,ab,aQ,e,f,zA,ji c h,uK,jF]
 ·simp only[dQ,aa];rfl
theorem Oe(a b:List Str)(h:a.length<lim):Ak a b=some (eqd a b):=by
 rw[<- lN];refine qR λd=>nO (λi=>((a,b,(a.length:Int),(i:Int)):List Str×List Str×Int×Int)) _ rfl a b d _ _ (λi x y e f c=>?_) ?_
 ·simp only[jl c,ab,aQ,e,f,zA,ji c h,uK,jF]
 ·simp only[dQ,aa];rfl
theorem Nv(x y:aj):((x.cell==y.cell)&&(x.row==y.row))=eqd x y:=by
 simp only[uK];rw[Bool.eq_iff_iff];simp only[ku,zI];cases x;cases y
 simp only[aj.mk.injEq]
theorem CJ(a b:List aj)(h:a.length<lim):Dl a b=some (eqd a b):=by
 rw[<- lN];refine qR λd=>nO (λi=>((a,b,(i:Int)):List aj×List aj×Int)) _ rfl a b d _ _ (λi x y e f c=>?_) ?_
 ·simp only[jl c,ab,aQ,e,f,zA,ji c h,Nv,jF]
 ·simp only[dQ,aa];rfl
theorem Og(a b:List aj)(h:a.length<lim):Am a b=some (eqd a b):=by
 rw[<- lN];refine qR λd=>nO (λi=>((a,b,(a.length:Int),(i:Int)):List aj×List aj×Int×Int)) _ rfl a b d _ _ (λi x y e f c=>?_) ?_
 ·simp only[jl c,ab,aQ,e,f,zA,ji c h,Nv,jF]
 ·simp only[dQ,aa];rfl
theorem agx(x y:aB):(bif eqd x.cells y.cells then eqd x.orig y.orig else false)=eqd x y:=by
 have e:eqd x y=(eqd x.cells y.cells&&eqd x.orig y.orig):=by
  rw[Bool.eq_iff_iff];simp only[ku,zI];cases x;cases y
  simp only[aB.mk.injEq]
 rw[e];cases eqd x.cells y.cells<;>rfl
theorem Je:∀(n:Nat) (a b:af),siz a<n->Fit B20 (.base .val) a->pz n a b true=some (eqd a b)
 | 0,a,b,h,_=>absurd h (Nat.not_lt_zero _)
 | n+1,a,b,z,r=>by
  have ih:=Je n;rw[dK]at r;obtain⟨_,_,_,_,c4,w,s⟩:=r;have m:=lI (bT c4);have o:=lI (bT s);show y9 (pz n) a b true=_
  unfold y9;rw[Jd _ _ (lI (bT w)),zA];simp only[Gu,uK,jF];have no:∀ {p:Prop},(a=b->p)->¬p->eqd a b=false:=λh hp=>iF λe=>hp (h e)
  by_cases d:a.kind=b.kind
  case neg=>rw[iF d,no (λh=>by rw[h]) d];rfl
  by_cases f:a.n=b.n
  case neg=>rw[gV d,iF f,no (λh=>by rw[h]) f];rfl
  by_cases g:a.step=b.step
  case neg=>rw[gV d,gV f,iF g,no (λh=>by rw[h]) g];rfl
  by_cases k:a.text=b.text
  case neg=>rw[gV d,gV f,gV g,iF k,no (λh=>by rw[h]) k];rfl
  rw[gV d,gV f,gV g,gV k];simp only[ab];by_cases l:a.columns=b.columns
  case neg=>
   rw[iF l,no (λh=>by rw[h]) l]
   cases eqd (a.list.length:Int) (b.list.length:Int)<;>rfl
  rw[gV l];simp only[ab];by_cases t:a.list.length=b.list.length
  case neg=>
   rw[iF (show ¬((a.list.length:Int)=(b.list.length:Int)) by omega),no (λh=>by rw[h]) t]
   rfl
  by_cases u:a.rows.length=b.rows.length
  case neg=>
   rw[iF (show ¬((a.rows.length:Int)=(b.rows.length:Int)) by omega),no (λh=>by rw[h]) u]
   cases eqd (a.list.length:Int) (b.list.length:Int)<;>rfl
  rw[gV (show (a.list.length:Int)=(b.list.length:Int) by omega),gV (show (a.rows.length:Int)=(b.rows.length:Int) by omega)];simp only[ab];rw[nO (λi:Nat=>(true,a.kind,a.n,a.step,a.text,a.list,a.columns,a.rows,b.kind,b.n,b.step,b.text,b.list,b.columns,b.rows,(i:Int))) (true,a.kind,a.n,a.step,a.text,a.list,a.columns,a.rows,b.kind,b.n,b.step,b.text,b.list,b.columns,b.rows,0) rfl a.list b.list t false (some (eqd a.rows b.rows)) (λi x y j q c=>by
   simp only[jl c,ab,aQ,j,q,zA,ji c m,aC,jF];rw[ih x y (by have:=qI (zG j);have:=lC (v:=a);omega) (c4.dB x (zG j)),zA]) (by
   simp only[dQ,aa];rw[nO (λi:Nat=>(true,a.kind,a.n,a.step,a.text,a.list,a.columns,a.rows,b.kind,b.n,b.step,b.text,b.list,b.columns,b.rows,(i:Int))) (true,a.kind,a.n,a.step,a.text,a.list,a.columns,a.rows,b.kind,b.n,b.step,b.text,b.list,b.columns,b.rows,0) rfl a.rows b.rows u false (some true) (λi x y j q c=>by
    have hf:=s.dB x (zG j);rw[iy]at hf;simp only[jl c,ab,aQ,j,q,zA,ji c o,Md _ _ (lI (bT hf.1)),CJ _ _ (lI (bT hf.2)),jF,<- agx x y];cases eqd x.cells y.cells<;>cases eqd x.orig y.orig<;>rfl) (by
    simp only[dQ,aa];rfl),lN])]
  have hval:eqd a b=(eqd a.list b.list&&eqd a.rows b.rows):=by
   rw[Bool.eq_iff_iff];simp only[ku,zI];constructor
   ·intro h;rw[h];exact⟨rfl,rfl⟩
   ·intro h;cases a;cases b
    simp only at d f g k l h;rw[d,f,g,k,l,h.1,h.2]
  rw[hval];cases eqd a.list b.list<;>rfl
theorem YM(a b:af)(c:Fit B20 (.base .val) a):EI a b true=some (eqd a b):=Je _ a b (by omega) c
theorem zS(a b:af)(c:Fit B20 (.base .val) a):pI a b=some (eqd a b):=by
 unfold pI;simp only[aC];rw[YM a b c,zA]
theorem ad3(x y:aG):eqd x y=(eqd x.kind y.kind&&(eqd x.n y.n&&(eqd x.time y.time&&(eqd x.text y.text&&eqd x.result y.result)))):=by
 rw[Bool.eq_iff_iff];simp only[ku,zI];cases x;cases y
 simp only[aG.mk.injEq]
theorem TK(x y:aG):vN x y=some (eqd x.kind y.kind&&(eqd x.n y.n&&(eqd x.text y.text&&eqd x.time y.time))):=by
 unfold vN;simp only[uK];cases eqd x.kind y.kind<;>cases eqd x.n y.n<;>cases eqd x.text y.text<;>rfl
theorem V5(a b:List aG)(d:bZ B20 (.list (.base .read) a)):LX a b=some (eqd a b):=by
 have h:=lI (bT d);rw[<- lN];refine qR λf=>nO (λi=>((a,b,(i:Int)):List aG×List aG×Int)) _ rfl a b f _ _ (λi x y e g c=>?_) ?_
 ·have hf:=d.dB x (zG e);rw[AA]at hf;simp only[jl c,ab,aQ,e,g,zA,ji c h,Bh,aC,TK,zS x.result y.result hf.2.2.2.2,jF,ad3];cases eqd x.kind y.kind<;>cases eqd x.n y.n<;>cases eqd x.text y.text<;>cases eqd x.time y.time<;>cases eqd x.result y.result<;>rfl
 ·simp only[dQ,aa];rfl
theorem afv(x y:AP):((x.id==y.id)&&((x.version==y.version)&&((x.kind==y.kind)&&((x.name==y.name)&&((x.code==y.code)&&(x.n==y.n))))))=eqd x y:=by
 simp only[uK];rw[Bool.eq_iff_iff];simp only[ku,zI];cases x;cases y
 simp only[AP.mk.injEq]
end eqs
theorem ZG{α:Type}{xs:List α}{n:Int}(b:0<=n)(c:n<xs.length):∃x,idx xs n=some x/\xs[n.toNat]?=some x:=by
 have a:n.toNat<xs.length:=by omega
 exact⟨xs[n.toNat],by unfold idx;rw[if_pos b];simp[a],by simp[a]⟩
theorem UU(a b:iH):eqd a b=eqd a.cells b.cells:=by
 rw[Bool.eq_iff_iff];simp only[ku];cases a;cases b
 simp only[iH.mk.injEq]
theorem ES(a b:iH)(h:a.cells.length<lim):rU a b=some (eqd a b):=by
 rw[UU,<- lN];refine qR λd=>nO (λi=>((a.cells,b.cells,(i:Int)):List AP×List AP×Int)) _ rfl a.cells b.cells d _ _ (λi x y e f c=>?_) ?_
 ·simp only[jl c,ab,aQ,e,f,zA,ji c h,afv,jF]
 ·simp only[dQ,aa];rfl
theorem adm(x y:nS):eqd x y=(eqd x.cell y.cell&&(eqd x.version y.version&&eqd x.reads y.reads)):=by
 rw[Bool.eq_iff_iff];simp only[ku,zI];cases x;cases y
 simp only[nS.mk.injEq]
theorem TY(a b:List nS)(d:bZ B20 (.list (.base .tape) a)):He a b=some (eqd a b):=by
 have h:=lI (bT d);rw[<- lN];refine qR λf=>nO (λi=>((a,b,(i:Int)):List nS×List nS×Int)) _ rfl a b f _ _ (λi x y e g c=>?_) ?_
 ·have hf:=d.dB x (zG e);rw[XK]at hf;simp only[jl c,ab,aQ,e,g,zA,ji c h,V5 _ _ hf.2.2,jF,adm,Gu];cases eqd x.cell y.cell<;>cases eqd x.version y.version<;>cases eqd x.reads y.reads<;>rfl
 ·simp only[dQ,aa];rfl
theorem ET(a b:jT)(h:Fit B20 (.base .document) a):ny a b=some (eqd a.notebook b.notebook&&eqd a.tapes b.tapes):=by
 rw[Gf,F9]at h;unfold ny;rw[ES _ _ (lI (bT h.1)),TY _ _ h.2.1];cases eqd a.notebook b.notebook<;>rfl
theorem sD{α σ ρ X:Type}{g:X->Option (X⊕ρ)}(pk:σ->Nat->X)(xs:List α)(f:σ->α->σ)(fin:σ->ρ)(I:Nat->σ->Prop)
  (d:∀i x s,xs[i]?=some x->I i s->I (i+1) (f s x))
  (e:∀i x s,xs[i]?=some x->I i s->g (pk s i)=some (.inl (pk (f s x) (i+1))))
  (h:∀s,I xs.length s->g (pk s xs.length)=some (.inr (fin s))) (s:σ) (j:I 0 s):aO g (pk s 0)=some (fin (xs.foldl f s))/\I xs.length (xs.foldl f s):=by
 have key:∀(n i:Nat) (s:σ),xs.length=i+n->I i s->aO g (pk s i)=some (fin ((xs.drop i).foldl f s))/\I xs.length ((xs.drop i).foldl f s):=by
  intro n;induction n with
  | zero=>
   intro i s k a;rw[List.drop_eq_nil_of_le (by omega),aX];have:i=xs.length:=by omega
   subst this;rw[h s a];exact⟨rfl,a⟩
  | succ n ih=>
   intro i s k a;have b:i<xs.length:=by omega
   have c:=zF b;rw[List.drop_eq_getElem_cons b,aX,e i xs[i] s c a];exact ih (i+1) (f s xs[i]) (by omega) (d i xs[i] s c a)
 simpa using key xs.length 0 s (by omega) j
theorem bK{n:Nat}(h:n<=34359738368):gd n=some ():=by unfold gd;rw[if_pos h]
theorem acQ{α:Type}(xs:List α)(n:Nat)(h:n<=xs.length):eff.cutL xs (some (n:Int)) none=some (xs.drop n):=by
 unfold eff.cutL;simp only[Option.getD_none,Option.getD_some];rw[if_pos ⟨by omega,by omega,by omega⟩];simp
theorem jP{α σ ρ X Y:Type}{c:X->Option (X⊕ρ)}{d:Y->Option (Y⊕ρ)}(a:σ->Nat->X)(b:σ->Nat->Y)(xs:List α)(I:Nat->σ->Prop)(R:ρ->Prop)
  (l:∀i x s,xs[i]?=some x->I i s->(∃s',c (a s i)=some (.inl (a s' (i+1)))/\d (b s i)=some (.inl (b s' (i+1)))/\I (i+1) s')\/∃r,c (a s i)=some (.inr r)/\d (b s i)=some (.inr r)/\R r)
  (m:∀s,I xs.length s->∃r,c (a s xs.length)=some (.inr r)/\d (b s xs.length)=some (.inr r)/\R r) (s:σ) (o:I 0 s) :
  ∃r,aO c (a s 0)=some r/\aO d (b s 0)=some r/\R r:=by
 have key:∀(n i:Nat) (s:σ),xs.length=i+n->I i s->∃r,aO c (a s i)=some r/\aO d (b s i)=some r/\R r:=by
  intro n;induction n with
  | zero=>
   intro i s p h;have:i=xs.length:=by omega
   subst this;obtain⟨r,e,f,g⟩:=m s h;refine⟨r,?_,?_,g⟩
   ·rw[aX,e]
   ·rw[aX,f]
  | succ n ih=>
   intro i s p h;have j:i<xs.length:=by omega
   rcases l i xs[i] s (zF j) h with ⟨s',e,f,k⟩ | ⟨r,e,f,g⟩
   ·obtain⟨r,q,t,g⟩:=ih (i+1) s' (by omega) k;refine⟨r,?_,?_,g⟩
    ·rw[aX,e];exact q
    ·rw[aX,f];exact t
   ·refine⟨r,?_,?_,g⟩
    ·rw[aX,e]
    ·rw[aX,f]
 exact key xs.length 0 s (by omega) o
theorem nU{n:Int}(h:(Lit.int .i64 n).wf=true):bZ B20 (.int .i64 n):=.int .i64 _ h
theorem dL{n:Int}(a:-1000000000<=n)(b:n<=1000000000):(Lit.int .i64 n).wf=true:=by
 unfold Lit.wf;simp[IntKind.bits,IntKind.signed,IntKind.min,IntKind.max];omega
theorem qm:bZ B20 (.str []):=Fz (by simp)
theorem aa5{X Y ρ:Type}{A B:Option ρ}{R:ρ->Prop}(h:∃r,A=some r/\B=some r/\R r) :
  ∃r,(A.bind λr=>some ((.inr r:X⊕ρ)))=some (.inr r)/\(B.bind λr=>some ((.inr r:Y⊕ρ)))=some (.inr r)/\R r:=by
 obtain⟨r,a,b,h⟩:=h;exact⟨r,by rw[a];rfl,by rw[b];rfl,h⟩
theorem take_snoc{α:Type}{xs:List α}{i:Nat}{x:α}(h:xs[i]?=some x):xs.take (i+1)=xs.take i++[x]:=by
 obtain⟨a,rfl⟩:=zC.1 h;exact List.take_succ_eq_append_getElem a
theorem yC{α X ρ:Type}{g:X->Option (X⊕ρ)}(pk:List α->Nat->X)(xs:List α)(fin:Option ρ)
  (c:∀i x,xs[i]?=some x->(xs.take i).length=i->g (pk (xs.take i) i)=some (.inl (pk (xs.take i++[x]) (i+1))))
  (d:g (pk xs xs.length)=fin.bind λr=>some (.inr r)):aO g (pk [] 0)=fin:=by
 have key:∀(n i:Nat),xs.length=i+n->aO g (pk (xs.take i) i)=fin:=by
  intro n;induction n with
  | zero=>
   intro i e;have:i=xs.length:=by omega
   subst this;rw[aX,List.take_length,d];cases fin<;>rfl
  | succ n ih=>
   intro i e;have a:i<xs.length:=by omega
   have b:=zF a;rw[aX,c i _ b (by simp;omega)];simp only;rw[<- take_snoc b];exact ih (i+1) (by omega)
 exact key xs.length 0 (by omega)
theorem gd1{α:Type}{s:List α}{i n:Nat}{x:α}(h:s.length=i)(a:i<n)(b:(n:Int)<=1048576):gd (s.length+[x].length)=some ():=bK (by simp;omega)
theorem Jq(x:aB)(h:Fit B20 (.base .row) x):Az x=some x:=by
 rw[iy]at h;have:=bT h.1;have:=bT h.2;unfold Az;rw[bK (by omega),zA,bK (by omega)];rfl
theorem QW(x:aB)(h:Fit B20 (.base .row) x):LZ x=some x:=by
 rw[iy]at h;have:=bT h.1;have:=bT h.2;unfold LZ;rw[bK (by omega),zA,bK (by omega)];rfl
theorem sO:∀n,(∀v:af,siz v<n->Fit B20 (.base .val) v->(fE n).1 v=some v)/\(∀xs:List af,siz xs<n->bZ B20 (.list (.base .val) xs)->(fE n).2 xs=some xs)
 | 0=>⟨λv h=>absurd h (Nat.not_lt_zero _),λv h=>absurd h (Nat.not_lt_zero _)⟩
 | n+1=>by
  have ih:=sO n;refine⟨λx e h=>?_,λxs e h=>?_⟩
  ·rw[dK]at h;obtain⟨c0,c1,c2,c3,c4,f,d⟩:=h;have g:=bT f;have l6:=bT d;show Aw (fE n).1 (fE n).2 x=some x
   unfold Aw;rw[ih.2 x.list (by have:=lC (v:=x);omega) c4,zA,bK (by omega),zA];refine yC (λ(s:List aB) (i:Nat)=>((0,0,0,[],[],[],[],x.kind,x.n,x.step,x.text,x.list,[]++x.columns,s,x.rows,(x.rows.length:Int),(i:Int)):Int×Int×Int×Str×(List af)×(List Str)×(List aB)×Int×Int×Int×Str×(List af)×(List Str)×(List aB)×(List aB)×Int×Int))
    x.rows (some x) (λi y a b=>?_) ?_
   ·have c:=(zC.1 a).1;simp only[dec_lt a,ab,aQ,a,zA,Jq y (d.dB y (zG a)),gd1 b c l6,KZ a (lI l6)]
   ·simp only[Int.lt_irrefl,decide_false,aa];cases x;rfl
  ·have l:=bT h;show yu (fE n).1 (fE n).2 xs=some xs
   unfold yu;refine yC (λ(s:List af) (i:Nat)=>((s,xs,(xs.length:Int),(i:Int)):(List af)×(List af)×Int×Int)) xs (some xs) (λi y a b=>?_) ?_
   ·have c:=(zC.1 a).1;simp only[dec_lt a,ab,aQ,a,aC,zA,ih.1 y (by have:=qI (zG a);omega) (h.dB y (zG a)),gd1 b c l,KZ a (lI l)]
   ·simp only[Int.lt_irrefl,decide_false,aa];rfl
theorem fH(x:af)(h:Fit B20 (.base .val) x):fC x=some x:=(sO (siz x+1)).1 x (Nat.lt_succ_self _) h
theorem Jf:∀n,∀v:af,siz v<n->Fit B20 (.base .val) v->zk n v=some v
 | 0=>λv h=>absurd h (Nat.not_lt_zero _)
 | n+1=>by
  have ih:=Jf n;intro x g h;rw[dK]at h;obtain⟨c0,c1,c2,c3,c4,f,d⟩:=h;have e:=bT c4;have j:=bT f;have l6:=bT d;show L9 (zk n) x=some x
  unfold L9;rw[bK (by omega),zA];refine yC (λ(s:List af) (i:Nat)=>((x.kind,x.n,x.step,x.text,x.list,x.columns,x.rows,0,0,0,[],[],[],[],x.kind,x.n,x.step,x.text,s,[]++x.columns,[],(i:Int)):Int×Int×Int×Str×(List af)×(List Str)×(List aB)×Int×Int×Int×Str×(List af)×(List Str)×(List aB)×Int×Int×Int×Str×(List af)×(List Str)×(List aB)×Int))
   x.list (some x) (λi y a b=>?_) ?_
  ·have c:=(zC.1 a).1;simp only[dec_lt a,ab,aQ,a,aC,zA,ih y (by have:=qI (zG a);have:=lC (v:=x);omega) (c4.dB y (zG a)),gd1 b c e,KZ a (lI e)]
  ·simp only[Int.lt_irrefl,decide_false,aa];refine congrArg (λo=>Option.bind o _) (yC (λ(s:List aB) (i:Nat)=>((x.kind,x.n,x.step,x.text,x.list,x.columns,x.rows,0,0,0,[],[],[],[],x.kind,x.n,x.step,x.text,x.list,[]++x.columns,s,(i:Int)):Int×Int×Int×Str×(List af)×(List Str)×(List aB)×Int×Int×Int×Str×(List af)×(List Str)×(List aB)×Int×Int×Int×Str×(List af)×(List Str)×(List aB)×Int))
    x.rows (some x) (λi y a b=>?_) ?_)
   ·have c:=(zC.1 a).1;simp only[dec_lt a,ab,aQ,a,zA,QW y (d.dB y (zG a)),gd1 b c l6,KZ a (lI l6)]
   ·simp only[Int.lt_irrefl,decide_false,aa];cases x;rfl
theorem iJ(x:af)(h:Fit B20 (.base .val) x):jW x=some x:=Jf (siz x+1) x (Nat.lt_succ_self _) h
def posOf(s:Str):Nat->List Str->Int
 | _,[]=>-1
 | i,x::r=>if x==s then i else posOf s (i+1) r
theorem Ii(s:Str):∀(xs:List Str) (i:Nat),(posOf s i xs<0)↔xs.contains s=false
 | [],i=>by simp[posOf]
 | x::r,i=>by
  unfold posOf;by_cases h:x==s
  ·rw[if_pos h];have e:x=s:=by simpa using h
   subst e;constructor
   ·intro h;omega
   ·intro h;simp at h
  ·rw[if_neg h,Ii s r (i+1)];have e:¬x=s:=by simpa using h
   have a:¬s=x:=λh=>e h.symm
   simp[a]
theorem Ar(xs:List Str)(s:Str)(d:xs.length<=34359738368):wJ xs s=some (posOf s 0 xs):=by
 unfold wJ;have key:∀(ys:List Str) (i:Nat),OQ (λ(x:Str) i (_:Unit)=>if x==s then some (.inr (i:Int))else some (.inl ())) (λ_=>some (-1)) ys i ()=some (posOf s i ys):=by
  intro ys;induction ys with
  | nil=>intro i;rfl
  | cons y r ih=>
   intro i;unfold OQ posOf;by_cases h:y==s
   ·simp[h]
   ·simp only[h,if_false,aE];exact ih (i+1)
 rw[<- key xs 0];refine Bz (λ(_:Unit) i=>(s,xs,(xs.length:Int),(i:Int))) xs _ _ ?_ ?_ ()
 ·intro i x u a;have e:i<xs.length:=(zC.1 a).1;have b:w64 ((i:Int)+1)=((i+1:Nat):Int):=by rw[bQ (by omega) (by omega)];rfl
  simp only[aQ,a,zA,b];have c:decide ((i:Int)<(xs.length:Int))=true:=by simp;omega
  rw[c];simp only[ab];by_cases h:x==s
  ·simp[h]
  ·simp[h]
 ·intro u;simp
def afu(i:Nat)(c:UInt8):Bool:=decide (97<=c.toNat/\c.toNat<=122)||(decide (i≠0)&&decide (48<=c.toNat/\c.toNat<=57))
def o6:Nat->Str->Bool
 | _,[]=>true
 | i,c::r=>afu i c&&o6 (i+1) r
theorem IQ(fin:Bool):∀(xs:Str) (i:Nat),OQ (λ(c:UInt8) i (_:Unit)=>if afu i c=true then some (.inl ())else some (.inr false)) (λ_=>some fin) xs i ()=some (o6 i xs&&fin)
 | [],i=>by simp[OQ,o6]
 | c::r,i=>by
  unfold OQ o6;cases h:afu i c with
  | true=>simp only[if_true];rw[IQ fin r (i+1)];simp
  | false=>simp
theorem oz(a b c:Int):jB a b c=some (decide (b<=a)&&decide (a<=c)):=by
 unfold jB;cases decide (b<=a)<;>simp
theorem O5(i:Nat)(c:UInt8):afu i c=if 97<=c.toNat/\c.toNat<=122 then true else if i=0 then false else if 48<=c.toNat/\c.toNat<=57 then true else false:=by
 unfold afu;by_cases a:97<=c.toNat/\c.toNat<=122
 ·simp[a]
 ·by_cases b:i=0
  ·simp[a,b]
  ·by_cases d:48<=c.toNat/\c.toNat<=57<;>simp[a,b,d]
theorem Ov(a:Str)(q:a.length<=34359738368):KL a=some (o6 0 a&&(decide (1<=(a.length:Int))&&decide ((a.length:Int)<=8))):=by
 rw[<- IQ _ a 0];unfold KL;refine Bz (λ(_:Unit) i=>(a,(i:Int))) a _ _ ?_ ?_ ()
 ·intro i c u hc;have r:i<a.length:=(zC.1 hc).1;have b:w64 ((i:Int)+1)=((i+1:Nat):Int):=by rw[bQ (by omega) (by omega)];rfl
  have d:decide ((i:Int)<(a.length:Int))=true:=by simp;omega
  have e:((i:Int)==0)=decide (i=0):=by by_cases h:i=0<;>simp[h]
  simp only[aQ,hc,zA,b,d,e,ab,O5];have f:decide ((c.toNat:Int)>=97)=decide (97<=c.toNat):=decide_eq_decide.2 (by omega);have g:decide ((c.toNat:Int)<=122)=decide (c.toNat<=122):=decide_eq_decide.2 (by omega);have j:decide ((c.toNat:Int)<48) = !decide (48<=c.toNat):=by by_cases h:48<=c.toNat<;>simp[h]<;>omega
  have k:decide ((c.toNat:Int)>57) = !decide (c.toNat<=57):=by by_cases h:c.toNat<=57<;>simp[h]<;>omega
  rw[f,g,j,k];by_cases l:97<=c.toNat<;>by_cases m:c.toNat<=122<;>by_cases n:i=0<;>by_cases o:48<=c.toNat<;>by_cases p:c.toNat<=57<;>simp[l,m,n,o,p]
 ·intro u;simp[oz]
theorem V9(a:Str)(q:a.length<=34359738368):EM a=some (o6 0 a&&decide ((a.length:Int)>0)):=by
 rw[<- IQ _ a 0];unfold EM;refine Bz (λ(_:Unit) i=>(a,(i:Int))) a _ _ ?_ ?_ ()
 ·intro i c u hc;have r:i<a.length:=(zC.1 hc).1;have b:w64 ((i:Int)+1)=((i+1:Nat):Int):=by rw[bQ (by omega) (by omega)];rfl
  have d:decide ((i:Int)<(a.length:Int))=true:=by simp;omega
  have e:((i:Int)==0)=decide (i=0):=by by_cases h:i=0<;>simp[h]
  simp only[aQ,hc,zA,b,d,e,ab,O5];have f:decide ((c.toNat:Int)>=97)=decide (97<=c.toNat):=decide_eq_decide.2 (by omega);have g:decide ((c.toNat:Int)<=122)=decide (c.toNat<=122):=decide_eq_decide.2 (by omega);have j:decide ((c.toNat:Int)>=48)=decide (48<=c.toNat):=decide_eq_decide.2 (by omega);have k:decide ((c.toNat:Int)<=57)=decide (c.toNat<=57):=decide_eq_decide.2 (by omega);rw[f,g,j,k];by_cases l:97<=c.toNat<;>by_cases m:c.toNat<=122<;>by_cases n:i=0<;>by_cases o:48<=c.toNat<;>by_cases p:c.toNat<=57<;>simp[l,m,n,o,p]<;>omega
 ·intro u;simp
theorem Bc(xs:List Str)(s:Str)(d:xs.length<=34359738368):Hg xs s=some (xs.contains s):=by
 have key:∀(ys:List Str) (i:Nat),OQ (λ(x:Str) i (_:Unit)=>if x==s then some (.inr true)else some (.inl ())) (λ_=>some false) ys i ()=some (ys.contains s):=by
  intro ys;induction ys with
  | nil=>intro i;rfl
  | cons y r ih=>
   intro i;unfold OQ;by_cases h:y==s
   ·have e:y=s:=by simpa using h
    subst e;simp
   ·simp only[h,if_false,aE];rw[ih (i+1)];have e:¬s=y:=λe=>h (by simp[e])
    simp[e]
 rw[<- key xs 0];unfold Hg;refine Bz (λ(_:Unit) i=>(xs,s,(i:Int))) xs _ _ ?_ ?_ ()
 ·intro i x u a;have f:i<xs.length:=(zC.1 a).1;have b:w64 ((i:Int)+1)=((i+1:Nat):Int):=by rw[bQ (by omega) (by omega)];rfl
  have c:decide ((i:Int)<(xs.length:Int))=true:=by simp;omega
  simp only[aQ,a,zA,b,c,ab];by_cases h:x==s<;>simp[h]
 ·intro u;simp
theorem Na(a:Str):uD a=pG a:=by
 unfold pG ug;simp only[zA];rw[Bc _ _ (by decide)];simp only[zA];by_cases h:a∈([[108,101,116],[105,110],[105,102],[116,104,101,110],[101,108,115,101],[102,111,114],[100,111],[108,101,110],[115,117,109],[116,97,107,101],[115,107,105,112],[114,97,110,103,101],[110,116,104],[119,104,101,114,101],[107,101,101,112],[97,100,100],[103,114,111,117,112],[106,111,105,110],[99,111,108,117,109,110],[114,111,119,115],[99,108,111,99,107],[99,104,97,110,99,101],[102,105,108,101],[116,97,98,108,101]]:List Str)
 ·simp only[ba,List.not_mem_nil,or_false]at h;rcases h with rfl | rfl | rfl | rfl | rfl | rfl | rfl | rfl | rfl | rfl | rfl | rfl | rfl | rfl | rfl | rfl | rfl | rfl | rfl | rfl | rfl | rfl | rfl | rfl<;>rfl
 ·have hc:([[108,101,116],[105,110],[105,102],[116,104,101,110],[101,108,115,101],[102,111,114],[100,111],[108,101,110],[115,117,109],[116,97,107,101],[115,107,105,112],[114,97,110,103,101],[110,116,104],[119,104,101,114,101],[107,101,101,112],[97,100,100],[103,114,111,117,112],[106,111,105,110],[99,111,108,117,109,110],[114,111,119,115],[99,108,111,99,107],[99,104,97,110,99,101],[102,105,108,101],[116,97,98,108,101]]:List Str).contains a=false:=by
   rw[Bool.eq_false_iff];intro hh;exact h (by simpa using hh)
  rw[hc];simp only[ba,List.not_mem_nil,or_false,not_or]at h;unfold uD dR;simp[Bool.cond_eq_ite,h]
theorem Ja(a:Str)(b:a.length<=34359738368):fK a=eY a:=by
 unfold fK eY;rw[Ov a b,V9 a b,Na];simp only[zA];cases o6 0 a with
 | false=>simp
 | true=>
  by_cases c:a.length=0
  ·simp[c]
  ·have d:decide (1<=(a.length:Int))=true:=by simp;omega
   have e:decide ((a.length:Int)>0)=true:=by simp;omega
   rw[d,e];simp only[Bool.true_and,ab]
theorem S9(a:Str)(b:a.length<=34359738368):∃v,fK a=some v:=by
 unfold fK;rw[Ov a b,Na];unfold pG ug;simp only[zA];rw[Bc _ _ (by decide)];simp only[zA];cases (o6 0 a&&(decide (1<=(a.length:Int))&&decide ((a.length:Int)<=8)))with
 | false=>exact⟨_,rfl⟩
 | true=>exact⟨_,rfl⟩
theorem dw{α:Type}{xs:List α}{i:Nat}{x:α}(h:xs[i]?=some x):decide ((i:Int)<(xs.length:Int))=true:=by
 have:=(zC.1 h).1;simp;omega
theorem bP{α:Type}(xs:List α):decide ((xs.length:Int)<(xs.length:Int))=false:=by simp
theorem dW{α:Type}{xs:List α}{i:Nat}{x:α}(h:xs[i]?=some x)(a:(xs.length:Int)<=1048576):w64 ((i:Int)+1)=((i+1:Nat):Int):=by
 have:=(zC.1 h).1;rw[bQ (by omega) (by omega)];rfl
def jK{α:Type}(p:Nat->α->Bool):Nat->List α->Bool
 | _,[]=>true
 | i,x::r=>p i x&&jK p (i+1) r
theorem jo{α:Type}(p:α->Bool):∀(xs:List α) (i:Nat),jK (λ_ x=>p x) i xs=xs.all p
 | [],_=>rfl
 | x::r,i=>by show (p x&&jK (λ_ x=>p x) (i+1) r)=(p x&&r.all p);rw[jo p r]
theorem nP{α X ρ:Type}{g:X->Option (X⊕ρ)}(pk:Nat->X)(xs:List α)(p:Nat->α->Bool)(no yes:ρ)
  (d:∀i x,xs[i]?=some x->g (pk i)=bif p i x then some (.inl (pk (i+1)))else some (.inr no))
  (hf:g (pk xs.length)=some (.inr yes)):aO g (pk 0)=some (bif jK p 0 xs then yes else no):=by
 have key:∀(ys:List α) (i:Nat),xs.drop i=ys->i<=xs.length->aO g (pk i)=some (bif jK p i ys then yes else no):=by
  intro ys;induction ys with
  | nil=>
   intro i a e;have f:xs.length<=i:=List.drop_eq_nil_iff.1 a;have:i=xs.length:=by omega
   subst this;rw[aX,hf];rfl
  | cons y r ih=>
   intro i a e;have c:xs[i]?=some y:=by
    have:=congrArg (·[0]?) a;simpa using this
   have b:=(zC.1 c).1;rw[aX,d i y c];show _=some (bif (p i y&&jK p (i+1) r)then yes else no)
   cases p i y with
   | true=>
    simp only[ab,Bool.true_and];refine ih (i+1) ?_ b;have:=congrArg List.tail a;simpa using this
   | false=>rfl
 exact key xs 0 rfl (Nat.zero_le _)
theorem pos_at(s:Str):∀(xs:List Str) (i k:Nat),xs[i]?=some s->(posOf s k xs==((k+i:Nat):Int)) = !((xs.take i).contains s)
 | [],i,k,h=>by simp at h
 | x::r,i,k,h=>by
  unfold posOf;cases i with
  | zero=>
   simp at h;subst h;simp
  | succ i=>
   have h:r[i]?=some s:=by simpa using h
   by_cases a:x==s
   ·rw[if_pos a];have e:x=s:=by simpa using a
    subst e;have:((k:Int)==((k+(i+1):Nat):Int))=false:=by simp;omega
    rw[this];simp
   ·rw[if_neg a];have:=pos_at s r i (k+1) h;rw[show k+(i+1)=k+1+i by omega,this];have e:¬x=s:=by simpa using a
    have b:¬s=x:=λh=>e h.symm
    simp[b]
theorem adp{s:Str}(h:Fit B20 (.base .str) s):(s.length:Int)<=1048576:=aat (h _ (List.mem_singleton.2 rfl))
theorem Ye(b:Bool):(bif b then true else false)=b:=by cases b<;>rfl
theorem O9(a b:Bool):(bif a then b else false)=(a&&b):=by cases a<;>rfl
noncomputable def nmB(s:Str):Bool:=(fK s).getD false
theorem Om(s:Str)(h:(s.length:Int)<=1048576):fK s=some (nmB s):=by
 obtain⟨v,a⟩:=S9 s (by omega);unfold nmB;rw[a];rfl
theorem LW(s:Str)(h:(s.length:Int)<=1048576):eY s=some (nmB s):=(Ja s (by omega)).symm.trans (Om s h)
def txB(s:Str):Bool:=(s.all λc=>(!decide ((c.toNat:Int)<32)&&!decide ((c.toNat:Int)>126))&&!((c.toNat:Int)==34))&&decide ((s.length:Int)<=20)
theorem Xt(s:Str)(h:(s.length:Int)<=1048576):kW s=some (txB s):=by
 unfold kW;refine (nP (λi=>((s,(i:Int)):Str×Int)) s (λ_ c=>(!decide ((c.toNat:Int)<32)&&!decide ((c.toNat:Int)>126))&&!((c.toNat:Int)==34)) false (decide ((s.length:Int)<=20)) (λi c hc=>?_) ?_).trans ?_
 ·simp only[dw hc,ab,aQ,hc,zA,dW hc h];cases decide ((c.toNat:Int)<32)<;>cases decide ((c.toNat:Int)>126)<;>cases ((c.toNat:Int)==34)<;>rfl
 ·simp only[bP,aa]
 ·rw[jo,O9];rfl
theorem EC(s:Str)(h:(s.length:Int)<=1048576):iq s=some (txB s):=Xt s h
theorem X6{α:Type}(a:List α)(k:Nat)(h:k<=a.length):eff.cutL a none (some (k:Int))=some (a.take k):=by
 unfold eff.cutL;simp only[Option.getD_none,Option.getD_some];rw[if_pos]
 ·simp
 ·omega
def dsB(xs:List Str):Bool:=jK (λi x=>!((xs.take i).contains x)) 0 xs
theorem ZN(xs:List Str)(b:(xs.length:Int)<=1048576):kY xs=some (dsB xs):=by
 unfold kY;refine (nP (λi=>((xs,xs,(xs.length:Int),(i:Int)):(List Str)×(List Str)×Int×Int)) xs (λi x=>!((xs.take i).contains x)) false true (λi x a=>?_) ?_).trans (congrArg some (Ye _))
 ·have hp:=pos_at x xs i 0 a;rw[Nat.zero_add]at hp;simp only[dw a,ab,aQ,a,zA,Ar xs x (by omega),bne,hp,dW a b];cases (xs.take i).contains x<;>rfl
 ·simp only[bP,aa]
theorem Za(xs:List Str)(b:(xs.length:Int)<=1048576):kT xs=some (dsB xs):=by
 unfold kT;refine (nP (λi=>((xs,(i:Int)):(List Str)×Int)) xs (λi x=>!((xs.take i).contains x)) false true (λi x a=>?_) ?_).trans (congrArg some (Ye _))
 ·have c:=(zC.1 a).1;simp only[dw a,ab,aQ,a,zA,X6 xs i (by omega),Bc (xs.take i) x (by rw[a8];omega),dW a b];cases (xs.take i).contains x<;>rfl
 ·simp only[bP,aa]
noncomputable def clB(xs:List Str):Bool:=xs.all nmB&&((decide (1<=(xs.length:Int))&&decide ((xs.length:Int)<=4))&&dsB xs)
theorem ae5(xs:List Str)(h:bZ B20 (.list (.base .str) xs)):qg xs=some (clB xs):=by
 have b:=bT h;unfold qg;refine (nP (λi=>((xs,xs,(xs.length:Int),(i:Int)):(List Str)×(List Str)×Int×Int)) xs (λ_ x=>nmB x) false ((decide (1<=(xs.length:Int))&&decide ((xs.length:Int)<=4))&&dsB xs) (λi x a=>?_) ?_).trans ?_
 ·simp only[dw a,ab,aQ,a,zA,Om x (adp (h.dB x (zG a))),dW a b];cases nmB x<;>rfl
 ·simp only[bP,aa,oz,zA,ZN xs b];cases (decide (1<=(xs.length:Int))&&decide ((xs.length:Int)<=4))<;>rfl
 ·rw[jo,O9];rfl
theorem adV(xs:List Str)(h:bZ B20 (.list (.base .str) xs)):rJ xs=some (clB xs):=by
 have b:=bT h;unfold rJ;refine (nP (λi=>((xs,(i:Int)):(List Str)×Int)) xs (λ_ x=>nmB x) false ((decide (1<=(xs.length:Int))&&decide ((xs.length:Int)<=4))&&dsB xs) (λi x a=>?_) ?_).trans ?_
 ·simp only[dw a,ab,aQ,a,zA,LW x (adp (h.dB x (zG a))),dW a b];cases nmB x<;>rfl
 ·simp only[bP,aa,vK,zA,Za xs b];cases (decide (1<=(xs.length:Int))&&decide ((xs.length:Int)<=4))<;>rfl
 ·rw[jo,O9];rfl
def nB(n:Int):Bool:=decide (-1000000000<=n)&&decide (n<=1000000000)
theorem IB(n:Int):fU n=some (nB n):=by
 unfold fU;rw[oz];rfl
theorem Dj(n:Int):iT n=some (nB n):=by
 unfold iT;rw[vK];rfl
def bfB(a b:aj):Bool:=decide (a.cell<b.cell)||((a.cell==b.cell)&&decide (a.row<b.row))
theorem ako(a b:aj):oU a b=some (bfB a b):=by
 unfold oU bfB;cases decide (a.cell<b.cell)<;>cases (a.cell==b.cell)<;>rfl
theorem Ur(a b:aj):jM a b=some (bfB a b):=by
 unfold jM bfB;cases decide (a.cell<b.cell)<;>cases (a.cell==b.cell)<;>rfl
def VG(xs:List aj)(i:Nat)(o:aj):Bool:=(!decide (o.cell<0)&&!decide (o.row<0))&&match i,xs[i-1]? with
 | 0,_=>true
 | _,some q=>bfB q o
 | _,none=>false
def Pe(xs:List aj):Bool:=jK (VG xs) 0 xs
theorem up1(i:Nat)(h:(i:Int)+1<=1048576):w64 (((i+1:Nat):Int)-1)=(i:Int):=by rw[bQ (by omega) (by omega)];omega
theorem ags(xs:List aj)(b:(xs.length:Int)<=1048576):qJ xs=some (Pe xs):=by
 unfold qJ;refine (nP (λi=>((xs,(i:Int)):(List aj)×Int)) xs (VG xs) false true (λi o a=>?_) ?_).trans (congrArg some (Ye _))
 ·have e:=(zC.1 a).1;simp only[dw a,ab,aQ,a,zA,dW a b];unfold VG;cases decide (o.cell<0)with
  | true=>rfl
  | false=>
   cases decide (o.row<0)with
   | true=>rfl
   | false=>
    cases i with
    | zero=>rfl
    | succ i=>
     have d:decide (((i+1:Nat):Int)>0)=true:=by simp
     obtain⟨q,c⟩:∃q,xs[i]?=some q:=⟨_,zF (by omega)⟩;rw[d,up1 i (by omega)];simp only[ab,aa,aQ,c,zA,Ur,Nat.add_sub_cancel];cases bfB q o<;>rfl
 ·simp only[bP,aa]
def rwB(w:Int)(r:aB):Bool:=((r.cells.length:Int)==w)&&(r.cells.all nB&&Pe r.orig)
noncomputable def tbB(cols:List Str)(rows:List aB):Bool:=clB cols&&(decide ((rows.length:Int)<=12)&&rows.all (rwB (cols.length:Int)))
abbrev X4:=Int×Int×Int×Str×(List af)×(List Str)×(List aB)×(List Int)×(List aj)×(List aB)×Int×Int×(List Int)×Int×Int
abbrev X7:=Int×Int×Int×Str×(List af)×(List Str)×(List aB)×(List Int)×(List aj)×(List aB)×Int×Int×(List aj)×Int×Int
theorem akm(v:af)(h:Fit B20 (.base .val) v):FP v=some (tbB v.columns v.rows):=by
 obtain⟨kd,n,step,text,l,cols,rows⟩:=v;obtain⟨_,_,_,_,_,k,p⟩:=dK.1 h;have s:=bT k;have e:=bT p;unfold FP tbB;simp only[ae5 cols k,zA];cases clB cols with
 | false=>rfl
 | true=>
  simp only[aL,aa,Bool.true_and];by_cases a:(rows.length:Int)>12
  ·rw[ae a,ac (by omega)];rfl
  ·rw[ac a,ae (by omega)];simp only[aa,Bool.true_and];refine (nP (λi=>((kd,n,step,text,l,cols,rows,rows,(rows.length:Int),(i:Int)):Int×Int×Int×Str×(List af)×(List Str)×(List aB)×(List aB)×Int×Int)) rows (λ_ r=>rwB (cols.length:Int) r) false true (λi r b=>?_) ?_).trans (by rw[jo,Ye])
   ·obtain⟨t,u⟩:=iy.1 (p.dB r (zG b));have w:=bT t;have x:=bT u;have f:=dW b e;simp only[dw b,ab,aQ,b,zA,bne];unfold rwB;cases ((r.cells.length:Int)==(cols.length:Int))with
    | false=>rfl
    | true=>
     simp only[aL,aa,Bool.true_and];refine (nP (λj=>((kd,n,step,text,l,cols,rows,r.cells,r.orig,rows,(rows.length:Int),(i:Int),r.cells,(r.cells.length:Int),(j:Int)):X4)) r.cells (λ_ m=>nB m) (Sum.inr false) (bif Pe r.orig then Sum.inl (kd,n,step,text,l,cols,rows,rows,(rows.length:Int),((i+1:Nat):Int))else Sum.inr false) (λj m g=>?_) ?_).trans ?_
     ·simp only[dw g,ab,aQ,g,zA,IB,dW g w];cases nB m<;>rfl
     ·simp only[bP,aa];refine congrArg (λo=>Option.bind o _) (nP (λj=>((kd,n,step,text,l,cols,rows,r.cells,r.orig,rows,(rows.length:Int),(i:Int),r.orig,(r.orig.length:Int),(j:Int)):X7)) r.orig (VG r.orig) (Sum.inr false) (Sum.inl (kd,n,step,text,l,cols,rows,rows,(rows.length:Int),((i+1:Nat):Int))) (λj o c=>?_) ?_)
      ·have z:=(zC.1 c).1;simp only[dw c,ab,aQ,c,zA,dW c x];unfold VG;cases decide (o.cell<0)with
       | true=>rfl
       | false=>
        cases decide (o.row<0)with
        | true=>rfl
        | false=>
         cases j with
         | zero=>rfl
         | succ j=>
          have d:decide (((j+1:Nat):Int)>0)=true:=by simp
          obtain⟨q,y⟩:∃q,r.orig[j]?=some q:=⟨_,zF (by omega)⟩;rw[d,up1 j (by omega)];simp only[ab,aa,aQ,y,zA,ako,Nat.add_sub_cancel];cases bfB q o<;>rfl
      ·simp only[bP,aa,f]
     ·rw[jo];unfold Pe;cases r.cells.all nB<;>cases jK (VG r.orig) 0 r.orig<;>rfl
   ·simp only[bP,aa]
theorem ajT(v:af)(h:Fit B20 (.base .val) v):y7 v=some (tbB v.columns v.rows):=by
 obtain⟨kd,n,step,text,l,cols,rows⟩:=v;obtain⟨_,_,_,_,_,f,g⟩:=dK.1 h;have k:=bT f;have c:=bT g;unfold y7 tbB;simp only[adV cols f,zA];cases clB cols with
 | false=>rfl
 | true=>
  simp only[aL,aa,Bool.true_and];by_cases a:(rows.length:Int)>12
  ·rw[ae a,ac (by omega)];rfl
  ·rw[ac a,ae (by omega)];simp only[aa,Bool.true_and];refine (nP (λi=>((kd,n,step,text,l,cols,rows,(i:Int)):Int×Int×Int×Str×(List af)×(List Str)×(List aB)×Int)) rows (λ_ r=>rwB (cols.length:Int) r) false true (λi r b=>?_) ?_).trans (by rw[jo,Ye])
   ·obtain⟨o,p⟩:=iy.1 (g.dB r (zG b));have q:=bT o;have s:=bT p;have d:=dW b c;simp only[dw b,ab,aQ,b,zA,ags _ s,bne];unfold rwB;cases ((r.cells.length:Int)==(cols.length:Int))with
    | false=>rfl
    | true=>
     simp only[aL,aa,Bool.true_and];cases Pe r.orig with
     | false=>simp only[Bool.not_false,ab,Bool.and_false];rfl
     | true=>
      simp only[aL,aa,Bool.and_true];refine (nP (λj=>((kd,n,step,text,l,cols,rows,(i:Int),r.cells,r.orig,(j:Int)):Int×Int×Int×Str×(List af)×(List Str)×(List aB)×Int×(List Int)×(List aj)×Int)) r.cells (λ_ m=>nB m) (Sum.inr false) (Sum.inl (kd,n,step,text,l,cols,rows,((i+1:Nat):Int))) (λj m e=>?_) ?_).trans ?_
      ·simp only[dw e,ab,aQ,e,zA,Dj,dW e q];cases nB m<;>rfl
      ·simp only[bP,aa,d]
      ·rw[jo];cases r.cells.all nB<;>rfl
   ·simp only[bP,aa]
mutual
def dep:af->Int
 | ⟨_,_,_,_,l,_,_⟩=>w64 (oI l 0+1)
def oI:List af->Int->Int
 | [],s=>s
 | x::r,s=>oI r (if dep x>s then dep x else s)
end
theorem Ee:∀(l:List af) (s:Int),oI l s=l.foldl (λs x=>if dep x>s then dep x else s) s
 | [],s=>by simp[oI]
 | x::r,s=>by simp only[oI,List.foldl_cons];exact Ee r _
theorem AL(v:af):dep v=w64 (oI v.list 0+1):=by cases v;simp only[dep]
theorem XD:∀(n:Nat) (v:af),siz v<n->Fit B20 (.base .val) v->wO n v=some (dep v)
 | 0,v,h,_=>absurd h (Nat.not_lt_zero _)
 | n+1,v,c,h=>by
  have ih:=XD n;obtain⟨_,_,_,_,c4,_,_⟩:=dK.1 h;have b:=bT c4;show IG (wO n) v=_
  unfold IG;rw[AL,Ee];refine NM (λ(s:Int) i=>((s,v.list,(v.list.length:Int),(i:Int)):Int×(List af)×Int×Int)) v.list (λs x=>if dep x>s then dep x else s) (λs=>w64 (s+1)) (λi x s a=>?_) (λs=>?_) 0
  ·simp only[dw a,ab,aQ,a,zA,aC,ih x (by have:=qI (zG a);have:=lC (v:=v);omega) (c4.dB x (zG a)),dW a b]
  ·simp only[bP,aa]
theorem aaR(v:af)(h:Fit B20 (.base .val) v):FQ v=some (dep v):=XD _ v (Nat.lt_succ_self _) h
theorem agk(a b:Int):Dq a b=some (if b>a then b else a):=by
 unfold Dq;by_cases c:a>b
 ·rw[ae c,if_neg (by omega)];rfl
 ·rw[ac c,aa];by_cases d:b>a
  ·rw[if_pos d]
  ·rw[if_neg d];congr 1;omega
theorem Wu:∀(n:Nat) (v:af),siz v<n->Fit B20 (.base .val) v->vZ n v=some (dep v)
 | 0,v,h,_=>absurd h (Nat.not_lt_zero _)
 | n+1,v,c,h=>by
  have ih:=Wu n;obtain⟨_,_,_,_,c4,_,_⟩:=dK.1 h;have b:=bT c4;show Hz (vZ n) v=_
  unfold Hz;rw[AL,Ee];refine NM (λ(s:Int) i=>((v.kind,v.n,v.step,v.text,v.list,v.columns,v.rows,s,(i:Int)):Int×Int×Int×Str×(List af)×(List Str)×(List aB)×Int×Int)) v.list (λs x=>if dep x>s then dep x else s) (λs=>w64 (s+1)) (λi x s a=>?_) (λs=>?_) 0
  ·simp only[dw a,ab,aQ,a,zA,aC,ih x (by have:=qI (zG a);have:=lC (v:=v);omega) (c4.dB x (zG a)),agk,dW a b]
  ·simp only[bP,aa]
theorem aay(v:af)(h:Fit B20 (.base .val) v):EU v=some (dep v):=Wu _ v (Nat.lt_succ_self _) h
