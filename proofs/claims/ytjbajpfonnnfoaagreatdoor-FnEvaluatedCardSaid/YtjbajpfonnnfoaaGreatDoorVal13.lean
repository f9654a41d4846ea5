import Derived.Test.YtjbajpfonnnfoaaGreatDoorVal8
import Derived.Test.YtjbajpfonnnfoaaGreatDoorLink1
set_option linter.unusedSimpArgs false
set_option linter.unusedVariables false
/- Plain laws: tables are joined. -/
namespace Go.Proofs.YtjbajpfonnnfoaaGreatDoor
open Go.Abs Go.Proofs
structure GI(P:List aj)(a:List aj):Prop where
 fit:bZ B20 (.list (.base .origin) a)
 org:∀o,o∈a->o∈P
 asc:Pe a=true
theorem afI{a:List aj}(h:Pe a=true):∀o,o∈a->0<=o.cell/\0<=o.row:=λo b=>by
 obtain⟨i,c⟩:=List.mem_iff_getElem?.1 b;have:=BV a 0 h i o c;unfold VG at this;simp only[zI,Bool.not_eq_true',decide_eq_false_iff_not]at this;omega
theorem Yl{α:Type}{p:Nat->α->Bool}:∀(xs:List α) (i:Nat),(∀(j:Nat) x,xs[j]?=some x->p (i+j) x=true)->jK p i xs=true
 | [],_,_=>rfl
 | x::r,i,h=>by
  show (p i x&&jK p (i+1) r)=true
  rw[zI];refine⟨h 0 x rfl,Yl r (i+1) λj y a=>?_⟩;have:=h (j+1) y (by simpa using a);rwa [show i+(j+1)=i+1+j by omega]at this
theorem akD{a:List aj}(h:Asc a)(c:∀o,o∈a->0<=o.cell/\0<=o.row):Pe a=true:=by
 refine Yl a 0 λj o b=>?_
 rw[Nat.zero_add];obtain⟨f,g⟩:=c o (zG b);unfold VG;rw[ac (by omega),ac (by omega)];cases j with
 | zero=>rfl
 | succ j=>
  have d:=(zC.1 b).1;have e:a[j]?=some a[j]:=zF (by omega);simp only[Nat.add_sub_cancel,e,Bool.not_false,Bool.and_self,Bool.true_and];have:=(List.pairwise_iff_getElem.1 h) j (j+1) (by omega) d (by omega);rw[(zC.1 b).2]at this;exact this
theorem ael{a:List aj}(h:bZ B20 (.list (.base .origin) a)):a.all (λo=>JZ o.cell&&JZ o.row)=true:=List.all_eq_true.2 λo c=>by
 have:=h.dB o c;rw[Ed]at this;have w:∀n:Int,bZ B20 (.int .i64 n)->JZ n=true:=λn hf=>by
  cases hf with
  | int _ _ b=>
   unfold Lit.wf at b;simp[IntKind.bits,IntKind.signed,IntKind.min,IntKind.max]at b;unfold JZ;rw[zI,decide_eq_true_eq,decide_eq_true_eq];omega
 rw[w _ this.1,w _ this.2];rfl
theorem GV{P:List aj}(f:P.length<=1048576){a b:List aj}(c:GI P a)(d:GI P b):iM a b=some (kP a b)/\rD a b=some (kP a b)/\GI P (kP a b):=by
 have la:=bT c.fit;have lb:=bT d.fit;have hsub:∀o,o∈kP a b->o∈P:=λo e=>(wC.1 e).elim (c.org o) (d.org o)
 have hasc:Asc (kP a b):=Gv a b;have hlen:=aa6 hasc hsub;refine⟨?_,agd a b (Z8 c.asc) (Z8 d.asc) (by omega),⟨dh (by omega) λo e=>(wC.1 e).elim (c.fit.dB o) (d.fit.dB o),hsub,akD hasc λo e=>(wC.1 e).elim (afI c.asc o) (afI d.asc o)⟩⟩;unfold iM;rw[bK (by omega),zA,if_pos];rw[List.all_append,ael c.fit,ael d.fit];rfl
theorem or_nil{P:List aj}:GI P []:=⟨pU,(λo h=>by cases h),rfl⟩
theorem ZW{α β X ρ:Type}{g:X->Option (X⊕ρ)}(pk:List β->Nat->X)(xs:List α)(f:α->Option β)(s0:List β)(yes:ρ)
  (d:∀i x s,xs[i]?=some x->s.length<=s0.length+i->g (pk s i)=some (.inl (pk (s++(f x).toList) (i+1))))
  (hf:g (pk (s0++xs.filterMap f) xs.length)=some (.inr yes)):aO g (pk s0 0)=some yes:=by
 have key:∀(n i:Nat),xs.length=i+n->aO g (pk (s0++(xs.take i).filterMap f) i)=some yes:=by
  intro n;induction n with
  | zero=>
   intro i h;have:i=xs.length:=by omega
   subst this;rw[aX,List.take_length,hf]
  | succ n ih=>
   intro i h;have a:i<xs.length:=by omega
   have c:=zF a;have j:(s0++(xs.take i).filterMap f).length<=s0.length+i:=by
    have:=List.length_filterMap_le f (xs.take i);rw[a8]at this;rw[a6];omega
   rw[aX,d i _ _ c j];have e:s0++(xs.take (i+1)).filterMap f=s0++(xs.take i).filterMap f++(f xs[i]).toList:=by
    rw[take_snoc c,List.filterMap_append,a7];cases b:f xs[i]<;>simp[b]
   simp only;rw[<- e];exact ih (i+1) (by omega)
 have:=key xs.length 0 (by omega);simpa using this
def Fp(n:Str)(s:Str):Option Str:=bif n==s then none else some s
theorem adw(n s:Str):decide (posOf s 0 [n]<0) = !(n==s):=by
 unfold posOf;by_cases h:(n==s)=true
 ·rw[if_pos h,h];rfl
 ·rw[if_neg h];have:(n==s)=false:=by simpa using h
  rw[this];rfl
theorem Xq(cs:List Str)(n:Str)(b:(cs.length:Int)<=1048576):FC cs [n]=some (cs.filterMap (Fp n)):=by
 unfold FC;refine ZW (λ(s:List Str) (i:Nat)=>(([n],s,cs,(cs.length:Int),(i:Int)):(List Str)×(List Str)×(List Str)×Int×Int)) cs (Fp n) [] _ (λi x s a c=>?_) ?_
 ·have e:=(zC.1 a).1;have d:gd (s.length+([x]:List Str).length)=some ():=bK (by simp at c ⊢;omega);simp only[dw a,ab,aQ,a,zA,Ar [n] x (by simp),adw,d,dW a b];unfold Fp;cases (n==x)with
  | true=>simp
  | false=>rfl
 ·simp only[bP,aa,List.nil_append]
theorem Ri{n:Str}:∀ {cs:List Str},n∉cs->cs.filterMap (Fp n)=cs
 | [],_=>rfl
 | x::r,h=>by
  have a:(n==x)=false:=by
   rw[beq_eq_false_iff_ne];rintro rfl;exact h aq
  rw[List.filterMap_cons];have:Fp n x=some x:=by unfold Fp;rw[a];rfl
  rw[this];simp only;rw[Ri λb=>h (ao _ b)]
theorem KY{n:Str}:∀ {cs:List Str} {k:Nat},cs.Nodup->cs[k]?=some n->cs.filterMap (Fp n)=cs.take k++cs.drop (k+1)
 | [],k,_,h=>by simp at h
 | x::r,0,a,h=>by
  have e:x=n:=by simpa using h
  subst e;have:Fp x x=none:=by unfold Fp;rw[beq_self_eq_true];rfl
  rw[List.filterMap_cons,this];exact Ri (List.nodup_cons.1 a).1
 | x::r,k+1,a,h=>by
  have c:r[k]?=some n:=by simpa using h
  have b:(n==x)=false:=by
   rw[beq_eq_false_iff_ne];rintro rfl;exact (List.nodup_cons.1 a).1 (zG c)
  have:Fp n x=some x:=by unfold Fp;rw[b];rfl
  rw[List.filterMap_cons,this];simp only;rw[KY (List.nodup_cons.1 a).2 c];rfl
theorem ajB{α:Type}(a:List α)(b:Nat)(h:b<=a.length):eff.cutL a (some (b:Int)) none=some (a.drop b):=by
 unfold eff.cutL;simp only[Option.getD_some,Option.getD_none];rw[if_pos]
 ·simp
 ·omega
def NZ(k:Nat)(x y:aB):aB:=aB.mk (x.cells++y.cells.take k++y.cells.drop (k+1)) (kP x.orig y.orig)
def N7(i k:Nat)(x y:aB):Option aB:=bif x.cells.getD i 0==y.cells.getD k 0 then some (NZ k x y)else none
set_option maxRecDepth 4000 in
theorem ag7{P:List aj}(M:P.length<=1048576)(a b c:af)(V:VOk P a)(C:VOk P b)(hc:VOk P c):Al P (FO a b c) (ER a b c):=by
 unfold FO ER;rw[aC,aC,aC];refine qN [2,5,5] (akp V.fit C.fit hc.fit) rfl (λe=>dZ e) (λe=>dZ e) λN hk=>?_
 have kb:b.kind=5:=hk 1 b 5 rfl rfl;have kc:c.kind=5:=hk 2 c 5 rfl rfl;obtain⟨b0,bt⟩:=tY (N b (by simp)) kb;obtain⟨c0,ct⟩:=tY (N c (by simp)) kc;have tb:=Df bt;have tc:=Df ct;have b4:=tb.c4;have c4:=tc.c4;have W:=tb.len;have X:=tc.len;have lb:(b.columns.length:Int)<=1048576:=by omega
 have lc:(c.columns.length:Int)<=1048576:=by omega
 have lw:=List.length_filterMap_le (Fp a.text) c.columns;simp only[zV,aa,D9 b _ lb,Dy b _ lb,D9 c _ lc,Dy c _ lc,Xq c.columns a.text lc,zA,jY,jX,aC,List.nil_append,
  bK (show 0+b.columns.length<=34359738368 by omega),bK (show b.columns.length+(c.columns.filterMap (Fp a.text)).length<=34359738368 by omega)]
 rcases jI a.text b.columns with hp | ⟨i,hi,hp,_⟩
 ·rw[hp];exact⟨dI 7,rfl,rfl,bD (by omega) (by omega)⟩
 rw[hp,X5 i];simp only[aa];rcases jI a.text c.columns with D | ⟨k,Y,D,E⟩
 ·rw[D];exact⟨dI 7,rfl,rfl,bD (by omega) (by omega)⟩
 have ccl:=tc.cl;unfold clB at ccl;simp only[zI,decide_eq_true_eq]at ccl;have F:=KY (RX c.columns ccl.2.2) E;have G:w64 ((k:Int)+1)=((k+1:Nat):Int):=by rw[bQ (by omega) (by omega)];rfl
 have Z:(c.columns.take k).length<=4:=by rw[a8];omega
 have lt2:(c.columns.drop (k+1)).length<=4:=by rw[List.length_drop];omega
 have r:b.columns++c.columns.filterMap (Fp a.text)=b.columns++c.columns.take k++c.columns.drop (k+1):=by rw[F,a7]
 rw[D,X5 k];simp only[r,aa,X6 c.columns k (by omega),G,ajB c.columns (k+1) (by omega),zA,bK (show b.columns.length+(c.columns.take k).length<=34359738368 by omega),
  bK (show (b.columns++c.columns.take k).length+(c.columns.drop (k+1)).length<=34359738368 by rw[a6];omega)]
 have hcols:(b.columns++c.columns.take k++c.columns.drop (k+1)).length=b.columns.length+(c.columns.length-1):=by
  rw[a6,a6,a8,List.length_drop];omega
 have f1:=(dK.1 C.fit).2.2.2.2.2.1;have O:=(dK.1 hc.fit).2.2.2.2.2.1;have t:bZ B20 (.list (.base .str) (b.columns++c.columns.take k++c.columns.drop (k+1))):=dh (by rw[hcols];omega) λx d=>by
  rcases List.mem_append.1 d with d | d
  ·rcases List.mem_append.1 d with d | d
   ·exact f1.dB x d
   ·exact O.dB x (List.mem_of_mem_take d)
  ·exact O.dB x (List.mem_of_mem_drop d)
 have v:(b.columns++c.columns.take k++c.columns.drop (k+1)).all nmB=true:=by
  have bcl:=tb.cl;unfold clB at bcl;simp only[zI,decide_eq_true_eq]at bcl;refine List.all_eq_true.2 λx d=>?_
  rcases List.mem_append.1 d with d | d
  ·rcases List.mem_append.1 d with d | d
   ·exact List.all_eq_true.1 bcl.1 x d
   ·exact List.all_eq_true.1 ccl.1 x (List.mem_of_mem_take d)
  ·exact List.all_eq_true.1 ccl.1 x (List.mem_of_mem_drop d)
 obtain⟨cols,w⟩:∃cols,b.columns++c.columns.take k++c.columns.drop (k+1)=cols:=⟨_,rfl⟩;simp only[w];rw[w]at hcols t v;have ll:(cols.length:Int)<=1048576:=by omega
 simp only[ZN cols ll,Za cols ll,zA];cases H:dsB cols with
 | false=>exact⟨dI 7,rfl,rfl,bD (by omega) (by omega)⟩
 | true=>
 simp only[aL,aa];by_cases Q:(cols.length:Int)>4
 ·have I:∀(q:Decidable ((cols.length:Int)>4)),@decide _ q=true:=λ_=>ae Q
  simp only[I];exact⟨dI 6,rfl,rfl,bD (by omega) (by omega)⟩
 have I:∀(q:Decidable ((cols.length:Int)>4)),@decide _ q=false:=λ_=>ac Q
 simp only[I,aa];have orB':∀x,x∈b.rows->GI P x.orig:=λx d=>⟨(iy.1 (C.row d).fit).2,(C.row d).org,(tb.row x d).2.2⟩
 have orC:∀y,y∈c.rows->GI P y.orig:=λy f=>⟨(iy.1 (hc.row f).fit).2,(hc.row f).org,(tc.row y f).2.2⟩
 have J:∀x,x∈b.rows->∀y,y∈c.rows->GI P (NZ k x y).orig/\(NZ k x y).cells.length=cols.length/\∀n,n∈(NZ k x y).cells->nB n=true:=λx d y f=>by
  obtain⟨x1,R,_⟩:=tb.row x d;obtain⟨y1,S,_⟩:=tc.row y f;refine⟨(GV M (orB' x d) (orC y f)).2.2,?_,λn g=>?_⟩
  ·show (x.cells++y.cells.take k++y.cells.drop (k+1)).length=_
   rw[a6,a6,a8,List.length_drop];omega
  ·have g:n∈x.cells++y.cells.take k++y.cells.drop (k+1):=g;rcases List.mem_append.1 g with g | g
   ·rcases List.mem_append.1 g with g | g
    ·exact R n g
    ·exact S n (List.mem_of_mem_take g)
   ·exact S n (List.mem_of_mem_drop g)
 refine jP (λ(s:List aB) (m:Nat)=>((c.kind,c.n,c.step,c.text,c.list,c.columns,c.rows,0,0,0,[],[],[],[],(i:Int),(k:Int),5,0,0,[],[],cols,s,b.rows,(b.rows.length:Int),(m:Int)) :
   Int×Int×Int×Str×(List af)×(List Str)×(List aB)×Int×Int×Int×Str×(List af)×(List Str)×(List aB)×Int×Int×Int×Int×Int×Str×(List af)×(List Str)×(List aB)×(List aB)×Int×Int))
  (λ(s:List aB) (m:Nat)=>((b.kind,b.n,b.step,b.text,b.list,b.columns,b.rows,c.kind,c.n,c.step,c.text,c.list,c.columns,c.rows,0,0,0,[],[],[],[],(i:Int),(k:Int),5,0,0,[],[],cols,s,(m:Int)) :
   Int×Int×Int×Str×(List af)×(List Str)×(List aB)×Int×Int×Int×Str×(List af)×(List Str)×(List aB)×Int×Int×Int×Str×(List af)×(List Str)×(List aB)×Int×Int×Int×Int×Int×Str×(List af)×(List Str)×(List aB)×Int))
  b.rows (λm s=>s.length<=12*m/\∀z,z∈s->∃x,x∈b.rows/\∃y,y∈c.rows/\z=NZ k x y) _ (λm x s d K=>?_) (λs K=>?_) [] ⟨ar _,λx d=>by cases d⟩
 ·obtain⟨L,o⟩:=K;have p:=zG d;have hm:=(zC.1 d).1;obtain⟨x1,R,_⟩:=tb.row x p;have ex:x.cells[i]?=some (x.cells.getD i 0):=by rw[zE,zF (by omega)];rfl
  have up12:=dW d (show (b.rows.length:Int)<=1048576 by omega);have lx:x.cells.length<=4:=by omega
  have row:∀(j:Nat) (y:aB),c.rows[j]?=some y->y.cells[k]?=some (y.cells.getD k 0)/\eff.cutL y.cells none (some (k:Int))=some (y.cells.take k)/\eff.cutL y.cells (some ((k+1:Nat):Int)) none=some (y.cells.drop (k+1))/\(y.cells.take k).length<=4/\(y.cells.drop (k+1)).length<=4 /\
    iM x.orig y.orig=some (kP x.orig y.orig)/\rD x.orig y.orig=some (kP x.orig y.orig):=λj y f=>by
   have A:=zG f;obtain⟨y1,_,_⟩:=tc.row y A;obtain⟨u1,u2,_⟩:=GV M (orB' x p) (orC y A);exact⟨by rw[zE,zF (by omega)];rfl,X6 y.cells k (by omega),ajB y.cells (k+1) (by omega),by rw[a8];omega,by rw[List.length_drop];omega,u1,u2⟩
  have hlf:=List.length_filterMap_le (N7 i k x) c.rows;refine .inl ⟨s++c.rows.filterMap (N7 i k x),?_,?_,by rw[a6];omega,λz h=>?_⟩
  ·simp only[dw d,ab,aQ,d,zA];refine ZW (λ(u:List aB) (j:Nat)=>((c.kind,c.n,c.step,c.text,c.list,c.columns,c.rows,0,0,0,[],[],[],[],(i:Int),(k:Int),5,0,0,[],[],cols,u,x.cells,x.orig,b.rows,(b.rows.length:Int),(m:Int),c.rows,(c.rows.length:Int),(j:Int)) :
    Int×Int×Int×Str×(List af)×(List Str)×(List aB)×Int×Int×Int×Str×(List af)×(List Str)×(List aB)×Int×Int×Int×Int×Int×Str×(List af)×(List Str)×(List aB)×(List Int)×(List aj)×(List aB)×Int×Int×(List aB)×Int×Int)) c.rows (N7 i k x) s _ (λj y u f hu=>?_) ?_
   ·have hj:=(zC.1 f).1;obtain⟨w1,w2,w3,w4,w5,T,U⟩:=row j y f;simp only[dw f,ab,aQ,f,ex,w1,zA,dW f (show (c.rows.length:Int)<=1048576 by omega),bne];unfold N7;cases (x.cells.getD i 0==y.cells.getD k 0)with
    | false=>simp only[Bool.not_false,ab,aa,Option.toList_none,List.append_nil]
    | true=>
     simp only[aL,ab,aa,Option.toList_some,w2,G,w3,zA,List.nil_append,bK (show 0+x.cells.length<=34359738368 by omega),bK (show x.cells.length+(y.cells.take k).length<=34359738368 by omega),
      bK (show (x.cells++y.cells.take k).length+(y.cells.drop (k+1)).length<=34359738368 by rw[a6];omega),uU,T,bK (show u.length+[aB.mk (x.cells++y.cells.take k++y.cells.drop (k+1)) (kP x.orig y.orig)].length<=34359738368 by simp only[List.length_singleton];omega)]
     rfl
   ·simp only[bP,aa,up12]
  ·simp only[dw d,ab];refine ZW (λ(u:List aB) (j:Nat)=>((b.kind,b.n,b.step,b.text,b.list,b.columns,b.rows,c.kind,c.n,c.step,c.text,c.list,c.columns,c.rows,0,0,0,[],[],[],[],(i:Int),(k:Int),5,0,0,[],[],cols,u,(m:Int),(j:Int)) :
    Int×Int×Int×Str×(List af)×(List Str)×(List aB)×Int×Int×Int×Str×(List af)×(List Str)×(List aB)×Int×Int×Int×Str×(List af)×(List Str)×(List aB)×Int×Int×Int×Int×Int×Str×(List af)×(List Str)×(List aB)×Int×Int)) c.rows (N7 i k x) s _ (λj y u f hu=>?_) ?_
   ·have hj:=(zC.1 f).1;obtain⟨w1,w2,w3,w4,w5,T,U⟩:=row j y f;simp only[dw f,ab,aQ,d,f,ex,w1,zA,dW f (show (c.rows.length:Int)<=1048576 by omega)];unfold N7;cases (x.cells.getD i 0==y.cells.getD k 0)with
    | false=>simp only[aa,Option.toList_none,List.append_nil]
    | true=>
     have hpair:Ko x y (k:Int)=some (NZ k x y):=by
      unfold Ko;simp only[w2,G,w3,zA,List.nil_append,bK (show 0+x.cells.length<=34359738368 by omega),bK (show x.cells.length+(y.cells.take k).length<=34359738368 by omega),
       bK (show (x.cells++y.cells.take k).length+(y.cells.drop (k+1)).length<=34359738368 by rw[a6];omega),U]
      rfl
     simp only[ab,Option.toList_some,hpair,zA,bK (show u.length+[NZ k x y].length<=34359738368 by simp only[List.length_singleton];omega)]
   ·simp only[bP,aa,up12]
  ·rcases List.mem_append.1 h with h | h
   ·exact o z h
   ·obtain⟨y,f,hf⟩:=List.mem_filterMap.1 h;unfold N7 at hf;cases B:(x.cells.getD i 0==y.cells.getD k 0)with
    | false=>rw[B]at hf;cases hf
    | true=>rw[B]at hf;exact⟨x,p,y,f,(aR hf).symm⟩
 ·obtain⟨L,o⟩:=K;by_cases l:(s.length:Int)>12
  ·refine⟨dI 6,by simp only[bP,aa,ae l];rfl,by simp only[bP,aa,ae l];rfl,bD (by omega) (by omega)⟩
  ·have hrow:∀z,z∈s->GI P z.orig/\z.cells.length=cols.length/\∀n,n∈z.cells->nB n=true:=λz h=>by
    obtain⟨x,d,y,f,rfl⟩:=o z h;exact J x d y f
   refine⟨tK cols s,by simp only[bP,aa,ac l];rfl,by simp only[bP,aa,ac l];rfl,GZ t (by omega) λz h=>?_,?_⟩
   ·obtain⟨w1,w2,w3⟩:=hrow z h;exact⟨iy.2 ⟨dh (by rw[w2];exact ll) λn g=>N9 (w3 n g),w1.fit⟩,w1.org⟩
   ·rw[AY];refine QN ?_ (by omega) λz h=>⟨(hrow z h).2.1,(hrow z h).2.2,(hrow z h).1.asc⟩
    unfold clB;simp only[zI,decide_eq_true_eq];exact⟨v,⟨by omega,by omega⟩,H⟩
abbrev Grp:=Int×Int×List aj
def jw(g:Grp):aB:=aB.mk [g.1,g.2.1] g.2.2
def Cm(x n:Int)(fr:List aj):List Grp->List Grp
 | []=>[(x,n,fr)]
 | g::r=>if g.1=x then (g.1,w64 (g.2.1+n),kP g.2.2 fr)::r else g::Cm x n fr r
def EY(x n:Int)(fr:List aj):List Grp->List Grp
 | []=>[(x,n,fr)]
 | g::r=>if g.1=x then (g.1,w64 (g.2.1+n),kP g.2.2 fr)::r else if g.1>x then (x,n,fr)::g::r else g::EY x n fr r
structure GOk(P:List aj)(g:Grp):Prop where
 key:nB g.1=true
 org:GI P g.2.2
theorem aj8{n:Int}(h:nB n=true):IntKind.i64.wrap (0+n)=n:=by
 unfold nB at h;rw[zI,decide_eq_true_eq,decide_eq_true_eq]at h;show w64 (0+n)=n
 rw[bQ (by omega) (by omega)];omega
theorem Rx{P:List aj}(c:P.length<=1048576)(x n:Int)(fr:List aj)(d:nB x=true)(i:nB n=true)(hf:GI P fr):∀gs:List Grp,(∀g,g∈gs->GOk P g)->qy x n fr gs=some (Cm x n fr gs)/\∀g,g∈Cm x n fr gs->GOk P g
 | [],_=>by
  refine⟨?_,λg a=>?_⟩
  ·unfold qy Cm;rw[(GV c or_nil hf).1,zA,aj8 i,adi (Z8 hf.asc)]
  ·have:g=(x,n,fr):=by simpa [Cm] using a
   subst this;exact⟨d,hf⟩
 | (y,s,f)::r,h=>by
  have a:=h _ aq;obtain⟨j,_,k⟩:=GV c a.org hf;obtain⟨l,m⟩:=Rx c x n fr d i hf r λg a=>h g (ao _ a)
  unfold qy Cm;by_cases e:y=x
  ·rw[if_pos e];simp only[if_pos e];rw[j,zA];refine⟨rfl,λg b=>?_⟩;rcases ba.1 b with rfl | b
   ·exact⟨a.key,k⟩
   ·exact h g (ao _ b)
  ·rw[if_neg e];simp only[if_neg e];rw[l,zA];refine⟨rfl,λg b=>?_⟩;rcases ba.1 b with rfl | b
   ·exact a
   ·exact m g b
def GK(gs:List Grp):Prop:=gs.Pairwise λa b=>a.1≠b.1
def tC(gs:List Grp):Prop:=gs.Pairwise λa b=>a.1<b.1
theorem tC.nd{gs:List Grp}(h:tC gs):GK gs:=h.imp λh=>by omega
def SK(x n:Int)(fr:List aj)(l:List Grp)(v:Grp):Prop:=
 (∃g,g∈l/\g.1=x/\v=(x,w64 (g.2.1+n),kP g.2.2 fr))\/((∀g,g∈l->g.1≠x)/\v=(x,n,fr))
theorem aeO{l:List Grp}(h:GK l){a b:Grp}(d:a∈l)(c:b∈l)(f:a.1=b.1):a=b:=by
 induction l with
 | nil=>cases d
 | cons g r ih=>
  obtain⟨i,k⟩:=List.pairwise_cons.1 h;rcases ba.1 d with j | d
  ·rcases ba.1 c with e | c
   ·rw[j,e]
   ·exact absurd (j▸f) (i b c)
  ·rcases ba.1 c with e | c
   ·exact absurd (e▸f.symm) (i a d)
   ·exact ih k d c
theorem ZE{x n:Int}{fr:List aj}{l l':List Grp}(h:GK l)(d:∀z,z∈l'↔z∈l){v v':Grp}(i:SK x n fr l v)(b:SK x n fr l' v'):v=v':=by
 rcases i with ⟨g,f,e,rfl⟩ | ⟨j,rfl⟩
 ·rcases b with ⟨g',a,e',rfl⟩ | ⟨c,rfl⟩
  ·rw[aeO h f ((d g').1 a) (e.trans e'.symm)]
  ·exact absurd e (c g ((d g).2 f))
 ·rcases b with ⟨g',a,e',rfl⟩ | ⟨c,rfl⟩
  ·exact absurd e' (j g' ((d g').1 a))
  ·rfl
theorem Yn(x n:Int)(fr:List aj):∀l:List Grp,GK l->∃v,SK x n fr l v/\∀z,z∈Cm x n fr l↔(z∈l/\z.1≠x)\/z=v
 | [],_=>⟨(x,n,fr),.inr ⟨(λg d=>by cases d),rfl⟩,λz=>by simp[Cm]⟩
 | g::r,h=>by
  obtain⟨f,i⟩:=List.pairwise_cons.1 h;unfold Cm;by_cases e:g.1=x
  ·rw[if_pos e];refine⟨(x,w64 (g.2.1+n),kP g.2.2 fr),.inl ⟨g,aq,e,rfl⟩,λz=>?_⟩;rw[e];constructor
   ·intro a;rcases ba.1 a with rfl | a
    ·exact .inr rfl
    ·exact .inl ⟨ao _ a,λhh=>f z a (e.trans hh.symm)⟩
   ·rintro (⟨a,b⟩ | rfl)
    ·rcases ba.1 a with rfl | a
     ·exact absurd e b
     ·exact ao _ a
    ·exact aq
  ·rw[if_neg e];obtain⟨v,j,k⟩:=Yn x n fr r i;refine⟨v,?_,λz=>?_⟩
   ·rcases j with ⟨g',c,e',rfl⟩ | ⟨m,rfl⟩
    ·exact .inl ⟨g',ao _ c,e',rfl⟩
    ·refine .inr ⟨λg' c=>?_,rfl⟩;rcases ba.1 c with rfl | c
     ·exact e
     ·exact m g' c
   ·rw[ba,ba,k];constructor
    ·rintro (rfl | ⟨a,b⟩ | rfl)
     ·exact .inl ⟨.inl rfl,e⟩
     ·exact .inl ⟨.inr a,b⟩
     ·exact .inr rfl
    ·rintro (⟨rfl | a,b⟩ | rfl)
     ·exact .inl rfl
     ·exact .inr (.inl ⟨a,b⟩)
     ·exact .inr (.inr rfl)
theorem acv{x n:Int}{fr:List aj}{l:List Grp}{v:Grp}(h:SK x n fr l v):v.1=x:=by
 rcases h with ⟨g,_,_,rfl⟩ | ⟨_,rfl⟩<;>rfl
theorem SE(x n:Int)(fr:List aj):∀(l:List Grp) (z:Grp),z∈Cm x n fr l->z.1=x\/∃g,g∈l/\g.1=z.1
 | [],z,a=>by
  have c:z=(x,n,fr):=by simpa [Cm] using a
  exact .inl (by rw[c])
 | g::r,z,a=>by
  unfold Cm at a;by_cases e:g.1=x
  ·rw[if_pos e]at a;rcases ba.1 a with rfl | a
   ·exact .inl e
   ·exact .inr ⟨z,ao _ a,rfl⟩
  ·rw[if_neg e]at a;rcases ba.1 a with rfl | a
   ·exact .inr ⟨z,aq,rfl⟩
   ·rcases SE x n fr r z a with h | ⟨g',b,h⟩
    ·exact .inl h
    ·exact .inr ⟨g',ao _ b,h⟩
theorem aa9(x n:Int)(fr:List aj):∀l:List Grp,GK l->GK (Cm x n fr l)
 | [],_=>List.pairwise_singleton _ _
 | g::r,h=>by
  obtain⟨b,c⟩:=List.pairwise_cons.1 h;unfold Cm;by_cases e:g.1=x
  ·rw[if_pos e];exact List.pairwise_cons.2 ⟨b,c⟩
  ·rw[if_neg e];refine List.pairwise_cons.2 ⟨λz d=>?_,aa9 x n fr r c⟩;rcases SE x n fr r z d with hk | ⟨g',a,hk⟩
   ·rw[hk];exact e
   ·rw[<- hk];exact b g' a
theorem EX(x n:Int)(fr:List aj):∀l:List Grp,tC l->(∃v,SK x n fr l v/\∀z,z∈EY x n fr l↔(z∈l/\z.1≠x)\/z=v)/\tC (EY x n fr l)
 | [],_=>⟨⟨(x,n,fr),.inr ⟨(λg m=>by cases m),rfl⟩,λz=>by simp[EY]⟩,List.pairwise_singleton _ _⟩
 | g::r,h=>by
  obtain⟨f,i⟩:=List.pairwise_cons.1 h;unfold EY;by_cases e:g.1=x
  ·rw[if_pos e];refine⟨⟨(x,w64 (g.2.1+n),kP g.2.2 fr),.inl ⟨g,aq,e,rfl⟩,λz=>?_⟩,List.pairwise_cons.2 ⟨f,i⟩⟩;rw[e];constructor
   ·intro a;rcases ba.1 a with rfl | a
    ·exact .inr rfl
    ·exact .inl ⟨ao _ a,λhh=>by have:=f z a;omega⟩
   ·rintro (⟨a,b⟩ | rfl)
    ·rcases ba.1 a with rfl | a
     ·exact absurd e b
     ·exact ao _ a
    ·exact aq
  ·rw[if_neg e];by_cases d:g.1>x
   ·rw[if_pos d];have hall:∀z,z∈g::r->x<z.1:=λz a=>by
     rcases ba.1 a with rfl | a
     ·exact d
     ·have:=f z a;omega
    refine⟨⟨(x,n,fr),.inr ⟨λz a=>by have:=hall z a;omega,rfl⟩,λz=>?_⟩,List.pairwise_cons.2 ⟨hall,h⟩⟩;constructor
    ·intro a;rcases ba.1 a with rfl | a
     ·exact .inr rfl
     ·exact .inl ⟨a,by have:=hall z a;omega⟩
    ·rintro (⟨a,_⟩ | rfl)
     ·exact ao _ a
     ·exact aq
   ·rw[if_neg d];obtain⟨⟨v,j,k⟩,o⟩:=EX x n fr r i;refine⟨⟨v,?_,λz=>?_⟩,List.pairwise_cons.2 ⟨λz a=>?_,o⟩⟩
    ·rcases j with ⟨g',c,e',rfl⟩ | ⟨p,rfl⟩
     ·exact .inl ⟨g',ao _ c,e',rfl⟩
     ·refine .inr ⟨λg' c=>?_,rfl⟩;rcases ba.1 c with rfl | c
      ·exact e
      ·exact p g' c
    ·rw[ba,ba,k];constructor
     ·rintro (rfl | ⟨a,b⟩ | rfl)
      ·exact .inl ⟨.inl rfl,e⟩
      ·exact .inl ⟨.inr a,b⟩
      ·exact .inr rfl
     ·rintro (⟨rfl | a,b⟩ | rfl)
      ·exact .inl rfl
      ·exact .inr (.inl ⟨a,b⟩)
      ·exact .inr (.inr rfl)
    ·rcases (k z).1 a with ⟨a,_⟩ | rfl
     ·exact f z a
     ·rw[acv j];omega
theorem Ru:∀ {a b:List Grp},tC a->tC b->(∀z,z∈a↔z∈b)->a=b
 | [],[],_,_,_=>rfl
 | [],y::b,_,_,h=>by cases (h y).2 aq
 | x::a,[],_,_,h=>by cases (h x).1 aq
 | x::a,y::b,i,j,h=>by
  obtain⟨f,k⟩:=List.pairwise_cons.1 i;obtain⟨g,l⟩:=List.pairwise_cons.1 j;have e:x=y:=by
   rcases ba.1 ((h x).1 aq)with e | m
   ·exact e
   ·rcases ba.1 ((h y).2 aq)with e | n
    ·exact e.symm
    ·have:=g x m;have:=f y n;omega
  subst e;rw[Ru k l λz=>?_];constructor
  ·intro d;rcases ba.1 ((h z).1 (ao _ d))with rfl | c
   ·have:=f _ d;omega
   ·exact c
  ·intro d;rcases ba.1 ((h z).2 (ao _ d))with rfl | c
   ·have:=g _ d;omega
   ·exact c
theorem ZC{gs:List Grp}(h:GK gs):tC (gs.mergeSort λp q=>decide (p.1<=q.1)):=by
 have f:=List.pairwise_mergeSort (le:=λp q:Grp=>decide (p.1<=q.1)) (λa b c f g=>by simp only[decide_eq_true_eq]at *;omega) (λa b=>by simp only[Bool.or_eq_true,decide_eq_true_eq];omega) gs;have g:GK (gs.mergeSort λp q=>decide (p.1<=q.1)):=(List.mergeSort_perm gs _).symm.pairwise h λd=>λe=>d e.symm
 refine (List.pairwise_and_iff.2 ⟨f,g⟩).imp λ{a b} h=>?_
 have:=h.1;simp only[decide_eq_true_eq]at this;have:=h.2;omega
def DF(x n:Int)(fr:List aj)(s:List aB×Bool)(g:Grp):List aB×Bool:=
 if g.1=x then (s.1++[aB.mk [x,w64 (g.2.1+n)] (kP g.2.2 fr)],true)else if g.1>x then if s.2=true then (s.1++[jw g],s.2)else (s.1++[aB.mk [x,n] fr]++[jw g],true)else (s.1++[jw g],s.2)
def agA(x n:Int)(fr:List aj)(s:List aB×Bool):List aB:=if s.2=true then s.1 else s.1++[aB.mk [x,n] fr]
theorem Ie(x n:Int)(fr:List aj):∀(l:List Grp) (out:List aB),(∀g,g∈l->g.1>x)->l.foldl (DF x n fr) (out,true)=(out++l.map jw,true)
 | [],out,_=>by simp
 | g::r,out,h=>by
  have a:=h g aq;rw[List.foldl_cons];have:DF x n fr (out,true) g=(out++[jw g],true):=by
   unfold DF;rw[if_neg (by omega),if_pos a,if_pos rfl]
  rw[this,Ie x n fr r _ λg a=>h g (ao _ a)];simp
theorem aaE(x n:Int)(fr:List aj):∀(l:List Grp) (out:List aB),tC l->agA x n fr (l.foldl (DF x n fr) (out,false))=out++(EY x n fr l).map jw
 | [],out,_=>rfl
 | g::r,out,h=>by
  obtain⟨c,d⟩:=List.pairwise_cons.1 h;rw[List.foldl_cons];unfold EY;by_cases e:g.1=x
  ·have:DF x n fr (out,false) g=(out++[aB.mk [x,w64 (g.2.1+n)] (kP g.2.2 fr)],true):=by unfold DF;rw[if_pos e]
   rw[this,Ie x n fr r _ λg' b=>by have:=c g' b;omega,if_pos e];show (out++[aB.mk [x,w64 (g.2.1+n)] (kP g.2.2 fr)])++r.map jw=out++(jw (g.1,w64 (g.2.1+n),kP g.2.2 fr)::r.map jw)
   unfold jw;rw[e,a7];rfl
  ·rw[if_neg e];by_cases a:g.1>x
   ·have:DF x n fr (out,false) g=(out++[aB.mk [x,n] fr]++[jw g],true):=by unfold DF;rw[if_neg e,if_pos a,if_neg (by simp)]
    rw[this,Ie x n fr r _ λg' b=>by have:=c g' b;omega,if_pos a];show (out++[aB.mk [x,n] fr]++[jw g])++r.map jw=out++(aB.mk [x,n] fr::jw g::r.map jw)
    simp
   ·have:DF x n fr (out,false) g=(out++[jw g],false):=by unfold DF;rw[if_neg e,if_neg a]
    rw[this,aaE x n fr r _ d,if_neg a];simp
theorem agh{P:List aj}(o:P.length<=1048576)(x n:Int)(fr:List aj)(hf:GI P fr)(l:List Grp)(w:l.length<=1000)(h:∀g,g∈l->GOk P g)(p:tC l):TS (l.map jw) x n fr=some ((EY x n fr l).map jw):=by
 have q:=bT hf.fit;have d:((l.map jw).length:Int)<=1048576:=by rw[List.length_map];omega
 have f:(l.map jw).length=l.length:=List.length_map _;unfold TS;have r:(EY x n fr l).map jw=agA x n fr (l.foldl (DF x n fr) ([],false)):=by rw[aaE x n fr l [] p,List.nil_append]
 rw[r];refine (sD (λ(s:List aB×Bool) (i:Nat)=>((l.map jw,x,n,fr,s.1,s.2,(i:Int)):(List aB)×Int×Int×(List aj)×(List aB)×Bool×Int)) l (DF x n fr) (agA x n fr) (λi s=>s.1.length<=2*i)
  (λi g s c k=>?_) (λi g s c k=>?_) (λs k=>?_) ([],false) (ar _)).1
 ·show (DF x n fr s g).1.length<=2*(i+1)
  unfold DF;repeat' split
  all_goals simp
  all_goals omega
 ·have A:=(zC.1 c).1;have b:(l.map jw)[i]?=some (jw g):=by rw[List.getElem?_map,c];rfl
  obtain⟨_,t,_⟩:=GV o (h g (zG c)).org hf;have gd1:∀y:aB,gd (s.1.length+[y].length)=some ():=λy=>bK (by simp only[List.length_singleton];omega)
  have j:∀y z:aB,gd ((s.1++[y]).length+[z].length)=some ():=λy z=>bK (by simp only[a6,List.length_singleton];omega)
  have c0:idx [g.1,g.2.1] 0=some g.1:=rfl;have c1:idx [g.1,g.2.1] 1=some g.2.1:=rfl;have u:∀m:Int,idx [x,m] 0=some x:=λ_=>rfl
  have v:∀m:Int,[x,m][0]?=some x:=λ_=>rfl
  unfold DF;simp only[dw b,ab,aQ,b,zA,dW b d,jw,c0,c1,t,u,v,gd1,j,List.nil_append,bK (show 0+fr.length<=34359738368 by omega)];by_cases e:g.1=x
  ·have eb:(g.1==x)=true:=by simpa using e
   rw[eb,if_pos e];have:decide (x>x)=false:=by simp
   rw[this];rfl
  ·have eb:(g.1==x)=false:=by simpa using e
   rw[eb,if_neg e];by_cases a:g.1>x
   ·rw[ae a,if_pos a];cases s.2<;>rfl
   ·rw[ac a,if_neg a];rfl
 ·have gd1:∀y:aB,gd (s.1.length+[y].length)=some ():=λy=>bK (by simp only[List.length_singleton];omega)
  unfold agA;simp only[<- f,bP,aa,gd1,List.nil_append,bK (show 0+fr.length<=34359738368 by omega),zA];cases s.2<;>rfl
theorem WJ(x n:Int)(fr:List aj):∀l:List Grp,(EY x n fr l).length<=l.length+1
 | []=>ar _
 | g::r=>by
  unfold EY;by_cases e:g.1=x
  ·rw[if_pos e];simp
  ·rw[if_neg e];by_cases h:g.1>x
   ·rw[if_pos h];simp
   ·rw[if_neg h];have:=WJ x n fr r;simp only[List.length_cons];omega
theorem aeR{P:List aj}(b:P.length<=1048576){x n:Int}{fr:List aj}{l:List Grp}{v:Grp}(h:SK x n fr l v)(a:nB x=true)(hf:GI P fr)(c:∀g,g∈l->GOk P g):GOk P v:=by
 rcases h with ⟨g,d,_,rfl⟩ | ⟨_,rfl⟩
 ·exact⟨a,(GV b (c g d).org hf).2.2⟩
 ·exact⟨a,hf⟩
theorem agz{P:List aj}(c:P.length<=1048576){x n:Int}{fr:List aj}(d:nB x=true)(hf:GI P fr){l:List Grp}(e:tC l)(b:∀g,g∈l->GOk P g):∀g,g∈EY x n fr l->GOk P g:=λg a=>by
 obtain⟨⟨v,f,h⟩,_⟩:=EX x n fr l e;rcases (h g).1 a with ⟨a,_⟩ | rfl
 ·exact b g a
 ·exact aeR c f d hf b
def adq(i k:Nat)(gs:List Grp)(r:aB):List Grp:=Cm (r.cells.getD i 0) (r.cells.getD k 0) r.orig gs
def CG(i k:Nat)(ts:List Grp)(r:aB):List Grp:=EY (r.cells.getD i 0) (r.cells.getD k 0) r.orig ts
structure ahK(P:List aj)(gs ts:List Grp):Prop where
 ok:∀g,g∈gs->GOk P g
 nd:GK gs
 asd:tC ts
 mem:∀z,z∈ts↔z∈gs
structure GRw(P:List aj)(i k:Nat)(r:aB):Prop where
 gi:r.cells[i]?=some (r.cells.getD i 0)
 gk:r.cells[k]?=some (r.cells.getD k 0)
 ni:nB (r.cells.getD i 0)=true
 nk:nB (r.cells.getD k 0)=true
 org:GI P r.orig
theorem aaT{P:List aj}(d:P.length<=1048576)(i k:Nat):∀(rows:List aB) (gs ts:List Grp),(∀r,r∈rows->GRw P i k r)->ahK P gs ts->qx i k rows gs=some (rows.foldl (adq i k) gs)/\ahK P (rows.foldl (adq i k) gs) (rows.foldl (CG i k) ts)
 | [],gs,ts,_,h=>⟨rfl,h⟩
 | r::rs,gs,ts,f,h=>by
  have a:=f r aq;obtain⟨g,j⟩:=Rx d (r.cells.getD i 0) (r.cells.getD k 0) r.orig a.ni a.nk a.org gs h.ok;obtain⟨v,l,m⟩:=Yn (r.cells.getD i 0) (r.cells.getD k 0) r.orig gs h.nd;obtain⟨⟨u,n,o⟩,p⟩:=EX (r.cells.getD i 0) (r.cells.getD k 0) r.orig ts h.asd;have e:=ZE h.nd h.mem l n;have q:ahK P (adq i k gs r) (CG i k ts r):=⟨j,aa9 _ _ _ gs h.nd,p,λz=>by
   show z∈EY _ _ _ ts↔z∈Cm _ _ _ gs
   rw[o,m,h.mem,e]⟩
  obtain⟨s,t⟩:=aaT d i k rs _ _ (λr b=>f r (ao _ b)) q;refine⟨?_,t⟩;unfold qx;have c:JZ (r.cells.getD i 0)=true:=by
   have:=a.ni;simp[JZ,nB]at this ⊢;omega
  rw[aQ,aQ,a.gi,a.gk,zA,zA,c,if_pos rfl,g,zA];exact s
def abq(g:Grp):Bool:=nB g.2.1
def ae7(a b:Str)(ts:List Grp):af:=bif ts.all abq then tK [a,b] (ts.map jw)else dI 5
theorem acI{P:List aj}(a b:Str){gs ts:List Grp}(h:ahK P gs ts):yx a b gs=some (ae7 a b ts):=by
 have d:(gs.all λg=>decide (-1000000000<=g.2.1)&&decide (g.2.1<=1000000000))=ts.all abq:=by
  rw[Bool.eq_iff_iff,List.all_eq_true,List.all_eq_true];exact⟨λhh z c=>hh z ((h.mem z).1 c),λhh z c=>hh z ((h.mem z).2 c)⟩
 have e:(gs.mergeSort λp q=>decide (p.1<=q.1))=ts:=Ru (ZC h.nd) h.asd λz=>by rw[List.mem_mergeSort,h.mem]
 unfold yx ae7;rw[d,e];cases ts.all abq<;>rfl
theorem ad9{s t:Str}{cs:List Str}{n:Nat}(e:posOf s 0 cs=(n:Int))(f:posOf t 0 cs=(n:Int)):s=t:=by
 rcases jI s cs with h | ⟨a,_,g,d⟩
 ·omega
 rcases jI t cs with h | ⟨b,_,i,c⟩
 ·omega
 have:a=b:=by omega
 subst this;rw[d]at c;exact aR c
theorem ae8{P:List aj}(D:P.length<=1048576)(a b c:af)(O:VOk P a)(Q:VOk P b)(hc:VOk P c):Al P (oH a b c) (vX a b c):=by
 unfold oH vX;simp only[aC];refine qN [2,2,5] (akp O.fit Q.fit hc.fit) rfl (λe=>rfl) (λe=>rfl) λE hk=>?_
 have ka:a.kind=2:=hk 0 a 2 rfl rfl;have kb:b.kind=2:=hk 1 b 2 rfl rfl;have kc:c.kind=5:=hk 2 c 5 rfl rfl;obtain⟨_,ct⟩:=tY (E c (by simp)) kc;obtain⟨_,ta⟩:=tX (E a (by simp)) ka;obtain⟨_,tb⟩:=tX (E b (by simp)) kb;unfold txB at ta tb;rw[zI,decide_eq_true_eq]at ta tb;have tc:=Df ct;have c4:=tc.c4;have R:=tc.len;have lc:(c.columns.length:Int)<=1048576:=by omega
 simp only[zV,aa,D9 c _ lc,Dy c _ lc,zA,jY,jX,aC];rcases jI a.text c.columns with hp | ⟨i,Y,hp,F⟩
 ·rw[hp];exact⟨dI 7,rfl,rfl,bD (by omega) (by omega)⟩
 rw[hp,X5 i];rcases jI b.text c.columns with B | ⟨k,S,B,G⟩
 ·rw[B];exact⟨dI 7,rfl,rfl,bD (by omega) (by omega)⟩
 rw[B,X5 k];simp only[Bool.false_or,aa];by_cases l:a.text=b.text
 ·have H:(a.text==b.text)=true:=by simpa using l
  have I:((i:Int)==(k:Int))=true:=by
   rw[l]at hp;rw[beq_iff_eq];omega
  rw[H,I];exact⟨dI 7,rfl,rfl,bD (by omega) (by omega)⟩
 have H:(a.text==b.text)=false:=by simpa using l
 have I:((i:Int)==(k:Int))=false:=by
  rw[beq_eq_false_iff_ne];intro h;have:i=k:=by omega
  subst this;exact l (ad9 hp B)
 rw[H,I];simp only[aa,bK (show c.rows.length<=34359738368 by omega),zA];have p:∀r,r∈c.rows->GRw P i k r:=λr d=>by
  obtain⟨Z,K,T⟩:=tc.row r d;have L:r.cells[i]?=some (r.cells.getD i 0):=by rw[zE,zF (by omega)];rfl
  have M:r.cells[k]?=some (r.cells.getD k 0):=by rw[zE,zF (by omega)];rfl
  exact⟨L,M,K _ (zG L),K _ (zG M),⟨(iy.1 (hc.row d).fit).2,(hc.row d).org,T⟩⟩
 obtain⟨U,V⟩:=aaT D i k c.rows [] [] p ⟨(λg f=>by cases f),List.Pairwise.nil,List.Pairwise.nil,λz=>Iff.rfl⟩;rw[U,zA,acI a.text b.text V];have tI:∀(m:Nat) (r:aB) (ts:List Grp),c.rows[m]?=some r->(ts.length<=m/\tC ts/\∀g,g∈ts->GOk P g)->((CG i k ts r).length<=m+1/\tC (CG i k ts r)/\∀g,g∈CG i k ts r->GOk P g):=λm r ts d q=>by
  have t:=p r (zG d);have:=WJ (r.cells.getD i 0) (r.cells.getD k 0) r.orig ts;exact⟨by unfold CG;omega,(EX _ _ _ ts q.2.1).2,agz D t.ni t.org q.2.1 q.2.2⟩
 refine⟨_,rfl,(sD (λ(ts:List Grp) (m:Nat)=>((c.kind,c.n,c.step,c.text,c.list,c.columns,c.rows,0,0,0,[],[],[],[],(i:Int),(k:Int),5,0,0,[],[],[a.text,b.text],ts.map jw,(m:Int)) :
   Int×Int×Int×Str×(List af)×(List Str)×(List aB)×Int×Int×Int×Str×(List af)×(List Str)×(List aB)×Int×Int×Int×Int×Int×Str×(List af)×(List Str)×(List aB)×Int)) c.rows (CG i k) (ae7 a.text b.text) (λm ts=>ts.length<=m/\tC ts/\∀g,g∈ts->GOk P g) tI (λm r ts d q=>?_) (λts q=>?_) [] ⟨ar _,List.Pairwise.nil,(λg f=>by cases f)⟩).1,?_⟩
 ·obtain⟨J,v,w⟩:=q;have hm:=(zC.1 d).1;have t:=p r (zG d);have hp:=agh D (r.cells.getD i 0) (r.cells.getD k 0) r.orig t.org ts (by omega) w v;simp only[dw d,ab,aQ,d,t.gi,t.gk,hp,zA,dW d (show (c.rows.length:Int)<=1048576 by omega)];rfl
 ·obtain⟨J,v,w⟩:=q;have W:((ts.map jw).length:Int)<=1048576:=by rw[List.length_map];omega
  simp only[bP,aa];have hall:((ts.map jw).all λr=>nB (r.cells.getD 1 0))=ts.all abq:=by rw[List.all_map];rfl
  refine (congrArg (λo=>Option.bind o _) (nP (λ(j:Nat)=>((0,0,0,[],[],[],[],5,0,0,[],[],[a.text,b.text],ts.map jw,(j:Int)):Int×Int×Int×Str×(List af)×(List Str)×(List aB)×Int×Int×Int×Str×(List af)×(List Str)×(List aB)×Int)) (ts.map jw) (λ_ r=>nB (r.cells.getD 1 0)) (dI 5) (tK [a.text,b.text] (ts.map jw)) (λj r d=>?_) ?_)).trans ?_
  ·have y:=d;rw[List.getElem?_map]at y;obtain⟨g,_,rfl⟩:=Option.map_eq_some_iff.1 y;have X:(ts.map jw)[((j:Int)).toNat]?=some (jw g):=by rw[aw];exact d
   have c1:idx (jw g).cells 1=some g.2.1:=rfl;have c2:(jw g).cells.getD 1 0=g.2.1:=rfl;simp only[dw d,ab,aQ,d,X,c1,c2,zA,Dj,jX,aC,dW d W];cases nB g.2.1<;>rfl
  ·simp only[bP,aa];rfl
  ·rw[jo,hall];unfold ae7;cases ts.all abq<;>rfl
 ·have hfin:=(sD (g:=λ(x:List Grp×Nat)=>match c.rows[x.2]? with | some r=>some (.inl (CG i k x.1 r,x.2+1)) | none=>some (.inr ())) (λts m=>(ts,m)) c.rows (CG i k) (λ_=>()) (λm ts=>ts.length<=m/\tC ts/\∀g,g∈ts->GOk P g) tI (λm r ts d _=>by simp only[d]) (λts _=>by simp) [] ⟨ar _,List.Pairwise.nil,(λg f=>by cases f)⟩).2;obtain⟨f1,f2,C⟩:=hfin;generalize c.rows.foldl (CG i k) []=ts at *;unfold ae7;cases hall:ts.all abq with
  | false=>exact bD (by omega) (by omega)
  | true=>
   have ccl:=tc.cl;unfold clB at ccl;simp only[zI,decide_eq_true_eq]at ccl;have hrow:∀z,z∈ts.map jw->∃g,g∈ts/\z=jw g:=λz A=>by
    obtain⟨g,f,rfl⟩:=List.mem_map.1 A;exact⟨g,f,rfl⟩
   have hnum:∀g,g∈ts->∀n,n∈(jw g).cells->nB n=true:=λg f n u=>by
    have u:n∈[g.1,g.2.1]:=u;simp only[ba,List.not_mem_nil,or_false]at u;rcases u with rfl | rfl
    ·exact (C g f).key
    ·exact List.all_eq_true.1 hall g f
   simp only[ab];refine⟨GZ (dh (by simp) λs N=>?_) (by rw[List.length_map];omega) λz A=>?_,?_⟩
   ·simp only[ba,List.not_mem_nil,or_false]at N;rcases N with rfl | rfl
    ·exact Tz (by omega)
    ·exact Tz (by omega)
   ·obtain⟨g,f,rfl⟩:=hrow z A;exact⟨iy.2 ⟨dh (by simp[jw]) λn u=>N9 (hnum g f n u),(C g f).org.fit⟩,(C g f).org.org⟩
   ·rw[AY];refine QN ?_ (by rw[List.length_map];omega) λz A=>?_
    ·unfold clB;simp only[zI,decide_eq_true_eq];refine⟨?_,by simp,?_⟩
     ·simp only[List.all_cons,List.all_nil,Bool.and_true,zI];exact⟨List.all_eq_true.1 ccl.1 _ (zG F),List.all_eq_true.1 ccl.1 _ (zG G)⟩
     ·show dsB ([a.text]++[b.text])=true
      rw[X0];have:([a.text]:List Str).contains b.text=false:=by
       rw[List.contains_eq_mem,decide_eq_false_iff_not];simpa using λh=>l h.symm
      rw[this];rfl
    ·obtain⟨g,f,rfl⟩:=hrow z A;exact⟨rfl,hnum g f,(C g f).org.asc⟩
theorem NR{α:Type}{b:List α}{n:Int}(h:(b.length:Int)≠n):((b.length:Int) != n)=true:=by
 rw[bne_iff_ne];omega
theorem len_eq{α:Type}{b:List α}{n:Int}(h:(b.length:Int)=n):((b.length:Int) != n)=false:=by
 rw[h];simp
def c1(b:List af)(F:af->Option af):Option af:=bif ((b.length:Int) != 1)then (some (dI 4))else (idx b 0).bind λe=>(F (ah e)).bind λr=>some (ah r)
def c2(b:List af)(F:af->af->Option af):Option af:=bif ((b.length:Int) != 2)then (some (dI 4))else (idx b 0).bind λe=>(idx b 1).bind λa=>(F (ah e) (ah a)).bind λr=>some (ah r)
def c3(b:List af)(F:af->af->af->Option af):Option af:=bif ((b.length:Int) != 3)then (some (dI 4))else (idx b 0).bind λe=>(idx b 1).bind λa=>(idx b 2).bind λc=>(F (ah e) (ah a) (ah c)).bind λr=>some (ah r)
def c4(b:List af)(F:af->af->af->af->Option af):Option af:=bif ((b.length:Int) != 4)then (some (dI 4))else (idx b 0).bind λe=>(idx b 1).bind λa=>(idx b 2).bind λc=>(idx b 3).bind λd=>(F (ah e) (ah a) (ah c) (ah d)).bind λr=>some (ah r)
theorem afB{P:List aj}{b:List af}(a:∀x,x∈b->VOk P x){F G:af->Option af}(h:∀x,VOk P x->Al P (F x) (G x)):Al P (c1 b F) (c1 b G):=by
 unfold c1;by_cases c:b.length=1
 ·obtain⟨x,rfl⟩:=List.length_eq_one_iff.1 c;exact Gz (h _ (by rw[aC];exact a x (by simp)))
 ·rw[NR (n:=1) (by omega)];exact sW (by omega) (by omega)
theorem Sl{P:List aj}{b:List af}(a:∀x,x∈b->VOk P x){F G:af->af->Option af}(h:∀x y,VOk P x->VOk P y->Al P (F x y) (G x y)):Al P (c2 b F) (c2 b G):=by
 unfold c2;by_cases c:b.length=2
 ·match b,c,a with
  | [x,y],_,a=>exact Gz (h _ _ (by rw[aC];exact a x (by simp)) (by rw[aC];exact a y (by simp)))
 ·rw[NR (n:=2) (by omega)];exact sW (by omega) (by omega)
theorem afA{P:List aj}{b:List af}(a:∀x,x∈b->VOk P x){F G:af->af->af->Option af}(h:∀x y z,VOk P x->VOk P y->VOk P z->Al P (F x y z) (G x y z)):Al P (c3 b F) (c3 b G):=by
 unfold c3;by_cases c:b.length=3
 ·match b,c,a with
  | [x,y,z],_,a=>exact Gz (h _ _ _ (by rw[aC];exact a x (by simp)) (by rw[aC];exact a y (by simp)) (by rw[aC];exact a z (by simp)))
 ·rw[NR (n:=3) (by omega)];exact sW (by omega) (by omega)
theorem alm{P:List aj}{b:List af}(a:∀x,x∈b->VOk P x){F G:af->af->af->af->Option af}(h:∀x y z u,VOk P x->VOk P y->VOk P z->VOk P u->Al P (F x y z u) (G x y z u)):Al P (c4 b F) (c4 b G):=by
 unfold c4;by_cases c:b.length=4
 ·match b,c,a with
  | [x,y,z,u],_,a=>exact Gz (h _ _ _ _ (by rw[aC];exact a x (by simp)) (by rw[aC];exact a y (by simp)) (by rw[aC];exact a z (by simp)) (by rw[aC];exact a u (by simp)))
 ·rw[NR (n:=4) (by omega)];exact sW (by omega) (by omega)
theorem ale(b:List af):bY [108,101,110] b=c1 b wH:=rfl
theorem akP(b:List af):bU [108,101,110] b=c1 b vJ:=rfl
theorem alc(b:List af):bY [115,117,109] b=c1 b Ob:=rfl
theorem akN(b:List af):bU [115,117,109] b=c1 b LJ:=rfl
theorem akj(b:List af):bY [114,111,119,115] b=c1 b sK:=rfl
theorem ajQ(b:List af):bU [114,111,119,115] b=c1 b rV:=rfl
theorem akh(b:List af):bY [116,97,107,101] b=c2 b FD:=rfl
theorem ajO(b:List af):bU [116,97,107,101] b=c2 b ED:=rfl
theorem aki(b:List af):bY [115,107,105,112] b=c2 b FH:=rfl
theorem ajP(b:List af):bU [115,107,105,112] b=c2 b EF:=rfl
theorem ald(b:List af):bY [110,116,104] b=c2 b yh:=rfl
theorem akO(b:List af):bU [110,116,104] b=c2 b uO:=rfl
theorem akk(b:List af):bY [107,101,101,112] b=c2 b nI:=rfl
theorem ajR(b:List af):bU [107,101,101,112] b=c2 b ng:=rfl
theorem alf(b:List af):bY [99,111,108,117,109,110] b=c2 b wP:=rfl
theorem akQ(b:List af):bU [99,111,108,117,109,110] b=c2 b wo:=rfl
theorem alb(b:List af):bY [116,97,98,108,101] b=c2 b Aj:=rfl
theorem akM(b:List af):bU [116,97,98,108,101] b=c2 b y5:=rfl
theorem ag9(b:List af):bY [119,104,101,114,101] b=c3 b pY:=rfl
theorem aga(b:List af):bU [119,104,101,114,101] b=c3 b o9:=rfl
theorem aha(b:List af):bY [103,114,111,117,112] b=c3 b oH:=rfl
theorem agc(b:List af):bU [103,114,111,117,112] b=c3 b vX:=rfl
theorem akl(b:List af):bY [106,111,105,110] b=c3 b FO:=rfl
theorem ajS(b:List af):bU [106,111,105,110] b=c3 b ER:=rfl
theorem alg(b:List af):bY [97,100,100] b=c4 b sU:=rfl
theorem akR(b:List af):bU [97,100,100] b=c4 b rW:=rfl
theorem agb(b:List af):bU [114,97,110,103,101] b=c2 b vP:=rfl
theorem ad5{P:List aj}(b:List af)(a:∀x,x∈b->VOk P x):Al P (bY [114,97,110,103,101] b) (bU [114,97,110,103,101] b):=by
 rw[agb];have e:bY [114,97,110,103,101] b=bif ((b.length:Int) != 2)then some (dI 4)else (fB [1,1] b).bind λr=>bif r.2 then some (ah r.1)else (idx b 0).bind λx=>(idx b 1).bind λy=>(nH x.n y.n).bind λr=>some (ah r):=rfl
 rw[e];unfold c2;by_cases d:b.length=2
 ·match b,d,a with
  | [x,y],_,a=>
   have f:=a x (by simp);have g:=a y (by simp);rw[len_eq (n:=2) rfl];show Al P ((fB [1,1] [x,y]).bind _) ((vP (ah x) (ah y)).bind λr=>some (ah r))
   rw[aC,aC];refine VH ?_;unfold vP;rw[aC,aC];refine qN [1,1] (Vt f.fit g.fit) rfl (λe=>dZ e) (λe=>dZ e) λc hk=>?_
   have h:x.kind=1:=hk 0 x 1 rfl rfl;have i:y.kind=1:=hk 1 y 1 rfl rfl;obtain⟨_,j⟩:=SV (c x afa) h;obtain⟨_,k⟩:=SV (c y abA) i;exact⟨JE x.n y.n,by rw[<- aC (JE x.n y.n)];rfl,by rw[<- aC (JE x.n y.n)];rfl,aas j k⟩
 ·rw[NR (n:=2) (by omega)];exact sW (by omega) (by omega)
theorem Ah(a:Str):oG a=some ((a==[99,108,111,99,107])||((a==[99,104,97,110,99,101])||(a==[102,105,108,101]))):=by
 unfold oG;cases (a==[99,108,111,99,107])<;>cases (a==[99,104,97,110,99,101])<;>rfl
theorem bq{a b:Str}(h:¬a=b):(a==b)=false:=by simpa using h
theorem aa1{P:List aj}(w:P.length<=1048576)(a:Str)(b:List af)(e:∀x,x∈b->VOk P x)(A:oG a=some false):Al P (bY a b) (bU a b):=by
 by_cases m:a=[108,101,110]
 ·subst m;rw[ale,akP];exact afB e λx c=>aco x c
 by_cases n:a=[115,117,109]
 ·subst n;rw[alc,akN];exact afB e λx c=>ajF x c
 by_cases o:a=[114,111,119,115]
 ·subst o;rw[akj,ajQ];exact afB e λx c=>afr x c
 by_cases p:a=[116,97,107,101]
 ·subst p;rw[akh,ajO];exact Sl e λx y c d=>afY x y c d
 by_cases q:a=[115,107,105,112]
 ·subst q;rw[aki,ajP];exact Sl e λx y c d=>af6 x y c d
 by_cases r:a=[110,116,104]
 ·subst r;rw[ald,akO];exact Sl e λx y c d=>aj6 x y c d
 by_cases s:a=[107,101,101,112]
 ·subst s;rw[akk,ajR];exact Sl e λx y c d=>ag5 x y c d
 by_cases t:a=[99,111,108,117,109,110]
 ·subst t;rw[alf,akQ];exact Sl e λx y c d=>acR x y c d
 by_cases v:a=[116,97,98,108,101]
 ·subst v;rw[alb,akM];exact Sl e λx y c d=>adn x y c d
 by_cases f:a=[119,104,101,114,101]
 ·subst f;rw[ag9,aga];exact afA e λx y z c d g=>ac4 x y z c d g
 by_cases h:a=[103,114,111,117,112]
 ·subst h;rw[aha,agc];exact afA e λx y z c d g=>ae8 w x y z c d g
 by_cases i:a=[106,111,105,110]
 ·subst i;rw[akl,ajS];exact afA e λx y z c d g=>ag7 w x y z c d g
 by_cases j:a=[97,100,100]
 ·subst j;rw[alg,akR];exact alm e λx y z u c d g E=>akF x y z u c d g E
 by_cases k:a=[114,97,110,103,101]
 ·subst k;exact ad5 b e
 have l:=A;rw[Ah,zD,Bool.or_eq_false_iff,Bool.or_eq_false_iff]at l;obtain⟨B,C,D⟩:=l;have ic:dR a=some (-1):=by
  unfold dR;simp only[B,C,D,bq m,bq n,bq o,bq p,bq q,bq r,bq s,bq t,bq v,bq f,bq h,bq i,bq j,bq k,aa]
 have sc:gm a=some (-1):=by
  unfold gm;simp only[B,C,D,bq m,bq n,bq o,bq p,bq q,bq r,bq s,bq t,bq v,bq f,bq h,bq i,bq j,bq k,aa]
 have F:((b.length:Int) != -1)=true:=by rw[bne_iff_ne];omega
 unfold bY bU;rw[A,ic,sc];simp only[zA,aa,F,ab];exact⟨dI 4,rfl,rfl,bD (by omega) (by omega)⟩
theorem acH(a:Str):Dx (au.mk 5 0 a [])=oG a:=by
 rw[Ah];show zQ _ (au.mk 5 0 a [])=_
 unfold zQ;have b:((5:Int)==5)=true:=rfl;simp only[b,ab];cases (a==[99,108,111,99,107])<;>cases (a==[99,104,97,110,99,101])<;>cases (a==[102,105,108,101])<;>first | rfl | (simp only[ab,aa];rw[aX];rfl)
theorem En(a:Int){m:Int}(b:0<m):-m<a.tmod m/\a.tmod m<m/\(0<=a->0<=a.tmod m):=by
 rcases Int.le_total 0 a with h | h
 ·rw[Int.tmod_eq_emod_of_nonneg h];have c:=Int.emod_nonneg a (show m≠0 by omega);have d:=Int.emod_lt_of_pos a b;exact⟨by omega,d,λ_=>c⟩
 ·have e:a.tmod m = -((-a).tmod m):=by rw[Int.neg_tmod];omega
  rw[e,Int.tmod_eq_emod_of_nonneg (show 0<=-a by omega)];have c:=Int.emod_nonneg (-a) (show m≠0 by omega);have d:=Int.emod_lt_of_pos (-a) b;refine⟨by omega,by omega,λf=>?_⟩;have:a=0:=by omega
  subst this;simp
def MX(n:Int):Int:=bif decide (n.tmod 2147483647<0)then n.tmod 2147483647+2147483647 else n.tmod 2147483647
theorem Uw(n:Int):0<=MX n/\MX n<2147483647:=by
 obtain⟨a,b,_⟩:=En n (show (0:Int)<2147483647 by omega);unfold MX;by_cases h:n.tmod 2147483647<0
 ·rw[ae h];simp only[ab];omega
 ·rw[ac h];simp only[aa];omega
theorem aaA(n:Int):zq n=some (MX n):=by
 obtain⟨a,b,_⟩:=En n (show (0:Int)<2147483647 by omega);unfold zq MX;by_cases h:n.tmod 2147483647<0
 ·rw[ae h];simp only[ab];rw[bQ (by omega) (by omega)]
 ·rw[ac h];rfl
def UZ(a b c d:Int):Int:=MX (16807*MX (w64 ((w64 ((w64 ((w64 (48271*a))+(w64 (7919*b))))+(w64 (104729*c))))+(w64 (1299709*d)))))
theorem agu{n:Int}(h:0<=n):MX n=n.tmod 2147483647:=by
 unfold MX;rw[ac (by have:=(En n (show (0:Int)<2147483647 by omega)).2.2 h;omega)];rfl
theorem agi(a b c d:Int):agj a b c d=some (UZ a b c d):=by
 unfold agj UZ;rw[aaA,zA];generalize w64 ((w64 ((w64 ((w64 (48271*a))+(w64 (7919*b))))+(w64 (104729*c))))+(w64 (1299709*d)))=n;have:=Uw n;rw[bQ (by omega) (by omega),aaA,zA]
theorem ahd(a b c d:Int):ahe a b c d=some (UZ a b c d):=by
 unfold ahe UZ;generalize w64 ((w64 ((w64 ((w64 (48271*a))+(w64 (7919*b))))+(w64 (104729*c))))+(w64 (1299709*d)))=n;obtain⟨f,g,_⟩:=En n (show (0:Int)<2147483647 by omega);have i:=Uw n;rw[agu (show 0<=16807*MX n by omega)];have e:MX n=bif decide (n.tmod 2147483647<0)then n.tmod 2147483647+2147483647 else n.tmod 2147483647:=rfl
 by_cases h:n.tmod 2147483647<0
 ·rw[ae h]at e ⊢;simp only[ab]at e ⊢;rw[bQ (n:=n.tmod 2147483647+2147483647) (by omega) (by omega),<- e,bQ (by omega) (by omega)]
 ·rw[ac h]at e ⊢;simp only[aa]at e ⊢;rw[<- e,bQ (by omega) (by omega)]
theorem akb(a b c d:Int):0<=UZ a b c d:=(Uw _).1
def afe(fs:List fP)(s:Str):Option Int:=fQ (λ_ (f:fP)=>bif f.name==s then some f.n else none) 0 fs
def aho(o:Option Int):Int×Bool:=match o with | some n=>(n,true) | none=>(0,false)
theorem XO(o:Option Int):(o.map λe=>(e,true)).getD (0,false)=aho o:=by cases o<;>rfl
theorem ae3(w:bV)(s:Str)(b:(w.files.length:Int)<=1048576):qO w s=some (aho (afe w.files s)):=by
 unfold qO afe;rw[<- XO,<- jD];refine qQ (λi=>((s,w.files,(w.files.length:Int),(i:Int)):Str×(List fP)×Int×Int)) w.files _ _ (λi x a=>?_) ?_
 ·simp only[dw a,ab,aQ,a,zA,dW a b];cases (x.name==s)<;>rfl
 ·simp only[bP,aa]
theorem adT(w:bV)(s:Str)(b:(w.files.length:Int)<=1048576):qK w s=some (aho (afe w.files s)):=by
 unfold qK afe;rw[<- XO,<- jD];refine qQ (λi=>((s,w.clock,w.seed,w.files,(i:Int)):Str×Int×Int×(List fP)×Int)) w.files _ _ (λi x a=>?_) ?_
 ·simp only[dw a,ab,aQ,a,zA,dW a b];cases (x.name==s)<;>rfl
 ·simp only[bP,aa]
theorem RV{P:List aj}(w:bV)(b c:Int)(d:aG)(e:(w.files.length:Int)<=1048576):Al P (jQ w b c d) (je w b c d):=by
 unfold jQ je;simp only[IB,Dj,oz,vK,ahd,agi,ae3 w _ e,adT w _ e,jY,jX,Oj,LV,zA,aC];cases h:d.kind==1 with
 | true=>
  simp only[ab];cases a:nB w.clock with
  | true=>exact⟨lX w.clock,rfl,rfl,iO a⟩
  | false=>exact⟨dI 4,rfl,rfl,bD (by omega) (by omega)⟩
 | false=>
  simp only[aa];cases i:d.kind==2 with
  | true=>
   simp only[ab];by_cases f:1<=d.n/\d.n<=1000000000
   ·rw[ae f.1,ae f.2];obtain⟨j,k,g⟩:=En (UZ w.seed b c d.time) (show 0<d.n by omega);have l:=g (akb _ _ _ _);have a:nB ((UZ w.seed b c d.time).tmod d.n)=true:=by unfold nB;rw[ae (by omega),ae (by omega)];rfl
    have hrem:Qb (UZ w.seed b c d.time) d.n=some ((UZ w.seed b c d.time).tmod d.n):=by unfold Qb;rw[if_neg (by omega)]
    rw[hrem];simp only[Bool.and_self,aL,aa,zA,a];exact⟨_,rfl,rfl,iO a⟩
   ·have:(decide (1<=d.n)&&decide (d.n<=1000000000))=false:=by
     rw[Bool.and_eq_false_iff,decide_eq_false_iff_not,decide_eq_false_iff_not];omega
    rw[this];exact⟨dI 5,rfl,rfl,bD (by omega) (by omega)⟩
  | false=>
   simp only[aa];cases m:d.kind==3 with
   | false=>exact⟨dI 4,rfl,rfl,bD (by omega) (by omega)⟩
   | true=>
    simp only[ab];cases afe w.files d.text with
    | none=>exact⟨dI 1,rfl,rfl,bD (by omega) (by omega)⟩
    | some n=>
     simp only[aho,aL,aa];cases a:nB n with
     | true=>exact⟨lX n,rfl,rfl,iO a⟩
     | false=>exact⟨dI 4,rfl,rfl,bD (by omega) (by omega)⟩
def smB(a b:aG):Bool:=(a.kind==b.kind)&&((a.n==b.n)&&((a.text==b.text)&&(a.time==b.time)))
theorem aeZ(a b:aG):BD a b=some (smB a b):=by
 unfold BD smB;cases (a.kind==b.kind)<;>cases (a.n==b.n)<;>cases (a.text==b.text)<;>rfl
theorem ajU(a b:aG):vN a b=some (smB a b):=aeZ a b
def rdE(t:List aG)(r:aG):Option af:=fQ (λ_ (x:aG)=>bif smB x r then some x.result else none) 0 t
structure afN(P:List aj)(t:List aG):Prop where
 len:(t.length:Int)<=1073741824
 val:∀x,x∈t->VOk P x.result
theorem ae2{P:List aj}(t:List aG)(r:aG)(h:afN P t):wK t r=some (opR (rdE t r)):=by
 have b:=h.len;unfold wK rdE;rw[<- Bq,<- jD];have c:aG.mk r.kind r.n r.time r.text (af.mk r.result.kind r.result.n r.result.step r.result.text r.result.list r.result.columns r.result.rows)=r:=by
  obtain⟨k,n,ti,te,v⟩:=r;cases v;rfl
 refine qQ (λi=>((r.kind,r.n,r.time,r.text,r.result.kind,r.result.n,r.result.step,r.result.text,r.result.list,r.result.columns,r.result.rows,0,0,0,[],[],[],[],t,(t.length:Int),(i:Int)):Int×Int×Int×Str×Int×Int×Int×Str×(List af)×(List Str)×(List aB)×Int×Int×Int×Str×(List af)×(List Str)×(List aB)×(List aG)×Int×Int)) t _ _ (λi x a=>?_) ?_
 ·simp only[dw a,ab,aQ,a,zA,c,Bh,aC,aeZ,fH _ (h.val x (zG a)).fit,up30 a b];cases smB x r<;>rfl
 ·simp only[bP,aa];rfl
theorem adS{P:List aj}(t:List aG)(r:aG)(h:afN P t):vY t r=some (opR (rdE t r)):=by
 have b:=h.len;unfold vY rdE;rw[<- Bq,<- jD];have c:aG.mk r.kind r.n r.time r.text (af.mk r.result.kind r.result.n r.result.step r.result.text r.result.list r.result.columns r.result.rows)=r:=by
  obtain⟨k,n,ti,te,v⟩:=r;cases v;rfl
 refine qQ (λi=>((t,r.kind,r.n,r.time,r.text,r.result.kind,r.result.n,r.result.step,r.result.text,r.result.list,r.result.columns,r.result.rows,0,0,0,[],[],[],[],(i:Int)):(List aG)×Int×Int×Int×Str×Int×Int×Int×Str×(List af)×(List Str)×(List aB)×Int×Int×Int×Str×(List af)×(List Str)×(List aB)×Int)) t _ _ (λi x a=>?_) ?_
 ·simp only[dw a,ab,aQ,a,zA,c,Bh,aC,ajU,iJ _ (h.val x (zG a)).fit,up30 a b];cases smB x r<;>rfl
 ·simp only[bP,aa];rfl
theorem Ze{P:List aj}:∀(t:List aG) (r:aG) (i:Nat) {v:af},(∀x,x∈t->VOk P x.result)->fQ (λ_ (x:aG)=>bif smB x r then some x.result else none) i t=some v->VOk P v
 | [],_,_,_,_,h=>by cases h
 | x::t,r,i,v,a,h=>by
  unfold fQ at h;cases b:smB x r with
  | true=>
   rw[b]at h;have h:some x.result=some v:=h;cases h
   exact a x (aq ..)
  | false=>
   rw[b]at h;exact Ze t r (i+1) (λy c=>a y (ao _ c)) h
end Go.Proofs.YtjbajpfonnnfoaaGreatDoor
/- The evaluator in plain words. -/
namespace Go.Proofs.YtjbajpfonnnfoaaGreatDoor
noncomputable section
open Go.Abs Go.Proofs
def ovr(m:aA):aA:=aA.mk m.tape m.w m.cell m.version m.reads m.steps true
def tick(m:aA):aA:=aA.mk m.tape m.w m.cell m.version m.reads (m.steps+1) m.over
def evL{α:Type}(f:aA->α->aA×af):aA->List α->aA×List af
 | m,[]=>(m,[])
 | m,x::r=>bif (f m x).1.over then ((f m x).1,[])else ((evL f (f m x).1 r).1,(f m x).2::(evL f (f m x).1 r).2)
def arg(e:au)(i:Nat):au:=e.args.getD i ⟨0,0,[],[]⟩
def thn(p:aA×af)(k:aA->af->aA×af):aA×af:=bif p.1.over then (p.1,zV)else k p.1 p.2
def fin(p:aA×List af)(f:List af->af):aA×af:=bif p.1.over then (p.1,zV)else (p.1,f p.2)
def gX(vs:List af):af:=(iK vs).getD zV
def opV(o:Int)(a b:af):af:=(iL o a b).getD zV
def Sj(t:Str)(vs:List af):af:=(bU t vs).getD zV
def resV(w:bV)(b c:Int)(d:aG):af:=(je w b c d).getD zV
def qB(r x:aG):Bool:=(x.kind==r.kind)&&((x.n==r.n)&&(x.text==r.text))
def qF(m:aA)(r:aG):aG:=aG.mk r.kind r.n (r.time+(m.reads.countP (qB r):Nat)) r.text r.result
def Ci(m:aA)(r:aG):af:=(rdE m.tape (qF m r)).getD (resV m.w m.cell m.version (qF m r))
def Cj(m:aA)(r:aG):aA×af:=(aA.mk m.tape m.w m.cell m.version (m.reads++[aG.mk r.kind r.n (qF m r).time r.text (Ci m r)]) m.steps m.over,Ci m r)
def CQ(t:Str):Bool:=(t==[99,108,111,99,107])||((t==[99,104,97,110,99,101])||(t==[102,105,108,101]))
def nV(t:Str)(p:aA×List af):aA×af:=
 bif p.1.over then (p.1,zV)else
 bif !CQ t then (p.1,Sj t p.2)else
 bif t==[99,108,111,99,107]then Cj p.1 (aG.mk 1 0 0 [] zV)else
 bif (p.2.getD 0 zV).kind==6 then (p.1,p.2.getD 0 zV)else
 bif t==[99,104,97,110,99,101]then bif (p.2.getD 0 zV).kind==1 then Cj p.1 (aG.mk 2 (p.2.getD 0 zV).n 0 [] zV)else (p.1,dI 4)else
 bif (p.2.getD 0 zV).kind==2 then Cj p.1 (aG.mk 3 0 0 (p.2.getD 0 zV).text zV)else (p.1,dI 4)
def evB(f:aA->au->List ak->aA×af)(m:aA)(e:au)(c:List ak):aA×af:=
 bif m.over||(m.steps==200)then (ovr m,zV)else
 bif e.kind==1 then (tick m,lX e.n)else
 bif e.kind==2 then (tick m,C9 e.text)else
 bif e.kind==3 then (tick m,nD c e.text)else
 bif e.kind==4 then fin (evL (λm x=>f m x c) (tick m) e.args) gX else
 bif e.kind==5 then nV e.text (evL (λm x=>f m x c) (tick m) e.args)else
 bif e.kind==7 then thn (f (tick m) (arg e 0) c) λm v=>f m (arg e 1) (c++[ak.mk e.text v])else
 bif e.kind==8 then thn (f (tick m) (arg e 0) c) λm v=>bif v.kind==6 then (m,v)else bif Em v then f m (arg e 1) c else f m (arg e 2) c else
 bif e.kind==9 then thn (f (tick m) (arg e 0) c) λm v=>bif v.kind==6 then (m,v)else bif v.kind != 3 then (m,dI 4)else fin (evL (λm x=>f m (arg e 1) (c++[ak.mk e.text x])) m v.list) gX else
 fin (evL (λm x=>f m x c) (tick m) e.args) λvs=>opV e.n (vs.getD 0 zV) (vs.getD 1 zV)
def evN:Nat->aA->au->List ak->aA×af
 | 0,m,_,_=>(ovr m,zV)
 | n+1,m,e,c=>evB (evN n) m e c
inductive ShX:Nat->au->Prop
 | mk (d:Nat) (e:au) (k0:1<=e.kind) (k9:e.kind<=9) (num:e.kind=1->nB e.n=true) (tx:e.kind=2->txB e.text=true) (tl:e.text.length<=120) (al:e.args.length<=8) (op:e.kind=6->e.args.length=2) (two:e.kind=7\/e.kind=9->e.args.length=2) (three:e.kind=8->e.args.length=3)
   (cl:e.kind=5->dR e.text=some (e.args.length:Int)) (hs:∀x,x∈e.args->ShX d x):ShX (d+1) e
theorem Ey{x e:au}(h:x∈e.args):siz x+3<=siz e:=by
 have b:=List.sizeOf_lt_of_mem h;obtain⟨k,n,t,a⟩:=e;have d:1<=SizeOf.sizeOf t:=by
  cases t with
  | nil=>simp
  | cons c r=>rw[List.cons.sizeOf_spec];omega
 have f:1<=SizeOf.sizeOf n:=by
  cases n with
  | ofNat a=>rw[Int.ofNat.sizeOf_spec];omega
  | negSucc a=>rw[Int.negSucc.sizeOf_spec];omega
 simp only[siz];rw[au.mk.sizeOf_spec];have b:SizeOf.sizeOf x<SizeOf.sizeOf a:=b;omega
theorem dJ{e:au}{i:Nat}(h:i<e.args.length):arg e i∈e.args:=by
 unfold arg;rw[zE,zF h];exact List.getElem_mem h
theorem RP{α:Type}{f g:aA->α->aA×af}:∀(xs:List α) (m:aA),(∀m x,x∈xs->f m x=g m x)->evL f m xs=evL g m xs
 | [],_,_=>rfl
 | x::r,m,h=>by
  unfold evL;rw[h m x aq,RP r _ λm y a=>h m y (ao _ a)]
theorem RQ{d:Nat}{f g:aA->au->List ak->aA×af}{m:aA}{e:au}{c:List ak}(j:ShX d e)(h:∀m x c,x∈e.args->f m x c=g m x c):evB f m e c=evB g m e c:=by
 cases j with
 | mk d _ k0 k9 num tx tl al op two three cl r=>
 unfold evB;rw[RP e.args (tick m) λm x j=>h m x c j];by_cases i:e.kind=7
 ·have a:=h (tick m) (arg e 0) c (dJ (by have:=two (.inl i);omega));have b:∀m c,f m (arg e 1) c=g m (arg e 1) c:=λm c=>h m (arg e 1) c (dJ (by have:=two (.inl i);omega))
  rw[i];simp only[a,b];rfl
 by_cases k:e.kind=8
 ·have l:=three k;have a:=h (tick m) (arg e 0) c (dJ (by omega));have b:∀m c,f m (arg e 1) c=g m (arg e 1) c:=λm c=>h m (arg e 1) c (dJ (by omega))
  have n:∀m c,f m (arg e 2) c=g m (arg e 2) c:=λm c=>h m (arg e 2) c (dJ (by omega))
  rw[k];simp only[a,b,n]
 by_cases k9':e.kind=9
 ·have a:=h (tick m) (arg e 0) c (dJ (by have:=two (.inr k9');omega));have b:∀m c,f m (arg e 1) c=g m (arg e 1) c:=λm c=>h m (arg e 1) c (dJ (by have:=two (.inr k9');omega))
  rw[k9'];simp only[a,b];rfl
 have o:(e.kind==7)=false:=by simpa using i
 have p:(e.kind==8)=false:=by simpa using k
 have q:(e.kind==9)=false:=by simpa using k9'
 simp only[o,p,q,aa]
theorem XQ:∀(n n' d:Nat) (m:aA) (e:au) (c:List ak),ShX d e->siz e<n->siz e<n'->evN n m e c=evN n' m e c
 | 0,_,_,_,_,_,_,h,_=>absurd h (Nat.not_lt_zero _)
 | _+1,0,_,_,_,_,_,_,h=>absurd h (Nat.not_lt_zero _)
 | n+1,n'+1,d,m,e,c,a,h,g=>by
  refine RQ a λm x c b=>?_
  cases a with
  | mk d _ k0 k9 num tx tl al op two three cl f=>
  have:=Ey b;exact XQ n n' d m x c (f x b) (by omega) (by omega)
def ev(m:aA)(e:au)(c:List ak):aA×af:=evN (siz e+1) m e c
theorem RN{d:Nat}(m:aA)(e:au)(c:List ak)(a:ShX d e):ev m e c=evB ev m e c:=by
 refine RQ a λm x c b=>?_
 cases a with
 | mk d _ k0 k9 num tx tl al op two three cl f=>
 have:=Ey b;exact XQ _ _ d m x c (f x b) (by omega) (by omega)
end
end Go.Proofs.YtjbajpfonnnfoaaGreatDoor
