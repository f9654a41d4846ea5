import Derived.Test.YtjbajpfonnnfoaaGreatDoorVal8
import Derived.Test.YtjbajpfonnnfoaaGreatDoorLink1
set_option linter.unusedSimpArgs false
set_option linter.unusedVariables false
/- Plain laws: tables are joined. -/
namespace Go.Proofs.YtjbajpfonnnfoaaGreatDoor
open Go.Abs Go.Proofs
structure G6(P:List aj)(a:List aj):Prop where
 fit:cu B20 (.list (.base .origin) a)
 org:∀o,o∈a->o∈P
 asc:PK a=true
theorem agv{a:List aj}(h:PK a=true):∀o,o∈a->0<=o.cell/\0<=o.row:=λo b=>by
 obtain⟨i,hi⟩:=List.mem_iff_getElem?.1 b;have:=CS a 0 h i o hi;unfold VT at this;simp only[zI,Bool.not_eq_true',decide_eq_false_iff_not]at this;omega
theorem YC{α:Type}{p:Nat->α->Bool}:∀(xs:List α) (i:Nat),(∀(j:Nat) x,xs[j]?=some x->p (i+j) x=true)->jP p i xs=true
 | [],_,_=>rfl
 | x::r,i,h=>by
  show (p i x&&jP p (i+1) r)=true
  rw[zI];refine⟨h 0 x rfl,YC r (i+1) λj y a=>?_⟩;have:=h (j+1) y (by simpa using a);rwa [show i+(j+1)=i+1+j by omega]at this
theorem alk{a:List aj}(h:Asc a)(c:∀o,o∈a->0<=o.cell/\0<=o.row):PK a=true:=by
 refine YC a 0 λj o b=>?_
 rw[amw];obtain⟨f,g⟩:=c o (zG b);unfold VT;rw[ae (by omega),ae (by omega)];cases j with
 | zero=>rfl
 | succ j=>
  have d:=(zC.1 b).1;have e:a[j]?=some a[j]:=zF (by omega);simp only[Nat.add_sub_cancel,e,Bool.not_false,Bool.and_self,amy];have:=(List.pairwise_iff_getElem.1 h) j (j+1) (by omega) d (by omega);rw[(zC.1 b).2]at this;exact this
theorem ae0{a:List aj}(h:cu B20 (.list (.base .origin) a)):a.all (λo=>Kq o.cell&&Kq o.row)=true:=List.all_eq_true.2 λo c=>by
 have:=h.dG o c;rw[Ew]at this;have w:∀n:Int,cu B20 (.int .i64 n)->Kq n=true:=λn hf=>by
  cases hf with
  | int _ _ b=>
   unfold Lit.wf at b;simp[IntKind.bits,IntKind.signed,IntKind.min,IntKind.max]at b;unfold Kq;rw[zI,decide_eq_true_eq,decide_eq_true_eq];omega
 rw[w _ this.1,w _ this.2];rfl
theorem Hf{P:List aj}(f:P.length<=1048576){a b:List aj}(c:G6 P a)(d:G6 P b):iJ a b=some (kR a b)/\rf a b=some (kR a b)/\G6 P (kR a b):=by
 have la:=bW c.fit;have lb:=bW d.fit;have hsub:∀o,o∈kR a b->o∈P:=λo e=>(wL.1 e).elim (c.org o) (d.org o)
 have hasc:Asc (kR a b):=GU a b;have hlen:=abA hasc hsub;refine⟨?_,agY a b (aau c.asc) (aau d.asc) (by omega),⟨dB (by omega) λo e=>(wL.1 e).elim (c.fit.dG o) (d.fit.dG o),hsub,alk hasc λo e=>(wL.1 e).elim (agv c.asc o) (agv d.asc o)⟩⟩;unfold iJ;rw[bI (by omega),zA,if_pos];rw[List.all_append,ae0 c.fit,ae0 d.fit];rfl
theorem or_nil{P:List aj}:G6 P []:=⟨pU,(λo h=>by cases h),rfl⟩
theorem aan{α β X ρ:Type}{g:X->Option (X⊕ρ)}(pk:List β->Nat->X)(xs:List α)(f:α->Option β)(s0:List β)(yes:ρ)
  (d:∀i x s,xs[i]?=some x->s.length<=s0.length+i->g (pk s i)=some (.inl (pk (s++(f x).toList) (i+1))))
  (hf:g (pk (s0++xs.filterMap f) xs.length)=some (.inr yes)):aN g (pk s0 0)=some yes:=by
 have key:∀(n i:Nat),xs.length=i+n->aN g (pk (s0++(xs.take i).filterMap f) i)=some yes:=by
  intro n;induction n with
  | zero=>
   intro i hi;have:i=xs.length:=by omega
   subst this;rw[aX,List.take_length,hf]
  | succ n ih=>
   intro i hi;have a:i<xs.length:=by omega
   have c:=zF a;have h:(s0++(xs.take i).filterMap f).length<=s0.length+i:=by
    have:=List.length_filterMap_le f (xs.take i);rw[bc]at this;rw[a8];omega
   rw[aX,d i _ _ c h];have e:s0++(xs.take (i+1)).filterMap f=s0++(xs.take i).filterMap f++(f xs[i]).toList:=by
    rw[take_snoc c,List.filterMap_append,ba];cases b:f xs[i]<;>simp[b]
   simp only;rw[<- e];exact ih (i+1) (by omega)
 have:=key xs.length 0 (by omega);simpa using this
def FV(n:Str)(s:Str):Option Str:=bif n==s then none else some s
theorem ad1(n s:Str):decide (posOf s 0 [n]<0) = !(n==s):=by
 unfold posOf;by_cases h:(n==s)=true
 ·rw[if_pos h,h];rfl
 ·rw[if_neg h];have:(n==s)=false:=by simpa using h
  rw[this];rfl
theorem XE(cs:List Str)(n:Str)(b:(cs.length:Int)<=1048576):F9 cs [n]=some (cs.filterMap (FV n)):=by
 unfold F9;refine aan (λ(s:List Str) (i:Nat)=>(([n],s,cs,(cs.length:Int),(i:Int)):(List Str)×(List Str)×(List Str)×Int×Int)) cs (FV n) [] _ (λi x s a c=>?_) ?_
 ·have hi:=(zC.1 a).1;have d:gd (s.length+([x]:List Str).length)=some ():=bI (by simp at c ⊢;omega);simp only[dD a,ac,aP,a,zA,uH [n] x (by simp),ad1,d,dY a b];unfold FV;cases (n==x)with
  | true=>simp
  | false=>rfl
 ·simp only[bM,aa,List.nil_append]
theorem RQ{n:Str}:∀ {cs:List Str},n∉cs->cs.filterMap (FV n)=cs
 | [],_=>rfl
 | x::r,h=>by
  have a:(n==x)=false:=by
   rw[beq_eq_false_iff_ne];rintro rfl;exact h aw
  rw[List.filterMap_cons];have:FV n x=some x:=by unfold FV;rw[a];rfl
  rw[this];simp only;rw[RQ λb=>h (ar _ b)]
theorem Lm{n:Str}:∀ {cs:List Str} {k:Nat},cs.Nodup->cs[k]?=some n->cs.filterMap (FV n)=cs.take k++cs.drop (k+1)
 | [],k,_,h=>by simp at h
 | x::r,0,a,h=>by
  have e:x=n:=by simpa using h
  subst e;have:FV x x=none:=by unfold FV;rw[beq_self_eq_true];rfl
  rw[List.filterMap_cons,this];exact RQ (List.nodup_cons.1 a).1
 | x::r,k+1,a,h=>by
  have c:r[k]?=some n:=by simpa using h
  have b:(n==x)=false:=by
   rw[beq_eq_false_iff_ne];rintro rfl;exact (List.nodup_cons.1 a).1 (zG c)
  have:FV n x=some x:=by unfold FV;rw[b];rfl
  rw[List.filterMap_cons,this];simp only;rw[Lm (List.nodup_cons.1 a).2 c];rfl
theorem akj{α:Type}(a:List α)(b:Nat)(h:b<=a.length):eff.cutL a (some (b:Int)) none=some (a.drop b):=by
 unfold eff.cutL;simp only[Option.getD_some,Option.getD_none];rw[if_pos]
 ·simp
 ·omega
def Oo(k:Nat)(x y:aB):aB:=aB.mk (x.cells++y.cells.take k++y.cells.drop (k+1)) (kR x.orig y.orig)
def Oq(i k:Nat)(x y:aB):Option aB:=bif x.cells.getD i 0==y.cells.getD k 0 then some (Oo k x y)else none
set_option maxRecDepth 4000 in
theorem ahM{P:List aj}(M:P.length<=1048576)(a b c:af)(U:VOk P a)(C:VOk P b)(hc:VOk P c):Al P (Gl a b c) (Fg a b c):=by
 unfold Gl Fg;rw[aC,aC,aC];refine qJ [2,5,5] (ak5 U.fit C.fit hc.fit) rfl (λe=>eF e) (λe=>eF e) λhv hk=>?_
 have kb:b.kind=5:=hk 1 b 5 rfl rfl;have kc:c.kind=5:=hk 2 c 5 rfl rfl;obtain⟨b0,bt⟩:=tY (hv b (by simp)) kb;obtain⟨c0,ct⟩:=tY (hv c (by simp)) kc;have tb:=Dx bt;have tc:=Dx ct;have b4:=tb.c4;have c4:=tc.c4;have V:=tb.len;have W:=tc.len;have lb:(b.columns.length:Int)<=1048576:=by omega
 have lc:(c.columns.length:Int)<=1048576:=by omega
 have lw:=List.length_filterMap_le (FV a.text) c.columns;simp only[zV,aa,Es b _ lb,DV b _ lb,Es c _ lc,DV c _ lc,XE c.columns a.text lc,zA,kz,jZ,aC,List.nil_append,
  bI (show 0+b.columns.length<=34359738368 by omega),bI (show b.columns.length+(c.columns.filterMap (FV a.text)).length<=34359738368 by omega)]
 rcases jM a.text b.columns with hp | ⟨i,hi,hp,_⟩
 ·rw[hp];exact⟨dM 7,rfl,rfl,bG (by omega) (by omega)⟩
 rw[hp,Yl i];simp only[aa];rcases jM a.text c.columns with D | ⟨k,X,D,E⟩
 ·rw[D];exact⟨dM 7,rfl,rfl,bG (by omega) (by omega)⟩
 have ccl:=tc.cl;unfold clB at ccl;simp only[zI,decide_eq_true_eq]at ccl;have F:=Lm (SQ c.columns ccl.2.2) E;have G:w64 ((k:Int)+1)=((k+1:Nat):Int):=by rw[bQ (by omega) (by omega)];rfl
 have Y:(c.columns.take k).length<=4:=by rw[bc];omega
 have Z:(c.columns.drop (k+1)).length<=4:=by rw[amx];omega
 have r:b.columns++c.columns.filterMap (FV a.text)=b.columns++c.columns.take k++c.columns.drop (k+1):=by rw[F,ba]
 rw[D,Yl k];simp only[r,aa,Ym c.columns k (by omega),G,akj c.columns (k+1) (by omega),zA,bI (show b.columns.length+(c.columns.take k).length<=34359738368 by omega),
  bI (show (b.columns++c.columns.take k).length+(c.columns.drop (k+1)).length<=34359738368 by rw[a8];omega)]
 have hcols:(b.columns++c.columns.take k++c.columns.drop (k+1)).length=b.columns.length+(c.columns.length-1):=by
  rw[a8,a8,bc,amx];omega
 have f1:=(dQ.1 C.fit).2.2.2.2.2.1;have N:=(dQ.1 hc.fit).2.2.2.2.2.1;have t:cu B20 (.list (.base .str) (b.columns++c.columns.take k++c.columns.drop (k+1))):=dB (by rw[hcols];omega) λx d=>by
  rcases List.mem_append.1 d with d | d
  ·rcases List.mem_append.1 d with d | d
   ·exact f1.dG x d
   ·exact N.dG x (List.mem_of_mem_take d)
  ·exact N.dG x (List.mem_of_mem_drop d)
 have v:(b.columns++c.columns.take k++c.columns.drop (k+1)).all nmB=true:=by
  have bcl:=tb.cl;unfold clB at bcl;simp only[zI,decide_eq_true_eq]at bcl;refine List.all_eq_true.2 λx d=>?_
  rcases List.mem_append.1 d with d | d
  ·rcases List.mem_append.1 d with d | d
   ·exact List.all_eq_true.1 bcl.1 x d
   ·exact List.all_eq_true.1 ccl.1 x (List.mem_of_mem_take d)
  ·exact List.all_eq_true.1 ccl.1 x (List.mem_of_mem_drop d)
 obtain⟨cols,w⟩:∃cols,b.columns++c.columns.take k++c.columns.drop (k+1)=cols:=⟨_,rfl⟩;simp only[w];rw[w]at hcols t v;have ll:(cols.length:Int)<=1048576:=by omega
 simp only[aag cols ll,Zo cols ll,zA];cases H:dsB cols with
 | false=>exact⟨dM 7,rfl,rfl,bG (by omega) (by omega)⟩
 | true=>
 simp only[aR,aa];by_cases O:(cols.length:Int)>4
 ·have I:∀(q:Decidable ((cols.length:Int)>4)),@decide _ q=true:=λ_=>aq O
  simp only[I];exact⟨dM 6,rfl,rfl,bG (by omega) (by omega)⟩
 have I:∀(q:Decidable ((cols.length:Int)>4)),@decide _ q=false:=λ_=>ae O
 simp only[I,aa];have orB':∀x,x∈b.rows->G6 P x.orig:=λx d=>⟨(iq.1 (C.row d).fit).2,(C.row d).org,(tb.row x d).2.2⟩
 have orC:∀y,y∈c.rows->G6 P y.orig:=λy f=>⟨(iq.1 (hc.row f).fit).2,(hc.row f).org,(tc.row y f).2.2⟩
 have J:∀x,x∈b.rows->∀y,y∈c.rows->G6 P (Oo k x y).orig/\(Oo k x y).cells.length=cols.length/\∀n,n∈(Oo k x y).cells->nB n=true:=λx d y f=>by
  obtain⟨x1,Q,_⟩:=tb.row x d;obtain⟨y1,R,_⟩:=tc.row y f;refine⟨(Hf M (orB' x d) (orC y f)).2.2,?_,λn g=>?_⟩
  ·show (x.cells++y.cells.take k++y.cells.drop (k+1)).length=_
   rw[a8,a8,bc,amx];omega
  ·have g:n∈x.cells++y.cells.take k++y.cells.drop (k+1):=g;rcases List.mem_append.1 g with g | g
   ·rcases List.mem_append.1 g with g | g
    ·exact Q n g
    ·exact R n (List.mem_of_mem_take g)
   ·exact R n (List.mem_of_mem_drop g)
 refine jS (λ(s:List aB) (m:Nat)=>((c.kind,c.n,c.step,c.text,c.list,c.columns,c.rows,0,0,0,[],[],[],[],(i:Int),(k:Int),5,0,0,[],[],cols,s,b.rows,(b.rows.length:Int),(m:Int)) :
   Int×Int×Int×Str×(List af)×(List Str)×(List aB)×Int×Int×Int×Str×(List af)×(List Str)×(List aB)×Int×Int×Int×Int×Int×Str×(List af)×(List Str)×(List aB)×(List aB)×Int×Int))
  (λ(s:List aB) (m:Nat)=>((b.kind,b.n,b.step,b.text,b.list,b.columns,b.rows,c.kind,c.n,c.step,c.text,c.list,c.columns,c.rows,0,0,0,[],[],[],[],(i:Int),(k:Int),5,0,0,[],[],cols,s,(m:Int)) :
   Int×Int×Int×Str×(List af)×(List Str)×(List aB)×Int×Int×Int×Str×(List af)×(List Str)×(List aB)×Int×Int×Int×Str×(List af)×(List Str)×(List aB)×Int×Int×Int×Int×Int×Str×(List af)×(List Str)×(List aB)×Int))
  b.rows (λm s=>s.length<=12*m/\∀z,z∈s->∃x,x∈b.rows/\∃y,y∈c.rows/\z=Oo k x y) _ (λm x s d K=>?_) (λs K=>?_) [] ⟨aD _,λx d=>by cases d⟩
 ·obtain⟨L,o⟩:=K;have p:=zG d;have hm:=(zC.1 d).1;obtain⟨x1,Q,_⟩:=tb.row x p;have ex:x.cells[i]?=some (x.cells.getD i 0):=by rw[zE,zF (by omega)];rfl
  have up12:=dY d (show (b.rows.length:Int)<=1048576 by omega);have lx:x.cells.length<=4:=by omega
  have row:∀(j:Nat) (y:aB),c.rows[j]?=some y->y.cells[k]?=some (y.cells.getD k 0)/\eff.cutL y.cells none (some (k:Int))=some (y.cells.take k)/\eff.cutL y.cells (some ((k+1:Nat):Int)) none=some (y.cells.drop (k+1))/\(y.cells.take k).length<=4/\(y.cells.drop (k+1)).length<=4 /\
    iJ x.orig y.orig=some (kR x.orig y.orig)/\rf x.orig y.orig=some (kR x.orig y.orig):=λj y f=>by
   have A:=zG f;obtain⟨y1,_,_⟩:=tc.row y A;obtain⟨u1,u2,_⟩:=Hf M (orB' x p) (orC y A);exact⟨by rw[zE,zF (by omega)];rfl,Ym y.cells k (by omega),akj y.cells (k+1) (by omega),by rw[bc];omega,by rw[amx];omega,u1,u2⟩
  have hlf:=List.length_filterMap_le (Oq i k x) c.rows;refine .inl ⟨s++c.rows.filterMap (Oq i k x),?_,?_,by rw[a8];omega,λz h=>?_⟩
  ·simp only[dD d,ac,aP,d,zA];refine aan (λ(u:List aB) (j:Nat)=>((c.kind,c.n,c.step,c.text,c.list,c.columns,c.rows,0,0,0,[],[],[],[],(i:Int),(k:Int),5,0,0,[],[],cols,u,x.cells,x.orig,b.rows,(b.rows.length:Int),(m:Int),c.rows,(c.rows.length:Int),(j:Int)) :
    Int×Int×Int×Str×(List af)×(List Str)×(List aB)×Int×Int×Int×Str×(List af)×(List Str)×(List aB)×Int×Int×Int×Int×Int×Str×(List af)×(List Str)×(List aB)×(List Int)×(List aj)×(List aB)×Int×Int×(List aB)×Int×Int)) c.rows (Oq i k x) s _ (λj y u f hu=>?_) ?_
   ·have hj:=(zC.1 f).1;obtain⟨w1,w2,w3,w4,w5,S,T⟩:=row j y f;simp only[dD f,ac,aP,f,ex,w1,zA,dY f (show (c.rows.length:Int)<=1048576 by omega),bne];unfold Oq;cases (x.cells.getD i 0==y.cells.getD k 0)with
    | false=>simp only[Bool.not_false,ac,aa,Option.toList_none,amA]
    | true=>
     simp only[aR,ac,aa,Option.toList_some,w2,G,w3,zA,List.nil_append,bI (show 0+x.cells.length<=34359738368 by omega),bI (show x.cells.length+(y.cells.take k).length<=34359738368 by omega),
      bI (show (x.cells++y.cells.take k).length+(y.cells.drop (k+1)).length<=34359738368 by rw[a8];omega),vw,S,bI (show u.length+[aB.mk (x.cells++y.cells.take k++y.cells.drop (k+1)) (kR x.orig y.orig)].length<=34359738368 by simp only[List.length_singleton];omega)]
     rfl
   ·simp only[bM,aa,up12]
  ·simp only[dD d,ac];refine aan (λ(u:List aB) (j:Nat)=>((b.kind,b.n,b.step,b.text,b.list,b.columns,b.rows,c.kind,c.n,c.step,c.text,c.list,c.columns,c.rows,0,0,0,[],[],[],[],(i:Int),(k:Int),5,0,0,[],[],cols,u,(m:Int),(j:Int)) :
    Int×Int×Int×Str×(List af)×(List Str)×(List aB)×Int×Int×Int×Str×(List af)×(List Str)×(List aB)×Int×Int×Int×Str×(List af)×(List Str)×(List aB)×Int×Int×Int×Int×Int×Str×(List af)×(List Str)×(List aB)×Int×Int)) c.rows (Oq i k x) s _ (λj y u f hu=>?_) ?_
   ·have hj:=(zC.1 f).1;obtain⟨w1,w2,w3,w4,w5,S,T⟩:=row j y f;simp only[dD f,ac,aP,d,f,ex,w1,zA,dY f (show (c.rows.length:Int)<=1048576 by omega)];unfold Oq;cases (x.cells.getD i 0==y.cells.getD k 0)with
    | false=>simp only[aa,Option.toList_none,amA]
    | true=>
     have hpair:KD x y (k:Int)=some (Oo k x y):=by
      unfold KD;simp only[w2,G,w3,zA,List.nil_append,bI (show 0+x.cells.length<=34359738368 by omega),bI (show x.cells.length+(y.cells.take k).length<=34359738368 by omega),
       bI (show (x.cells++y.cells.take k).length+(y.cells.drop (k+1)).length<=34359738368 by rw[a8];omega),T]
      rfl
     simp only[ac,Option.toList_some,hpair,zA,bI (show u.length+[Oo k x y].length<=34359738368 by simp only[List.length_singleton];omega)]
   ·simp only[bM,aa,up12]
  ·rcases List.mem_append.1 h with h | h
   ·exact o z h
   ·obtain⟨y,f,hf⟩:=List.mem_filterMap.1 h;unfold Oq at hf;cases B:(x.cells.getD i 0==y.cells.getD k 0)with
    | false=>rw[B]at hf;cases hf
    | true=>rw[B]at hf;exact⟨x,p,y,f,(a7 hf).symm⟩
 ·obtain⟨L,o⟩:=K;by_cases l:(s.length:Int)>12
  ·refine⟨dM 6,by simp only[bM,aa,aq l];rfl,by simp only[bM,aa,aq l];rfl,bG (by omega) (by omega)⟩
  ·have hrow:∀z,z∈s->G6 P z.orig/\z.cells.length=cols.length/\∀n,n∈z.cells->nB n=true:=λz h=>by
    obtain⟨x,d,y,f,rfl⟩:=o z h;exact J x d y f
   refine⟨tK cols s,by simp only[bM,aa,ae l];rfl,by simp only[bM,aa,ae l];rfl,Hq t (by omega) λz h=>?_,?_⟩
   ·obtain⟨w1,w2,w3⟩:=hrow z h;exact⟨iq.2 ⟨dB (by rw[w2];exact ll) λn g=>Ov (w3 n g),w1.fit⟩,w1.org⟩
   ·rw[BA];refine Rk ?_ (by omega) λz h=>⟨(hrow z h).2.1,(hrow z h).2.2,(hrow z h).1.asc⟩
    unfold clB;simp only[zI,decide_eq_true_eq];exact⟨v,⟨by omega,by omega⟩,H⟩
abbrev Grp:=Int×Int×List aj
def jy(g:Grp):aB:=aB.mk [g.1,g.2.1] g.2.2
def Dh(x n:Int)(fr:List aj):List Grp->List Grp
 | []=>[(x,n,fr)]
 | g::r=>if g.1=x then (g.1,w64 (g.2.1+n),kR g.2.2 fr)::r else g::Dh x n fr r
def FD(x n:Int)(fr:List aj):List Grp->List Grp
 | []=>[(x,n,fr)]
 | g::r=>if g.1=x then (g.1,w64 (g.2.1+n),kR g.2.2 fr)::r else if g.1>x then (x,n,fr)::g::r else g::FD x n fr r
structure GOk(P:List aj)(g:Grp):Prop where
 key:nB g.1=true
 org:G6 P g.2.2
theorem akO{n:Int}(h:nB n=true):IntKind.i64.wrap (0+n)=n:=by
 unfold nB at h;rw[zI,decide_eq_true_eq,decide_eq_true_eq]at h;show w64 (0+n)=n
 rw[bQ (by omega) (by omega)];omega
theorem Sm{P:List aj}(c:P.length<=1048576)(x n:Int)(fr:List aj)(d:nB x=true)(i:nB n=true)(hf:G6 P fr):∀gs:List Grp,(∀g,g∈gs->GOk P g)->qo x n fr gs=some (Dh x n fr gs)/\∀g,g∈Dh x n fr gs->GOk P g
 | [],_=>by
  refine⟨?_,λg a=>?_⟩
  ·unfold qo Dh;rw[(Hf c or_nil hf).1,zA,akO i,adM (aau hf.asc)]
  ·have:g=(x,n,fr):=by simpa [Dh] using a
   subst this;exact⟨d,hf⟩
 | (y,s,f)::r,h=>by
  have a:=h _ aw;obtain⟨j,_,k⟩:=Hf c a.org hf;obtain⟨l,m⟩:=Sm c x n fr d i hf r λg a=>h g (ar _ a)
  unfold qo Dh;by_cases e:y=x
  ·rw[if_pos e];simp only[if_pos e];rw[j,zA];refine⟨rfl,λg b=>?_⟩;rcases bh.1 b with rfl | b
   ·exact⟨a.key,k⟩
   ·exact h g (ar _ b)
  ·rw[if_neg e];simp only[if_neg e];rw[l,zA];refine⟨rfl,λg b=>?_⟩;rcases bh.1 b with rfl | b
   ·exact a
   ·exact m g b
def G7(gs:List Grp):Prop:=gs.Pairwise λa b=>a.1≠b.1
def tH(gs:List Grp):Prop:=gs.Pairwise λa b=>a.1<b.1
theorem tH.nd{gs:List Grp}(h:tH gs):G7 gs:=h.imp λh=>by omega
def Tt(x n:Int)(fr:List aj)(l:List Grp)(v:Grp):Prop:=
 (∃g,g∈l/\g.1=x/\v=(x,w64 (g.2.1+n),kR g.2.2 fr))\/((∀g,g∈l->g.1≠x)/\v=(x,n,fr))
theorem afy{l:List Grp}(h:G7 l){a b:Grp}(d:a∈l)(c:b∈l)(f:a.1=b.1):a=b:=by
 induction l with
 | nil=>cases d
 | cons g r ih=>
  obtain⟨i,k⟩:=List.pairwise_cons.1 h;rcases bh.1 d with j | d
  ·rcases bh.1 c with e | c
   ·rw[j,e]
   ·exact absurd (j▸f) (i b c)
  ·rcases bh.1 c with e | c
   ·exact absurd (e▸f.symm) (i a d)
   ·exact ih k d c
theorem ZY{x n:Int}{fr:List aj}{l l':List Grp}(h:G7 l)(d:∀z,z∈l'↔z∈l){v v':Grp}(hv:Tt x n fr l v)(b:Tt x n fr l' v'):v=v':=by
 rcases hv with ⟨g,f,e,rfl⟩ | ⟨i,rfl⟩
 ·rcases b with ⟨g',a,e',rfl⟩ | ⟨c,rfl⟩
  ·rw[afy h f ((d g').1 a) (e.trans e'.symm)]
  ·exact absurd e (c g ((d g).2 f))
 ·rcases b with ⟨g',a,e',rfl⟩ | ⟨c,rfl⟩
  ·exact absurd e' (i g' ((d g').1 a))
  ·rfl
theorem YF(x n:Int)(fr:List aj):∀l:List Grp,G7 l->∃v,Tt x n fr l v/\∀z,z∈Dh x n fr l↔(z∈l/\z.1≠x)\/z=v
 | [],_=>⟨(x,n,fr),.inr ⟨(λg d=>by cases d),rfl⟩,λz=>by simp[Dh]⟩
 | g::r,h=>by
  obtain⟨f,i⟩:=List.pairwise_cons.1 h;unfold Dh;by_cases e:g.1=x
  ·rw[if_pos e];refine⟨(x,w64 (g.2.1+n),kR g.2.2 fr),.inl ⟨g,aw,e,rfl⟩,λz=>?_⟩;rw[e];constructor
   ·intro a;rcases bh.1 a with rfl | a
    ·exact .inr rfl
    ·exact .inl ⟨ar _ a,λhh=>f z a (e.trans hh.symm)⟩
   ·rintro (⟨a,b⟩ | rfl)
    ·rcases bh.1 a with rfl | a
     ·exact absurd e b
     ·exact ar _ a
    ·exact aw
  ·rw[if_neg e];obtain⟨v,hv,j⟩:=YF x n fr r i;refine⟨v,?_,λz=>?_⟩
   ·rcases hv with ⟨g',c,e',rfl⟩ | ⟨k,rfl⟩
    ·exact .inl ⟨g',ar _ c,e',rfl⟩
    ·refine .inr ⟨λg' c=>?_,rfl⟩;rcases bh.1 c with rfl | c
     ·exact e
     ·exact k g' c
   ·rw[bh,bh,j];constructor
    ·rintro (rfl | ⟨a,b⟩ | rfl)
     ·exact .inl ⟨.inl rfl,e⟩
     ·exact .inl ⟨.inr a,b⟩
     ·exact .inr rfl
    ·rintro (⟨rfl | a,b⟩ | rfl)
     ·exact .inl rfl
     ·exact .inr (.inl ⟨a,b⟩)
     ·exact .inr (.inr rfl)
theorem acY{x n:Int}{fr:List aj}{l:List Grp}{v:Grp}(h:Tt x n fr l v):v.1=x:=by
 rcases h with ⟨g,_,_,rfl⟩ | ⟨_,rfl⟩<;>rfl
theorem Tm(x n:Int)(fr:List aj):∀(l:List Grp) (z:Grp),z∈Dh x n fr l->z.1=x\/∃g,g∈l/\g.1=z.1
 | [],z,a=>by
  have c:z=(x,n,fr):=by simpa [Dh] using a
  exact .inl (by rw[c])
 | g::r,z,a=>by
  unfold Dh at a;by_cases e:g.1=x
  ·rw[if_pos e]at a;rcases bh.1 a with rfl | a
   ·exact .inl e
   ·exact .inr ⟨z,ar _ a,rfl⟩
  ·rw[if_neg e]at a;rcases bh.1 a with rfl | a
   ·exact .inr ⟨z,aw,rfl⟩
   ·rcases Tm x n fr r z a with h | ⟨g',b,h⟩
    ·exact .inl h
    ·exact .inr ⟨g',ar _ b,h⟩
theorem abE(x n:Int)(fr:List aj):∀l:List Grp,G7 l->G7 (Dh x n fr l)
 | [],_=>List.pairwise_singleton _ _
 | g::r,h=>by
  obtain⟨b,c⟩:=List.pairwise_cons.1 h;unfold Dh;by_cases e:g.1=x
  ·rw[if_pos e];exact List.pairwise_cons.2 ⟨b,c⟩
  ·rw[if_neg e];refine List.pairwise_cons.2 ⟨λz d=>?_,abE x n fr r c⟩;rcases Tm x n fr r z d with hk | ⟨g',a,hk⟩
   ·rw[hk];exact e
   ·rw[<- hk];exact b g' a
theorem FC(x n:Int)(fr:List aj):∀l:List Grp,tH l->(∃v,Tt x n fr l v/\∀z,z∈FD x n fr l↔(z∈l/\z.1≠x)\/z=v)/\tH (FD x n fr l)
 | [],_=>⟨⟨(x,n,fr),.inr ⟨(λg k=>by cases k),rfl⟩,λz=>by simp[FD]⟩,List.pairwise_singleton _ _⟩
 | g::r,h=>by
  obtain⟨f,i⟩:=List.pairwise_cons.1 h;unfold FD;by_cases e:g.1=x
  ·rw[if_pos e];refine⟨⟨(x,w64 (g.2.1+n),kR g.2.2 fr),.inl ⟨g,aw,e,rfl⟩,λz=>?_⟩,List.pairwise_cons.2 ⟨f,i⟩⟩;rw[e];constructor
   ·intro a;rcases bh.1 a with rfl | a
    ·exact .inr rfl
    ·exact .inl ⟨ar _ a,λhh=>by have:=f z a;omega⟩
   ·rintro (⟨a,b⟩ | rfl)
    ·rcases bh.1 a with rfl | a
     ·exact absurd e b
     ·exact ar _ a
    ·exact aw
  ·rw[if_neg e];by_cases d:g.1>x
   ·rw[if_pos d];have hall:∀z,z∈g::r->x<z.1:=λz a=>by
     rcases bh.1 a with rfl | a
     ·exact d
     ·have:=f z a;omega
    refine⟨⟨(x,n,fr),.inr ⟨λz a=>by have:=hall z a;omega,rfl⟩,λz=>?_⟩,List.pairwise_cons.2 ⟨hall,h⟩⟩;constructor
    ·intro a;rcases bh.1 a with rfl | a
     ·exact .inr rfl
     ·exact .inl ⟨a,by have:=hall z a;omega⟩
    ·rintro (⟨a,_⟩ | rfl)
     ·exact ar _ a
     ·exact aw
   ·rw[if_neg d];obtain⟨⟨v,hv,j⟩,m⟩:=FC x n fr r i;refine⟨⟨v,?_,λz=>?_⟩,List.pairwise_cons.2 ⟨λz a=>?_,m⟩⟩
    ·rcases hv with ⟨g',c,e',rfl⟩ | ⟨o,rfl⟩
     ·exact .inl ⟨g',ar _ c,e',rfl⟩
     ·refine .inr ⟨λg' c=>?_,rfl⟩;rcases bh.1 c with rfl | c
      ·exact e
      ·exact o g' c
    ·rw[bh,bh,j];constructor
     ·rintro (rfl | ⟨a,b⟩ | rfl)
      ·exact .inl ⟨.inl rfl,e⟩
      ·exact .inl ⟨.inr a,b⟩
      ·exact .inr rfl
     ·rintro (⟨rfl | a,b⟩ | rfl)
      ·exact .inl rfl
      ·exact .inr (.inl ⟨a,b⟩)
      ·exact .inr (.inr rfl)
    ·rcases (j z).1 a with ⟨a,_⟩ | rfl
     ·exact f z a
     ·rw[acY hv];omega
theorem Sj:∀ {a b:List Grp},tH a->tH b->(∀z,z∈a↔z∈b)->a=b
 | [],[],_,_,_=>rfl
 | [],y::b,_,_,h=>by cases (h y).2 aw
 | x::a,[],_,_,h=>by cases (h x).1 aw
 | x::a,y::b,i,j,h=>by
  obtain⟨f,k⟩:=List.pairwise_cons.1 i;obtain⟨g,l⟩:=List.pairwise_cons.1 j;have e:x=y:=by
   rcases bh.1 ((h x).1 aw)with e | m
   ·exact e
   ·rcases bh.1 ((h y).2 aw)with e | n
    ·exact e.symm
    ·have:=g x m;have:=f y n;omega
  subst e;rw[Sj k l λz=>?_];constructor
  ·intro d;rcases bh.1 ((h z).1 (ar _ d))with rfl | c
   ·have:=f _ d;omega
   ·exact c
  ·intro d;rcases bh.1 ((h z).2 (ar _ d))with rfl | c
   ·have:=g _ d;omega
   ·exact c
theorem ZX{gs:List Grp}(h:G7 gs):tH (gs.mergeSort λp q=>decide (p.1<=q.1)):=by
 have f:=List.pairwise_mergeSort (le:=λp q:Grp=>decide (p.1<=q.1)) (λa b c f g=>by simp only[decide_eq_true_eq]at *;omega) (λa b=>by simp only[Bool.or_eq_true,decide_eq_true_eq];omega) gs;have g:G7 (gs.mergeSort λp q=>decide (p.1<=q.1)):=(List.mergeSort_perm gs _).symm.pairwise h λd=>λe=>d e.symm
 refine (List.pairwise_and_iff.2 ⟨f,g⟩).imp λ{a b} h=>?_
 have:=h.1;simp only[decide_eq_true_eq]at this;have:=h.2;omega
def DY(x n:Int)(fr:List aj)(s:List aB×Bool)(g:Grp):List aB×Bool:=
 if g.1=x then (s.1++[aB.mk [x,w64 (g.2.1+n)] (kR g.2.2 fr)],true)else if g.1>x then if s.2=true then (s.1++[jy g],s.2)else (s.1++[aB.mk [x,n] fr]++[jy g],true)else (s.1++[jy g],s.2)
def ahi(x n:Int)(fr:List aj)(s:List aB×Bool):List aB:=if s.2=true then s.1 else s.1++[aB.mk [x,n] fr]
theorem Iw(x n:Int)(fr:List aj):∀(l:List Grp) (out:List aB),(∀g,g∈l->g.1>x)->l.foldl (DY x n fr) (out,true)=(out++l.map jy,true)
 | [],out,_=>by simp
 | g::r,out,h=>by
  have a:=h g aw;rw[List.foldl_cons];have:DY x n fr (out,true) g=(out++[jy g],true):=by
   unfold DY;rw[if_neg (by omega),if_pos a,if_pos rfl]
  rw[this,Iw x n fr r _ λg a=>h g (ar _ a)];simp
theorem aa4(x n:Int)(fr:List aj):∀(l:List Grp) (out:List aB),tH l->ahi x n fr (l.foldl (DY x n fr) (out,false))=out++(FD x n fr l).map jy
 | [],out,_=>rfl
 | g::r,out,h=>by
  obtain⟨c,d⟩:=List.pairwise_cons.1 h;rw[List.foldl_cons];unfold FD;by_cases e:g.1=x
  ·have:DY x n fr (out,false) g=(out++[aB.mk [x,w64 (g.2.1+n)] (kR g.2.2 fr)],true):=by unfold DY;rw[if_pos e]
   rw[this,Iw x n fr r _ λg' b=>by have:=c g' b;omega,if_pos e];show (out++[aB.mk [x,w64 (g.2.1+n)] (kR g.2.2 fr)])++r.map jy=out++(jy (g.1,w64 (g.2.1+n),kR g.2.2 fr)::r.map jy)
   unfold jy;rw[e,ba];rfl
  ·rw[if_neg e];by_cases a:g.1>x
   ·have:DY x n fr (out,false) g=(out++[aB.mk [x,n] fr]++[jy g],true):=by unfold DY;rw[if_neg e,if_pos a,if_neg (by simp)]
    rw[this,Iw x n fr r _ λg' b=>by have:=c g' b;omega,if_pos a];show (out++[aB.mk [x,n] fr]++[jy g])++r.map jy=out++(aB.mk [x,n] fr::jy g::r.map jy)
    simp
   ·have:DY x n fr (out,false) g=(out++[jy g],false):=by unfold DY;rw[if_neg e,if_neg a]
    rw[this,aa4 x n fr r _ d,if_neg a];simp
theorem ag0{P:List aj}(o:P.length<=1048576)(x n:Int)(fr:List aj)(hf:G6 P fr)(l:List Grp)(w:l.length<=1000)(h:∀g,g∈l->GOk P g)(p:tH l):Uk (l.map jy) x n fr=some ((FD x n fr l).map jy):=by
 have q:=bW hf.fit;have d:((l.map jy).length:Int)<=1048576:=by rw[amv];omega
 have f:(l.map jy).length=l.length:=amv _;unfold Uk;have r:(FD x n fr l).map jy=ahi x n fr (l.foldl (DY x n fr) ([],false)):=by rw[aa4 x n fr l [] p,List.nil_append]
 rw[r];refine (su (λ(s:List aB×Bool) (i:Nat)=>((l.map jy,x,n,fr,s.1,s.2,(i:Int)):(List aB)×Int×Int×(List aj)×(List aB)×Bool×Int)) l (DY x n fr) (ahi x n fr) (λi s=>s.1.length<=2*i)
  (λi g s c k=>?_) (λi g s c k=>?_) (λs k=>?_) ([],false) (aD _)).1
 ·show (DY x n fr s g).1.length<=2*(i+1)
  unfold DY;repeat' split
  all_goals simp
  all_goals omega
 ·have hi:=(zC.1 c).1;have b:(l.map jy)[i]?=some (jy g):=by rw[amh,c];rfl
  obtain⟨_,t,_⟩:=Hf o (h g (zG c)).org hf;have gd1:∀y:aB,gd (s.1.length+[y].length)=some ():=λy=>bI (by simp only[List.length_singleton];omega)
  have j:∀y z:aB,gd ((s.1++[y]).length+[z].length)=some ():=λy z=>bI (by simp only[a8,List.length_singleton];omega)
  have c0:idx [g.1,g.2.1] 0=some g.1:=rfl;have c1:idx [g.1,g.2.1] 1=some g.2.1:=rfl;have u:∀m:Int,idx [x,m] 0=some x:=λ_=>rfl
  have v:∀m:Int,[x,m][0]?=some x:=λ_=>rfl
  unfold DY;simp only[dD b,ac,aP,b,zA,dY b d,jy,c0,c1,t,u,v,gd1,j,List.nil_append,bI (show 0+fr.length<=34359738368 by omega)];by_cases e:g.1=x
  ·have eb:(g.1==x)=true:=by simpa using e
   rw[eb,if_pos e];have:decide (x>x)=false:=by simp
   rw[this];rfl
  ·have eb:(g.1==x)=false:=by simpa using e
   rw[eb,if_neg e];by_cases a:g.1>x
   ·rw[aq a,if_pos a];cases s.2<;>rfl
   ·rw[ae a,if_neg a];rfl
 ·have gd1:∀y:aB,gd (s.1.length+[y].length)=some ():=λy=>bI (by simp only[List.length_singleton];omega)
  unfold ahi;simp only[<- f,bM,aa,gd1,List.nil_append,bI (show 0+fr.length<=34359738368 by omega),zA];cases s.2<;>rfl
theorem Xa(x n:Int)(fr:List aj):∀l:List Grp,(FD x n fr l).length<=l.length+1
 | []=>aD _
 | g::r=>by
  unfold FD;by_cases e:g.1=x
  ·rw[if_pos e];simp
  ·rw[if_neg e];by_cases h:g.1>x
   ·rw[if_pos h];simp
   ·rw[if_neg h];have:=Xa x n fr r;simp only[amr];omega
theorem afC{P:List aj}(b:P.length<=1048576){x n:Int}{fr:List aj}{l:List Grp}{v:Grp}(h:Tt x n fr l v)(a:nB x=true)(hf:G6 P fr)(c:∀g,g∈l->GOk P g):GOk P v:=by
 rcases h with ⟨g,d,_,rfl⟩ | ⟨_,rfl⟩
 ·exact⟨a,(Hf b (c g d).org hf).2.2⟩
 ·exact⟨a,hf⟩
theorem ahh{P:List aj}(c:P.length<=1048576){x n:Int}{fr:List aj}(d:nB x=true)(hf:G6 P fr){l:List Grp}(e:tH l)(b:∀g,g∈l->GOk P g):∀g,g∈FD x n fr l->GOk P g:=λg a=>by
 obtain⟨⟨v,hv,f⟩,_⟩:=FC x n fr l e;rcases (f g).1 a with ⟨a,_⟩ | rfl
 ·exact b g a
 ·exact afC c hv d hf b
def adU(i k:Nat)(gs:List Grp)(r:aB):List Grp:=Dh (r.cells.getD i 0) (r.cells.getD k 0) r.orig gs
def Dj(i k:Nat)(ts:List Grp)(r:aB):List Grp:=FD (r.cells.getD i 0) (r.cells.getD k 0) r.orig ts
structure ait(P:List aj)(gs ts:List Grp):Prop where
 ok:∀g,g∈gs->GOk P g
 nd:G7 gs
 asd:tH ts
 mem:∀z,z∈ts↔z∈gs
structure GRw(P:List aj)(i k:Nat)(r:aB):Prop where
 gi:r.cells[i]?=some (r.cells.getD i 0)
 gk:r.cells[k]?=some (r.cells.getD k 0)
 ni:nB (r.cells.getD i 0)=true
 nk:nB (r.cells.getD k 0)=true
 org:G6 P r.orig
theorem abo{P:List aj}(d:P.length<=1048576)(i k:Nat):∀(rows:List aB) (gs ts:List Grp),(∀r,r∈rows->GRw P i k r)->ait P gs ts->qm i k rows gs=some (rows.foldl (adU i k) gs)/\ait P (rows.foldl (adU i k) gs) (rows.foldl (Dj i k) ts)
 | [],gs,ts,_,h=>⟨rfl,h⟩
 | r::rs,gs,ts,f,h=>by
  have a:=f r aw;obtain⟨g,j⟩:=Sm d (r.cells.getD i 0) (r.cells.getD k 0) r.orig a.ni a.nk a.org gs h.ok;obtain⟨v,l,m⟩:=YF (r.cells.getD i 0) (r.cells.getD k 0) r.orig gs h.nd;obtain⟨⟨u,n,o⟩,p⟩:=FC (r.cells.getD i 0) (r.cells.getD k 0) r.orig ts h.asd;have e:=ZY h.nd h.mem l n;have q:ait P (adU i k gs r) (Dj i k ts r):=⟨j,abE _ _ _ gs h.nd,p,λz=>by
   show z∈FD _ _ _ ts↔z∈Dh _ _ _ gs
   rw[o,m,h.mem,e]⟩
  obtain⟨s,t⟩:=abo d i k rs _ _ (λr b=>f r (ar _ b)) q;refine⟨?_,t⟩;unfold qm;have c:Kq (r.cells.getD i 0)=true:=by
   have:=a.ni;simp[Kq,nB]at this ⊢;omega
  rw[aP,aP,a.gi,a.gk,zA,zA,c,if_pos rfl,g,zA];exact s
def abU(g:Grp):Bool:=nB g.2.1
def afS(a b:Str)(ts:List Grp):af:=bif ts.all abU then tK [a,b] (ts.map jy)else dM 5
theorem ac9{P:List aj}(a b:Str){gs ts:List Grp}(h:ait P gs ts):yM a b gs=some (afS a b ts):=by
 have d:(gs.all λg=>decide (-1000000000<=g.2.1)&&decide (g.2.1<=1000000000))=ts.all abU:=by
  rw[Bool.eq_iff_iff,amf,amf];exact⟨λhh z c=>hh z ((h.mem z).1 c),λhh z c=>hh z ((h.mem z).2 c)⟩
 have e:(gs.mergeSort λp q=>decide (p.1<=q.1))=ts:=Sj (ZX h.nd) h.asd λz=>by rw[List.mem_mergeSort,h.mem]
 unfold yM afS;rw[d,e];cases ts.all abU<;>rfl
theorem aeN{s t:Str}{cs:List Str}{n:Nat}(e:posOf s 0 cs=(n:Int))(f:posOf t 0 cs=(n:Int)):s=t:=by
 rcases jM s cs with h | ⟨a,_,g,d⟩
 ·omega
 rcases jM t cs with h | ⟨b,_,i,c⟩
 ·omega
 have:a=b:=by omega
 subst this;rw[d]at c;exact a7 c
theorem afT{P:List aj}(D:P.length<=1048576)(a b c:af)(N:VOk P a)(O:VOk P b)(hc:VOk P c):Al P (oK a b c) (wB a b c):=by
 unfold oK wB;simp only[aC];refine qJ [2,2,5] (ak5 N.fit O.fit hc.fit) rfl (λe=>rfl) (λe=>rfl) λhv hk=>?_
 have ka:a.kind=2:=hk 0 a 2 rfl rfl;have kb:b.kind=2:=hk 1 b 2 rfl rfl;have kc:c.kind=5:=hk 2 c 5 rfl rfl;obtain⟨_,ct⟩:=tY (hv c (by simp)) kc;obtain⟨_,ta⟩:=tX (hv a (by simp)) ka;obtain⟨_,tb⟩:=tX (hv b (by simp)) kb;unfold txB at ta tb;rw[zI,decide_eq_true_eq]at ta tb;have tc:=Dx ct;have c4:=tc.c4;have Q:=tc.len;have lc:(c.columns.length:Int)<=1048576:=by omega
 simp only[zV,aa,Es c _ lc,DV c _ lc,zA,kz,jZ,aC];rcases jM a.text c.columns with hp | ⟨i,hi,hp,E⟩
 ·rw[hp];exact⟨dM 7,rfl,rfl,bG (by omega) (by omega)⟩
 rw[hp,Yl i];rcases jM b.text c.columns with B | ⟨k,R,B,F⟩
 ·rw[B];exact⟨dM 7,rfl,rfl,bG (by omega) (by omega)⟩
 rw[B,Yl k];simp only[Bool.false_or,aa];by_cases l:a.text=b.text
 ·have G:(a.text==b.text)=true:=by simpa using l
  have H:((i:Int)==(k:Int))=true:=by
   rw[l]at hp;rw[beq_iff_eq];omega
  rw[G,H];exact⟨dM 7,rfl,rfl,bG (by omega) (by omega)⟩
 have G:(a.text==b.text)=false:=by simpa using l
 have H:((i:Int)==(k:Int))=false:=by
  rw[beq_eq_false_iff_ne];intro h;have:i=k:=by omega
  subst this;exact l (aeN hp B)
 rw[G,H];simp only[aa,bI (show c.rows.length<=34359738368 by omega),zA];have p:∀r,r∈c.rows->GRw P i k r:=λr d=>by
  obtain⟨X,J,S⟩:=tc.row r d;have K:r.cells[i]?=some (r.cells.getD i 0):=by rw[zE,zF (by omega)];rfl
  have L:r.cells[k]?=some (r.cells.getD k 0):=by rw[zE,zF (by omega)];rfl
  exact⟨K,L,J _ (zG K),J _ (zG L),⟨(iq.1 (hc.row d).fit).2,(hc.row d).org,S⟩⟩
 obtain⟨T,U⟩:=abo D i k c.rows [] [] p ⟨(λg f=>by cases f),List.Pairwise.nil,List.Pairwise.nil,λz=>Iff.rfl⟩;rw[T,zA,ac9 a.text b.text U];have tI:∀(m:Nat) (r:aB) (ts:List Grp),c.rows[m]?=some r->(ts.length<=m/\tH ts/\∀g,g∈ts->GOk P g)->((Dj i k ts r).length<=m+1/\tH (Dj i k ts r)/\∀g,g∈Dj i k ts r->GOk P g):=λm r ts d q=>by
  have t:=p r (zG d);have:=Xa (r.cells.getD i 0) (r.cells.getD k 0) r.orig ts;exact⟨by unfold Dj;omega,(FC _ _ _ ts q.2.1).2,ahh D t.ni t.org q.2.1 q.2.2⟩
 refine⟨_,rfl,(su (λ(ts:List Grp) (m:Nat)=>((c.kind,c.n,c.step,c.text,c.list,c.columns,c.rows,0,0,0,[],[],[],[],(i:Int),(k:Int),5,0,0,[],[],[a.text,b.text],ts.map jy,(m:Int)) :
   Int×Int×Int×Str×(List af)×(List Str)×(List aB)×Int×Int×Int×Str×(List af)×(List Str)×(List aB)×Int×Int×Int×Int×Int×Str×(List af)×(List Str)×(List aB)×Int)) c.rows (Dj i k) (afS a.text b.text) (λm ts=>ts.length<=m/\tH ts/\∀g,g∈ts->GOk P g) tI (λm r ts d q=>?_) (λts q=>?_) [] ⟨aD _,List.Pairwise.nil,(λg f=>by cases f)⟩).1,?_⟩
 ·obtain⟨I,v,w⟩:=q;have Y:=(zC.1 d).1;have t:=p r (zG d);have hp:=ag0 D (r.cells.getD i 0) (r.cells.getD k 0) r.orig t.org ts (by omega) w v;simp only[dD d,ac,aP,d,t.gi,t.gk,hp,zA,dY d (show (c.rows.length:Int)<=1048576 by omega)];rfl
 ·obtain⟨I,v,w⟩:=q;have V:((ts.map jy).length:Int)<=1048576:=by rw[amv];omega
  simp only[bM,aa];have hall:((ts.map jy).all λr=>nB (r.cells.getD 1 0))=ts.all abU:=by rw[List.all_map];rfl
  refine (congrArg (λo=>Option.bind o _) (nU (λ(j:Nat)=>((0,0,0,[],[],[],[],5,0,0,[],[],[a.text,b.text],ts.map jy,(j:Int)):Int×Int×Int×Str×(List af)×(List Str)×(List aB)×Int×Int×Int×Str×(List af)×(List Str)×(List aB)×Int)) (ts.map jy) (λ_ r=>nB (r.cells.getD 1 0)) (dM 5) (tK [a.text,b.text] (ts.map jy)) (λj r d=>?_) ?_)).trans ?_
  ·have y:=d;rw[amh]at y;obtain⟨g,_,rfl⟩:=Option.map_eq_some_iff.1 y;have W:(ts.map jy)[((j:Int)).toNat]?=some (jy g):=by rw[aE];exact d
   have c1:idx (jy g).cells 1=some g.2.1:=rfl;have c2:(jy g).cells.getD 1 0=g.2.1:=rfl;simp only[dD d,ac,aP,d,W,c1,c2,zA,Dz,jZ,aC,dY d V];cases nB g.2.1<;>rfl
  ·simp only[bM,aa];rfl
  ·rw[jq,hall];unfold afS;cases ts.all abU<;>rfl
 ·have hfin:=(su (g:=λ(x:List Grp×Nat)=>match c.rows[x.2]? with | some r=>some (.inl (Dj i k x.1 r,x.2+1)) | none=>some (.inr ())) (λts m=>(ts,m)) c.rows (Dj i k) (λ_=>()) (λm ts=>ts.length<=m/\tH ts/\∀g,g∈ts->GOk P g) tI (λm r ts d _=>by simp only[d]) (λts _=>by simp) [] ⟨aD _,List.Pairwise.nil,(λg f=>by cases f)⟩).2;obtain⟨Z,f2,C⟩:=hfin;generalize c.rows.foldl (Dj i k) []=ts at *;unfold afS;cases hall:ts.all abU with
  | false=>exact bG (by omega) (by omega)
  | true=>
   have ccl:=tc.cl;unfold clB at ccl;simp only[zI,decide_eq_true_eq]at ccl;have hrow:∀z,z∈ts.map jy->∃g,g∈ts/\z=jy g:=λz A=>by
    obtain⟨g,f,rfl⟩:=List.mem_map.1 A;exact⟨g,f,rfl⟩
   have hnum:∀g,g∈ts->∀n,n∈(jy g).cells->nB n=true:=λg f n u=>by
    have u:n∈[g.1,g.2.1]:=u;simp only[bh,List.not_mem_nil,or_false]at u;rcases u with rfl | rfl
    ·exact (C g f).key
    ·exact List.all_eq_true.1 hall g f
   simp only[ac];refine⟨Hq (dB (by simp) λs M=>?_) (by rw[amv];omega) λz A=>?_,?_⟩
   ·simp only[bh,List.not_mem_nil,or_false]at M;rcases M with rfl | rfl
    ·exact TS (by omega)
    ·exact TS (by omega)
   ·obtain⟨g,f,rfl⟩:=hrow z A;exact⟨iq.2 ⟨dB (by simp[jy]) λn u=>Ov (hnum g f n u),(C g f).org.fit⟩,(C g f).org.org⟩
   ·rw[BA];refine Rk ?_ (by rw[amv];omega) λz A=>?_
    ·unfold clB;simp only[zI,decide_eq_true_eq];refine⟨?_,by simp,?_⟩
     ·simp only[List.all_cons,List.all_nil,Bool.and_true,zI];exact⟨List.all_eq_true.1 ccl.1 _ (zG E),List.all_eq_true.1 ccl.1 _ (zG F)⟩
     ·show dsB ([a.text]++[b.text])=true
      rw[Yi];have:([a.text]:List Str).contains b.text=false:=by
       rw[List.contains_eq_mem,decide_eq_false_iff_not];simpa using λh=>l h.symm
      rw[this];rfl
    ·obtain⟨g,f,rfl⟩:=hrow z A;exact⟨rfl,hnum g f,(C g f).org.asc⟩
theorem Oe{α:Type}{b:List α}{n:Int}(h:(b.length:Int)≠n):((b.length:Int) != n)=true:=by
 rw[bne_iff_ne];omega
theorem len_eq{α:Type}{b:List α}{n:Int}(h:(b.length:Int)=n):((b.length:Int) != n)=false:=by
 rw[h];simp
def c1(b:List af)(F:af->Option af):Option af:=bif ((b.length:Int) != 1)then (some (dM 4))else (idx b 0).bind λe=>(F (ah e)).bind λr=>some (ah r)
def c2(b:List af)(F:af->af->Option af):Option af:=bif ((b.length:Int) != 2)then (some (dM 4))else (idx b 0).bind λe=>(idx b 1).bind λa=>(F (ah e) (ah a)).bind λr=>some (ah r)
def c3(b:List af)(F:af->af->af->Option af):Option af:=bif ((b.length:Int) != 3)then (some (dM 4))else (idx b 0).bind λe=>(idx b 1).bind λa=>(idx b 2).bind λc=>(F (ah e) (ah a) (ah c)).bind λr=>some (ah r)
def c4(b:List af)(F:af->af->af->af->Option af):Option af:=bif ((b.length:Int) != 4)then (some (dM 4))else (idx b 0).bind λe=>(idx b 1).bind λa=>(idx b 2).bind λc=>(idx b 3).bind λd=>(F (ah e) (ah a) (ah c) (ah d)).bind λr=>some (ah r)
theorem agm{P:List aj}{b:List af}(a:∀x,x∈b->VOk P x){F G:af->Option af}(h:∀x,VOk P x->Al P (F x) (G x)):Al P (c1 b F) (c1 b G):=by
 unfold c1;by_cases c:b.length=1
 ·obtain⟨x,rfl⟩:=List.length_eq_one_iff.1 c;exact GZ (h _ (by rw[aC];exact a x (by simp)))
 ·rw[Oe (n:=1) (by omega)];exact tq (by omega) (by omega)
theorem S9{P:List aj}{b:List af}(a:∀x,x∈b->VOk P x){F G:af->af->Option af}(h:∀x y,VOk P x->VOk P y->Al P (F x y) (G x y)):Al P (c2 b F) (c2 b G):=by
 unfold c2;by_cases c:b.length=2
 ·match b,c,a with
  | [x,y],_,a=>exact GZ (h _ _ (by rw[aC];exact a x (by simp)) (by rw[aC];exact a y (by simp)))
 ·rw[Oe (n:=2) (by omega)];exact tq (by omega) (by omega)
theorem agl{P:List aj}{b:List af}(a:∀x,x∈b->VOk P x){F G:af->af->af->Option af}(h:∀x y z,VOk P x->VOk P y->VOk P z->Al P (F x y z) (G x y z)):Al P (c3 b F) (c3 b G):=by
 unfold c3;by_cases c:b.length=3
 ·match b,c,a with
  | [x,y,z],_,a=>exact GZ (h _ _ _ (by rw[aC];exact a x (by simp)) (by rw[aC];exact a y (by simp)) (by rw[aC];exact a z (by simp)))
 ·rw[Oe (n:=3) (by omega)];exact tq (by omega) (by omega)
theorem al8{P:List aj}{b:List af}(a:∀x,x∈b->VOk P x){F G:af->af->af->af->Option af}(h:∀x y z u,VOk P x->VOk P y->VOk P z->VOk P u->Al P (F x y z u) (G x y z u)):Al P (c4 b F) (c4 b G):=by
 unfold c4;by_cases c:b.length=4
 ·match b,c,a with
  | [x,y,z,u],_,a=>exact GZ (h _ _ _ _ (by rw[aC];exact a x (by simp)) (by rw[aC];exact a y (by simp)) (by rw[aC];exact a z (by simp)) (by rw[aC];exact a u (by simp)))
 ·rw[Oe (n:=4) (by omega)];exact tq (by omega) (by omega)
theorem al0(b:List af):bZ [108,101,110] b=c1 b wR:=rfl
theorem alz(b:List af):bU [108,101,110] b=c1 b vU:=rfl
theorem alY(b:List af):bZ [115,117,109] b=c1 b Oy:=rfl
theorem alx(b:List af):bU [115,117,109] b=c1 b L9:=rfl
theorem akY(b:List af):bZ [114,111,119,115] b=c1 b sJ:=rfl
theorem aky(b:List af):bU [114,111,119,115] b=c1 b rP:=rfl
theorem akW(b:List af):bZ [116,97,107,101] b=c2 b Gf:=rfl
theorem akw(b:List af):bU [116,97,107,101] b=c2 b EQ:=rfl
theorem akX(b:List af):bZ [115,107,105,112] b=c2 b Gg:=rfl
theorem akx(b:List af):bU [115,107,105,112] b=c2 b ER:=rfl
theorem alZ(b:List af):bZ [110,116,104] b=c2 b yG:=rfl
theorem aly(b:List af):bU [110,116,104] b=c2 b uV:=rfl
theorem akZ(b:List af):bZ [107,101,101,112] b=c2 b nO:=rfl
theorem akz(b:List af):bU [107,101,101,112] b=c2 b nG:=rfl
theorem al1(b:List af):bZ [99,111,108,117,109,110] b=c2 b wZ:=rfl
theorem alA(b:List af):bU [99,111,108,117,109,110] b=c2 b wF:=rfl
theorem alX(b:List af):bZ [116,97,98,108,101] b=c2 b AO:=rfl
theorem alv(b:List af):bU [116,97,98,108,101] b=c2 b zM:=rfl
theorem ahN(b:List af):bZ [119,104,101,114,101] b=c3 b pW:=rfl
theorem agV(b:List af):bU [119,104,101,114,101] b=c3 b pz:=rfl
theorem ahO(b:List af):bZ [103,114,111,117,112] b=c3 b oK:=rfl
theorem agX(b:List af):bU [103,114,111,117,112] b=c3 b wB:=rfl
theorem ak0(b:List af):bZ [106,111,105,110] b=c3 b Gl:=rfl
theorem akA(b:List af):bU [106,111,105,110] b=c3 b Fg:=rfl
theorem al2(b:List af):bZ [97,100,100] b=c4 b sU:=rfl
theorem alB(b:List af):bU [97,100,100] b=c4 b rQ:=rfl
theorem agW(b:List af):bU [114,97,110,103,101] b=c2 b vZ:=rfl
theorem aeH{P:List aj}(b:List af)(a:∀x,x∈b->VOk P x):Al P (bZ [114,97,110,103,101] b) (bU [114,97,110,103,101] b):=by
 rw[agW];have e:bZ [114,97,110,103,101] b=bif ((b.length:Int) != 2)then some (dM 4)else (fC [1,1] b).bind λr=>bif r.2 then some (ah r.1)else (idx b 0).bind λx=>(idx b 1).bind λy=>(nN x.n y.n).bind λr=>some (ah r):=rfl
 rw[e];unfold c2;by_cases c:b.length=2
 ·match b,c,a with
  | [x,y],_,a=>
   have d:=a x (by simp);have f:=a y (by simp);rw[len_eq (n:=2) rfl];show Al P ((fC [1,1] [x,y]).bind _) ((vZ (ah x) (ah y)).bind λr=>some (ah r))
   rw[aC,aC];refine VU ?_;unfold vZ;rw[aC,aC];refine qJ [1,1] (VH d.fit f.fit) rfl (λe=>eF e) (λe=>eF e) λhv hk=>?_
   have g:x.kind=1:=hk 0 x 1 rfl rfl;have h:y.kind=1:=hk 1 y 1 rfl rfl;obtain⟨_,i⟩:=TD (hv x afV) g;obtain⟨_,j⟩:=TD (hv y ab4) h;exact⟨JO x.n y.n,by rw[<- aC (JO x.n y.n)];rfl,by rw[<- aC (JO x.n y.n)];rfl,aaO i j⟩
 ·rw[Oe (n:=2) (by omega)];exact tq (by omega) (by omega)
theorem F8(a:Str):oJ a=some ((a==[99,108,111,99,107])||((a==[99,104,97,110,99,101])||(a==[102,105,108,101]))):=by
 unfold oJ;cases (a==[99,108,111,99,107])<;>cases (a==[99,104,97,110,99,101])<;>rfl
theorem bq{a b:Str}(h:¬a=b):(a==b)=false:=by simpa using h
theorem aif{P:List aj}(w:P.length<=1048576)(a:Str)(b:List af)(e:∀x,x∈b->VOk P x)(A:oJ a=some false):Al P (bZ a b) (bU a b):=by
 by_cases m:a=[108,101,110]
 ·subst m;rw[al0,alz];exact agm e λx c=>acT x c
 by_cases n:a=[115,117,109]
 ·subst n;rw[alY,alx];exact agm e λx c=>akn x c
 by_cases o:a=[114,111,119,115]
 ·subst o;rw[akY,aky];exact agm e λx c=>agb x c
 by_cases p:a=[116,97,107,101]
 ·subst p;rw[akW,akw];exact S9 e λx y c d=>agM x y c d
 by_cases q:a=[115,107,105,112]
 ·subst q;rw[akX,akx];exact S9 e λx y c d=>agS x y c d
 by_cases r:a=[110,116,104]
 ·subst r;rw[alZ,aly];exact S9 e λx y c d=>akL x y c d
 by_cases s:a=[107,101,101,112]
 ·subst s;rw[akZ,akz];exact S9 e λx y c d=>ahK x y c d
 by_cases t:a=[99,111,108,117,109,110]
 ·subst t;rw[al1,alA];exact S9 e λx y c d=>adl x y c d
 by_cases v:a=[116,97,98,108,101]
 ·subst v;rw[alX,alv];exact S9 e λx y c d=>adR x y c d
 by_cases f:a=[119,104,101,114,101]
 ·subst f;rw[ahN,agV];exact agl e λx y z c d g=>adz x y z c d g
 by_cases h:a=[103,114,111,117,112]
 ·subst h;rw[ahO,agX];exact agl e λx y z c d g=>afT w x y z c d g
 by_cases i:a=[106,111,105,110]
 ·subst i;rw[ak0,akA];exact agl e λx y z c d g=>ahM w x y z c d g
 by_cases j:a=[97,100,100]
 ·subst j;rw[al2,alB];exact al8 e λx y z u c d g E=>aln x y z u c d g E
 by_cases k:a=[114,97,110,103,101]
 ·subst k;exact aeH b e
 have l:=A;rw[F8,zD,Bool.or_eq_false_iff,Bool.or_eq_false_iff]at l;obtain⟨B,C,D⟩:=l;have ic:dU a=some (-1):=by
  unfold dU;simp only[B,C,D,bq m,bq n,bq o,bq p,bq q,bq r,bq s,bq t,bq v,bq f,bq h,bq i,bq j,bq k,aa]
 have sc:fZ a=some (-1):=by
  unfold fZ;simp only[B,C,D,bq m,bq n,bq o,bq p,bq q,bq r,bq s,bq t,bq v,bq f,bq h,bq i,bq j,bq k,aa]
 have F:((b.length:Int) != -1)=true:=by rw[bne_iff_ne];omega
 unfold bZ bU;rw[A,ic,sc];simp only[zA,aa,F,ac];exact⟨dM 4,rfl,rfl,bG (by omega) (by omega)⟩
theorem ac8(a:Str):DU (ak.mk 5 0 a [])=oJ a:=by
 rw[F8];show Ah _ (ak.mk 5 0 a [])=_
 unfold Ah;have b:((5:Int)==5)=true:=rfl;simp only[b,ac];cases (a==[99,108,111,99,107])<;>cases (a==[99,104,97,110,99,101])<;>cases (a==[102,105,108,101])<;>first | rfl | (simp only[ac,aa];rw[aX];rfl)
theorem EK(a:Int){m:Int}(b:0<m):-m<a.tmod m/\a.tmod m<m/\(0<=a->0<=a.tmod m):=by
 rcases Int.le_total 0 a with h | h
 ·rw[Int.tmod_eq_emod_of_nonneg h];have c:=Int.emod_nonneg a (show m≠0 by omega);have d:=Int.emod_lt_of_pos a b;exact⟨by omega,d,λ_=>c⟩
 ·have e:a.tmod m = -((-a).tmod m):=by rw[Int.neg_tmod];omega
  rw[e,Int.tmod_eq_emod_of_nonneg (show 0<=-a by omega)];have c:=Int.emod_nonneg (-a) (show m≠0 by omega);have d:=Int.emod_lt_of_pos (-a) b;refine⟨by omega,by omega,λf=>?_⟩;have:a=0:=by omega
  subst this;simp
def Np(n:Int):Int:=bif decide (n.tmod 2147483647<0)then n.tmod 2147483647+2147483647 else n.tmod 2147483647
theorem UK(n:Int):0<=Np n/\Np n<2147483647:=by
 obtain⟨a,b,_⟩:=EK n (show (0:Int)<2147483647 by omega);unfold Np;by_cases h:n.tmod 2147483647<0
 ·rw[aq h];simp only[ac];omega
 ·rw[ae h];simp only[aa];omega
theorem aa0(n:Int):zZ n=some (Np n):=by
 obtain⟨a,b,_⟩:=EK n (show (0:Int)<2147483647 by omega);unfold zZ Np;by_cases h:n.tmod 2147483647<0
 ·rw[aq h];simp only[ac];rw[bQ (by omega) (by omega)]
 ·rw[ae h];rfl
def Vf(a b c d:Int):Int:=Np (16807*Np (w64 ((w64 ((w64 ((w64 (48271*a))+(w64 (7919*b))))+(w64 (104729*c))))+(w64 (1299709*d)))))
theorem ahc{n:Int}(h:0<=n):Np n=n.tmod 2147483647:=by
 unfold Np;rw[ae (by have:=(EK n (show (0:Int)<2147483647 by omega)).2.2 h;omega)];rfl
theorem ag1(a b c d:Int):ag2 a b c d=some (Vf a b c d):=by
 unfold ag2 Vf;rw[aa0,zA];generalize w64 ((w64 ((w64 ((w64 (48271*a))+(w64 (7919*b))))+(w64 (104729*c))))+(w64 (1299709*d)))=n;have:=UK n;rw[bQ (by omega) (by omega),aa0,zA]
theorem ahR(a b c d:Int):ahS a b c d=some (Vf a b c d):=by
 unfold ahS Vf;generalize w64 ((w64 ((w64 ((w64 (48271*a))+(w64 (7919*b))))+(w64 (104729*c))))+(w64 (1299709*d)))=n;obtain⟨f,g,_⟩:=EK n (show (0:Int)<2147483647 by omega);have i:=UK n;rw[ahc (show 0<=16807*Np n by omega)];have e:Np n=bif decide (n.tmod 2147483647<0)then n.tmod 2147483647+2147483647 else n.tmod 2147483647:=rfl
 by_cases h:n.tmod 2147483647<0
 ·rw[aq h]at e ⊢;simp only[ac]at e ⊢;rw[bQ (n:=n.tmod 2147483647+2147483647) (by omega) (by omega),<- e,bQ (by omega) (by omega)]
 ·rw[ae h]at e ⊢;simp only[aa]at e ⊢;rw[<- e,bQ (by omega) (by omega)]
theorem akQ(a b c d:Int):0<=Vf a b c d:=(UK _).1
def afY(fs:List fJ)(s:Str):Option Int:=gq (λ_ (f:fJ)=>bif f.name==s then some f.n else none) 0 fs
def ah2(o:Option Int):Int×Bool:=match o with | some n=>(n,true) | none=>(0,false)
theorem X6(o:Option Int):(o.map λe=>(e,true)).getD (0,false)=ah2 o:=by cases o<;>rfl
theorem afO(w:bT)(s:Str)(b:(w.files.length:Int)<=1048576):qK w s=some (ah2 (afY w.files s)):=by
 unfold qK afY;rw[<- X6,<- jF];refine qM (λi=>((s,w.files,(w.files.length:Int),(i:Int)):Str×(List fJ)×Int×Int)) w.files _ _ (λi x a=>?_) ?_
 ·simp only[dD a,ac,aP,a,zA,dY a b];cases (x.name==s)<;>rfl
 ·simp only[bM,aa]
theorem aep(w:bT)(s:Str)(b:(w.files.length:Int)<=1048576):qG w s=some (ah2 (afY w.files s)):=by
 unfold qG afY;rw[<- X6,<- jF];refine qM (λi=>((s,w.clock,w.seed,w.files,(i:Int)):Str×Int×Int×(List fJ)×Int)) w.files _ _ (λi x a=>?_) ?_
 ·simp only[dD a,ac,aP,a,zA,dY a b];cases (x.name==s)<;>rfl
 ·simp only[bM,aa]
theorem adg{P:List aj}(w:bT)(b c:Int)(d:aG)(e:(w.files.length:Int)<=1048576):Al P (jT w b c d) (jc w b c d):=by
 unfold jT jc;simp only[IX,Dz,oG,vV,ahR,ag1,afO w _ e,aep w _ e,kz,jZ,OH,MB,zA,aC];cases h:d.kind==1 with
 | true=>
  simp only[ac];cases a:nB w.clock with
  | true=>exact⟨mr w.clock,rfl,rfl,iW a⟩
  | false=>exact⟨dM 4,rfl,rfl,bG (by omega) (by omega)⟩
 | false=>
  simp only[aa];cases i:d.kind==2 with
  | true=>
   simp only[ac];by_cases f:1<=d.n/\d.n<=1000000000
   ·rw[aq f.1,aq f.2];obtain⟨j,k,g⟩:=EK (Vf w.seed b c d.time) (show 0<d.n by omega);have l:=g (akQ _ _ _ _);have a:nB ((Vf w.seed b c d.time).tmod d.n)=true:=by unfold nB;rw[aq (by omega),aq (by omega)];rfl
    have hrem:Qr (Vf w.seed b c d.time) d.n=some ((Vf w.seed b c d.time).tmod d.n):=by unfold Qr;rw[if_neg (by omega)]
    rw[hrem];simp only[Bool.and_self,aR,aa,zA,a];exact⟨_,rfl,rfl,iW a⟩
   ·have:(decide (1<=d.n)&&decide (d.n<=1000000000))=false:=by
     rw[Bool.and_eq_false_iff,decide_eq_false_iff_not,decide_eq_false_iff_not];omega
    rw[this];exact⟨dM 5,rfl,rfl,bG (by omega) (by omega)⟩
  | false=>
   simp only[aa];cases m:d.kind==3 with
   | false=>exact⟨dM 4,rfl,rfl,bG (by omega) (by omega)⟩
   | true=>
    simp only[ac];cases afY w.files d.text with
    | none=>exact⟨dM 1,rfl,rfl,bG (by omega) (by omega)⟩
    | some n=>
     simp only[ah2,aR,aa];cases a:nB n with
     | true=>exact⟨mr n,rfl,rfl,iW a⟩
     | false=>exact⟨dM 4,rfl,rfl,bG (by omega) (by omega)⟩
def smB(a b:aG):Bool:=(a.kind==b.kind)&&((a.n==b.n)&&((a.text==b.text)&&(a.time==b.time)))
theorem afK(a b:aG):BU a b=some (smB a b):=by
 unfold BU smB;cases (a.kind==b.kind)<;>cases (a.n==b.n)<;>cases (a.text==b.text)<;>rfl
theorem akC(a b:aG):vX a b=some (smB a b):=afK a b
def rdE(t:List aG)(r:aG):Option af:=gq (λ_ (x:aG)=>bif smB x r then some x.result else none) 0 t
structure agA(P:List aj)(t:List aG):Prop where
 len:(t.length:Int)<=1073741824
 val:∀x,x∈t->VOk P x.result
theorem afN{P:List aj}(t:List aG)(r:aG)(h:agA P t):wW t r=some (opR (rdE t r)):=by
 have b:=h.len;unfold wW rdE;rw[<- BM,<- jF];have c:aG.mk r.kind r.n r.time r.text (af.mk r.result.kind r.result.n r.result.step r.result.text r.result.list r.result.columns r.result.rows)=r:=by
  obtain⟨k,n,ti,te,v⟩:=r;cases v;rfl
 refine qM (λi=>((r.kind,r.n,r.time,r.text,r.result.kind,r.result.n,r.result.step,r.result.text,r.result.list,r.result.columns,r.result.rows,0,0,0,[],[],[],[],t,(t.length:Int),(i:Int)):Int×Int×Int×Str×Int×Int×Int×Str×(List af)×(List Str)×(List aB)×Int×Int×Int×Str×(List af)×(List Str)×(List aB)×(List aG)×Int×Int)) t _ _ (λi x a=>?_) ?_
 ·simp only[dD a,ac,aP,a,zA,c,BJ,aC,afK,fG _ (h.val x (zG a)).fit,up30 a b];cases smB x r<;>rfl
 ·simp only[bM,aa];rfl
theorem aeo{P:List aj}(t:List aG)(r:aG)(h:agA P t):wC t r=some (opR (rdE t r)):=by
 have b:=h.len;unfold wC rdE;rw[<- BM,<- jF];have c:aG.mk r.kind r.n r.time r.text (af.mk r.result.kind r.result.n r.result.step r.result.text r.result.list r.result.columns r.result.rows)=r:=by
  obtain⟨k,n,ti,te,v⟩:=r;cases v;rfl
 refine qM (λi=>((t,r.kind,r.n,r.time,r.text,r.result.kind,r.result.n,r.result.step,r.result.text,r.result.list,r.result.columns,r.result.rows,0,0,0,[],[],[],[],(i:Int)):(List aG)×Int×Int×Int×Str×Int×Int×Int×Str×(List af)×(List Str)×(List aB)×Int×Int×Int×Str×(List af)×(List Str)×(List aB)×Int)) t _ _ (λi x a=>?_) ?_
 ·simp only[dD a,ac,aP,a,zA,c,BJ,aC,akC,iG _ (h.val x (zG a)).fit,up30 a b];cases smB x r<;>rfl
 ·simp only[bM,aa];rfl
theorem Zw{P:List aj}:∀(t:List aG) (r:aG) (i:Nat) {v:af},(∀x,x∈t->VOk P x.result)->gq (λ_ (x:aG)=>bif smB x r then some x.result else none) i t=some v->VOk P v
 | [],_,_,_,_,h=>by cases h
 | x::t,r,i,v,hv,h=>by
  unfold gq at h;cases a:smB x r with
  | true=>
   rw[a]at h;have h:some x.result=some v:=h;cases h
   exact hv x (aw ..)
  | false=>
   rw[a]at h;exact Zw t r (i+1) (λy b=>hv y (ar _ b)) h
end Go.Proofs.YtjbajpfonnnfoaaGreatDoor
/- The evaluator in plain words. -/
namespace Go.Proofs.YtjbajpfonnnfoaaGreatDoor
noncomputable section
open Go.Abs Go.Proofs
def ovr(m:aA):aA:=aA.mk m.tape m.w m.cell m.version m.reads m.steps true
def tick(m:aA):aA:=aA.mk m.tape m.w m.cell m.version m.reads (m.steps+1) m.over
def evL{α:Type}(f:aA->α->aA×af):aA->List α->aA×List af
 | m,[]=>(m,[])
 | m,x::r=>bif (f m x).1.over then ((f m x).1,[])else ((evL f (f m x).1 r).1,(f m x).2::(evL f (f m x).1 r).2)
def arg(e:ak)(i:Nat):ak:=e.args.getD i ⟨0,0,[],[]⟩
def thn(p:aA×af)(k:aA->af->aA×af):aA×af:=bif p.1.over then (p.1,zV)else k p.1 p.2
def fin(p:aA×List af)(f:List af->af):aA×af:=bif p.1.over then (p.1,zV)else (p.1,f p.2)
def iM(vs:List af):af:=(iH vs).getD zV
def opV(o:Int)(a b:af):af:=(iI o a b).getD zV
def agi(t:Str)(vs:List af):af:=(bU t vs).getD zV
def resV(w:bT)(b c:Int)(d:aG):af:=(jc w b c d).getD zV
def qx(r x:aG):Bool:=(x.kind==r.kind)&&((x.n==r.n)&&(x.text==r.text))
def zk(m:aA)(r:aG):aG:=aG.mk r.kind r.n (r.time+(m.reads.countP (qx r):Nat)) r.text r.result
def Gy(m:aA)(r:aG):af:=(rdE m.tape (zk m r)).getD (resV m.w m.cell m.version (zk m r))
def Df(m:aA)(r:aG):aA×af:=(aA.mk m.tape m.w m.cell m.version (m.reads++[aG.mk r.kind r.n (zk m r).time r.text (Gy m r)]) m.steps m.over,Gy m r)
def Ou(t:Str):Bool:=(t==[99,108,111,99,107])||((t==[99,104,97,110,99,101])||(t==[102,105,108,101]))
def sW(t:Str)(p:aA×List af):aA×af:=
 bif p.1.over then (p.1,zV)else
 bif !Ou t then (p.1,agi t p.2)else
 bif t==[99,108,111,99,107]then Df p.1 (aG.mk 1 0 0 [] zV)else
 bif (p.2.getD 0 zV).kind==6 then (p.1,p.2.getD 0 zV)else
 bif t==[99,104,97,110,99,101]then bif (p.2.getD 0 zV).kind==1 then Df p.1 (aG.mk 2 (p.2.getD 0 zV).n 0 [] zV)else (p.1,dM 4)else
 bif (p.2.getD 0 zV).kind==2 then Df p.1 (aG.mk 3 0 0 (p.2.getD 0 zV).text zV)else (p.1,dM 4)
def evB(f:aA->ak->List au->aA×af)(m:aA)(e:ak)(c:List au):aA×af:=
 bif m.over||(m.steps==200)then (ovr m,zV)else
 bif e.kind==1 then (tick m,mr e.n)else
 bif e.kind==2 then (tick m,Dw e.text)else
 bif e.kind==3 then (tick m,y7 c e.text)else
 bif e.kind==4 then fin (evL (λm x=>f m x c) (tick m) e.args) iM else
 bif e.kind==5 then sW e.text (evL (λm x=>f m x c) (tick m) e.args)else
 bif e.kind==7 then thn (f (tick m) (arg e 0) c) λm v=>f m (arg e 1) (c++[au.mk e.text v])else
 bif e.kind==8 then thn (f (tick m) (arg e 0) c) λm v=>bif v.kind==6 then (m,v)else bif Hl v then f m (arg e 1) c else f m (arg e 2) c else
 bif e.kind==9 then thn (f (tick m) (arg e 0) c) λm v=>bif v.kind==6 then (m,v)else bif v.kind != 3 then (m,dM 4)else fin (evL (λm x=>f m (arg e 1) (c++[au.mk e.text x])) m v.list) iM else
 fin (evL (λm x=>f m x c) (tick m) e.args) λvs=>opV e.n (vs.getD 0 zV) (vs.getD 1 zV)
def evN:Nat->aA->ak->List au->aA×af
 | 0,m,_,_=>(ovr m,zV)
 | n+1,m,e,c=>evB (evN n) m e c
inductive ShX:Nat->ak->Prop
 | mk (d:Nat) (e:ak) (k0:1<=e.kind) (k9:e.kind<=9) (num:e.kind=1->nB e.n=true) (tx:e.kind=2->txB e.text=true) (tl:e.text.length<=120) (al:e.args.length<=8) (op:e.kind=6->e.args.length=2) (two:e.kind=7\/e.kind=9->e.args.length=2) (three:e.kind=8->e.args.length=3)
   (cl:e.kind=5->dU e.text=some (e.args.length:Int)) (hs:∀x,x∈e.args->ShX d x):ShX (d+1) e
theorem EO{x e:ak}(h:x∈e.args):siz x+3<=siz e:=by
 have b:=List.sizeOf_lt_of_mem h;obtain⟨k,n,t,a⟩:=e;have d:1<=SizeOf.sizeOf t:=by
  cases t with
  | nil=>simp
  | cons c r=>rw[List.cons.sizeOf_spec];omega
 have f:1<=SizeOf.sizeOf n:=by
  cases n with
  | ofNat a=>rw[Int.ofNat.sizeOf_spec];omega
  | negSucc a=>rw[Int.negSucc.sizeOf_spec];omega
 simp only[siz];rw[ak.mk.sizeOf_spec];have b:SizeOf.sizeOf x<SizeOf.sizeOf a:=b;omega
theorem dw{e:ak}{i:Nat}(h:i<e.args.length):arg e i∈e.args:=by
 unfold arg;rw[zE,zF h];exact List.getElem_mem h
theorem SK{α:Type}{f g:aA->α->aA×af}:∀(xs:List α) (m:aA),(∀m x,x∈xs->f m x=g m x)->evL f m xs=evL g m xs
 | [],_,_=>rfl
 | x::r,m,h=>by
  unfold evL;rw[h m x aw,SK r _ λm y a=>h m y (ar _ a)]
theorem SL{d:Nat}{f g:aA->ak->List au->aA×af}{m:aA}{e:ak}{c:List au}(i:ShX d e)(h:∀m x c,x∈e.args->f m x c=g m x c):evB f m e c=evB g m e c:=by
 cases i with
 | mk d _ k0 k9 num tx tl al op two three cl q=>
 unfold evB;rw[SK e.args (tick m) λm x i=>h m x c i];by_cases b:e.kind=7
 ·have a0:=h (tick m) (arg e 0) c (dw (by have:=two (.inl b);omega));have a:∀m c,f m (arg e 1) c=g m (arg e 1) c:=λm c=>h m (arg e 1) c (dw (by have:=two (.inl b);omega))
  rw[b];simp only[a0,a];rfl
 by_cases j:e.kind=8
 ·have l:=three j;have a0:=h (tick m) (arg e 0) c (dw (by omega));have a:∀m c,f m (arg e 1) c=g m (arg e 1) c:=λm c=>h m (arg e 1) c (dw (by omega))
  have k:∀m c,f m (arg e 2) c=g m (arg e 2) c:=λm c=>h m (arg e 2) c (dw (by omega))
  rw[j];simp only[a0,a,k]
 by_cases k9':e.kind=9
 ·have a0:=h (tick m) (arg e 0) c (dw (by have:=two (.inr k9');omega));have a:∀m c,f m (arg e 1) c=g m (arg e 1) c:=λm c=>h m (arg e 1) c (dw (by have:=two (.inr k9');omega))
  rw[k9'];simp only[a0,a];rfl
 have n:(e.kind==7)=false:=by simpa using b
 have o:(e.kind==8)=false:=by simpa using j
 have p:(e.kind==9)=false:=by simpa using k9'
 simp only[n,o,p,aa]
theorem Ya:∀(n n' d:Nat) (m:aA) (e:ak) (c:List au),ShX d e->siz e<n->siz e<n'->evN n m e c=evN n' m e c
 | 0,_,_,_,_,_,_,h,_=>absurd h (aml _)
 | _+1,0,_,_,_,_,_,_,h=>absurd h (aml _)
 | n+1,n'+1,d,m,e,c,a,h,g=>by
  refine SL a λm x c b=>?_
  cases a with
  | mk d _ k0 k9 num tx tl al op two three cl f=>
  have:=EO b;exact Ya n n' d m x c (f x b) (by omega) (by omega)
def ev(m:aA)(e:ak)(c:List au):aA×af:=evN (siz e+1) m e c
theorem X9{d:Nat}(m:aA)(e:ak)(c:List au)(a:ShX d e):ev m e c=evB ev m e c:=by
 refine SL a λm x c b=>?_
 cases a with
 | mk d _ k0 k9 num tx tl al op two three cl f=>
 have:=EO b;exact Ya _ _ d m x c (f x b) (by omega) (by omega)
end
end Go.Proofs.YtjbajpfonnnfoaaGreatDoor
