import Derived.Test.YtjbajpfonnnfoaaGreatDoorVal8
import Derived.Test.YtjbajpfonnnfoaaGreatDoorLink1
set_option linter.unusedSimpArgs false
set_option linter.unusedVariables false
/- Plain laws: tables are joined. -/
namespace Go.Proofs.YtjbajpfonnnfoaaGreatDoor
open Go.Abs Go.Proofs
structure GN(P:List aj)(a:List aj):Prop where
 fit:bQ B20 (.list (.base .origin) a)
 org:∀o,o∈a->o∈P
 asc:Pj a=true
theorem afH{a:List aj}(h:Pj a=true):∀o,o∈a->0<=o.cell/\0<=o.row:=fun o b=>by
 obtain⟨i,c⟩:=List.mem_iff_getElem?.1 b;have:=Cc a 0 h i o c;unfold Vy at this;simp only[zI,Bool.not_eq_true',decide_eq_false_iff_not]at this;omega
theorem Yh{α:Type}{p:Nat->α->Bool}:∀(xs:List α) (i:Nat),(∀(j:Nat) x,xs[j]?=some x->p (i+j) x=true)->jO p i xs=true
 | [],_,_=>rfl
 | x::r,i,h=>by
  show (p i x&&jO p (i+1) r)=true
  rw[zI];refine⟨h 0 x rfl,Yh r (i+1) fun j y a=>?_⟩;have:=h (j+1) y (by simpa using a);rwa [show i+(j+1)=i+1+j by omega]at this
theorem akw{a:List aj}(h:Asc a)(c:∀o,o∈a->0<=o.cell/\0<=o.row):Pj a=true:=by
 refine Yh a 0 fun j o b=>?_
 rw[Nat.zero_add];obtain⟨f,g⟩:=c o (zG b);unfold Vy;rw[ac (by omega),ac (by omega)];cases j with
 | zero=>rfl
 | succ j=>
  have d:=(zC.1 b).1;have e:a[j]?=some a[j]:=zF (by omega);simp only[Nat.add_sub_cancel,e,Bool.not_false,Bool.and_self,Bool.true_and];have:=(List.pairwise_iff_getElem.1 h) j (j+1) (by omega) d (by omega);rw[(zC.1 b).2]at this;exact this
theorem aek{a:List aj}(h:bQ B20 (.list (.base .origin) a)):a.all (fun o=>J3 o.cell&&J3 o.row)=true:=List.all_eq_true.2 fun o c=>by
 have:=h.bY o c;rw[Eg]at this;have w:∀n:Int,bQ B20 (.int .i64 n)->J3 n=true:=fun n hf=>by
  cases hf with
  | int _ _ b=>
   unfold Lit.wf at b;simp[IntKind.bits,IntKind.signed,IntKind.min,IntKind.max]at b;unfold J3;rw[zI,decide_eq_true_eq,decide_eq_true_eq];omega
 rw[w _ this.1,w _ this.2];rfl
theorem GY{P:List aj}(f:P.length<=1048576){a b:List aj}(c:GN P a)(d:GN P b):iL a b=some (kT a b)/\rF a b=some (kT a b)/\GN P (kT a b):=by
 have la:=bU c.fit;have lb:=bU d.fit;have hsub:∀o,o∈kT a b->o∈P:=fun o e=>(wL.1 e).elim (c.org o) (d.org o)
 have hasc:Asc (kT a b):=Gy a b;have hlen:=aa0 hasc hsub;refine⟨?_,agf a b (ZW c.asc) (ZW d.asc) (by omega),⟨cO (by omega) fun o e=>(wL.1 e).elim (c.fit.bY o) (d.fit.bY o),hsub,akw hasc fun o e=>(wL.1 e).elim (afH c.asc o) (afH d.asc o)⟩⟩;unfold iL;rw[bP (by omega),zA,if_pos];rw[List.all_append,aek c.fit,aek d.fit];rfl
theorem or_nil{P:List aj}:GN P []:=⟨qc,(fun o h=>by cases h),rfl⟩
theorem ZP{α β X ρ:Type}{g:X->Option (X⊕ρ)}(pk:List β->Nat->X)(xs:List α)(f:α->Option β)(s0:List β)(yes:ρ)
  (d:∀i x s,xs[i]?=some x->s.length<=s0.length+i->g (pk s i)=some (.inl (pk (s++(f x).toList) (i+1))))
  (hf:g (pk (s0++xs.filterMap f) xs.length)=some (.inr yes)):aO g (pk s0 0)=some yes:=by
 have key:∀(n i:Nat),xs.length=i+n->aO g (pk (s0++(xs.take i).filterMap f) i)=some yes:=by
  intro n;induction n with
  | zero=>
   intro i h;have:i=xs.length:=by omega
   subst this;rw[aX,List.take_length,hf]
  | succ n ih=>
   intro i h;have a:i<xs.length:=by omega
   have c:=zF a;have j:(s0++(xs.take i).filterMap f).length<=s0.length+i:=by
    have:=List.length_filterMap_le f (xs.take i);rw[a8]at this;rw[a6];omega
   rw[aX,d i _ _ c j];have e:s0++(xs.take (i+1)).filterMap f=s0++(xs.take i).filterMap f++(f xs[i]).toList:=by
    rw[take_snoc c,List.filterMap_append,a7];cases b:f xs[i]<;>simp[b]
   simp only;rw[<- e];exact ih (i+1) (by omega)
 have:=key xs.length 0 (by omega);simpa using this
def FC(n:Str)(s:Str):Option Str:=bif n==s then none else some s
theorem adt(n s:Str):decide (posOf s 0 [n]<0) = !(n==s):=by
 unfold posOf;by_cases h:(n==s)=true
 ·rw[if_pos h,h];rfl
 ·rw[if_neg h];have:(n==s)=false:=by simpa using h
  rw[this];rfl
theorem Xn(cs:List Str)(n:Str)(b:(cs.length:Int)<=1048576):FQ cs [n]=some (cs.filterMap (FC n)):=by
 unfold FQ;refine ZP (fun (s:List Str) (i:Nat)=>(([n],s,cs,(cs.length:Int),(i:Int)):(List Str)×(List Str)×(List Str)×Int×Int)) cs (FC n) [] _ (fun i x s a c=>?_) ?_
 ·have e:=(zC.1 a).1;have d:gd (s.length+([x]:List Str).length)=some ():=bP (by simp at c ⊢;omega);simp only[dA a,ab,aQ,a,zA,AA [n] x (by simp),adt,d,dW a b];unfold FC;cases (n==x)with
  | true=>simp
  | false=>rfl
 ·simp only[bM,aa,List.nil_append]
theorem Ro{n:Str}:∀ {cs:List Str},n∉cs->cs.filterMap (FC n)=cs
 | [],_=>rfl
 | x::r,h=>by
  have a:(n==x)=false:=by
   rw[beq_eq_false_iff_ne];rintro rfl;exact h aq
  rw[List.filterMap_cons];have:FC n x=some x:=by unfold FC;rw[a];rfl
  rw[this];simp only;rw[Ro fun b=>h (ao _ b)]
theorem KZ{n:Str}:∀ {cs:List Str} {k:Nat},cs.Nodup->cs[k]?=some n->cs.filterMap (FC n)=cs.take k++cs.drop (k+1)
 | [],k,_,h=>by simp at h
 | x::r,0,a,h=>by
  have e:x=n:=by simpa using h
  subst e;have:FC x x=none:=by unfold FC;rw[beq_self_eq_true];rfl
  rw[List.filterMap_cons,this];exact Ro (List.nodup_cons.1 a).1
 | x::r,k+1,a,h=>by
  have c:r[k]?=some n:=by simpa using h
  have b:(n==x)=false:=by
   rw[beq_eq_false_iff_ne];rintro rfl;exact (List.nodup_cons.1 a).1 (zG c)
  have:FC n x=some x:=by unfold FC;rw[b];rfl
  rw[List.filterMap_cons,this];simp only;rw[KZ (List.nodup_cons.1 a).2 c];rfl
theorem ajv{α:Type}(a:List α)(b:Nat)(h:b<=a.length):eff.cutL a (some (b:Int)) none=some (a.drop b):=by
 unfold eff.cutL;simp only[Option.getD_some,Option.getD_none];rw[if_pos]
 ·simp
 ·omega
def N7(k:Nat)(x y:aB):aB:=aB.mk (x.cells++y.cells.take k++y.cells.drop (k+1)) (kT x.orig y.orig)
def N8(i k:Nat)(x y:aB):Option aB:=bif x.cells.getD i 0==y.cells.getD k 0 then some (N7 k x y)else none
set_option maxRecDepth 4000 in
theorem ag6{P:List aj}(M:P.length<=1048576)(a b c:af)(V:VOk P a)(C:VOk P b)(hc:VOk P c):Al P (FY a b c) (EW a b c):=by
 unfold FY EW;rw[aC,aC,aC];refine qO [2,5,5] (aki V.fit C.fit hc.fit) rfl (fun e=>dZ e) (fun e=>dZ e) fun N hk=>?_
 have kb:b.kind=5:=hk 1 b 5 rfl rfl;have kc:c.kind=5:=hk 2 c 5 rfl rfl;obtain⟨b0,bt⟩:=uj (N b (by simp)) kb;obtain⟨c0,ct⟩:=uj (N c (by simp)) kc;have tb:=Dk bt;have tc:=Dk ct;have b4:=tb.c4;have c4:=tc.c4;have W:=tb.len;have X:=tc.len;have lb:(b.columns.length:Int)<=1048576:=by omega
 have lc:(c.columns.length:Int)<=1048576:=by omega
 have lw:=List.length_filterMap_le (FC a.text) c.columns;simp only[zV,aa,Ee b _ lb,DI b _ lb,Ee c _ lc,DI c _ lc,Xn c.columns a.text lc,zA,kC,ku,aC,List.nil_append,
  bP (show 0+b.columns.length<=34359738368 by omega),bP (show b.columns.length+(c.columns.filterMap (FC a.text)).length<=34359738368 by omega)]
 rcases jL a.text b.columns with hp | ⟨i,hi,hp,_⟩
 ·rw[hp];exact⟨dI 7,rfl,rfl,bH (by omega) (by omega)⟩
 rw[hp,XZ i];simp only[aa];rcases jL a.text c.columns with D | ⟨k,Y,D,E⟩
 ·rw[D];exact⟨dI 7,rfl,rfl,bH (by omega) (by omega)⟩
 have ccl:=tc.cl;unfold clB at ccl;simp only[zI,decide_eq_true_eq]at ccl;have F:=KZ (Si c.columns ccl.2.2) E;have G:w64 ((k:Int)+1)=((k+1:Nat):Int):=by rw[bT (by omega) (by omega)];rfl
 have Z:(c.columns.take k).length<=4:=by rw[a8];omega
 have lt2:(c.columns.drop (k+1)).length<=4:=by rw[List.length_drop];omega
 have r:b.columns++c.columns.filterMap (FC a.text)=b.columns++c.columns.take k++c.columns.drop (k+1):=by rw[F,a7]
 rw[D,XZ k];simp only[r,aa,X0 c.columns k (by omega),G,ajv c.columns (k+1) (by omega),zA,bP (show b.columns.length+(c.columns.take k).length<=34359738368 by omega),
  bP (show (b.columns++c.columns.take k).length+(c.columns.drop (k+1)).length<=34359738368 by rw[a6];omega)]
 have hcols:(b.columns++c.columns.take k++c.columns.drop (k+1)).length=b.columns.length+(c.columns.length-1):=by
  rw[a6,a6,a8,List.length_drop];omega
 have f1:=(dP.1 C.fit).2.2.2.2.2.1;have O:=(dP.1 hc.fit).2.2.2.2.2.1;have t:bQ B20 (.list (.base .str) (b.columns++c.columns.take k++c.columns.drop (k+1))):=cO (by rw[hcols];omega) fun x d=>by
  rcases List.mem_append.1 d with d | d
  ·rcases List.mem_append.1 d with d | d
   ·exact f1.bY x d
   ·exact O.bY x (List.mem_of_mem_take d)
  ·exact O.bY x (List.mem_of_mem_drop d)
 have v:(b.columns++c.columns.take k++c.columns.drop (k+1)).all nmB=true:=by
  have bcl:=tb.cl;unfold clB at bcl;simp only[zI,decide_eq_true_eq]at bcl;refine List.all_eq_true.2 fun x d=>?_
  rcases List.mem_append.1 d with d | d
  ·rcases List.mem_append.1 d with d | d
   ·exact List.all_eq_true.1 bcl.1 x d
   ·exact List.all_eq_true.1 ccl.1 x (List.mem_of_mem_take d)
  ·exact List.all_eq_true.1 ccl.1 x (List.mem_of_mem_drop d)
 obtain⟨cols,w⟩:∃cols,b.columns++c.columns.take k++c.columns.drop (k+1)=cols:=⟨_,rfl⟩;simp only[w];rw[w]at hcols t v;have ll:(cols.length:Int)<=1048576:=by omega
 simp only[ZI cols ll,Y4 cols ll,zA];cases H:dsB cols with
 | false=>exact⟨dI 7,rfl,rfl,bH (by omega) (by omega)⟩
 | true=>
 simp only[aL,aa];by_cases Q:(cols.length:Int)>4
 ·have I:∀(q:Decidable ((cols.length:Int)>4)),@decide _ q=true:=fun _=>ae Q
  simp only[I];exact⟨dI 6,rfl,rfl,bH (by omega) (by omega)⟩
 have I:∀(q:Decidable ((cols.length:Int)>4)),@decide _ q=false:=fun _=>ac Q
 simp only[I,aa];have orB':∀x,x∈b.rows->GN P x.orig:=fun x d=>⟨(iy.1 (C.row d).fit).2,(C.row d).org,(tb.row x d).2.2⟩
 have orC:∀y,y∈c.rows->GN P y.orig:=fun y f=>⟨(iy.1 (hc.row f).fit).2,(hc.row f).org,(tc.row y f).2.2⟩
 have J:∀x,x∈b.rows->∀y,y∈c.rows->GN P (N7 k x y).orig/\(N7 k x y).cells.length=cols.length/\∀n,n∈(N7 k x y).cells->nB n=true:=fun x d y f=>by
  obtain⟨x1,R,_⟩:=tb.row x d;obtain⟨y1,S,_⟩:=tc.row y f;refine⟨(GY M (orB' x d) (orC y f)).2.2,?_,fun n g=>?_⟩
  ·show (x.cells++y.cells.take k++y.cells.drop (k+1)).length=_
   rw[a6,a6,a8,List.length_drop];omega
  ·have g:n∈x.cells++y.cells.take k++y.cells.drop (k+1):=g;rcases List.mem_append.1 g with g | g
   ·rcases List.mem_append.1 g with g | g
    ·exact R n g
    ·exact S n (List.mem_of_mem_take g)
   ·exact S n (List.mem_of_mem_drop g)
 refine jS (fun (s:List aB) (m:Nat)=>((c.kind,c.n,c.step,c.text,c.list,c.columns,c.rows,0,0,0,[],[],[],[],(i:Int),(k:Int),5,0,0,[],[],cols,s,b.rows,(b.rows.length:Int),(m:Int)) :
   Int×Int×Int×Str×(List af)×(List Str)×(List aB)×Int×Int×Int×Str×(List af)×(List Str)×(List aB)×Int×Int×Int×Int×Int×Str×(List af)×(List Str)×(List aB)×(List aB)×Int×Int))
  (fun (s:List aB) (m:Nat)=>((b.kind,b.n,b.step,b.text,b.list,b.columns,b.rows,c.kind,c.n,c.step,c.text,c.list,c.columns,c.rows,0,0,0,[],[],[],[],(i:Int),(k:Int),5,0,0,[],[],cols,s,(m:Int)) :
   Int×Int×Int×Str×(List af)×(List Str)×(List aB)×Int×Int×Int×Str×(List af)×(List Str)×(List aB)×Int×Int×Int×Str×(List af)×(List Str)×(List aB)×Int×Int×Int×Int×Int×Str×(List af)×(List Str)×(List aB)×Int))
  b.rows (fun m s=>s.length<=12*m/\∀z,z∈s->∃x,x∈b.rows/\∃y,y∈c.rows/\z=N7 k x y) _ (fun m x s d K=>?_) (fun s K=>?_) [] ⟨ar _,fun x d=>by cases d⟩
 ·obtain⟨L,o⟩:=K;have p:=zG d;have hm:=(zC.1 d).1;obtain⟨x1,R,_⟩:=tb.row x p;have ex:x.cells[i]?=some (x.cells.getD i 0):=by rw[zE,zF (by omega)];rfl
  have up12:=dW d (show (b.rows.length:Int)<=1048576 by omega);have lx:x.cells.length<=4:=by omega
  have row:∀(j:Nat) (y:aB),c.rows[j]?=some y->y.cells[k]?=some (y.cells.getD k 0)/\eff.cutL y.cells none (some (k:Int))=some (y.cells.take k)/\eff.cutL y.cells (some ((k+1:Nat):Int)) none=some (y.cells.drop (k+1))/\(y.cells.take k).length<=4/\(y.cells.drop (k+1)).length<=4 /\
    iL x.orig y.orig=some (kT x.orig y.orig)/\rF x.orig y.orig=some (kT x.orig y.orig):=fun j y f=>by
   have A:=zG f;obtain⟨y1,_,_⟩:=tc.row y A;obtain⟨u1,u2,_⟩:=GY M (orB' x p) (orC y A);exact⟨by rw[zE,zF (by omega)];rfl,X0 y.cells k (by omega),ajv y.cells (k+1) (by omega),by rw[a8];omega,by rw[List.length_drop];omega,u1,u2⟩
  have hlf:=List.length_filterMap_le (N8 i k x) c.rows;refine .inl ⟨s++c.rows.filterMap (N8 i k x),?_,?_,by rw[a6];omega,fun z h=>?_⟩
  ·simp only[dA d,ab,aQ,d,zA];refine ZP (fun (u:List aB) (j:Nat)=>((c.kind,c.n,c.step,c.text,c.list,c.columns,c.rows,0,0,0,[],[],[],[],(i:Int),(k:Int),5,0,0,[],[],cols,u,x.cells,x.orig,b.rows,(b.rows.length:Int),(m:Int),c.rows,(c.rows.length:Int),(j:Int)) :
    Int×Int×Int×Str×(List af)×(List Str)×(List aB)×Int×Int×Int×Str×(List af)×(List Str)×(List aB)×Int×Int×Int×Int×Int×Str×(List af)×(List Str)×(List aB)×(List Int)×(List aj)×(List aB)×Int×Int×(List aB)×Int×Int)) c.rows (N8 i k x) s _ (fun j y u f hu=>?_) ?_
   ·have hj:=(zC.1 f).1;obtain⟨w1,w2,w3,w4,w5,T,U⟩:=row j y f;simp only[dA f,ab,aQ,f,ex,w1,zA,dW f (show (c.rows.length:Int)<=1048576 by omega),bne];unfold N8;cases (x.cells.getD i 0==y.cells.getD k 0)with
    | false=>simp only[Bool.not_false,ab,aa,Option.toList_none,List.append_nil]
    | true=>
     simp only[aL,ab,aa,Option.toList_some,w2,G,w3,zA,List.nil_append,bP (show 0+x.cells.length<=34359738368 by omega),bP (show x.cells.length+(y.cells.take k).length<=34359738368 by omega),
      bP (show (x.cells++y.cells.take k).length+(y.cells.drop (k+1)).length<=34359738368 by rw[a6];omega),ve,T,bP (show u.length+[aB.mk (x.cells++y.cells.take k++y.cells.drop (k+1)) (kT x.orig y.orig)].length<=34359738368 by simp only[List.length_singleton];omega)]
     rfl
   ·simp only[bM,aa,up12]
  ·simp only[dA d,ab];refine ZP (fun (u:List aB) (j:Nat)=>((b.kind,b.n,b.step,b.text,b.list,b.columns,b.rows,c.kind,c.n,c.step,c.text,c.list,c.columns,c.rows,0,0,0,[],[],[],[],(i:Int),(k:Int),5,0,0,[],[],cols,u,(m:Int),(j:Int)) :
    Int×Int×Int×Str×(List af)×(List Str)×(List aB)×Int×Int×Int×Str×(List af)×(List Str)×(List aB)×Int×Int×Int×Str×(List af)×(List Str)×(List aB)×Int×Int×Int×Int×Int×Str×(List af)×(List Str)×(List aB)×Int×Int)) c.rows (N8 i k x) s _ (fun j y u f hu=>?_) ?_
   ·have hj:=(zC.1 f).1;obtain⟨w1,w2,w3,w4,w5,T,U⟩:=row j y f;simp only[dA f,ab,aQ,d,f,ex,w1,zA,dW f (show (c.rows.length:Int)<=1048576 by omega)];unfold N8;cases (x.cells.getD i 0==y.cells.getD k 0)with
    | false=>simp only[aa,Option.toList_none,List.append_nil]
    | true=>
     have hpair:Ko x y (k:Int)=some (N7 k x y):=by
      unfold Ko;simp only[w2,G,w3,zA,List.nil_append,bP (show 0+x.cells.length<=34359738368 by omega),bP (show x.cells.length+(y.cells.take k).length<=34359738368 by omega),
       bP (show (x.cells++y.cells.take k).length+(y.cells.drop (k+1)).length<=34359738368 by rw[a6];omega),U]
      rfl
     simp only[ab,Option.toList_some,hpair,zA,bP (show u.length+[N7 k x y].length<=34359738368 by simp only[List.length_singleton];omega)]
   ·simp only[bM,aa,up12]
  ·rcases List.mem_append.1 h with h | h
   ·exact o z h
   ·obtain⟨y,f,hf⟩:=List.mem_filterMap.1 h;unfold N8 at hf;cases B:(x.cells.getD i 0==y.cells.getD k 0)with
    | false=>rw[B]at hf;cases hf
    | true=>rw[B]at hf;exact⟨x,p,y,f,(aR hf).symm⟩
 ·obtain⟨L,o⟩:=K;by_cases l:(s.length:Int)>12
  ·refine⟨dI 6,by simp only[bM,aa,ae l];rfl,by simp only[bM,aa,ae l];rfl,bH (by omega) (by omega)⟩
  ·have hrow:∀z,z∈s->GN P z.orig/\z.cells.length=cols.length/\∀n,n∈z.cells->nB n=true:=fun z h=>by
    obtain⟨x,d,y,f,rfl⟩:=o z h;exact J x d y f
   refine⟨uf cols s,by simp only[bM,aa,ac l];rfl,by simp only[bM,aa,ac l];rfl,G7 t (by omega) fun z h=>?_,?_⟩
   ·obtain⟨w1,w2,w3⟩:=hrow z h;exact⟨iy.2 ⟨cO (by rw[w2];exact ll) fun n g=>Ob (w3 n g),w1.fit⟩,w1.org⟩
   ·rw[Be];refine QS ?_ (by omega) fun z h=>⟨(hrow z h).2.1,(hrow z h).2.2,(hrow z h).1.asc⟩
    unfold clB;simp only[zI,decide_eq_true_eq];exact⟨v,⟨by omega,by omega⟩,H⟩
abbrev Grp:=Int×Int×List aj
def jy(g:Grp):aB:=aB.mk [g.1,g.2.1] g.2.2
def CO(x n:Int)(fr:List aj):List Grp->List Grp
 | []=>[(x,n,fr)]
 | g::r=>if g.1=x then (g.1,w64 (g.2.1+n),kT g.2.2 fr)::r else g::CO x n fr r
def Fb(x n:Int)(fr:List aj):List Grp->List Grp
 | []=>[(x,n,fr)]
 | g::r=>if g.1=x then (g.1,w64 (g.2.1+n),kT g.2.2 fr)::r else if g.1>x then (x,n,fr)::g::r else g::Fb x n fr r
structure GOk(P:List aj)(g:Grp):Prop where
 key:nB g.1=true
 org:GN P g.2.2
theorem ajZ{n:Int}(h:nB n=true):IntKind.i64.wrap (0+n)=n:=by
 unfold nB at h;rw[zI,decide_eq_true_eq,decide_eq_true_eq]at h;show w64 (0+n)=n
 rw[bT (by omega) (by omega)];omega
theorem RH{P:List aj}(c:P.length<=1048576)(x n:Int)(fr:List aj)(d:nB x=true)(i:nB n=true)(hf:GN P fr):∀gs:List Grp,(∀g,g∈gs->GOk P g)->qC x n fr gs=some (CO x n fr gs)/\∀g,g∈CO x n fr gs->GOk P g
 | [],_=>by
  refine⟨?_,fun g a=>?_⟩
  ·unfold qC CO;rw[(GY c or_nil hf).1,zA,ajZ i,adf (ZW hf.asc)]
  ·have:g=(x,n,fr):=by simpa [CO] using a
   subst this;exact⟨d,hf⟩
 | (y,s,f)::r,h=>by
  have a:=h _ aq;obtain⟨j,_,k⟩:=GY c a.org hf;obtain⟨l,m⟩:=RH c x n fr d i hf r fun g a=>h g (ao _ a)
  unfold qC CO;by_cases e:y=x
  ·rw[if_pos e];simp only[if_pos e];rw[j,zA];refine⟨rfl,fun g b=>?_⟩;rcases ba.1 b with rfl | b
   ·exact⟨a.key,k⟩
   ·exact h g (ao _ b)
  ·rw[if_neg e];simp only[if_neg e];rw[l,zA];refine⟨rfl,fun g b=>?_⟩;rcases ba.1 b with rfl | b
   ·exact a
   ·exact m g b
def GR(gs:List Grp):Prop:=gs.Pairwise fun a b=>a.1≠b.1
def tX(gs:List Grp):Prop:=gs.Pairwise fun a b=>a.1<b.1
theorem tX.nd{gs:List Grp}(h:tX gs):GR gs:=h.imp fun h=>by omega
def SL(x n:Int)(fr:List aj)(l:List Grp)(v:Grp):Prop:=
 (∃g,g∈l/\g.1=x/\v=(x,w64 (g.2.1+n),kT g.2.2 fr))\/((∀g,g∈l->g.1≠x)/\v=(x,n,fr))
theorem aeN{l:List Grp}(h:GR l){a b:Grp}(d:a∈l)(c:b∈l)(f:a.1=b.1):a=b:=by
 induction l with
 | nil=>cases d
 | cons g r ih=>
  obtain⟨i,k⟩:=List.pairwise_cons.1 h;rcases ba.1 d with j | d
  ·rcases ba.1 c with e | c
   ·rw[j,e]
   ·exact absurd (j▸f) (i b c)
  ·rcases ba.1 c with e | c
   ·exact absurd (e▸f.symm) (i a d)
   ·exact ih k d c
theorem Zy{x n:Int}{fr:List aj}{l l':List Grp}(h:GR l)(d:∀z,z∈l'↔z∈l){v v':Grp}(i:SL x n fr l v)(b:SL x n fr l' v'):v=v':=by
 rcases i with ⟨g,f,e,rfl⟩ | ⟨j,rfl⟩
 ·rcases b with ⟨g',a,e',rfl⟩ | ⟨c,rfl⟩
  ·rw[aeN h f ((d g').1 a) (e.trans e'.symm)]
  ·exact absurd e (c g ((d g).2 f))
 ·rcases b with ⟨g',a,e',rfl⟩ | ⟨c,rfl⟩
  ·exact absurd e' (j g' ((d g').1 a))
  ·rfl
theorem Yj(x n:Int)(fr:List aj):∀l:List Grp,GR l->∃v,SL x n fr l v/\∀z,z∈CO x n fr l↔(z∈l/\z.1≠x)\/z=v
 | [],_=>⟨(x,n,fr),.inr ⟨(fun g d=>by cases d),rfl⟩,fun z=>by simp[CO]⟩
 | g::r,h=>by
  obtain⟨f,i⟩:=List.pairwise_cons.1 h;unfold CO;by_cases e:g.1=x
  ·rw[if_pos e];refine⟨(x,w64 (g.2.1+n),kT g.2.2 fr),.inl ⟨g,aq,e,rfl⟩,fun z=>?_⟩;rw[e];constructor
   ·intro a;rcases ba.1 a with rfl | a
    ·exact .inr rfl
    ·exact .inl ⟨ao _ a,fun hh=>f z a (e.trans hh.symm)⟩
   ·rintro (⟨a,b⟩ | rfl)
    ·rcases ba.1 a with rfl | a
     ·exact absurd e b
     ·exact ao _ a
    ·exact aq
  ·rw[if_neg e];obtain⟨v,j,k⟩:=Yj x n fr r i;refine⟨v,?_,fun z=>?_⟩
   ·rcases j with ⟨g',c,e',rfl⟩ | ⟨m,rfl⟩
    ·exact .inl ⟨g',ao _ c,e',rfl⟩
    ·refine .inr ⟨fun g' c=>?_,rfl⟩;rcases ba.1 c with rfl | c
     ·exact e
     ·exact m g' c
   ·rw[ba,ba,k];constructor
    ·rintro (rfl | ⟨a,b⟩ | rfl)
     ·exact .inl ⟨.inl rfl,e⟩
     ·exact .inl ⟨.inr a,b⟩
     ·exact .inr rfl
    ·rintro (⟨rfl | a,b⟩ | rfl)
     ·exact .inl rfl
     ·exact .inr (.inl ⟨a,b⟩)
     ·exact .inr (.inr rfl)
theorem acp{x n:Int}{fr:List aj}{l:List Grp}{v:Grp}(h:SL x n fr l v):v.1=x:=by
 rcases h with ⟨g,_,_,rfl⟩ | ⟨_,rfl⟩<;>rfl
theorem SG(x n:Int)(fr:List aj):∀(l:List Grp) (z:Grp),z∈CO x n fr l->z.1=x\/∃g,g∈l/\g.1=z.1
 | [],z,a=>by
  have c:z=(x,n,fr):=by simpa [CO] using a
  exact .inl (by rw[c])
 | g::r,z,a=>by
  unfold CO at a;by_cases e:g.1=x
  ·rw[if_pos e]at a;rcases ba.1 a with rfl | a
   ·exact .inl e
   ·exact .inr ⟨z,ao _ a,rfl⟩
  ·rw[if_neg e]at a;rcases ba.1 a with rfl | a
   ·exact .inr ⟨z,aq,rfl⟩
   ·rcases SG x n fr r z a with h | ⟨g',b,h⟩
    ·exact .inl h
    ·exact .inr ⟨g',ao _ b,h⟩
theorem aa3(x n:Int)(fr:List aj):∀l:List Grp,GR l->GR (CO x n fr l)
 | [],_=>List.pairwise_singleton _ _
 | g::r,h=>by
  obtain⟨b,c⟩:=List.pairwise_cons.1 h;unfold CO;by_cases e:g.1=x
  ·rw[if_pos e];exact List.pairwise_cons.2 ⟨b,c⟩
  ·rw[if_neg e];refine List.pairwise_cons.2 ⟨fun z d=>?_,aa3 x n fr r c⟩;rcases SG x n fr r z d with hk | ⟨g',a,hk⟩
   ·rw[hk];exact e
   ·rw[<- hk];exact b g' a
theorem Fa(x n:Int)(fr:List aj):∀l:List Grp,tX l->(∃v,SL x n fr l v/\∀z,z∈Fb x n fr l↔(z∈l/\z.1≠x)\/z=v)/\tX (Fb x n fr l)
 | [],_=>⟨⟨(x,n,fr),.inr ⟨(fun g m=>by cases m),rfl⟩,fun z=>by simp[Fb]⟩,List.pairwise_singleton _ _⟩
 | g::r,h=>by
  obtain⟨f,i⟩:=List.pairwise_cons.1 h;unfold Fb;by_cases e:g.1=x
  ·rw[if_pos e];refine⟨⟨(x,w64 (g.2.1+n),kT g.2.2 fr),.inl ⟨g,aq,e,rfl⟩,fun z=>?_⟩,List.pairwise_cons.2 ⟨f,i⟩⟩;rw[e];constructor
   ·intro a;rcases ba.1 a with rfl | a
    ·exact .inr rfl
    ·exact .inl ⟨ao _ a,fun hh=>by have:=f z a;omega⟩
   ·rintro (⟨a,b⟩ | rfl)
    ·rcases ba.1 a with rfl | a
     ·exact absurd e b
     ·exact ao _ a
    ·exact aq
  ·rw[if_neg e];by_cases d:g.1>x
   ·rw[if_pos d];have hall:∀z,z∈g::r->x<z.1:=fun z a=>by
     rcases ba.1 a with rfl | a
     ·exact d
     ·have:=f z a;omega
    refine⟨⟨(x,n,fr),.inr ⟨fun z a=>by have:=hall z a;omega,rfl⟩,fun z=>?_⟩,List.pairwise_cons.2 ⟨hall,h⟩⟩;constructor
    ·intro a;rcases ba.1 a with rfl | a
     ·exact .inr rfl
     ·exact .inl ⟨a,by have:=hall z a;omega⟩
    ·rintro (⟨a,_⟩ | rfl)
     ·exact ao _ a
     ·exact aq
   ·rw[if_neg d];obtain⟨⟨v,j,k⟩,o⟩:=Fa x n fr r i;refine⟨⟨v,?_,fun z=>?_⟩,List.pairwise_cons.2 ⟨fun z a=>?_,o⟩⟩
    ·rcases j with ⟨g',c,e',rfl⟩ | ⟨p,rfl⟩
     ·exact .inl ⟨g',ao _ c,e',rfl⟩
     ·refine .inr ⟨fun g' c=>?_,rfl⟩;rcases ba.1 c with rfl | c
      ·exact e
      ·exact p g' c
    ·rw[ba,ba,k];constructor
     ·rintro (rfl | ⟨a,b⟩ | rfl)
      ·exact .inl ⟨.inl rfl,e⟩
      ·exact .inl ⟨.inr a,b⟩
      ·exact .inr rfl
     ·rintro (⟨rfl | a,b⟩ | rfl)
      ·exact .inl rfl
      ·exact .inr (.inl ⟨a,b⟩)
      ·exact .inr (.inr rfl)
    ·rcases (k z).1 a with ⟨a,_⟩ | rfl
     ·exact f z a
     ·rw[acp j];omega
theorem RD:∀ {a b:List Grp},tX a->tX b->(∀z,z∈a↔z∈b)->a=b
 | [],[],_,_,_=>rfl
 | [],y::b,_,_,h=>by cases (h y).2 aq
 | x::a,[],_,_,h=>by cases (h x).1 aq
 | x::a,y::b,i,j,h=>by
  obtain⟨f,k⟩:=List.pairwise_cons.1 i;obtain⟨g,l⟩:=List.pairwise_cons.1 j;have e:x=y:=by
   rcases ba.1 ((h x).1 aq)with e | m
   ·exact e
   ·rcases ba.1 ((h y).2 aq)with e | n
    ·exact e.symm
    ·have:=g x m;have:=f y n;omega
  subst e;rw[RD k l fun z=>?_];constructor
  ·intro d;rcases ba.1 ((h z).1 (ao _ d))with rfl | c
   ·have:=f _ d;omega
   ·exact c
  ·intro d;rcases ba.1 ((h z).2 (ao _ d))with rfl | c
   ·have:=g _ d;omega
   ·exact c
theorem Zx{gs:List Grp}(h:GR gs):tX (gs.mergeSort fun p q=>decide (p.1<=q.1)):=by
 have f:=List.pairwise_mergeSort (le:=fun p q:Grp=>decide (p.1<=q.1)) (fun a b c f g=>by simp only[decide_eq_true_eq]at *;omega) (fun a b=>by simp only[Bool.or_eq_true,decide_eq_true_eq];omega) gs;have g:GR (gs.mergeSort fun p q=>decide (p.1<=q.1)):=(List.mergeSort_perm gs _).symm.pairwise h fun d=>fun e=>d e.symm
 refine (List.pairwise_and_iff.2 ⟨f,g⟩).imp fun {a b} h=>?_
 have:=h.1;simp only[decide_eq_true_eq]at this;have:=h.2;omega
def DL(x n:Int)(fr:List aj)(s:List aB×Bool)(g:Grp):List aB×Bool:=
 if g.1=x then (s.1++[aB.mk [x,w64 (g.2.1+n)] (kT g.2.2 fr)],true)else if g.1>x then if s.2=true then (s.1++[jy g],s.2)else (s.1++[aB.mk [x,n] fr]++[jy g],true)else (s.1++[jy g],s.2)
def agC(x n:Int)(fr:List aj)(s:List aB×Bool):List aB:=if s.2=true then s.1 else s.1++[aB.mk [x,n] fr]
theorem Ih(x n:Int)(fr:List aj):∀(l:List Grp) (out:List aB),(∀g,g∈l->g.1>x)->l.foldl (DL x n fr) (out,true)=(out++l.map jy,true)
 | [],out,_=>by simp
 | g::r,out,h=>by
  have a:=h g aq;rw[List.foldl_cons];have:DL x n fr (out,true) g=(out++[jy g],true):=by
   unfold DL;rw[if_neg (by omega),if_pos a,if_pos rfl]
  rw[this,Ih x n fr r _ fun g a=>h g (ao _ a)];simp
theorem aaA(x n:Int)(fr:List aj):∀(l:List Grp) (out:List aB),tX l->agC x n fr (l.foldl (DL x n fr) (out,false))=out++(Fb x n fr l).map jy
 | [],out,_=>rfl
 | g::r,out,h=>by
  obtain⟨c,d⟩:=List.pairwise_cons.1 h;rw[List.foldl_cons];unfold Fb;by_cases e:g.1=x
  ·have:DL x n fr (out,false) g=(out++[aB.mk [x,w64 (g.2.1+n)] (kT g.2.2 fr)],true):=by unfold DL;rw[if_pos e]
   rw[this,Ih x n fr r _ fun g' b=>by have:=c g' b;omega,if_pos e];show (out++[aB.mk [x,w64 (g.2.1+n)] (kT g.2.2 fr)])++r.map jy=out++(jy (g.1,w64 (g.2.1+n),kT g.2.2 fr)::r.map jy)
   unfold jy;rw[e,a7];rfl
  ·rw[if_neg e];by_cases a:g.1>x
   ·have:DL x n fr (out,false) g=(out++[aB.mk [x,n] fr]++[jy g],true):=by unfold DL;rw[if_neg e,if_pos a,if_neg (by simp)]
    rw[this,Ih x n fr r _ fun g' b=>by have:=c g' b;omega,if_pos a];show (out++[aB.mk [x,n] fr]++[jy g])++r.map jy=out++(aB.mk [x,n] fr::jy g::r.map jy)
    simp
   ·have:DL x n fr (out,false) g=(out++[jy g],false):=by unfold DL;rw[if_neg e,if_neg a]
    rw[this,aaA x n fr r _ d,if_neg a];simp
theorem agi{P:List aj}(o:P.length<=1048576)(x n:Int)(fr:List aj)(hf:GN P fr)(l:List Grp)(w:l.length<=1000)(h:∀g,g∈l->GOk P g)(p:tX l):TQ (l.map jy) x n fr=some ((Fb x n fr l).map jy):=by
 have q:=bU hf.fit;have d:((l.map jy).length:Int)<=1048576:=by rw[List.length_map];omega
 have f:(l.map jy).length=l.length:=List.length_map _;unfold TQ;have r:(Fb x n fr l).map jy=agC x n fr (l.foldl (DL x n fr) ([],false)):=by rw[aaA x n fr l [] p,List.nil_append]
 rw[r];refine (oC (fun (s:List aB×Bool) (i:Nat)=>((l.map jy,x,n,fr,s.1,s.2,(i:Int)):(List aB)×Int×Int×(List aj)×(List aB)×Bool×Int)) l (DL x n fr) (agC x n fr) (fun i s=>s.1.length<=2*i)
  (fun i g s c k=>?_) (fun i g s c k=>?_) (fun s k=>?_) ([],false) (ar _)).1
 ·show (DL x n fr s g).1.length<=2*(i+1)
  unfold DL;repeat' split
  all_goals simp
  all_goals omega
 ·have A:=(zC.1 c).1;have b:(l.map jy)[i]?=some (jy g):=by rw[List.getElem?_map,c];rfl
  obtain⟨_,t,_⟩:=GY o (h g (zG c)).org hf;have gd1:∀y:aB,gd (s.1.length+[y].length)=some ():=fun y=>bP (by simp only[List.length_singleton];omega)
  have j:∀y z:aB,gd ((s.1++[y]).length+[z].length)=some ():=fun y z=>bP (by simp only[a6,List.length_singleton];omega)
  have c0:idx [g.1,g.2.1] 0=some g.1:=rfl;have c1:idx [g.1,g.2.1] 1=some g.2.1:=rfl;have u:∀m:Int,idx [x,m] 0=some x:=fun _=>rfl
  have v:∀m:Int,[x,m][0]?=some x:=fun _=>rfl
  unfold DL;simp only[dA b,ab,aQ,b,zA,dW b d,jy,c0,c1,t,u,v,gd1,j,List.nil_append,bP (show 0+fr.length<=34359738368 by omega)];by_cases e:g.1=x
  ·have eb:(g.1==x)=true:=by simpa using e
   rw[eb,if_pos e];have:decide (x>x)=false:=by simp
   rw[this];rfl
  ·have eb:(g.1==x)=false:=by simpa using e
   rw[eb,if_neg e];by_cases a:g.1>x
   ·rw[ae a,if_pos a];cases s.2<;>rfl
   ·rw[ac a,if_neg a];rfl
 ·have gd1:∀y:aB,gd (s.1.length+[y].length)=some ():=fun y=>bP (by simp only[List.length_singleton];omega)
  unfold agC;simp only[<- f,bM,aa,gd1,List.nil_append,bP (show 0+fr.length<=34359738368 by omega),zA];cases s.2<;>rfl
theorem WG(x n:Int)(fr:List aj):∀l:List Grp,(Fb x n fr l).length<=l.length+1
 | []=>ar _
 | g::r=>by
  unfold Fb;by_cases e:g.1=x
  ·rw[if_pos e];simp
  ·rw[if_neg e];by_cases h:g.1>x
   ·rw[if_pos h];simp
   ·rw[if_neg h];have:=WG x n fr r;simp only[List.length_cons];omega
theorem aeQ{P:List aj}(b:P.length<=1048576){x n:Int}{fr:List aj}{l:List Grp}{v:Grp}(h:SL x n fr l v)(a:nB x=true)(hf:GN P fr)(c:∀g,g∈l->GOk P g):GOk P v:=by
 rcases h with ⟨g,d,_,rfl⟩ | ⟨_,rfl⟩
 ·exact⟨a,(GY b (c g d).org hf).2.2⟩
 ·exact⟨a,hf⟩
theorem agB{P:List aj}(c:P.length<=1048576){x n:Int}{fr:List aj}(d:nB x=true)(hf:GN P fr){l:List Grp}(e:tX l)(b:∀g,g∈l->GOk P g):∀g,g∈Fb x n fr l->GOk P g:=fun g a=>by
 obtain⟨⟨v,f,h⟩,_⟩:=Fa x n fr l e;rcases (h g).1 a with ⟨a,_⟩ | rfl
 ·exact b g a
 ·exact aeQ c f d hf b
def adn(i k:Nat)(gs:List Grp)(r:aB):List Grp:=CO (r.cells.getD i 0) (r.cells.getD k 0) r.orig gs
def CQ(i k:Nat)(ts:List Grp)(r:aB):List Grp:=Fb (r.cells.getD i 0) (r.cells.getD k 0) r.orig ts
structure ahK(P:List aj)(gs ts:List Grp):Prop where
 ok:∀g,g∈gs->GOk P g
 nd:GR gs
 asd:tX ts
 mem:∀z,z∈ts↔z∈gs
structure GRw(P:List aj)(i k:Nat)(r:aB):Prop where
 gi:r.cells[i]?=some (r.cells.getD i 0)
 gk:r.cells[k]?=some (r.cells.getD k 0)
 ni:nB (r.cells.getD i 0)=true
 nk:nB (r.cells.getD k 0)=true
 org:GN P r.orig
theorem aaP{P:List aj}(d:P.length<=1048576)(i k:Nat):∀(rows:List aB) (gs ts:List Grp),(∀r,r∈rows->GRw P i k r)->ahK P gs ts->qB i k rows gs=some (rows.foldl (adn i k) gs)/\ahK P (rows.foldl (adn i k) gs) (rows.foldl (CQ i k) ts)
 | [],gs,ts,_,h=>⟨rfl,h⟩
 | r::rs,gs,ts,f,h=>by
  have a:=f r aq;obtain⟨g,j⟩:=RH d (r.cells.getD i 0) (r.cells.getD k 0) r.orig a.ni a.nk a.org gs h.ok;obtain⟨v,l,m⟩:=Yj (r.cells.getD i 0) (r.cells.getD k 0) r.orig gs h.nd;obtain⟨⟨u,n,o⟩,p⟩:=Fa (r.cells.getD i 0) (r.cells.getD k 0) r.orig ts h.asd;have e:=Zy h.nd h.mem l n;have q:ahK P (adn i k gs r) (CQ i k ts r):=⟨j,aa3 _ _ _ gs h.nd,p,fun z=>by
   show z∈Fb _ _ _ ts↔z∈CO _ _ _ gs
   rw[o,m,h.mem,e]⟩
  obtain⟨s,t⟩:=aaP d i k rs _ _ (fun r b=>f r (ao _ b)) q;refine⟨?_,t⟩;unfold qB;have c:J3 (r.cells.getD i 0)=true:=by
   have:=a.ni;simp[J3,nB]at this ⊢;omega
  rw[aQ,aQ,a.gi,a.gk,zA,zA,c,if_pos rfl,g,zA];exact s
def abj(g:Grp):Bool:=nB g.2.1
def ae7(a b:Str)(ts:List Grp):af:=bif ts.all abj then uf [a,b] (ts.map jy)else dI 5
theorem acE{P:List aj}(a b:Str){gs ts:List Grp}(h:ahK P gs ts):yF a b gs=some (ae7 a b ts):=by
 have d:(gs.all fun g=>decide (-1000000000<=g.2.1)&&decide (g.2.1<=1000000000))=ts.all abj:=by
  rw[Bool.eq_iff_iff,List.all_eq_true,List.all_eq_true];exact⟨fun hh z c=>hh z ((h.mem z).1 c),fun hh z c=>hh z ((h.mem z).2 c)⟩
 have e:(gs.mergeSort fun p q=>decide (p.1<=q.1))=ts:=RD (Zx h.nd) h.asd fun z=>by rw[List.mem_mergeSort,h.mem]
 unfold yF ae7;rw[d,e];cases ts.all abj<;>rfl
theorem ad8{s t:Str}{cs:List Str}{n:Nat}(e:posOf s 0 cs=(n:Int))(f:posOf t 0 cs=(n:Int)):s=t:=by
 rcases jL s cs with h | ⟨a,_,g,d⟩
 ·omega
 rcases jL t cs with h | ⟨b,_,i,c⟩
 ·omega
 have:a=b:=by omega
 subst this;rw[d]at c;exact aR c
theorem ae8{P:List aj}(D:P.length<=1048576)(a b c:af)(O:VOk P a)(Q:VOk P b)(hc:VOk P c):Al P (oK a b c) (wC a b c):=by
 unfold oK wC;simp only[aC];refine qO [2,2,5] (aki O.fit Q.fit hc.fit) rfl (fun e=>rfl) (fun e=>rfl) fun E hk=>?_
 have ka:a.kind=2:=hk 0 a 2 rfl rfl;have kb:b.kind=2:=hk 1 b 2 rfl rfl;have kc:c.kind=5:=hk 2 c 5 rfl rfl;obtain⟨_,ct⟩:=uj (E c (by simp)) kc;obtain⟨_,ta⟩:=uh (E a (by simp)) ka;obtain⟨_,tb⟩:=uh (E b (by simp)) kb;unfold txB at ta tb;rw[zI,decide_eq_true_eq]at ta tb;have tc:=Dk ct;have c4:=tc.c4;have R:=tc.len;have lc:(c.columns.length:Int)<=1048576:=by omega
 simp only[zV,aa,Ee c _ lc,DI c _ lc,zA,kC,ku,aC];rcases jL a.text c.columns with hp | ⟨i,Y,hp,F⟩
 ·rw[hp];exact⟨dI 7,rfl,rfl,bH (by omega) (by omega)⟩
 rw[hp,XZ i];rcases jL b.text c.columns with B | ⟨k,S,B,G⟩
 ·rw[B];exact⟨dI 7,rfl,rfl,bH (by omega) (by omega)⟩
 rw[B,XZ k];simp only[Bool.false_or,aa];by_cases l:a.text=b.text
 ·have H:(a.text==b.text)=true:=by simpa using l
  have I:((i:Int)==(k:Int))=true:=by
   rw[l]at hp;rw[beq_iff_eq];omega
  rw[H,I];exact⟨dI 7,rfl,rfl,bH (by omega) (by omega)⟩
 have H:(a.text==b.text)=false:=by simpa using l
 have I:((i:Int)==(k:Int))=false:=by
  rw[beq_eq_false_iff_ne];intro h;have:i=k:=by omega
  subst this;exact l (ad8 hp B)
 rw[H,I];simp only[aa,bP (show c.rows.length<=34359738368 by omega),zA];have p:∀r,r∈c.rows->GRw P i k r:=fun r d=>by
  obtain⟨Z,K,T⟩:=tc.row r d;have L:r.cells[i]?=some (r.cells.getD i 0):=by rw[zE,zF (by omega)];rfl
  have M:r.cells[k]?=some (r.cells.getD k 0):=by rw[zE,zF (by omega)];rfl
  exact⟨L,M,K _ (zG L),K _ (zG M),⟨(iy.1 (hc.row d).fit).2,(hc.row d).org,T⟩⟩
 obtain⟨U,V⟩:=aaP D i k c.rows [] [] p ⟨(fun g f=>by cases f),List.Pairwise.nil,List.Pairwise.nil,fun z=>Iff.rfl⟩;rw[U,zA,acE a.text b.text V];have tI:∀(m:Nat) (r:aB) (ts:List Grp),c.rows[m]?=some r->(ts.length<=m/\tX ts/\∀g,g∈ts->GOk P g)->((CQ i k ts r).length<=m+1/\tX (CQ i k ts r)/\∀g,g∈CQ i k ts r->GOk P g):=fun m r ts d q=>by
  have t:=p r (zG d);have:=WG (r.cells.getD i 0) (r.cells.getD k 0) r.orig ts;exact⟨by unfold CQ;omega,(Fa _ _ _ ts q.2.1).2,agB D t.ni t.org q.2.1 q.2.2⟩
 refine⟨_,rfl,(oC (fun (ts:List Grp) (m:Nat)=>((c.kind,c.n,c.step,c.text,c.list,c.columns,c.rows,0,0,0,[],[],[],[],(i:Int),(k:Int),5,0,0,[],[],[a.text,b.text],ts.map jy,(m:Int)) :
   Int×Int×Int×Str×(List af)×(List Str)×(List aB)×Int×Int×Int×Str×(List af)×(List Str)×(List aB)×Int×Int×Int×Int×Int×Str×(List af)×(List Str)×(List aB)×Int)) c.rows (CQ i k) (ae7 a.text b.text) (fun m ts=>ts.length<=m/\tX ts/\∀g,g∈ts->GOk P g) tI (fun m r ts d q=>?_) (fun ts q=>?_) [] ⟨ar _,List.Pairwise.nil,(fun g f=>by cases f)⟩).1,?_⟩
 ·obtain⟨J,v,w⟩:=q;have hm:=(zC.1 d).1;have t:=p r (zG d);have hp:=agi D (r.cells.getD i 0) (r.cells.getD k 0) r.orig t.org ts (by omega) w v;simp only[dA d,ab,aQ,d,t.gi,t.gk,hp,zA,dW d (show (c.rows.length:Int)<=1048576 by omega)];rfl
 ·obtain⟨J,v,w⟩:=q;have W:((ts.map jy).length:Int)<=1048576:=by rw[List.length_map];omega
  simp only[bM,aa];have hall:((ts.map jy).all fun r=>nB (r.cells.getD 1 0))=ts.all abj:=by rw[List.all_map];rfl
  refine (congrArg (fun o=>Option.bind o _) (nS (fun (j:Nat)=>((0,0,0,[],[],[],[],5,0,0,[],[],[a.text,b.text],ts.map jy,(j:Int)):Int×Int×Int×Str×(List af)×(List Str)×(List aB)×Int×Int×Int×Str×(List af)×(List Str)×(List aB)×Int)) (ts.map jy) (fun _ r=>nB (r.cells.getD 1 0)) (dI 5) (uf [a.text,b.text] (ts.map jy)) (fun j r d=>?_) ?_)).trans ?_
  ·have y:=d;rw[List.getElem?_map]at y;obtain⟨g,_,rfl⟩:=Option.map_eq_some_iff.1 y;have X:(ts.map jy)[((j:Int)).toNat]?=some (jy g):=by rw[aw];exact d
   have c1:idx (jy g).cells 1=some g.2.1:=rfl;have c2:(jy g).cells.getD 1 0=g.2.1:=rfl;simp only[dA d,ab,aQ,d,X,c1,c2,zA,Dp,ku,aC,dW d W];cases nB g.2.1<;>rfl
  ·simp only[bM,aa];rfl
  ·rw[jq,hall];unfold ae7;cases ts.all abj<;>rfl
 ·have hfin:=(oC (g:=fun (x:List Grp×Nat)=>match c.rows[x.2]? with | some r=>some (.inl (CQ i k x.1 r,x.2+1)) | none=>some (.inr ())) (fun ts m=>(ts,m)) c.rows (CQ i k) (fun _=>()) (fun m ts=>ts.length<=m/\tX ts/\∀g,g∈ts->GOk P g) tI (fun m r ts d _=>by simp only[d]) (fun ts _=>by simp) [] ⟨ar _,List.Pairwise.nil,(fun g f=>by cases f)⟩).2;obtain⟨f1,f2,C⟩:=hfin;generalize c.rows.foldl (CQ i k) []=ts at *;unfold ae7;cases hall:ts.all abj with
  | false=>exact bH (by omega) (by omega)
  | true=>
   have ccl:=tc.cl;unfold clB at ccl;simp only[zI,decide_eq_true_eq]at ccl;have hrow:∀z,z∈ts.map jy->∃g,g∈ts/\z=jy g:=fun z A=>by
    obtain⟨g,f,rfl⟩:=List.mem_map.1 A;exact⟨g,f,rfl⟩
   have hnum:∀g,g∈ts->∀n,n∈(jy g).cells->nB n=true:=fun g f n u=>by
    have u:n∈[g.1,g.2.1]:=u;simp only[ba,List.not_mem_nil,or_false]at u;rcases u with rfl | rfl
    ·exact (C g f).key
    ·exact List.all_eq_true.1 hall g f
   simp only[ab];refine⟨G7 (cO (by simp) fun s N=>?_) (by rw[List.length_map];omega) fun z A=>?_,?_⟩
   ·simp only[ba,List.not_mem_nil,or_false]at N;rcases N with rfl | rfl
    ·exact Tv (by omega)
    ·exact Tv (by omega)
   ·obtain⟨g,f,rfl⟩:=hrow z A;exact⟨iy.2 ⟨cO (by simp[jy]) fun n u=>Ob (hnum g f n u),(C g f).org.fit⟩,(C g f).org.org⟩
   ·rw[Be];refine QS ?_ (by rw[List.length_map];omega) fun z A=>?_
    ·unfold clB;simp only[zI,decide_eq_true_eq];refine⟨?_,by simp,?_⟩
     ·simp only[List.all_cons,List.all_nil,Bool.and_true,zI];exact⟨List.all_eq_true.1 ccl.1 _ (zG F),List.all_eq_true.1 ccl.1 _ (zG G)⟩
     ·show dsB ([a.text]++[b.text])=true
      rw[XW];have:([a.text]:List Str).contains b.text=false:=by
       rw[List.contains_eq_mem,decide_eq_false_iff_not];simpa using fun h=>l h.symm
      rw[this];rfl
    ·obtain⟨g,f,rfl⟩:=hrow z A;exact⟨rfl,hnum g f,(C g f).org.asc⟩
theorem NS{α:Type}{b:List α}{n:Int}(h:(b.length:Int)≠n):((b.length:Int) != n)=true:=by
 rw[bne_iff_ne];omega
theorem len_eq{α:Type}{b:List α}{n:Int}(h:(b.length:Int)=n):((b.length:Int) != n)=false:=by
 rw[h];simp
def c1(b:List af)(F:af->Option af):Option af:=bif ((b.length:Int) != 1)then (some (dI 4))else (idx b 0).bind fun e=>(F (ah e)).bind fun r=>some (ah r)
def c2(b:List af)(F:af->af->Option af):Option af:=bif ((b.length:Int) != 2)then (some (dI 4))else (idx b 0).bind fun e=>(idx b 1).bind fun a=>(F (ah e) (ah a)).bind fun r=>some (ah r)
def c3(b:List af)(F:af->af->af->Option af):Option af:=bif ((b.length:Int) != 3)then (some (dI 4))else (idx b 0).bind fun e=>(idx b 1).bind fun a=>(idx b 2).bind fun c=>(F (ah e) (ah a) (ah c)).bind fun r=>some (ah r)
def c4(b:List af)(F:af->af->af->af->Option af):Option af:=bif ((b.length:Int) != 4)then (some (dI 4))else (idx b 0).bind fun e=>(idx b 1).bind fun a=>(idx b 2).bind fun c=>(idx b 3).bind fun d=>(F (ah e) (ah a) (ah c) (ah d)).bind fun r=>some (ah r)
theorem afz{P:List aj}{b:List af}(a:∀x,x∈b->VOk P x){F G:af->Option af}(h:∀x,VOk P x->Al P (F x) (G x)):Al P (c1 b F) (c1 b G):=by
 unfold c1;by_cases c:b.length=1
 ·obtain⟨x,rfl⟩:=List.length_eq_one_iff.1 c;exact GK (h _ (by rw[aC];exact a x (by simp)))
 ·rw[NS (n:=1) (by omega)];exact tJ (by omega) (by omega)
theorem Sv{P:List aj}{b:List af}(a:∀x,x∈b->VOk P x){F G:af->af->Option af}(h:∀x y,VOk P x->VOk P y->Al P (F x y) (G x y)):Al P (c2 b F) (c2 b G):=by
 unfold c2;by_cases c:b.length=2
 ·match b,c,a with
  | [x,y],_,a=>exact GK (h _ _ (by rw[aC];exact a x (by simp)) (by rw[aC];exact a y (by simp)))
 ·rw[NS (n:=2) (by omega)];exact tJ (by omega) (by omega)
theorem afy{P:List aj}{b:List af}(a:∀x,x∈b->VOk P x){F G:af->af->af->Option af}(h:∀x y z,VOk P x->VOk P y->VOk P z->Al P (F x y z) (G x y z)):Al P (c3 b F) (c3 b G):=by
 unfold c3;by_cases c:b.length=3
 ·match b,c,a with
  | [x,y,z],_,a=>exact GK (h _ _ _ (by rw[aC];exact a x (by simp)) (by rw[aC];exact a y (by simp)) (by rw[aC];exact a z (by simp)))
 ·rw[NS (n:=3) (by omega)];exact tJ (by omega) (by omega)
theorem alf{P:List aj}{b:List af}(a:∀x,x∈b->VOk P x){F G:af->af->af->af->Option af}(h:∀x y z u,VOk P x->VOk P y->VOk P z->VOk P u->Al P (F x y z u) (G x y z u)):Al P (c4 b F) (c4 b G):=by
 unfold c4;by_cases c:b.length=4
 ·match b,c,a with
  | [x,y,z,u],_,a=>exact GK (h _ _ _ _ (by rw[aC];exact a x (by simp)) (by rw[aC];exact a y (by simp)) (by rw[aC];exact a z (by simp)) (by rw[aC];exact a u (by simp)))
 ·rw[NS (n:=4) (by omega)];exact tJ (by omega) (by omega)
theorem ak7(b:List af):cu [108,101,110] b=c1 b wR:=rfl
theorem akI(b:List af):bW [108,101,110] b=c1 b vV:=rfl
theorem ak5(b:List af):cu [115,117,109] b=c1 b Oe:=rfl
theorem akG(b:List af):bW [115,117,109] b=c1 b LK:=rfl
theorem akc(b:List af):cu [114,111,119,115] b=c1 b sO:=rfl
theorem ajK(b:List af):bW [114,111,119,115] b=c1 b rX:=rfl
theorem aj9(b:List af):cu [116,97,107,101] b=c2 b FT:=rfl
theorem ajI(b:List af):bW [116,97,107,101] b=c2 b EI:=rfl
theorem akb(b:List af):cu [115,107,105,112] b=c2 b FU:=rfl
theorem ajJ(b:List af):bW [115,107,105,112] b=c2 b EJ:=rfl
theorem ak6(b:List af):cu [110,116,104] b=c2 b yA:=rfl
theorem akH(b:List af):bW [110,116,104] b=c2 b uU:=rfl
theorem akd(b:List af):cu [107,101,101,112] b=c2 b nN:=rfl
theorem ajL(b:List af):bW [107,101,101,112] b=c2 b nG:=rfl
theorem ak8(b:List af):cu [99,111,108,117,109,110] b=c2 b wY:=rfl
theorem akJ(b:List af):bW [99,111,108,117,109,110] b=c2 b wG:=rfl
theorem ak4(b:List af):cu [116,97,98,108,101] b=c2 b Ap:=rfl
theorem akF(b:List af):bW [116,97,98,108,101] b=c2 b zi:=rfl
theorem ag8(b:List af):cu [119,104,101,114,101] b=c3 b qg:=rfl
theorem agb(b:List af):bW [119,104,101,114,101] b=c3 b pI:=rfl
theorem ag9(b:List af):cu [103,114,111,117,112] b=c3 b oK:=rfl
theorem agd(b:List af):bW [103,114,111,117,112] b=c3 b wC:=rfl
theorem ake(b:List af):cu [106,111,105,110] b=c3 b FY:=rfl
theorem ajM(b:List af):bW [106,111,105,110] b=c3 b EW:=rfl
theorem ak9(b:List af):cu [97,100,100] b=c4 b sZ:=rfl
theorem akK(b:List af):bW [97,100,100] b=c4 b rY:=rfl
theorem agc(b:List af):bW [114,97,110,103,101] b=c2 b wo:=rfl
theorem ad3{P:List aj}(b:List af)(a:∀x,x∈b->VOk P x):Al P (cu [114,97,110,103,101] b) (bW [114,97,110,103,101] b):=by
 rw[agc];have e:cu [114,97,110,103,101] b=bif ((b.length:Int) != 2)then some (dI 4)else (fD [1,1] b).bind fun r=>bif r.2 then some (ah r.1)else (idx b 0).bind fun x=>(idx b 1).bind fun y=>(nK x.n y.n).bind fun r=>some (ah r):=rfl
 rw[e];unfold c2;by_cases d:b.length=2
 ·match b,d,a with
  | [x,y],_,a=>
   have f:=a x (by simp);have g:=a y (by simp);rw[len_eq (n:=2) rfl];show Al P ((fD [1,1] [x,y]).bind _) ((wo (ah x) (ah y)).bind fun r=>some (ah r))
   rw[aC,aC];refine Vz ?_;unfold wo;rw[aC,aC];refine qO [1,1] (Vm f.fit g.fit) rfl (fun e=>dZ e) (fun e=>dZ e) fun c hk=>?_
   have h:x.kind=1:=hk 0 x 1 rfl rfl;have i:y.kind=1:=hk 1 y 1 rfl rfl;obtain⟨_,j⟩:=SX (c x afa) h;obtain⟨_,k⟩:=SX (c y abt) i;exact⟨JG x.n y.n,by rw[<- aC (JG x.n y.n)];rfl,by rw[<- aC (JG x.n y.n)];rfl,aan j k⟩
 ·rw[NS (n:=2) (by omega)];exact tJ (by omega) (by omega)
theorem FP(a:Str):oJ a=some ((a==[99,108,111,99,107])||((a==[99,104,97,110,99,101])||(a==[102,105,108,101]))):=by
 unfold oJ;cases (a==[99,108,111,99,107])<;>cases (a==[99,104,97,110,99,101])<;>rfl
theorem bq{a b:Str}(h:¬a=b):(a==b)=false:=by simpa using h
theorem ahz{P:List aj}(w:P.length<=1048576)(a:Str)(b:List af)(e:∀x,x∈b->VOk P x)(A:oJ a=some false):Al P (cu a b) (bW a b):=by
 by_cases m:a=[108,101,110]
 ·subst m;rw[ak7,akI];exact afz e fun x c=>aci x c
 by_cases n:a=[115,117,109]
 ·subst n;rw[ak5,akG];exact afz e fun x c=>ajz x c
 by_cases o:a=[114,111,119,115]
 ·subst o;rw[akc,ajK];exact afz e fun x c=>afq x c
 by_cases p:a=[116,97,107,101]
 ·subst p;rw[aj9,ajI];exact Sv e fun x y c d=>afZ x y c d
 by_cases q:a=[115,107,105,112]
 ·subst q;rw[akb,ajJ];exact Sv e fun x y c d=>af7 x y c d
 by_cases r:a=[110,116,104]
 ·subst r;rw[ak6,akH];exact Sv e fun x y c d=>ajX x y c d
 by_cases s:a=[107,101,101,112]
 ·subst s;rw[akd,ajL];exact Sv e fun x y c d=>ag4 x y c d
 by_cases t:a=[99,111,108,117,109,110]
 ·subst t;rw[ak8,akJ];exact Sv e fun x y c d=>acO x y c d
 by_cases v:a=[116,97,98,108,101]
 ·subst v;rw[ak4,akF];exact Sv e fun x y c d=>adk x y c d
 by_cases f:a=[119,104,101,114,101]
 ·subst f;rw[ag8,agb];exact afy e fun x y z c d g=>ac1 x y z c d g
 by_cases h:a=[103,114,111,117,112]
 ·subst h;rw[ag9,agd];exact afy e fun x y z c d g=>ae8 w x y z c d g
 by_cases i:a=[106,111,105,110]
 ·subst i;rw[ake,ajM];exact afy e fun x y z c d g=>ag6 w x y z c d g
 by_cases j:a=[97,100,100]
 ·subst j;rw[ak9,akK];exact alf e fun x y z u c d g E=>aky x y z u c d g E
 by_cases k:a=[114,97,110,103,101]
 ·subst k;exact ad3 b e
 have l:=A;rw[FP,zD,Bool.or_eq_false_iff,Bool.or_eq_false_iff]at l;obtain⟨B,C,D⟩:=l;have ic:dR a=some (-1):=by
  unfold dR;simp only[B,C,D,bq m,bq n,bq o,bq p,bq q,bq r,bq s,bq t,bq v,bq f,bq h,bq i,bq j,bq k,aa]
 have sc:gm a=some (-1):=by
  unfold gm;simp only[B,C,D,bq m,bq n,bq o,bq p,bq q,bq r,bq s,bq t,bq v,bq f,bq h,bq i,bq j,bq k,aa]
 have F:((b.length:Int) != -1)=true:=by rw[bne_iff_ne];omega
 unfold cu bW;rw[A,ic,sc];simp only[zA,aa,F,ab];exact⟨dI 4,rfl,rfl,bH (by omega) (by omega)⟩
theorem acD(a:Str):DF (aA.mk 5 0 a [])=oJ a:=by
 rw[FP];show zU _ (aA.mk 5 0 a [])=_
 unfold zU;have b:((5:Int)==5)=true:=rfl;simp only[b,ab];cases (a==[99,108,111,99,107])<;>cases (a==[99,104,97,110,99,101])<;>cases (a==[102,105,108,101])<;>first | rfl | (simp only[ab,aa];rw[aX];rfl)
theorem Es(a:Int){m:Int}(b:0<m):-m<a.tmod m/\a.tmod m<m/\(0<=a->0<=a.tmod m):=by
 rcases Int.le_total 0 a with h | h
 ·rw[Int.tmod_eq_emod_of_nonneg h];have c:=Int.emod_nonneg a (show m≠0 by omega);have d:=Int.emod_lt_of_pos a b;exact⟨by omega,d,fun _=>c⟩
 ·have e:a.tmod m = -((-a).tmod m):=by rw[Int.neg_tmod];omega
  rw[e,Int.tmod_eq_emod_of_nonneg (show 0<=-a by omega)];have c:=Int.emod_nonneg (-a) (show m≠0 by omega);have d:=Int.emod_lt_of_pos (-a) b;refine⟨by omega,by omega,fun f=>?_⟩;have:a=0:=by omega
  subst this;simp
def MW(n:Int):Int:=bif decide (n.tmod 2147483647<0)then n.tmod 2147483647+2147483647 else n.tmod 2147483647
theorem Ur(n:Int):0<=MW n/\MW n<2147483647:=by
 obtain⟨a,b,_⟩:=Es n (show (0:Int)<2147483647 by omega);unfold MW;by_cases h:n.tmod 2147483647<0
 ·rw[ae h];simp only[ab];omega
 ·rw[ac h];simp only[aa];omega
theorem aaw(n:Int):zL n=some (MW n):=by
 obtain⟨a,b,_⟩:=Es n (show (0:Int)<2147483647 by omega);unfold zL MW;by_cases h:n.tmod 2147483647<0
 ·rw[ae h];simp only[ab];rw[bT (by omega) (by omega)]
 ·rw[ac h];rfl
def UR(a b c d:Int):Int:=MW (16807*MW (w64 ((w64 ((w64 ((w64 (48271*a))+(w64 (7919*b))))+(w64 (104729*c))))+(w64 (1299709*d)))))
theorem agv{n:Int}(h:0<=n):MW n=n.tmod 2147483647:=by
 unfold MW;rw[ac (by have:=(Es n (show (0:Int)<2147483647 by omega)).2.2 h;omega)];rfl
theorem agj(a b c d:Int):agk a b c d=some (UR a b c d):=by
 unfold agk UR;rw[aaw,zA];generalize w64 ((w64 ((w64 ((w64 (48271*a))+(w64 (7919*b))))+(w64 (104729*c))))+(w64 (1299709*d)))=n;have:=Ur n;rw[bT (by omega) (by omega),aaw,zA]
theorem ahc(a b c d:Int):ahd a b c d=some (UR a b c d):=by
 unfold ahd UR;generalize w64 ((w64 ((w64 ((w64 (48271*a))+(w64 (7919*b))))+(w64 (104729*c))))+(w64 (1299709*d)))=n;obtain⟨f,g,_⟩:=Es n (show (0:Int)<2147483647 by omega);have i:=Ur n;rw[agv (show 0<=16807*MW n by omega)];have e:MW n=bif decide (n.tmod 2147483647<0)then n.tmod 2147483647+2147483647 else n.tmod 2147483647:=rfl
 by_cases h:n.tmod 2147483647<0
 ·rw[ae h]at e ⊢;simp only[ab]at e ⊢;rw[bT (n:=n.tmod 2147483647+2147483647) (by omega) (by omega),<- e,bT (by omega) (by omega)]
 ·rw[ac h]at e ⊢;simp only[aa]at e ⊢;rw[<- e,bT (by omega) (by omega)]
theorem aj1(a b c d:Int):0<=UR a b c d:=(Ur _).1
def afe(fs:List fV)(s:Str):Option Int:=fP (fun _ (f:fV)=>bif f.name==s then some f.n else none) 0 fs
def ahn(o:Option Int):Int×Bool:=match o with | some n=>(n,true) | none=>(0,false)
theorem XJ(o:Option Int):(o.map fun e=>(e,true)).getD (0,false)=ahn o:=by cases o<;>rfl
theorem ae2(w:bV)(s:Str)(b:(w.files.length:Int)<=1048576):qP w s=some (ahn (afe w.files s)):=by
 unfold qP afe;rw[<- XJ,<- jF];refine qR (fun i=>((s,w.files,(w.files.length:Int),(i:Int)):Str×(List fV)×Int×Int)) w.files _ _ (fun i x a=>?_) ?_
 ·simp only[dA a,ab,aQ,a,zA,dW a b];cases (x.name==s)<;>rfl
 ·simp only[bM,aa]
theorem adQ(w:bV)(s:Str)(b:(w.files.length:Int)<=1048576):qL w s=some (ahn (afe w.files s)):=by
 unfold qL afe;rw[<- XJ,<- jF];refine qR (fun i=>((s,w.clock,w.seed,w.files,(i:Int)):Str×Int×Int×(List fV)×Int)) w.files _ _ (fun i x a=>?_) ?_
 ·simp only[dA a,ab,aQ,a,zA,dW a b];cases (x.name==s)<;>rfl
 ·simp only[bM,aa]
theorem acJ{P:List aj}(w:bV)(b c:Int)(d:aF)(e:(w.files.length:Int)<=1048576):Al P (jT w b c d) (je w b c d):=by
 unfold jT je;simp only[IE,Dp,oD,vW,ahc,agj,ae2 w _ e,adQ w _ e,kC,ku,Om,LV,zA,aC];cases h:d.kind==1 with
 | true=>
  simp only[ab];cases a:nB w.clock with
  | true=>exact⟨mg w.clock,rfl,rfl,ji a⟩
  | false=>exact⟨dI 4,rfl,rfl,bH (by omega) (by omega)⟩
 | false=>
  simp only[aa];cases i:d.kind==2 with
  | true=>
   simp only[ab];by_cases f:1<=d.n/\d.n<=1000000000
   ·rw[ae f.1,ae f.2];obtain⟨j,k,g⟩:=Es (UR w.seed b c d.time) (show 0<d.n by omega);have l:=g (aj1 _ _ _ _);have a:nB ((UR w.seed b c d.time).tmod d.n)=true:=by unfold nB;rw[ae (by omega),ae (by omega)];rfl
    have hrem:Qe (UR w.seed b c d.time) d.n=some ((UR w.seed b c d.time).tmod d.n):=by unfold Qe;rw[if_neg (by omega)]
    rw[hrem];simp only[Bool.and_self,aL,aa,zA,a];exact⟨_,rfl,rfl,ji a⟩
   ·have:(decide (1<=d.n)&&decide (d.n<=1000000000))=false:=by
     rw[Bool.and_eq_false_iff,decide_eq_false_iff_not,decide_eq_false_iff_not];omega
    rw[this];exact⟨dI 5,rfl,rfl,bH (by omega) (by omega)⟩
  | false=>
   simp only[aa];cases m:d.kind==3 with
   | false=>exact⟨dI 4,rfl,rfl,bH (by omega) (by omega)⟩
   | true=>
    simp only[ab];cases afe w.files d.text with
    | none=>exact⟨dI 1,rfl,rfl,bH (by omega) (by omega)⟩
    | some n=>
     simp only[ahn,aL,aa];cases a:nB n with
     | true=>exact⟨mg n,rfl,rfl,ji a⟩
     | false=>exact⟨dI 4,rfl,rfl,bH (by omega) (by omega)⟩
def smB(a b:aF):Bool:=(a.kind==b.kind)&&((a.n==b.n)&&((a.text==b.text)&&(a.time==b.time)))
theorem aeY(a b:aF):oG a b=some (smB a b):=by
 unfold oG smB;cases (a.kind==b.kind)<;>cases (a.n==b.n)<;>cases (a.text==b.text)<;>rfl
theorem ajO(a b:aF):vY a b=some (smB a b):=aeY a b
def rdE(t:List aF)(r:aF):Option af:=fP (fun _ (x:aF)=>bif smB x r then some x.result else none) 0 t
structure acW(P:List aj)(t:List aF):Prop where
 len:(t.length:Int)<=1073741824
 val:∀x,x∈t->VOk P x.result
theorem ae1{P:List aj}(t:List aF)(r:aF)(h:acW P t):mV t r=some (opR (rdE t r)):=by
 have b:=h.len;unfold mV rdE;rw[<- BB,<- jF];have c:aF.mk r.kind r.n r.time r.text (af.mk r.result.kind r.result.n r.result.step r.result.text r.result.list r.result.columns r.result.rows)=r:=by
  obtain⟨k,n,ti,te,v⟩:=r;cases v;rfl
 refine qR (fun i=>((r.kind,r.n,r.time,r.text,r.result.kind,r.result.n,r.result.step,r.result.text,r.result.list,r.result.columns,r.result.rows,0,0,0,[],[],[],[],t,(t.length:Int),(i:Int)):Int×Int×Int×Str×Int×Int×Int×Str×(List af)×(List Str)×(List aB)×Int×Int×Int×Str×(List af)×(List Str)×(List aB)×(List aF)×Int×Int)) t _ _ (fun i x a=>?_) ?_
 ·simp only[dA a,ab,aQ,a,zA,c,rq,aC,aeY,dX _ (h.val x (zG a)).fit,up30 a b];cases smB x r<;>rfl
 ·simp only[bM,aa];rfl
theorem adP{P:List aj}(t:List aF)(r:aF)(h:acW P t):wE t r=some (opR (rdE t r)):=by
 have b:=h.len;unfold wE rdE;rw[<- BB,<- jF];have c:aF.mk r.kind r.n r.time r.text (af.mk r.result.kind r.result.n r.result.step r.result.text r.result.list r.result.columns r.result.rows)=r:=by
  obtain⟨k,n,ti,te,v⟩:=r;cases v;rfl
 refine qR (fun i=>((t,r.kind,r.n,r.time,r.text,r.result.kind,r.result.n,r.result.step,r.result.text,r.result.list,r.result.columns,r.result.rows,0,0,0,[],[],[],[],(i:Int)):(List aF)×Int×Int×Int×Str×Int×Int×Int×Str×(List af)×(List Str)×(List aB)×Int×Int×Int×Str×(List af)×(List Str)×(List aB)×Int)) t _ _ (fun i x a=>?_) ?_
 ·simp only[dA a,ab,aQ,a,zA,c,rq,aC,ajO,iI _ (h.val x (zG a)).fit,up30 a b];cases smB x r<;>rfl
 ·simp only[bM,aa];rfl
theorem Y8{P:List aj}:∀(t:List aF) (r:aF) (i:Nat) {v:af},(∀x,x∈t->VOk P x.result)->fP (fun _ (x:aF)=>bif smB x r then some x.result else none) i t=some v->VOk P v
 | [],_,_,_,_,h=>by cases h
 | x::t,r,i,v,a,h=>by
  unfold fP at h;cases b:smB x r with
  | true=>
   rw[b]at h;have h:some x.result=some v:=h;cases h
   exact a x (aq ..)
  | false=>
   rw[b]at h;exact Y8 t r (i+1) (fun y c=>a y (ao _ c)) h
end Go.Proofs.YtjbajpfonnnfoaaGreatDoor
/- The evaluator in plain words. -/
namespace Go.Proofs.YtjbajpfonnnfoaaGreatDoor
noncomputable section
open Go.Abs Go.Proofs
def ovr(m:au):au:=au.mk m.tape m.w m.cell m.version m.reads m.steps true
def tick(m:au):au:=au.mk m.tape m.w m.cell m.version m.reads (m.steps+1) m.over
def evL{α:Type}(f:au->α->au×af):au->List α->au×List af
 | m,[]=>(m,[])
 | m,x::r=>bif (f m x).1.over then ((f m x).1,[])else ((evL f (f m x).1 r).1,(f m x).2::(evL f (f m x).1 r).2)
def arg(e:aA)(i:Nat):aA:=e.args.getD i ⟨0,0,[],[]⟩
def thn(p:au×af)(k:au->af->au×af):au×af:=bif p.1.over then (p.1,zV)else k p.1 p.2
def fin(p:au×List af)(f:List af->af):au×af:=bif p.1.over then (p.1,zV)else (p.1,f p.2)
def iR(vs:List af):af:=(iJ vs).getD zV
def opV(o:Int)(a b:af):af:=(iK o a b).getD zV
def afv(t:Str)(vs:List af):af:=(bW t vs).getD zV
def resV(w:bV)(b c:Int)(d:aF):af:=(je w b c d).getD zV
def iO(r x:aF):Bool:=(x.kind==r.kind)&&((x.n==r.n)&&(x.text==r.text))
def yU(m:au)(r:aF):aF:=aF.mk r.kind r.n (r.time+(m.reads.countP (iO r):Nat)) r.text r.result
def Gl(m:au)(r:aF):af:=(rdE m.tape (yU m r)).getD (resV m.w m.cell m.version (yU m r))
def CJ(m:au)(r:aF):au×af:=(au.mk m.tape m.w m.cell m.version (m.reads++[aF.mk r.kind r.n (yU m r).time r.text (Gl m r)]) m.steps m.over,Gl m r)
def Oa(t:Str):Bool:=(t==[99,108,111,99,107])||((t==[99,104,97,110,99,101])||(t==[102,105,108,101]))
def tC(t:Str)(p:au×List af):au×af:=
 bif p.1.over then (p.1,zV)else
 bif !Oa t then (p.1,afv t p.2)else
 bif t==[99,108,111,99,107]then CJ p.1 (aF.mk 1 0 0 [] zV)else
 bif (p.2.getD 0 zV).kind==6 then (p.1,p.2.getD 0 zV)else
 bif t==[99,104,97,110,99,101]then bif (p.2.getD 0 zV).kind==1 then CJ p.1 (aF.mk 2 (p.2.getD 0 zV).n 0 [] zV)else (p.1,dI 4)else
 bif (p.2.getD 0 zV).kind==2 then CJ p.1 (aF.mk 3 0 0 (p.2.getD 0 zV).text zV)else (p.1,dI 4)
def evB(f:au->aA->List ak->au×af)(m:au)(e:aA)(c:List ak):au×af:=
 bif m.over||(m.steps==200)then (ovr m,zV)else
 bif e.kind==1 then (tick m,mg e.n)else
 bif e.kind==2 then (tick m,Di e.text)else
 bif e.kind==3 then (tick m,Ak c e.text)else
 bif e.kind==4 then fin (evL (fun m x=>f m x c) (tick m) e.args) iR else
 bif e.kind==5 then tC e.text (evL (fun m x=>f m x c) (tick m) e.args)else
 bif e.kind==7 then thn (f (tick m) (arg e 0) c) fun m v=>f m (arg e 1) (c++[ak.mk e.text v])else
 bif e.kind==8 then thn (f (tick m) (arg e 0) c) fun m v=>bif v.kind==6 then (m,v)else bif G5 v then f m (arg e 1) c else f m (arg e 2) c else
 bif e.kind==9 then thn (f (tick m) (arg e 0) c) fun m v=>bif v.kind==6 then (m,v)else bif v.kind != 3 then (m,dI 4)else fin (evL (fun m x=>f m (arg e 1) (c++[ak.mk e.text x])) m v.list) iR else
 fin (evL (fun m x=>f m x c) (tick m) e.args) fun vs=>opV e.n (vs.getD 0 zV) (vs.getD 1 zV)
def evN:Nat->au->aA->List ak->au×af
 | 0,m,_,_=>(ovr m,zV)
 | n+1,m,e,c=>evB (evN n) m e c
inductive ShX:Nat->aA->Prop
 | mk (d:Nat) (e:aA) (k0:1<=e.kind) (k9:e.kind<=9) (num:e.kind=1->nB e.n=true) (tx:e.kind=2->txB e.text=true) (tl:e.text.length<=120) (al:e.args.length<=8) (op:e.kind=6->e.args.length=2) (two:e.kind=7\/e.kind=9->e.args.length=2) (three:e.kind=8->e.args.length=3)
   (cl:e.kind=5->dR e.text=some (e.args.length:Int)) (hs:∀x,x∈e.args->ShX d x):ShX (d+1) e
theorem EF{x e:aA}(h:x∈e.args):siz x+3<=siz e:=by
 have b:=List.sizeOf_lt_of_mem h;obtain⟨k,n,t,a⟩:=e;have d:1<=SizeOf.sizeOf t:=by
  cases t with
  | nil=>simp
  | cons c r=>rw[List.cons.sizeOf_spec];omega
 have f:1<=SizeOf.sizeOf n:=by
  cases n with
  | ofNat a=>rw[Int.ofNat.sizeOf_spec];omega
  | negSucc a=>rw[Int.negSucc.sizeOf_spec];omega
 simp only[siz];rw[aA.mk.sizeOf_spec];have b:SizeOf.sizeOf x<SizeOf.sizeOf a:=b;omega
theorem dK{e:aA}{i:Nat}(h:i<e.args.length):arg e i∈e.args:=by
 unfold arg;rw[zE,zF h];exact List.getElem_mem h
theorem RX{α:Type}{f g:au->α->au×af}:∀(xs:List α) (m:au),(∀m x,x∈xs->f m x=g m x)->evL f m xs=evL g m xs
 | [],_,_=>rfl
 | x::r,m,h=>by
  unfold evL;rw[h m x aq,RX r _ fun m y a=>h m y (ao _ a)]
theorem RY{d:Nat}{f g:au->aA->List ak->au×af}{m:au}{e:aA}{c:List ak}(j:ShX d e)(h:∀m x c,x∈e.args->f m x c=g m x c):evB f m e c=evB g m e c:=by
 cases j with
 | mk d _ k0 k9 num tx tl al op two three cl r=>
 unfold evB;rw[RX e.args (tick m) fun m x j=>h m x c j];by_cases i:e.kind=7
 ·have a:=h (tick m) (arg e 0) c (dK (by have:=two (.inl i);omega));have b:∀m c,f m (arg e 1) c=g m (arg e 1) c:=fun m c=>h m (arg e 1) c (dK (by have:=two (.inl i);omega))
  rw[i];simp only[a,b];rfl
 by_cases k:e.kind=8
 ·have l:=three k;have a:=h (tick m) (arg e 0) c (dK (by omega));have b:∀m c,f m (arg e 1) c=g m (arg e 1) c:=fun m c=>h m (arg e 1) c (dK (by omega))
  have n:∀m c,f m (arg e 2) c=g m (arg e 2) c:=fun m c=>h m (arg e 2) c (dK (by omega))
  rw[k];simp only[a,b,n]
 by_cases k9':e.kind=9
 ·have a:=h (tick m) (arg e 0) c (dK (by have:=two (.inr k9');omega));have b:∀m c,f m (arg e 1) c=g m (arg e 1) c:=fun m c=>h m (arg e 1) c (dK (by have:=two (.inr k9');omega))
  rw[k9'];simp only[a,b];rfl
 have o:(e.kind==7)=false:=by simpa using i
 have p:(e.kind==8)=false:=by simpa using k
 have q:(e.kind==9)=false:=by simpa using k9'
 simp only[o,p,q,aa]
theorem XM:∀(n n' d:Nat) (m:au) (e:aA) (c:List ak),ShX d e->siz e<n->siz e<n'->evN n m e c=evN n' m e c
 | 0,_,_,_,_,_,_,h,_=>absurd h (Nat.not_lt_zero _)
 | _+1,0,_,_,_,_,_,_,h=>absurd h (Nat.not_lt_zero _)
 | n+1,n'+1,d,m,e,c,a,h,g=>by
  refine RY a fun m x c b=>?_
  cases a with
  | mk d _ k0 k9 num tx tl al op two three cl f=>
  have:=EF b;exact XM n n' d m x c (f x b) (by omega) (by omega)
def ev(m:au)(e:aA)(c:List ak):au×af:=evN (siz e+1) m e c
theorem XL{d:Nat}(m:au)(e:aA)(c:List ak)(a:ShX d e):ev m e c=evB ev m e c:=by
 refine RY a fun m x c b=>?_
 cases a with
 | mk d _ k0 k9 num tx tl al op two three cl f=>
 have:=EF b;exact XM _ _ d m x c (f x b) (by omega) (by omega)
end
end Go.Proofs.YtjbajpfonnnfoaaGreatDoor
