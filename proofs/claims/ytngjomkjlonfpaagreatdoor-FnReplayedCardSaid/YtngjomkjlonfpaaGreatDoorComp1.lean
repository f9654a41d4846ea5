import Derived.Test.YtngjomkjlonfpaaGreatDoorFree1
import Derived.Test.YtngjomkjlonfpaaGreatDoorPlain1
import Derived.Test.YtngjomkjlonfpaaGreatDoorLink1
set_option linter.unusedSimpArgs false
set_option linter.unusedVariables false
/- Plain laws: notebooks compiled: CompileAll alike on both sides. -/
namespace Go.Proofs.YtngjomkjlonfpaaGreatDoor
open Go.Abs Go.Proofs
noncomputable def errOf(w:Int):Nat->List Str->Int
 | _,[]=>-1
 | i,p::r=>if ((rowOf w p).isNone||decide (12<=i))=true then ((i+1:Nat):Int)else errOf w (i+1) r
theorem Tz(w:Int){ps:List Str}{i:Nat}{p:Str}(h:ps[i]?=some p):errOf w i (ps.drop i)=if ((rowOf w p).isNone||decide (12<=i))=true then ((i+1:Nat):Int)else errOf w (i+1) (ps.drop (i+1)):=by
 obtain⟨hi,rfl⟩:=zC.1 h;rw[List.drop_eq_getElem_cons hi];rfl
theorem alQ(a:Str)(r:a.length<=120){b:Str}{ps:List Str}(k:Go.Lib.split a [59,32]=b::ps)(m:(dataOf b ps).2=false) :
  Au a=some (bif DZ (Go.Lib.split b [32])then errOf ((Go.Lib.split b [32]).length:Int) 0 ps else 0):=by
 obtain⟨o,n⟩:=jG a [59,32];rw[k]at o n;have B:=n b (by simp);obtain⟨s,q⟩:=jG b [32];unfold Au;have t:lm a [59,32]=some (b::ps):=by
  unfold lm;rw[if_pos ⟨by omega,by simp⟩,k]
 have u:mD b 32=some (Go.Lib.split b [32]):=Le b 32 (by omega);have v:idx (b::ps) 0=some b:=rfl;have w:(b::ps)[0]?=some b:=rfl;have y:oL a=some ((dataOf b ps).1,false):=by rw[Tf a r k,<- m]
 have z:=abA (Go.Lib.split b [32]) (by omega) (fun x c=>by have:=q x c;omega);simp only[y,aa,t,v,w,u,z,abW,zA];generalize Go.Lib.split b [32]=cols at s q;cases DZ cols with
 | false=>rfl
 | true=>
  simp only[aM,aa,ac];refine rO (dK (fun (_:Unit) (i:Nat)=>((cols,ps,(ps.length:Int),(i:Int)):(List Str)×(List Str)×Int×Int)) ps (fun i _=>errOf (cols.length:Int) i (ps.drop i)=errOf (cols.length:Int) 0 ps) _ (fun i p out c f=>?_) (fun out f=>?_) () rfl)
  ·have A:=n p (ar _ (zG c));obtain⟨l,ok,e,g⟩:=ae9 (cols.length:Int) p (by omega);simp only[List.length_cons]at o;have h:=Tz (cols.length:Int) c;simp only[dw c,ac,au,c,zA,e,dn c (by omega)];rcases g with ⟨rfl,g⟩ | ⟨rfl,g⟩
   ·rw[g]at h;exact .inr ⟨_,rfl,by rw[<- f,h];rfl⟩
   ·rw[g]at h;by_cases j:12<=i
    ·have d:decide ((i:Int)>=12)=true:=by simp;omega
     rw[d];refine .inr ⟨_,rfl,?_⟩;rw[<- f,h,aq j];rfl
    ·have d:decide ((i:Int)>=12)=false:=by simp;omega
     rw[d];refine .inl ⟨(),rfl,?_⟩;rw[<- f,h,ae j];rfl
  ·refine⟨_,by simp only[bG,aa];rfl,?_⟩;rw[<- f,List.drop_length];rfl
theorem akW(a:Str)(C:a.length<=120){b:Str}{ps:List Str}(o:Go.Lib.split a [59,32]=b::ps) :
  zS a=some (bif DZ (Go.Lib.split b [32])then errOf ((Go.Lib.split b [32]).length:Int) 0 ps else 0):=by
 obtain⟨q,k⟩:=jG a [59,32];rw[o]at q k;have D:=k b (by simp);obtain⟨s,r⟩:=jG b [32];unfold zS;have t:ul a=some (b::ps):=by rw[VZ a (by omega),o]
 have u:jW b 32=some (Go.Lib.split b [32]):=Kq b 32 (by omega);have v:idx (b::ps) 0=some b:=rfl;have w:(b::ps)[0]?=some b:=rfl;have y:=aas (Go.Lib.split b [32]) (by omega) (fun x c=>by have:=r x c;omega);simp only[t,v,w,u,y,zA];generalize Go.Lib.split b [32]=cols at s r;cases DZ cols with
 | false=>rfl
 | true=>
  simp only[aM,aa,ac];refine rO (dK (fun (_:Unit) (i:Nat)=>((b::ps,cols,((i+1:Nat):Int)):(List Str)×(List Str)×Int)) ps (fun i _=>errOf (cols.length:Int) i (ps.drop i)=errOf (cols.length:Int) 0 ps) _ (fun i p out c f=>?_) (fun out f=>?_) () rfl)
  ·have z:=k p (ar _ (zG c));obtain⟨l,ok,e,g⟩:=ae8 (cols.length:Int) p (by omega);have A:=(zC.1 c).1;simp only[List.length_cons]at q;have h:=Tz (cols.length:Int) c;have m:decide (((i+1:Nat):Int)<((b::ps).length:Int))=true:=by simp;omega
   have n:(b::ps)[i+1]?=some p:=by simpa using c
   have B:w64 (((i+1:Nat):Int)+1)=((i+1+1:Nat):Int):=by rw[bK (by omega) (by omega)];omega
   simp only[m,ac,au,n,zA,aD,e,B];rcases g with ⟨rfl,g⟩ | ⟨rfl,g⟩
   ·rw[g]at h;exact .inr ⟨_,rfl,by rw[<- f,h];rfl⟩
   ·rw[g]at h;by_cases j:12<=i
    ·have d:decide (((i+1:Nat):Int)>12)=true:=by simp;omega
     rw[d];refine .inr ⟨_,rfl,?_⟩;rw[<- f,h,aq j];rfl
    ·have d:decide (((i+1:Nat):Int)>12)=false:=by simp;omega
     rw[d];refine .inl ⟨(),rfl,?_⟩;rw[<- f,h,ae j];rfl
  ·have m:decide (((ps.length+1:Nat):Int)<((b::ps).length:Int))=false:=by simp
   refine⟨_,by simp only[m,aa];rfl,?_⟩;rw[<- f,List.drop_length];rfl
def nJ(c:Int)(i:Nat)(r:cO):cO:=⟨r.cells,[⟨c,(i:Int)⟩]⟩
theorem ae1{ρ X:Type}{g:X->Option (X⊕ρ)}(pk:List cO->Nat->X)(c:Int)(rows:List cO)(r:ρ)
  (h:∀i x out,out.length=rows.length->i<rows.length->out[i]?=some x->g (pk out i)=some (.inl (pk (out.set i (nJ c i x)) (i+1))))
  (j:g (pk (je (nJ c) 0 rows) rows.length)=some (.inr r)):aA g (pk rows 0)=some r:=by
 have key:∀(k i:Nat) (a b:List cO),rows.length=i+k->a.length=i->b.length=k->a++je (nJ c) i b=je (nJ c) 0 rows->aA g (pk (a++b) i)=some r:=by
  intro k;induction k with
  | zero=>
   intro i a b hi e d f;have:b=[]:=List.length_eq_zero_iff.1 d;subst this;rw[je,List.append_nil]at f;rw[List.append_nil,f,aH,show i=rows.length by omega,j]
  | succ k ih=>
   intro i a b hi e d f;cases b with
   | nil=>simp at d
   | cons x b=>
    have l:(a++x::b)[i]?=some x:=by rw[<- e];simp
    rw[aH,h i x _ (by simp at d ⊢;omega) (by omega) l];simp only;have hset:(a++x::b).set i (nJ c i x)=(a++[nJ c i x])++b:=by
     rw[List.set_append_right _ _ (by omega),e,Nat.sub_self];simp
    rw[hset];refine ih (i+1) (a++[nJ c i x]) b (by omega) (by simp[e]) (by simpa using d) ?_;rw[a8];exact f
 exact key rows.length 0 [] rows (by omega) rfl rfl rfl
theorem aje{X ρ:Type}{f:X->Option (X⊕ρ)}{a:X}{q:Option ρ}{v:ρ}(h:f a=q.bind fun r=>some (.inr r))(b:q=some v):aA f a=some v:=by
 rw[aH,h,b];rfl
theorem ajC(r:cO)(h:r.cells.length<=1048576)(h2:r.orig.length<=1048576):yX r=some r:=by
 unfold yX;rw[gdp (by omega),zA,gdp (by omega),zA];cases r;rfl
theorem aid(r:cO)(h:r.cells.length<=1048576)(h2:r.orig.length<=1048576):Kv r=some r:=by
 unfold Kv;rw[gdp (by omega),zA,gdp (by omega),zA];cases r;rfl
theorem IU(v:aQ):dG v=v:=by cases v;rfl
structure akx(cols:List Str)(rows:List cO):Prop where
 cl:cols.length<=122
 ct:∀x,x∈cols->x.length<=120
 rl:rows.length<=122
 rr:∀r,r∈rows->r.orig=[]/\r.cells.length<=122
theorem ajH(cols:List Str)(rows:List cO)(h:akx cols rows):oN ⟨5,0,0,[],[],cols,rows⟩=some ⟨5,0,0,[],[],cols,rows⟩:=by
 have f:=h.cl;have g:=h.rl;unfold oN;obtain⟨m,b⟩:∃m,siz (⟨5,0,0,[],[],cols,rows⟩:aQ)+1=m+1+1:=⟨siz (⟨5,0,0,[],[],cols,rows⟩:aQ)-1,by
  have:1<=siz (⟨5,0,0,[],[],cols,rows⟩:aQ):=by simp only[siz];rw[aQ.mk.sizeOf_spec];omega
  omega⟩
 rw[b];show rZ (dQ (m+1)).1 (dQ (m+1)).2 _=_
 unfold rZ;have c:(dQ (m+1)).2 []=some []:=by
  show pU (dQ m).1 (dQ m).2 []=_
  unfold pU;rw[aH];rfl
 have d:gd (0+cols.length)=some ():=gdp (by omega);simp only[c,d,zA];refine ED (fun (out:List cO) (i:Nat)=>((0,0,0,[],[],[],[],5,0,0,[],[],[]++cols,out,rows,(rows.length:Int),(i:Int)):Int×Int×Int×Str×(List aQ)×(List Str)×(List cO)×Int×Int×Int×Str×(List aQ)×(List Str)×(List cO)×(List cO)×Int×Int)) rows (fun _ r=>r) _ (fun i r out a j=>?_) ?_
 ·obtain⟨e,k⟩:=h.rr r (zG a);have hi:=(zC.1 a).1;simp only[dw a,ac,au,a,zA,ajC r (by omega) (by rw[e];simp),dn a (by omega)];rw[gdp (by simp;omega)];rfl
 ·simp only[bG,aa,vK];rfl
theorem aiv(cols:List Str)(rows:List cO)(h:akx cols rows):Em ⟨5,0,0,[],[],cols,rows⟩=some ⟨5,0,0,[],[],cols,rows⟩:=by
 have d:=h.cl;have e:=h.rl;show Cc (xX _) _=_
 unfold Cc;have b:gd (0+cols.length)=some ():=gdp (by omega);simp only[b,zA];refine aje (by simp only[List.length_nil,Int.ofNat_zero,Int.lt_irrefl,decide_false,aa];rfl) ?_;refine ED (fun (out:List cO) (i:Nat)=>((5,0,0,[],[],cols,rows,0,0,0,[],[],[],[],5,0,0,[],[],[]++cols,out,(i:Int)):Int×Int×Int×Str×(List aQ)×(List Str)×(List cO)×Int×Int×Int×Str×(List aQ)×(List Str)×(List cO)×Int×Int×Int×Str×(List aQ)×(List Str)×(List cO)×Int)) rows (fun _ r=>r) _ (fun i r out a f=>?_) ?_
 ·obtain⟨c,g⟩:=h.rr r (zG a);have hi:=(zC.1 a).1;simp only[dw a,ac,au,a,zA,aid r (by omega) (by rw[c];simp),dn a (by omega)];rw[gdp (by simp;omega)];rfl
 ·simp only[bG,aa,vK];rfl
theorem aef(c:Int)(k:0<=c)(cols:List Str)(rows:List cO)(h:akx cols rows)(hv:J5 cols rows=true):tK c ⟨5,0,0,[],[],cols,rows⟩=some ⟨5,0,0,[],[],cols,je (nJ c) 0 rows⟩:=by
 have a:=h.cl;have b:=h.rl;have h1:=Jm cols rows (by omega) h.ct (fun r e=>by have:=h.rr r e;exact⟨this.1,by omega⟩);have d:decide (c<0)=false:=by simp;omega
 unfold tK;simp only[IU,h1,hv,ajH cols rows h,d,zA,aM,aa];refine (ae1 (fun (out:List cO) (i:Nat)=>((c,0,0,0,[],[],[],[],5,0,0,[],[],cols,out,(rows.length:Int),(i:Int)):Int×Int×Int×Int×Str×(List aQ)×(List Str)×(List cO)×Int×Int×Int×Str×(List aQ)×(List Str)×(List cO)×Int×Int)) c rows _ (fun i x out l hi f=>?_) ?_)
 ·have g:decide ((i:Int)<(rows.length:Int))=true:=by simp;omega
  have j:w64 ((i:Int)+1)=((i+1:Nat):Int):=by rw[bK (by omega) (by omega)];omega
  simp only[g,ac,au,f,zA,aD,j];rfl
 ·simp only[bG,aa]
theorem acH(c:Int)(k:0<=c)(cols:List Str)(rows:List cO)(h:akx cols rows)(hv:J5 cols rows=true):sU c ⟨5,0,0,[],[],cols,rows⟩=some ⟨5,0,0,[],[],cols,je (nJ c) 0 rows⟩:=by
 have b:=h.cl;have e:=h.rl;have h1:=Ic cols rows (by omega) h.ct (fun r f=>by have:=h.rr r f;exact⟨this.1,by omega⟩);have d:decide (c<0)=false:=by simp;omega
 unfold sU;simp only[IU,h1,hv,aiv cols rows h,d,zA,aM,aa];refine (ae1 (fun (out:List cO) (i:Nat)=>((c,0,0,0,[],[],[],[],5,0,0,[],[],cols,out,(i:Int)):Int×Int×Int×Int×Str×(List aQ)×(List Str)×(List cO)×Int×Int×Int×Str×(List aQ)×(List Str)×(List cO)×Int)) c rows _ (fun i x out l hi g=>?_) ?_)
 ·have a:decide ((i:Int)<(out.length:Int))=true:=by simp;omega
  have j:w64 ((i:Int)+1)=((i+1:Nat):Int):=by rw[bK (by omega) (by omega)];omega
  simp only[a,ac,au,g,zA,aD,j];rfl
 ·have a:decide ((rows.length:Int)<((je (nJ c) 0 rows).length:Int))=false:=by rw[Df];simp
  simp only[a,aa]
theorem IW(a:Str)(h:a.length<=1048576):∃v,gW a=some v/\kT a=some v/\(v=true->a.length<=120):=by
 have e:gW a=kT a:=rfl;rw[e];have key:∃v,kT a=some v/\(v=true->a.length<=120):=by
  unfold kT;refine dK (fun (_:Unit) (i:Nat)=>((a,(i:Int)):Str×Int)) a (fun _ _=>True) _ (fun i x s b d=>?_) (fun s d=>?_) () trivial
  ·simp only[dw b,ac,au,b,zA,dn b (by omega)];cases decide ((x.toNat:Int)<32)with
   | true=>exact .inr ⟨false,rfl,fun h=>(by cases h)⟩
   | false=>
    cases decide ((x.toNat:Int)>126)with
    | true=>exact .inr ⟨false,rfl,fun h=>(by cases h)⟩
    | false=>exact .inl ⟨(),rfl,trivial⟩
  ·refine⟨_,by simp only[bG,aa];rfl,fun h=>?_⟩;simp at h;omega
 obtain⟨v,c,h1⟩:=key;exact⟨v,c,c,h1⟩
structure Xe(c:ah):Prop where
 id0:1<=c.id
 id9:c.id<=999
 v0:1<=c.version
 v9:c.version<=999
 code:c.code.length<=120
 kind:c.kind=1\/c.kind=2\/c.kind=3\/c.kind=4
 name:c.name.length<=8
theorem afG{a b c:Int}(h:(decide (b<=a)&&decide (a<=c))=true):b<=a/\a<=c:=by simpa using h
theorem G9(c:ah)(x:c.name.length<=1048576)(l:c.code.length<=1048576):∃b,bH c=some b/\dm c=some b/\(b=true->Xe c):=by
 obtain⟨v,m,n,o⟩:=IW c.code l;obtain⟨u,g⟩:=mO c.name (by omega);have p:bM c.name=some u:=by rw[<- oQ c.name (by omega),g]
 have q:∀a b d:Int,lS a b d=iU a b d:=fun a b d=>(VL a b d).symm
 unfold bH dm;simp only[q,vN,m,n,g,p,zA];cases h1:(decide (1<=c.id)&&decide (c.id<=999))with
 | false=>exact⟨false,rfl,rfl,fun h=>(by cases h)⟩
 | true=>
  cases h2:(decide (1<=c.version)&&decide (c.version<=999))with
  | false=>exact⟨false,rfl,rfl,fun h=>(by cases h)⟩
  | true=>
   cases v with
   | false=>exact⟨false,rfl,rfl,fun h=>(by cases h)⟩
   | true=>
    have e:=afG h1;have f:=afG h2;have k:=o rfl;simp only[aM,aa];have no:∃b:Bool,(some false:Option Bool)=some b/\(some false:Option Bool)=some b/\(b=true->Xe c):=⟨false,rfl,rfl,fun h=>(by cases h)⟩;have named:∀z:Option Bool,(∃b,z=some b)->(c.kind=1\/c.kind=2\/c.kind=3\/c.kind=4)->∃b:Bool,(bif u then z else some false)=some b/\(bif u then z else some false)=some b/\(b=true->Xe c):=by
     intro z r i;obtain⟨b,rfl⟩:=r;cases u with
     | false=>exact no
     | true=>exact⟨b,rfl,rfl,fun _=>⟨e.1,e.2,f.1,f.2,k,i,MN c.name (by omega) g⟩⟩
    cases s:(c.kind==1)with
    | true=>
     simp only[ac];have i:c.kind=1:=eq_of_beq s;cases j:(c.name==[])with
     | false=>exact no
     | true=>exact⟨_,rfl,rfl,fun _=>⟨e.1,e.2,f.1,f.2,k,.inl i,by rw[eq_of_beq j];simp⟩⟩
    | false=>
     simp only[aa];cases t:(c.kind==2)with
     | true=>exact named _ ⟨_,rfl⟩ (.inr (.inl (eq_of_beq t)))
     | false=>
      simp only[aa];cases k4:(c.kind==4)with
      | true=>exact named _ ⟨_,rfl⟩ (.inr (.inr (.inr (eq_of_beq k4))))
      | false=>
       simp only[aa];cases w:(c.kind==3)with
       | true=>
        refine named _ ?_ (.inr (.inr (.inl (eq_of_beq w))));cases (c.code==[])<;>exact⟨_,rfl⟩
       | false=>exact no
structure qh(p:bF):Prop where
 expr:p.kind=2->wB p.expr/\wtE p.expr<=40
 name:p.name.length<=8
theorem uz(p:bF):lC p=p:=by
 unfold lC;rw[aO,IU]
theorem VE(c:ah)(hv:bH c=some true)(q:dm c=some true)(b:Xe c):∃p,ng c=some p/\mV c=some p/\qh p/\∀K,K=c.kind->(p.kind=2->K=2)/\(K=1->p.kind=1):=by
 have ne:∀(K k:Int) (n:Str) (e:af) (v:aQ) (a:Int),¬k=2->n.length<=8->(K=1->k=1)->qh ⟨k,n,e,v,a⟩/\∀L,L=K->(k=2->L=2)/\(L=1->k=1):=fun K k n e v a j r h1=>⟨⟨fun h=>absurd h j,r⟩,fun L l=>⟨fun h=>absurd h j,fun h=>h1 (by omega)⟩⟩
 unfold ng mV;simp only[hv,q,zA,aM,aa,Ap,fU,mG,lV,IU,aO];rcases b.kind with k | k | k | k
 ·rw[k];exact⟨_,rfl,rfl,ne 1 _ _ _ _ _ (by decide) (by simp) fun _=>rfl⟩
 ·rw[k];obtain⟨e,p,h1,h2,g⟩:=Ny c.code;simp only[h1,h2,zA];by_cases f:p>=0
  ·rw[aq f];exact⟨_,rfl,rfl,ne 2 _ _ _ _ _ (by decide) b.name fun h=>absurd h (by decide)⟩
  ·rw[ae f];exact⟨_,rfl,rfl,⟨⟨fun _=>g (by omega),b.name⟩,fun L l=>⟨fun _=>l,fun h=>by omega⟩⟩⟩
 ·rw[k];exact⟨_,rfl,rfl,ne 3 _ _ _ _ _ (by decide) b.name fun h=>absurd h (by decide)⟩
 ·rw[k];obtain⟨v,ok,h1,h2,g⟩:=aeF c.code b.code;simp only[h1,h2,zA];cases ok with
  | false=>
   obtain⟨s,ps,d⟩:=QO c.code;have i:(dataOf s ps).2=false:=by
    have:=(Tf c.code b.code d).symm.trans h1;injection this with this;rw[this]
   rw[alQ c.code b.code d i,akW c.code b.code d];exact⟨_,rfl,rfl,ne 4 _ _ _ _ _ (by decide) b.name fun h=>absurd h (by decide)⟩
  | true=>
   obtain⟨cols,rows,rfl,m,t1,t,u,w⟩:=g rfl;have o:akx cols rows:=⟨t1,t,u,w⟩;have x:=b.id0;rw[aef c.id (by omega) cols rows o m,acH c.id (by omega) cols rows o m];exact⟨_,rfl,rfl,ne 4 _ _ _ _ _ (by decide) b.name fun h=>absurd h (by decide)⟩
def E8(id:Int):Nat->List ah->Int
 | _,[]=>-1
 | i,c::r=>if (c.id==id)=true then (i:Int)else E8 id (i+1) r
theorem Wv(id:Int){cs:List ah}{i:Nat}{c:ah}(h:cs[i]?=some c):E8 id i (cs.drop i)=if (c.id==id)=true then (i:Int)else E8 id (i+1) (cs.drop (i+1)):=by
 obtain⟨hi,rfl⟩:=zC.1 h;rw[List.drop_eq_getElem_cons hi];rfl
theorem aqa(cs:List ah)(id:Int)(f:cs.length<=1048576):iG ⟨cs⟩ id=some (E8 id 0 cs):=by
 unfold iG;refine rO (dK (fun (_:Unit) (i:Nat)=>((id,cs,(cs.length:Int),(i:Int)):Int×List ah×Int×Int)) cs (fun i _=>E8 id i (cs.drop i)=E8 id 0 cs) _ (fun i c s a b=>?_) (fun s b=>?_) () rfl)
 ·have d:=Wv id a;simp only[dw a,ac,au,a,zA,dn a (by omega)];cases e:(c.id==id)with
  | true=>exact .inr ⟨_,rfl,by rw[<- b,d,e];rfl⟩
  | false=>exact .inl ⟨(),rfl,by rw[<- b,d,e];rfl⟩
 ·exact⟨_,by simp only[bG,aa];rfl,by rw[<- b,List.drop_length];rfl⟩
theorem apM(cs:List ah)(id:Int)(f:cs.length<=1048576):jX ⟨cs⟩ id=some (E8 id 0 cs):=by
 unfold jX;refine rO (dK (fun (_:Unit) (i:Nat)=>((id,cs,(i:Int)):Int×List ah×Int)) cs (fun i _=>E8 id i (cs.drop i)=E8 id 0 cs) _ (fun i c s a b=>?_) (fun s b=>?_) () rfl)
 ·have d:=Wv id a;simp only[dw a,ac,au,a,zA,dn a (by omega)];cases e:(c.id==id)with
  | true=>exact .inr ⟨_,rfl,by rw[<- b,d,e];rfl⟩
  | false=>exact .inl ⟨(),rfl,by rw[<- b,d,e];rfl⟩
 ·exact⟨_,by simp only[bG,aa];rfl,by rw[<- b,List.drop_length];rfl⟩
structure lJ(c:ah):Prop where
 name:c.name.length<=1048576
 code:c.code.length<=1048576
noncomputable def cellV(c:ah):Bool:=(bH c).getD false
theorem Zm(c:ah)(h:lJ c):bH c=some (cellV c):=by
 obtain⟨b,h1,_⟩:=G9 c h.name h.code;unfold cellV;rw[h1];rfl
theorem Zl(c:ah)(h:lJ c):dm c=some (cellV c):=by
 obtain⟨b,h1,h2,_⟩:=G9 c h.name h.code;unfold cellV;rw[h1,h2];rfl
theorem ame(c:ah)(h:lJ c)(hv:cellV c=true):Xe c:=by
 obtain⟨b,h1,_,a⟩:=G9 c h.name h.code;refine a ?_;unfold cellV at hv;rw[h1]at hv;exact hv
noncomputable def wu(cs:List ah):Bool:=jf (fun i c=>cellV c&&(E8 c.id 0 cs==(i:Int))) 0 cs&&decide ((cs.length:Int)<=8)
theorem abB(cs:List ah)(b:cs.length<=1048576)(h:∀c,c∈cs->lJ c):gy ⟨cs⟩=some (wu cs):=by
 unfold gy wu;refine (qc (fun i=>((cs,cs,(cs.length:Int),(i:Int)):List ah×List ah×Int×Int)) cs (fun i c=>cellV c&&(E8 c.id 0 cs==(i:Int))) false (decide ((cs.length:Int)<=8)) (fun i c a=>?_) ?_).trans ?_
 ·simp only[dw a,ac,au,a,zA,Zm c (h c (zG a)),aqa cs c.id b,bne,dn a (by omega)];cases cellV c<;>cases (E8 c.id 0 cs==(i:Int))<;>rfl
 ·simp only[bG,aa]
 ·cases jf (fun i c=>cellV c&&(E8 c.id 0 cs==(i:Int))) 0 cs<;>rfl
theorem aau(cs:List ah)(b:cs.length<=1048576)(h:∀c,c∈cs->lJ c):dH ⟨cs⟩=some (wu cs):=by
 unfold dH wu;refine (qc (fun i=>((cs,(i:Int)):List ah×Int)) cs (fun i c=>cellV c&&(E8 c.id 0 cs==(i:Int))) false (decide ((cs.length:Int)<=8)) (fun i c a=>?_) ?_).trans ?_
 ·simp only[dw a,ac,au,a,zA,Zl c (h c (zG a)),apM cs c.id b,bne,dn a (by omega)];cases cellV c<;>cases (E8 c.id 0 cs==(i:Int))<;>rfl
 ·simp only[bG,aa]
 ·cases jf (fun i c=>cellV c&&(E8 c.id 0 cs==(i:Int))) 0 cs<;>rfl
theorem N8{α:Type}{p:Nat->α->Bool}:∀ {i:Nat} {xs:List α},jf p i xs=true->∀x,x∈xs->∃j,p j x=true
 | i,y::r,h,x,a=>by
  have h:(p i y&&jf p (i+1) r)=true:=h;rw[zI]at h;rcases bc.1 a with rfl | a
  ·exact⟨i,h.1⟩
  ·exact N8 h.2 x a
theorem wo{cs:List ah}(h:∀c,c∈cs->lJ c)(hv:wu cs=true):cs.length<=8/\∀c,c∈cs->cellV c=true/\Xe c:=by
 unfold wu at hv;rw[zI]at hv;have d:=of_decide_eq_true hv.2;refine⟨by omega,fun c b=>?_⟩;obtain⟨j,a⟩:=N8 hv.1 c b;rw[zI]at a;exact⟨a.1,ame c (h c b) a.1⟩
theorem DY(cs:List ah)(z:cs.length<=1048576)(h:∀c,c∈cs->lJ c):∃ps,mJ ⟨cs⟩=some ps/\lX ⟨cs⟩=some ps/\(∀p,p∈ps->qh p)/\(wu cs=true->ps.length=cs.length)/\ps.length<=8/\∀(i:Nat) (p:bF) (c:ah),ps[i]?=some p->cs[i]?=some c->(p.kind=2->c.kind=2)/\(c.kind=1->p.kind=1):=by
 unfold mJ lX;simp only[abB cs z h,aau cs z h,zA];cases hv:wu cs with
 | false=>exact⟨[],rfl,rfl,fun p o=>(by cases o),fun h=>(by cases h),by simp,fun i p c h=>by simp at h⟩
 | true=>
  obtain⟨L,r⟩:=wo h hv;simp only[aM,aa];have pt:∀c,c∈cs->∃p,ng c=some p/\mV c=some p/\qh p/\(p.kind=2->c.kind=2)/\(c.kind=1->p.kind=1):=fun c s=>by
   obtain⟨A,C⟩:=r c s;obtain⟨p,t,u,k,D⟩:=VE c (by rw[Zm c (h c s),A]) (by rw[Zl c (h c s),A]) C;exact⟨p,t,u,k,D _ rfl⟩
  have key:=Xt (ρ:=List bF) (f:=fun (a:(List bF)×(List ah)×Int×Int)=>
   bif (decide (a.2.2.2<a.2.2.1))then
    (idx a.2.1 a.2.2.2).bind fun k=>
    (ng k).bind fun l=>
    (gd (a.1.length+[lC l].length)).bind fun _=>
    some (.inl (a.1++[lC l],a.2.1,a.2.2.1,w64 (a.2.2.2+1)))
   else
    some (.inr (a.1))) (g:=fun (a:(List ah)×(List bF)×Int)=>
   bif (decide (a.2.2<(a.1.length:Int)))then
    (idx a.1 a.2.2).bind fun k=>
    (mV k).bind fun l=>
    (gd (a.2.1.length+[lC l].length)).bind fun _=>
    some (.inl (a.1,a.2.1++[lC l],w64 (a.2.2+1)))
   else
    some (.inr (a.2.1))) (fun (out:List bF) (i:Nat)=>((out,cs,(cs.length:Int),(i:Int)):(List bF)×(List ah)×Int×Int)) (fun (out:List bF) (i:Nat)=>((cs,out,(i:Int)):(List ah)×(List bF)×Int)) cs (fun i out=>out.length=i/\(∀p,p∈out->qh p)/\∀(j:Nat) (p:bF) (c:ah),out[j]?=some p->cs[j]?=some c->(p.kind=2->c.kind=2)/\(c.kind=1->p.kind=1)) (fun ps=>ps.length=cs.length/\(∀p,p∈ps->qh p)/\∀(i:Nat) (p:bF) (c:ah),ps[i]?=some p->cs[i]?=some c->(p.kind=2->c.kind=2)/\(c.kind=1->p.kind=1)) (fun i c out b d=>.inl ?_) (fun out d=>⟨out,by simp only[bG,aa],by simp only[bG,aa],d⟩) [] ⟨rfl,fun p o=>(by cases o),fun j p c h=>by simp at h⟩
  ·obtain⟨ps,t,u,E,F,G⟩:=key;exact⟨ps,t,u,F,fun _=>E,by omega,G⟩
  ·obtain⟨p,H,I,J,K⟩:=pt c (zG b);have hi:=(zC.1 b).1;have B:gd (out.length+[p].length)=some ():=gdp (by simp;omega);refine⟨out++[p],?_,?_,by simp[d.1],fun q m=>?_,fun j q y n v=>?_⟩
   ·simp only[dw b,ac,au,b,zA,H,uz,B,dn b (by omega)]
   ·simp only[dw b,ac,au,b,zA,I,uz,B,dn b (by omega)]
   ·rcases List.mem_append.1 m with m | m
    ·exact d.2.1 q m
    ·rw[List.mem_singleton.1 m];exact J
   ·by_cases w:j<out.length
    ·rw[List.getElem?_append_left w]at n;exact d.2.2 j q y n v
    ·have x:=(zC.1 n).1;simp at x;have e:j=i:=by have:=d.1;omega
     subst e;rw[List.getElem?_append_right (by omega),d.1,Nat.sub_self]at n;rw[b]at v;cases n
     cases v
     exact K
theorem VF(cs:List ah)(a:cs.length<=1048576)(h:∀c,c∈cs->lJ c):∃ps,mJ ⟨cs⟩=some ps/\lX ⟨cs⟩=some ps/\(∀p,p∈ps->qh p)/\(wu cs=true->ps.length=cs.length)/\ps.length<=8:=by
 obtain⟨ps,h1,h2,b,d,e,_⟩:=DY cs a h;exact⟨ps,h1,h2,b,d,e⟩
end Go.Proofs.YtngjomkjlonfpaaGreatDoor
/- Plain laws: what a part uses, and who defines a name: the two programs alike. -/
namespace Go.Proofs.YtngjomkjlonfpaaGreatDoor
open Go.Abs Go.Proofs
noncomputable def sO(p:bF):List Str:=(sS p).getD []
theorem Ef(p:bF)(h:qh p):tJ p=some (sO p)/\sS p=some (sO p)/\(sO p).length<=1000:=by
 have key:∃ys,tJ p=some ys/\sS p=some ys/\ys.length<=1000:=by
  unfold tJ sS;by_cases a:p.kind=2
  ·have e:(p.kind != 2)=false:=by rw[a];rfl
   obtain⟨hv,c⟩:=h.expr a;obtain⟨ys,h1,h2,_,d,_⟩:=Bl p.expr (by omega);rw[e];simp only[aa,aO,h1,h2,zA];exact⟨ys,rfl,rfl,by omega⟩
  ·have e:(p.kind != 2)=true:=by simpa using a
   rw[e];exact⟨[],rfl,rfl,by simp⟩
 obtain⟨ys,h1,h2,b⟩:=key;have e:sO p=ys:=by unfold sO;rw[h2];rfl
 rw[e];exact⟨h1,h2,b⟩
noncomputable def LQ(p:bF)(s:Str):Bool:=(sO p).contains s
theorem aa9(p:bF)(h:qh p)(s:Str):∃q:Int,jP (sO p) s=some q/\decide (q>=0)=LQ p s/\decide (q<0) = !(LQ p s):=by
 obtain⟨_,_,c⟩:=Ef p h;refine⟨posOf s 0 (sO p),rY (sO p) s (by omega),?_⟩;have b:=qI s (sO p) 0;unfold LQ;cases a:(sO p).contains s with
 | false=>
  have:=b.2 a;exact⟨by rw[ae (by omega)],by rw[aq this];rfl⟩
 | true=>
  have:¬posOf s 0 (sO p)<0:=fun hh=>by rw[b.1 hh]at a;cases a
  exact⟨by rw[aq (by omega)],by rw[ae this];rfl⟩
theorem ajM(p:bF)(h:qh p)(s:Str):lu (sO p) s=some (LQ p s):=by
 obtain⟨_,_,a⟩:=Ef p h;exact oW (sO p) s (by omega)
theorem Tq(p:bF)(s:Str)(h:LQ p s=true):p.kind=2:=by
 by_cases a:p.kind=2
 ·exact a
 ·have e:(p.kind != 2)=true:=by simpa using a
  have:sO p=[]:=by unfold sO sS;rw[e];rfl
  unfold LQ at h;rw[this]at h;cases h
def dU(b:Str):Nat->List bF->List Int
 | _,[]=>[]
 | i,p::r=>if ((p.kind != 1)&&(p.name==b))=true then (i:Int)::dU b (i+1) r else dU b (i+1) r
theorem abV(b:Str){ps:List bF}{i:Nat}{p:bF}(h:ps[i]?=some p):dU b i (ps.drop i)=if ((p.kind != 1)&&(p.name==b))=true then (i:Int)::dU b (i+1) (ps.drop (i+1))else dU b (i+1) (ps.drop (i+1)):=by
 obtain⟨hi,rfl⟩:=zC.1 h;rw[List.drop_eq_getElem_cons hi];rfl
theorem G7(b:Str):∀(ps:List bF) (i:Nat) (k:Int),k∈dU b i ps->(i:Int)<=k/\k<((i+ps.length:Nat):Int)
 | [],i,k,h=>by cases h
 | p::r,i,k,h=>by
  unfold dU at h;split at h
  ·rcases bc.1 h with rfl | h
   ·simp;omega
   ·have:=G7 b r (i+1) k h;simp only[List.length_cons];omega
  ·have:=G7 b r (i+1) k h;simp only[List.length_cons];omega
theorem WQ{b:Str}{ps:List bF}{i:Nat}{p:bF}(a:ps[i]?=some p){out:List Int}(c:out++dU b i (ps.drop i)=dU b 0 ps) :
  (if ((p.kind != 1)&&(p.name==b))=true then out++[(i:Int)]else out)++dU b (i+1) (ps.drop (i+1))=dU b 0 ps:=by
 rw[<- c,abV b a];split
 ·rw[a8];rfl
 ·rfl
theorem aaX{c:Bool}{out:List Int}{i:Nat}(h:out.length<=i):(if c=true then out++[(i:Int)]else out).length<=i+1:=by
 split
 ·simp;omega
 ·omega
theorem afK(ps:List bF)(b:Str)(e:ps.length<=1048576):uH ps b=some (dU b 0 ps):=by
 unfold uH;refine rO (dK (fun (out:List Int) (i:Nat)=>((b,out,ps,(ps.length:Int),(i:Int)):Str×(List Int)×(List bF)×Int×Int)) ps (fun i out=>out++dU b i (ps.drop i)=dU b 0 ps/\out.length<=i) _ (fun i p out a c=>.inl ?_) (fun out c=>?_) [] ⟨rfl,az _⟩)
 ·have hi:=(zC.1 a).1;have d:∀n:Int,gd (out.length+[n].length)=some ():=fun n=>gdp (by simp;omega)
  refine⟨if ((p.kind != 1)&&(p.name==b))=true then out++[(i:Int)]else out,?_,WQ a c.1,aaX c.2⟩;simp only[dw a,ac,au,a,zA,d,dn a (by omega)];cases (p.kind != 1)<;>cases (p.name==b)<;>rfl
 ·refine⟨out,by simp only[bG,aa],?_⟩;have:=c.1;rw[List.drop_length]at this;simpa [dU] using this
theorem ae6(ps:List bF)(b:Str)(e:ps.length<=1048576):yw ps b=some (dU b 0 ps):=by
 unfold yw;refine rO (dK (fun (out:List Int) (i:Nat)=>((ps,b,out,(i:Int)):(List bF)×Str×(List Int)×Int)) ps (fun i out=>out++dU b i (ps.drop i)=dU b 0 ps/\out.length<=i) _ (fun i p out a c=>.inl ?_) (fun out c=>?_) [] ⟨rfl,az _⟩)
 ·have hi:=(zC.1 a).1;have d:∀n:Int,gd (out.length+[n].length)=some ():=fun n=>gdp (by simp;omega)
  refine⟨if ((p.kind != 1)&&(p.name==b))=true then out++[(i:Int)]else out,?_,WQ a c.1,aaX c.2⟩;simp only[dw a,ac,au,a,zA,d,dn a (by omega)];cases (p.kind != 1)<;>cases (p.name==b)<;>rfl
 ·refine⟨out,by simp only[bG,aa],?_⟩;have:=c.1;rw[List.drop_length]at this;simpa [dU] using this
def yB:List Int->Int
 | []=>-1
 | [k]=>k
 | _=>-2
theorem alO(ps:List bF)(b:Str)(c:ps.length<=1048576):Dl ps b=some (yB (dU b 0 ps)):=by
 unfold Dl;rw[afK ps b c,zA];cases dU b 0 ps with
 | nil=>rfl
 | cons k r=>cases r with
  | nil=>rfl
  | cons a r=>
   have d:(((k::a::r).length:Int)==0)=false:=by simp;omega
   have e:(((k::a::r).length:Int)==1)=false:=by simp;omega
   rw[d,e];rfl
theorem ae5(ps:List bF)(b:Str)(c:ps.length<=1048576):BP ps b=some (yB (dU b 0 ps)):=by
 unfold BP;rw[ae6 ps b c,zA];cases dU b 0 ps with
 | nil=>rfl
 | cons k r=>cases r with
  | nil=>rfl
  | cons a r=>
   have d:(((k::a::r).length:Int)==0)=false:=by simp;omega
   have e:(((k::a::r).length:Int)==1)=false:=by simp;omega
   rw[d,e];rfl
theorem adF(ps:List bF)(b:Str)(h:0<=yB (dU b 0 ps)):∃k:Nat,yB (dU b 0 ps)=k/\k<ps.length:=by
 cases a:dU b 0 ps with
 | nil=>rw[a]at h;exact absurd h (by decide)
 | cons k r=>cases r with
  | nil=>
   have:=G7 b ps 0 k (by rw[a];simp)
   exact⟨k.toNat,by show k=_;omega,by omega⟩
  | cons c r=>rw[a]at h;exact absurd h (by show ¬(0:Int)<=-2;decide)
end Go.Proofs.YtngjomkjlonfpaaGreatDoor
/- Plain laws: RenameVariable alike on both sides. -/
namespace Go.Proofs.YtngjomkjlonfpaaGreatDoor
noncomputable section
open Go.Abs Go.Proofs
def ahK(p:bF)(b c:Str):Bool:=(lU p.expr b c).getD false
theorem akc(p:bF)(h:qh p)(a:p.kind=2)(b c:Str):iQ p.expr b c=some (ahK p b c)/\lU p.expr b c=some (ahK p b c):=by
 obtain⟨hv,d⟩:=h.expr a;obtain⟨v,h1,h2⟩:=D8 p.expr b c (by omega);have e:ahK p b c=v:=by unfold ahK;rw[h2];rfl
 rw[e];exact⟨h1,h2⟩
def textOf(p:bF)(b c:Str):Str:=(((kM p.expr b c).bind fun r=>ig r.1)).getD []
theorem Xv(p:bF)(h:qh p)(f:p.kind=2)(b c:Str)(g:b.length<=34359738368)(i:c.length<=34359738368) :
  ∃x v,kP p.expr b c=some (x,v)/\kM p.expr b c=some (x,v)/\jQ x=some (textOf p b c)/\ig x=some (textOf p b c)/\prn (textOf p b c)=true:=by
 obtain⟨hv,m⟩:=h.expr f;obtain⟨x,v,j,a,n⟩:=yD p.expr b c (by omega) g i;obtain⟨s,k,d,_,l⟩:=WC x (by omega);have e:textOf p b c=s:=by unfold textOf;rw[a];simp only[zA,d];rfl
 rw[e];exact⟨x,v,j,a,k,d,l⟩
def Xq(d:Bool)(t:Str)(x:ah):ah:=⟨x.id,if d=true then x.version+1 else x.version,x.kind,x.name,t,x.n⟩
def lH(d:Bool)(b c:Str):Nat->List bF->List ah->Bool->Option (List ah×Bool)
 | _,[],cs,full=>some (cs,full)
 | i,p::r,cs,full=>if LQ p b=true then
   (if (textOf p b c).length<=120 then (match cs[i]? with
    | some x=>lH d b c (i+1) r (cs.set i (Xq d (textOf p b c) x)) (full||(d&&decide (x.version>=999)))
    | none=>none)
   else none)
  else lH d b c (i+1) r cs full
theorem Rl(d:Bool)(b c:Str){ps:List bF}{i:Nat}{p:bF}(h:ps[i]?=some p)(cs:List ah)(full:Bool):lH d b c i (ps.drop i) cs full=if LQ p b=true then
      (if (textOf p b c).length<=120 then (match cs[i]? with
       | some x=>lH d b c (i+1) (ps.drop (i+1)) (cs.set i (Xq d (textOf p b c) x)) (full||(d&&decide (x.version>=999)))
       | none=>none)
      else none)
  else lH d b c (i+1) (ps.drop (i+1)) cs full:=by
 obtain⟨hi,rfl⟩:=zC.1 h;rw[List.drop_eq_getElem_cons hi];rfl
def abJ(cs:List ah):Option (List ah×Bool)->ak×Int
 | none=>(⟨cs⟩,5)
 | some (out,true)=>(⟨cs⟩,6)
 | some (out,false)=>(⟨out⟩,0)
abbrev RvI:=Str×Str×Bool×(List ah)×(List ah)×(List ah)×Bool×(List bF)×Int×Int
abbrev RvS:=Str×Str×(List ah)×(List ah)×(List ah)×(List bF)×Int×Int
def aiy:RvI->Option (RvI⊕(ak×Int)):=(fun (a:Str×Str×Bool×(List ah)×(List ah)×(List ah)×Bool×(List bF)×Int×Int)=>
      bif (decide (a.2.2.2.2.2.2.2.2.2<a.2.2.2.2.2.2.2.2.1))then
       (idx a.2.2.2.2.2.2.2.1 a.2.2.2.2.2.2.2.2.2).bind fun f=>
       (tJ (lC f)).bind fun g=>
       (jP g a.1).bind fun h=>
       bif (decide (h<0))then
        some (.inl (a.1,a.2.1,a.2.2.1,a.2.2.2.1,a.2.2.2.2.1,a.2.2.2.2.2.1,a.2.2.2.2.2.2.1,a.2.2.2.2.2.2.2.1,a.2.2.2.2.2.2.2.2.1,w64 (a.2.2.2.2.2.2.2.2.2+1)))
       else
       (kP (aj f.expr) a.1 a.2.1).bind fun i=>
       (jQ (aj i.1)).bind fun c=>
       (idx a.2.2.2.2.2.1 a.2.2.2.2.2.2.2.2.2).bind fun _=>
       (a.2.2.2.2.2.1[a.2.2.2.2.2.2.2.2.2.toNat]?).bind fun b=>
       (idx (a.2.2.2.2.2.1.set a.2.2.2.2.2.2.2.2.2.toNat (ah.mk b.id b.version b.kind b.name c b.n)) a.2.2.2.2.2.2.2.2.2).bind fun _=>
       ((a.2.2.2.2.2.1.set a.2.2.2.2.2.2.2.2.2.toNat (ah.mk b.id b.version b.kind b.name c b.n))[a.2.2.2.2.2.2.2.2.2.toNat]?).bind fun j=>
       bif (decide ((j.code.length:Int)>120))then
        some (.inr (ak.mk a.2.2.2.1,5))
       else
       bif a.2.2.1 then
        bif a.2.2.2.2.2.2.1 then
         (idx (a.2.2.2.2.2.1.set a.2.2.2.2.2.2.2.2.2.toNat (ah.mk b.id b.version b.kind b.name c b.n)) a.2.2.2.2.2.2.2.2.2).bind fun _=>
         ((a.2.2.2.2.2.1.set a.2.2.2.2.2.2.2.2.2.toNat (ah.mk b.id b.version b.kind b.name c b.n))[a.2.2.2.2.2.2.2.2.2.toNat]?).bind fun k=>
         (idx (a.2.2.2.2.2.1.set a.2.2.2.2.2.2.2.2.2.toNat (ah.mk b.id b.version b.kind b.name c b.n)) a.2.2.2.2.2.2.2.2.2).bind fun _=>
         ((a.2.2.2.2.2.1.set a.2.2.2.2.2.2.2.2.2.toNat (ah.mk b.id b.version b.kind b.name c b.n))[a.2.2.2.2.2.2.2.2.2.toNat]?).bind fun d=>
         some (.inl (a.1,a.2.1,a.2.2.1,a.2.2.2.1,a.2.2.2.2.1,(a.2.2.2.2.2.1.set a.2.2.2.2.2.2.2.2.2.toNat (ah.mk b.id b.version b.kind b.name c b.n)).set a.2.2.2.2.2.2.2.2.2.toNat (ah.mk d.id (w64 (k.version+1)) d.kind d.name d.code d.n),true,a.2.2.2.2.2.2.2.1,a.2.2.2.2.2.2.2.2.1,w64 (a.2.2.2.2.2.2.2.2.2+1)))
        else
         (idx (a.2.2.2.2.2.1.set a.2.2.2.2.2.2.2.2.2.toNat (ah.mk b.id b.version b.kind b.name c b.n)) a.2.2.2.2.2.2.2.2.2).bind fun _=>
         ((a.2.2.2.2.2.1.set a.2.2.2.2.2.2.2.2.2.toNat (ah.mk b.id b.version b.kind b.name c b.n))[a.2.2.2.2.2.2.2.2.2.toNat]?).bind fun l=>
         (idx (a.2.2.2.2.2.1.set a.2.2.2.2.2.2.2.2.2.toNat (ah.mk b.id b.version b.kind b.name c b.n)) a.2.2.2.2.2.2.2.2.2).bind fun _=>
         ((a.2.2.2.2.2.1.set a.2.2.2.2.2.2.2.2.2.toNat (ah.mk b.id b.version b.kind b.name c b.n))[a.2.2.2.2.2.2.2.2.2.toNat]?).bind fun m=>
         (idx (a.2.2.2.2.2.1.set a.2.2.2.2.2.2.2.2.2.toNat (ah.mk b.id b.version b.kind b.name c b.n)) a.2.2.2.2.2.2.2.2.2).bind fun _=>
         ((a.2.2.2.2.2.1.set a.2.2.2.2.2.2.2.2.2.toNat (ah.mk b.id b.version b.kind b.name c b.n))[a.2.2.2.2.2.2.2.2.2.toNat]?).bind fun e=>
         some (.inl (a.1,a.2.1,a.2.2.1,a.2.2.2.1,a.2.2.2.2.1,(a.2.2.2.2.2.1.set a.2.2.2.2.2.2.2.2.2.toNat (ah.mk b.id b.version b.kind b.name c b.n)).set a.2.2.2.2.2.2.2.2.2.toNat (ah.mk e.id (w64 (m.version+1)) e.kind e.name e.code e.n),(decide (l.version>=999)),a.2.2.2.2.2.2.2.1,a.2.2.2.2.2.2.2.2.1,w64 (a.2.2.2.2.2.2.2.2.2+1)))
       else
        some (.inl (a.1,a.2.1,a.2.2.1,a.2.2.2.1,a.2.2.2.2.1,a.2.2.2.2.2.1.set a.2.2.2.2.2.2.2.2.2.toNat (ah.mk b.id b.version b.kind b.name c b.n),a.2.2.2.2.2.2.1,a.2.2.2.2.2.2.2.1,a.2.2.2.2.2.2.2.2.1,w64 (a.2.2.2.2.2.2.2.2.2+1)))
      else
       (
        bif a.2.2.2.2.2.2.1 then
         some (ak.mk a.2.2.2.1,6)
        else
         some (ak.mk a.2.2.2.2.2.1,0)
       ).bind fun r=>some (.inr r)
  )
def akX:RvS->Option (RvS⊕(ak×Int)):=(fun (a:Str×Str×(List ah)×(List ah)×(List ah)×(List bF)×Int×Int)=>
      bif (decide (a.2.2.2.2.2.2.2<(a.2.2.2.2.2.1.length:Int)))then
       (idx a.2.2.2.2.2.1 a.2.2.2.2.2.2.2).bind fun _=>
       (a.2.2.2.2.2.1[a.2.2.2.2.2.2.2.toNat]?).bind fun f=>
       (sS (lC f)).bind fun g=>
       (lu g a.1).bind fun h=>
       bif (!h)then
        some (.inl (a.1,a.2.1,a.2.2.1,a.2.2.2.1,a.2.2.2.2.1,a.2.2.2.2.2.1,a.2.2.2.2.2.2.1,w64 (a.2.2.2.2.2.2.2+1)))
       else
       (idx a.2.2.2.2.2.1 a.2.2.2.2.2.2.2).bind fun _=>
       (a.2.2.2.2.2.1[a.2.2.2.2.2.2.2.toNat]?).bind fun i=>
       (kM (aj i.expr) a.1 a.2.1).bind fun j=>
       (ig (aj j.1)).bind fun c=>
       (idx a.2.2.2.2.1 a.2.2.2.2.2.2.2).bind fun _=>
       (a.2.2.2.2.1[a.2.2.2.2.2.2.2.toNat]?).bind fun b=>
       (idx (a.2.2.2.2.1.set a.2.2.2.2.2.2.2.toNat (ah.mk b.id b.version b.kind b.name c b.n)) a.2.2.2.2.2.2.2).bind fun _=>
       ((a.2.2.2.2.1.set a.2.2.2.2.2.2.2.toNat (ah.mk b.id b.version b.kind b.name c b.n))[a.2.2.2.2.2.2.2.toNat]?).bind fun k=>
       bif (decide ((k.code.length:Int)>120))then
        (jo (ak.mk a.2.2.1)).bind fun l=>
        some (.inr (l,5))
       else
       (idx (a.2.2.2.2.1.set a.2.2.2.2.2.2.2.toNat (ah.mk b.id b.version b.kind b.name c b.n)) a.2.2.2.2.2.2.2).bind fun _=>
       ((a.2.2.2.2.1.set a.2.2.2.2.2.2.2.toNat (ah.mk b.id b.version b.kind b.name c b.n))[a.2.2.2.2.2.2.2.toNat]?).bind fun m=>
       bif (m.version==999)then
        (idx (a.2.2.2.2.1.set a.2.2.2.2.2.2.2.toNat (ah.mk b.id b.version b.kind b.name c b.n)) a.2.2.2.2.2.2.2).bind fun _=>
        ((a.2.2.2.2.1.set a.2.2.2.2.2.2.2.toNat (ah.mk b.id b.version b.kind b.name c b.n))[a.2.2.2.2.2.2.2.toNat]?).bind fun o=>
        (idx (a.2.2.2.2.1.set a.2.2.2.2.2.2.2.toNat (ah.mk b.id b.version b.kind b.name c b.n)) a.2.2.2.2.2.2.2).bind fun _=>
        ((a.2.2.2.2.1.set a.2.2.2.2.2.2.2.toNat (ah.mk b.id b.version b.kind b.name c b.n))[a.2.2.2.2.2.2.2.toNat]?).bind fun d=>
        some (.inl (a.1,a.2.1,a.2.2.1,a.2.2.2.1,(a.2.2.2.2.1.set a.2.2.2.2.2.2.2.toNat (ah.mk b.id b.version b.kind b.name c b.n)).set a.2.2.2.2.2.2.2.toNat (ah.mk d.id (w64 (o.version+1)) d.kind d.name d.code d.n),a.2.2.2.2.2.1,6,w64 (a.2.2.2.2.2.2.2+1)))
       else
        (idx (a.2.2.2.2.1.set a.2.2.2.2.2.2.2.toNat (ah.mk b.id b.version b.kind b.name c b.n)) a.2.2.2.2.2.2.2).bind fun _=>
        ((a.2.2.2.2.1.set a.2.2.2.2.2.2.2.toNat (ah.mk b.id b.version b.kind b.name c b.n))[a.2.2.2.2.2.2.2.toNat]?).bind fun p=>
        (idx (a.2.2.2.2.1.set a.2.2.2.2.2.2.2.toNat (ah.mk b.id b.version b.kind b.name c b.n)) a.2.2.2.2.2.2.2).bind fun _=>
        ((a.2.2.2.2.1.set a.2.2.2.2.2.2.2.toNat (ah.mk b.id b.version b.kind b.name c b.n))[a.2.2.2.2.2.2.2.toNat]?).bind fun e=>
        some (.inl (a.1,a.2.1,a.2.2.1,a.2.2.2.1,(a.2.2.2.2.1.set a.2.2.2.2.2.2.2.toNat (ah.mk b.id b.version b.kind b.name c b.n)).set a.2.2.2.2.2.2.2.toNat (ah.mk e.id (w64 (p.version+1)) e.kind e.name e.code e.n),a.2.2.2.2.2.1,a.2.2.2.2.2.2.1,w64 (a.2.2.2.2.2.2.2+1)))
      else
       (
        bif (a.2.2.2.2.2.2.1 != 0)then
         (jo (ak.mk a.2.2.1)).bind fun q=>
         some (q,a.2.2.2.2.2.2.1)
        else
         some (ak.mk a.2.2.2.2.1,0)
       ).bind fun r=>some (.inr r)
  )
theorem afM{α:Type}(xs:List α)(i:Nat)(x:α)(h:i<xs.length):(xs.set i x)[i]?=some x:=by
 rw[List.getElem?_set_self h]
theorem apm(d:Bool)(b c:Str)(A:b.length<=34359738368)(B:c.length<=34359738368)(cs:List ah)(ps:List bF)(l:∀p,p∈ps->qh p)(K:ps.length<=1048576)(out0:List ah)(C:out0.length=ps.length)(hv:∀x,x∈out0->1<=x.version/\x.version<=999) :
  aA aiy (b,c,d,cs,[],out0,false,ps,(ps.length:Int),0)=some (abJ cs (lH d b c 0 ps out0 false)):=by
 refine rO (dK (g:=aiy) (fun (s:List ah×Bool) (i:Nat)=>((b,c,d,cs,[],s.1,s.2,ps,(ps.length:Int),(i:Int)):RvI)) ps (fun i s=>s.1.length=ps.length/\lH d b c i (ps.drop i) s.1 s.2=lH d b c 0 ps out0 false/\∀j x,i<=j->s.1[j]?=some x->1<=x.version/\x.version<=999) _ (fun i p s a m=>?_) (fun s m=>?_) (out0,false) ⟨C,rfl,fun j x _ a=>hv x (zG a)⟩)
 ·obtain⟨n,f,k⟩:=m;have o:=l p (zG a);have hi:=(zC.1 a).1;obtain⟨D,L,M⟩:=Ef p o;obtain⟨q,E,N,F⟩:=aa9 p o b;rw[Rl d b c a]at f;simp only[aiy,dw a,ac,au,a,zA,uz,D,E,F,dn a (by omega)];cases hh:LQ p b with
  | false=>
   rw[hh]at f;refine .inl ⟨s,rfl,n,?_,fun j x r a=>k j x (by omega) a⟩;simpa using f
  | true=>
   rw[hh,if_pos rfl]at f;have h:i<s.1.length:=by omega
   have t:=zF h;obtain⟨x,v,G,O,H,k4,_⟩:=Xv p o (Tq p b hh) b c A B;have u:∀y:ah,(s.1.set i y)[i]?=some y:=fun y=>afM s.1 i y h
   rw[t]at f;have I:=k i _ (az _) t;simp only[aM,aa,aO,G,H,t,aD,u,zA];by_cases w:(textOf p b c).length<=120
   ·have e:decide (((textOf p b c).length:Int)>120)=false:=by simp;omega
    rw[if_pos w]at f;rw[e];simp only[aa];have keep:∀(y:ah) (j:Nat) (x:ah),i+1<=j->(s.1.set i y)[j]?=some x->1<=x.version/\x.version<=999:=fun y j x r a=>by
     rw[List.getElem?_set_ne (by omega)]at a;exact k j x (by omega) a
    have J:w64 (s.1[i].version+1)=s.1[i].version+1:=bK (by omega) (by omega);refine .inl ⟨(s.1.set i (Xq d (textOf p b c) s.1[i]),s.2||(d&&decide (s.1[i].version>=999))),?_,by simp[n],f,fun j x r a=>keep _ j x r a⟩;cases d with
    | false=>
     simp only[aa,Bool.false_and,Bool.or_false];rfl
    | true=>
     have hset:∀y z:ah,(s.1.set i y).set i z=s.1.set i z:=fun y z=>by rw[List.set_set]
     simp only[ac,Bool.true_and,J,hset];cases s.2<;>rfl
   ·have e:decide (((textOf p b c).length:Int)>120)=true:=by simp;omega
    rw[if_neg w]at f;rw[e];exact .inr ⟨_,rfl,by rw[<- f];rfl⟩
 ·obtain⟨n,f,k⟩:=m;rw[List.drop_length]at f;refine⟨abJ cs (some s),?_,by rw[<- f];rfl⟩;obtain⟨out,full⟩:=s;simp only[aiy,bG,aa];cases full<;>rfl
theorem ao1(b c:Str)(C:b.length<=34359738368)(D:c.length<=34359738368)(cs:List ah)(E:cs.length<=1048576)(ps:List bF)(k:∀p,p∈ps->qh p)(K:ps.length<=1048576)(out0:List ah)(F:out0.length=ps.length)(hv:∀x,x∈out0->1<=x.version/\x.version<=999) :
  aA akX (b,c,cs,[],out0,ps,0,0)=some (abJ cs (lH true b c 0 ps out0 false)):=by
 have hcopy:jo ⟨cs⟩=some ⟨cs⟩:=by
  unfold jo;rw[gdp (by simp;omega)];rfl
 refine rO (dK (g:=akX) (fun (s:List ah×Bool) (i:Nat)=>((b,c,cs,[],s.1,ps,(if s.2=true then 6 else 0),(i:Int)):RvS)) ps (fun i s=>s.1.length=ps.length/\lH true b c i (ps.drop i) s.1 s.2=lH true b c 0 ps out0 false/\∀j x,i<=j->s.1[j]?=some x->1<=x.version/\x.version<=999) _ (fun i p s a l=>?_) (fun s l=>?_) (out0,false) ⟨F,rfl,fun j x _ a=>hv x (zG a)⟩)
 ·obtain⟨m,d,h⟩:=l;have n:=k p (zG a);have hi:=(zC.1 a).1;obtain⟨L,G,M⟩:=Ef p n;have H:=ajM p n b;rw[Rl true b c a]at d;simp only[akX,dw a,ac,au,a,zA,aD,uz,G,H,dn a (by omega)];cases hh:LQ p b with
  | false=>
   rw[hh]at d;refine .inl ⟨s,rfl,m,?_,fun j x o a=>h j x (by omega) a⟩;simpa using d
  | true=>
   rw[hh,if_pos rfl]at d;have f:i<s.1.length:=by omega
   have q:=zF f;obtain⟨x,v,N,I,O,k4,_⟩:=Xv p n (Tq p b hh) b c C D;have r:∀y:ah,(s.1.set i y)[i]?=some y:=fun y=>afM s.1 i y f
   rw[q]at d;have J:=h i _ (az _) q;simp only[aM,aa,aO,I,k4,q,aD,r,zA];by_cases w:(textOf p b c).length<=120
   ·have e:decide (((textOf p b c).length:Int)>120)=false:=by simp;omega
    rw[if_pos w]at d;rw[e];simp only[aa];have keep:∀(y:ah) (j:Nat) (x:ah),i+1<=j->(s.1.set i y)[j]?=some x->1<=x.version/\x.version<=999:=fun y j x o a=>by
     rw[List.getElem?_set_ne (by omega)]at a;exact h j x (by omega) a
    have A:w64 (s.1[i].version+1)=s.1[i].version+1:=bK (by omega) (by omega);have hset:∀y z:ah,(s.1.set i y).set i z=s.1.set i z:=fun y z=>by rw[List.set_set]
    refine .inl ⟨(s.1.set i (Xq true (textOf p b c) s.1[i]),s.2||(true&&decide (s.1[i].version>=999))),?_,by simp[m],d,fun j x o a=>keep _ j x o a⟩;by_cases B:s.1[i].version=999
    ·have t:(s.1[i].version==999)=true:=by simp[B]
     have u:decide (s.1[i].version>=999)=true:=by simp;omega
     simp only[t,u,ac,Bool.true_and,Bool.or_true,A,hset];rfl
    ·have t:(s.1[i].version==999)=false:=by simpa using B
     have u:decide (s.1[i].version>=999)=false:=by simp;omega
     simp only[t,u,aa,Bool.true_and,Bool.or_false,A,hset];rfl
   ·have e:decide (((textOf p b c).length:Int)>120)=true:=by simp;omega
    rw[if_neg w]at d;rw[e];simp only[ac,hcopy,zA];exact .inr ⟨_,rfl,by rw[<- d];rfl⟩
 ·obtain⟨m,d,h⟩:=l;rw[List.drop_length]at d;refine⟨abJ cs (some s),?_,by rw[<- d];rfl⟩;obtain⟨out,full⟩:=s;simp only[akX,bG,aa,hcopy,zA];cases full<;>rfl
end
end Go.Proofs.YtngjomkjlonfpaaGreatDoor
/- Plain laws: loops that scan, sizes, equality with itself. -/
namespace Go.Proofs.YtngjomkjlonfpaaGreatDoor
open Go.Abs Go.Proofs
def iw{α:Type}(p:α->Nat->Bool):List α->Nat->Bool
 | [],_=>true
 | x::r,i=>p x i&&iw p r (i+1)
theorem nM{α X:Type}{g:X->Option (X⊕Bool)}(pk:Nat->X)(xs:List α)(p:α->Nat->Bool)(fin:Bool)
  (h1:∀i x,xs[i]?=some x->g (pk i)=bif p x i then some (.inl (pk (i+1)))else some (.inr false))
  (h2:g (pk xs.length)=some (.inr fin)):aA g (pk 0)=some (iw p xs 0&&fin):=by
 have key:∀(n i:Nat),xs.length=i+n->aA g (pk i)=some (iw p (xs.drop i) i&&fin):=by
  intro n;induction n with
  | zero=>
   intro i hi;rw[List.drop_eq_nil_of_le (by omega),aH];have:i=xs.length:=by omega
   subst this;rw[h2];simp[iw]
  | succ n ih=>
   intro i hi;have a:i<xs.length:=by omega
   rw[List.drop_eq_getElem_cons a,aH,h1 i xs[i] (zF a)];simp only[iw];cases p xs[i] i with
   | false=>simp
   | true=>simpa using ih (i+1) (by omega)
 simpa using key xs.length 0 (by omega)
def dB{α:Type}(p:α->Bool):List α->Nat->Int
 | [],_=>-1
 | x::r,i=>bif p x then (i:Int)else dB p r (i+1)
theorem uS{α X:Type}{g:X->Option (X⊕Int)}(pk:Nat->X)(xs:List α)(p:α->Bool)
  (h1:∀i x,xs[i]?=some x->g (pk i)=bif p x then some (.inr (i:Int))else some (.inl (pk (i+1))))
  (h2:g (pk xs.length)=some (.inr (-1))):aA g (pk 0)=some (dB p xs 0):=by
 have key:∀(n i:Nat),xs.length=i+n->aA g (pk i)=some (dB p (xs.drop i) i):=by
  intro n;induction n with
  | zero=>
   intro i hi;rw[List.drop_eq_nil_of_le (by omega),aH];have:i=xs.length:=by omega
   subst this;rw[h2];simp[dB]
  | succ n ih=>
   intro i hi;have a:i<xs.length:=by omega
   rw[List.drop_eq_getElem_cons a,aH,h1 i xs[i] (zF a)];simp only[dB];cases p xs[i]with
   | false=>simpa using ih (i+1) (by omega)
   | true=>simp
 simpa using key xs.length 0 (by omega)
end Go.Proofs.YtngjomkjlonfpaaGreatDoor
/- Plain laws of sizes, copies and equality, for every type of data. -/
namespace Go.Abs
theorem aW.aoX{L:Nat}{s:Str}(h:aW L (.str s)):s.length<=L:=by
 generalize a:D.str s=d at h;cases h<;>cases a
 assumption
theorem aW.wf{L:Nat}{k:IntKind}{n:Int}(h:aW L (.int k n)):(Lit.int k n).wf=true:=by
 generalize a:D.int k n=d at h;cases h<;>cases a
 assumption
theorem aW.aly{L:Nat}{t:Ty}{xs:List t.den}(h:aW L (.list t xs)):xs.length<=L:=by
 generalize a:D.list t xs=d at h;cases h<;>cases a
 assumption
def Fit(L:Nat)(t:Ty)(x:t.den):Prop:=∀d,d∈t.cells x->aW L d
theorem aW.bQ{L:Nat}{t:Ty}{xs:List t.den}(h:aW L (.list t xs)):∀x,x∈xs->Fit L t x:=by
 generalize b:D.list t xs=d at h;cases h<;>cases b
 rename_i c;intro x e d a;obtain⟨i,hi⟩:=List.mem_iff_getElem?.1 e;obtain⟨j,f⟩:=List.mem_iff_getElem?.1 a;exact c i x j d hi f
theorem aW.apg{L:Nat}{t:Ty}{xs:List t.den}(h:xs.length<=L)(a:∀x,x∈xs->Fit L t x):aW L (.list t xs):=
 .list t xs h fun _ x _ d hi b=>a x (zG hi) d (zG b)
theorem aW.mono{L L':Nat}(a:L<=L'){d:D}(h:aW L d):aW L' d:=by
 induction h with
 | int k n h=>exact .int k n h
 | bool b=>exact .bool b
 | str s h=>exact .str s (Nat.le_trans h a)
 | list t xs h _ ih=>exact .list t xs (Nat.le_trans h a) ih
theorem Fit.mono{L L':Nat}(a:L<=L'){t:Ty}{x:t.den}(h:Fit L t x):Fit L' t x:=fun d b=>(h d b).mono a
end Go.Abs
namespace Go.Proofs.YtngjomkjlonfpaaGreatDoor
open Go.Abs Go.Proofs
abbrev B47:Nat:=140737488351232
abbrev B20:Nat:=1048576
theorem dh{t:Ty}{xs:List t.den}(h:aW B20 (.list t xs)):(xs.length:Int)<=1048576:=by
 have h1:xs.length<=1048576:=h.aly;omega
theorem AY{s:Str}(h:aW B20 (.str s)):(s.length:Int)<=1048576:=by
 have h1:s.length<=1048576:=h.aoX;omega
theorem Ad{s:Str}(h:(s.length:Int)<=1048576):aW B20 (.str s):=.str s (by show s.length<=1048576;omega)
theorem gu{t:Ty}{xs:List t.den}(h:(xs.length:Int)<=1048576)(a:∀x,x∈xs->Fit B20 t x):aW B20 (.list t xs):=.apg (by show xs.length<=1048576;omega) a
def SzK{α:Type}(f:α->Int->Option Int)(P:Prop)(x:α)(c s:Nat):Prop:=
 ∀l:Int,0<=l->l<=1048576->∃r,f x l=some r/\(r<0\/(0<=r/\r<=l/\20*r+c<=20*l+s/\P))
end Go.Proofs.YtngjomkjlonfpaaGreatDoor
/- Sizes, copies and equality of this translation, by genbasic.py. -/
namespace Go.Proofs.YtngjomkjlonfpaaGreatDoor
noncomputable section
open Go.Abs Go.Proofs
theorem H9{v:aQ}:siz v.list<siz v:=by
 cases v;simp only[siz];rw[aQ.mk.sizeOf_spec];omega
theorem OV{α:Type}[SizeOf α]{x:α}{xs:List α}(h:x∈xs):siz x<siz xs:=List.sizeOf_lt_of_mem h
theorem O1{L:Nat}{x:cO}:Fit L (.base .row) x↔aW L (.list (.base .int) x.cells)/\aW L (.list (.base .origin) x.orig):=by
 simp only[Fit,Ty.cells,Base.cells,bc,List.not_mem_nil,or_false,forall_eq_or_imp,forall_eq]
theorem JG{L:Nat}{x:aQ}:Fit L (.base .val) x↔aW L (.int .i64 x.kind)/\aW L (.int .i64 x.n)/\aW L (.int .i64 x.step)/\aW L (.str x.text)/\aW L (.list (.base .val) x.list)/\aW L (.list (.base .str) x.columns)/\aW L (.list (.base .row) x.rows):=by
 simp only[Fit,Ty.cells,Base.cells,bc,List.not_mem_nil,or_false,forall_eq_or_imp,forall_eq]
theorem JH{L:Nat}{x:af}:Fit L (.base .expr) x↔aW L (.int .i64 x.kind)/\aW L (.int .i64 x.n)/\aW L (.str x.text)/\aW L (.list (.base .expr) x.args):=by
 simp only[Fit,Ty.cells,Base.cells,bc,List.not_mem_nil,or_false,forall_eq_or_imp,forall_eq]
theorem vV{L:Nat}{x:aN}:Fit L (.base .read) x↔aW L (.int .i64 x.kind)/\aW L (.int .i64 x.n)/\aW L (.int .i64 x.time)/\aW L (.str x.text)/\Fit L (.base .val) x.result:=by
 simp only[Fit,Ty.cells,Base.cells,bc,List.not_mem_nil,or_false,forall_eq_or_imp,forall_eq,and_assoc]
theorem fK{L:Nat}{x:ah}:Fit L (.base .cell) x↔aW L (.int .i64 x.id)/\aW L (.int .i64 x.version)/\aW L (.int .i64 x.kind)/\aW L (.str x.name)/\aW L (.str x.code)/\aW L (.int .i64 x.n):=by
 simp only[Fit,Ty.cells,Base.cells,bc,List.not_mem_nil,or_false,forall_eq_or_imp,forall_eq]
theorem vW{L:Nat}{x:dR}:Fit L (.base .edit) x↔aW L (.int .i64 x.kind)/\aW L (.int .i64 x.pos)/\Fit L (.base .cell) x.cell:=by
 simp only[Fit,Ty.cells,Base.cells,bc,List.not_mem_nil,or_false,forall_eq_or_imp,forall_eq,and_assoc]
theorem DT{L:Nat}{x:aK}:Fit L (.base .tape) x↔aW L (.int .i64 x.cell)/\aW L (.int .i64 x.version)/\aW L (.list (.base .read) x.reads):=by
 simp only[Fit,Ty.cells,Base.cells,bc,List.not_mem_nil,or_false,forall_eq_or_imp,forall_eq]
theorem fH{L:Nat}{x:ak}:Fit L (.base .notebook) x↔aW L (.list (.base .cell) x.cells):=by
 simp only[Fit,Ty.cells,Base.cells,bc,List.not_mem_nil,or_false,forall_eq_or_imp,forall_eq]
theorem AB{L:Nat}{x:GOp}:Fit L (.base .op) x↔aW L (.int .i64 x.time)/\aW L (.int .i64 x.by_)/\aW L (.int .i64 x.kind)/\aW L (.list (.base .int) x.seen)/\Fit L (.base .edit) x.edit/\aW L (.str x.src)/\aW L (.str x.dst)/\aW L (.int .i64 x.cell)/\aW L (.int .i64 x.version)/\aW L (.list (.base .read) x.reads):=by
 simp only[Fit,Ty.cells,Base.cells,bc,List.not_mem_nil,or_false,forall_eq_or_imp,forall_eq,and_assoc]
theorem tZ{L:Nat}{x:aB}:Fit L (.base .document) x↔Fit L (.base .notebook) x.notebook/\aW L (.list (.base .tape) x.tapes)/\aW L (.list (.base .op) x.renames):=by
 simp only[Fit,Ty.cells,Base.cells,bc,List.not_mem_nil,or_false,forall_eq_or_imp,forall_eq,and_assoc]
def al8(xs:List Int):Nat:=(xs.map fun _=>1).sum
def TF(xs:List Str):Nat:=(xs.map fun _=>1).sum
def aeJ(x:dN):Nat:=1+1
def aeI(xs:List dN):Nat:=(xs.map aeJ).sum
def al7(x:cO):Nat:=al8 x.cells+aeI x.orig
def afQ(xs:List cO):Nat:=(xs.map al7).sum
def ahD(xs:List aQ):Nat:=aQ.rec_1 (motive_1:=fun _=>Nat) (motive_2:=fun _=>Nat) (fun a0 e f g h c d ih=>1+1+1+1+ih+TF c+afQ d) 0 (fun _ _ a b=>a+b) xs
def eH(x:af):Nat:=af.rec (motive_1:=fun _=>Nat) (motive_2:=fun _=>Nat) (fun a0 c d e ih=>1+1+1+ih) 0 (fun _ _ a b=>a+b) x
def nY(xs:List af):Nat:=af.rec_1 (motive_1:=fun _=>Nat) (motive_2:=fun _=>Nat) (fun a0 c d e ih=>1+1+1+ih) 0 (fun _ _ a b=>a+b) xs
theorem D7(x:af):eH x=1+1+1+nY x.args:=by cases x;rfl
theorem jS:∀xs:List af,nY xs=(xs.map eH).sum
 | []=>rfl
 | x::xs=>by rw[List.map_cons,List.sum_cons,<- jS xs];rfl
def ab3(x:aN):Nat:=1+1+1+1+1+1+1+1+ahD x.result.list+TF x.result.columns+afQ x.result.rows
def jR(xs:List aN):Nat:=(xs.map ab3).sum
theorem D6(xs:List aN):jR xs=(xs.map ab3).sum:=rfl
def D5(x:aK):Nat:=1+1+jR x.reads
def lq(xs:List aK):Nat:=(xs.map D5).sum
theorem NW(x:aK):D5 x=1+1+jR x.reads:=by
 unfold D5;simp only[Nat.add_assoc];try omega
theorem sD(xs:List aK):lq xs=(xs.map D5).sum:=rfl
end
end Go.Proofs.YtngjomkjlonfpaaGreatDoor
/- Plain laws that hold of no one function: loops, Booleans, the first steps of a law. -/
namespace Go.Proofs.YtngjomkjlonfpaaGreatDoor
open Go.Abs Go.Proofs
abbrev lim:Nat:=4611686018427387904
theorem dX{n:Nat}(h:(n:Int)<=1048576):n<lim:=by
 show n<4611686018427387904
 omega
theorem cZ{a b:Nat}(h:a<b):decide ((a:Int)<(b:Int))=true:=by simpa using h
theorem aT{a:Nat}:decide ((a:Int)<(a:Int))=false:=by simp
theorem dF{i n:Nat}(h:i<n)(a:n<lim):w64 ((i:Int)+1)=((i+1:Nat):Int):=by
 have c:(i:Int)<(n:Int):=Int.ofNat_lt.2 h;have b:(n:Int)<4611686018427387904:=Int.ofNat_lt.2 a;rw[bK (by omega) (by omega)];rfl
theorem dnlt(a b:Int):decide (a<b) = !decide (a>=b):=by
 by_cases h:a<b
 ·simp[h]
 ·simp[h];omega
theorem dngt(a b:Int):decide (a>b) = !decide (a<=b):=by
 by_cases h:a>b
 ·simp[h]
 ·simp[h];omega
theorem aki(a b:Str):(a==b)=(b==a):=by
 by_cases h:a=b
 ·subst h;rfl
 ·rw[beq_eq_false_iff_ne.2 h,beq_eq_false_iff_ne.2 (Ne.symm h)]
theorem Ae{α σ ρ X:Type}{g:X->Option (X⊕ρ)}(pk:σ->Nat->X)(xs:List α)(f:σ->α->σ)(fin:σ->ρ)
  (h1:∀i x s,xs[i]?=some x->g (pk s i)=some (.inl (pk (f s x) (i+1))))
  (h2:∀s,g (pk s xs.length)=some (.inr (fin s))) (s:σ):aA g (pk s 0)=some (fin (xs.foldl f s)):=by
 have key:∀(n i:Nat) (s:σ),xs.length=i+n->aA g (pk s i)=some (fin ((xs.drop i).foldl f s)):=by
  intro n;induction n with
  | zero=>
   intro i s hi;rw[List.drop_eq_nil_of_le (by omega),aH];have:i=xs.length:=by omega
   subst this;rw[h2];rfl
  | succ n ih=>
   intro i s hi;have a:i<xs.length:=by omega
   rw[List.drop_eq_getElem_cons a,aH,h1 i xs[i] s (zF a)];exact ih (i+1) (f s xs[i]) (by omega)
 simpa using key xs.length 0 s (by omega)
theorem agi{α X ρ:Type}{g:X->Option (X⊕ρ)}(pk:Nat->X)(xs:List α)(p:α->Bool)(no:ρ)(fin:Option ρ)
  (h1:∀i x,xs[i]?=some x->g (pk i)=bif p x then some (.inl (pk (i+1)))else some (.inr no))
  (h2:g (pk xs.length)=fin.bind fun r=>some (.inr r)):aA g (pk 0)=bif xs.all p then fin else some no:=by
 have key:∀(n i:Nat),xs.length=i+n->aA g (pk i)=bif (xs.drop i).all p then fin else some no:=by
  intro n;induction n with
  | zero=>
   intro i hi;rw[List.drop_eq_nil_of_le (by omega),aH];have:i=xs.length:=by omega
   subst this;rw[h2];cases fin<;>rfl
  | succ n ih=>
   intro i hi;have a:i<xs.length:=by omega
   rw[List.drop_eq_getElem_cons a,aH,h1 i xs[i] (zF a)];simp only[List.all_cons];cases p xs[i]with
   | false=>rfl
   | true=>simpa using ih (i+1) (by omega)
 simpa using key xs.length 0 (by omega)
theorem acG{α X ρ:Type}{g:X->Option (X⊕ρ)}(pk:Nat->X)(z:X)(a:pk 0=z)(xs:List α)(p:α->Bool)(no:ρ)(fin:Option ρ)
  (h1:∀i x,xs[i]?=some x->g (pk i)=bif p x then some (.inl (pk (i+1)))else some (.inr no))
  (h2:g (pk xs.length)=fin.bind fun r=>some (.inr r)):aA g z=bif xs.all p then fin else some no:=by
 rw[<- a];exact agi pk xs p no fin h1 h2
theorem Xb{α:Type}(p:α->Bool):∀(xs:List α) (i:Nat),iw (fun x _=>p x) xs i=xs.all p
 | [],_=>rfl
 | x::r,i=>by simp only[iw,List.all_cons,Xb p r]
theorem alW{α:Type}{x:Option α}(h:∃b,x=some b):∃b,x=some b/\x=some b:=by
 obtain⟨b,h⟩:=h;exact⟨b,h,h⟩
theorem apn{α:Type}{c:Bool}{x y:Option α}(h:∃b,x=some b)(a:∃b,y=some b):∃b,(bif c then x else y)=some b:=by
 cases c with
 | true=>exact h
 | false=>exact a
theorem Aj(a b c:Int):iU a b c=some (decide (b<=a)&&decide (a<=c)):=by
 unfold iU;cases decide (b<=a)<;>rfl
theorem fO(a b c:Int):lS a b c=some (decide (b<=a)&&decide (a<=c)):=by
 unfold lS;show (bif decide (b<=a)then _ else _)=_
 cases decide (b<=a)<;>rfl
end Go.Proofs.YtngjomkjlonfpaaGreatDoor
/- Plain laws: OpBefore, StampVersion, IsValidOp, CountBy, LastTime. -/
namespace Go.Proofs.YtngjomkjlonfpaaGreatDoor
open Go.Abs Go.Proofs
theorem X5(a:List GOp)(b:Int)(h:a.length<lim):∃v,yx a b=some v/\(v=0\/∃n,v=w64 n):=by
 have wf:∀(xs:List GOp) (s:Int),(s=0\/∃n,s=w64 n)->(xs.foldl (fun s x=>bif x.by_==b then w64 (s+1)else s) s=0\/∃n,xs.foldl (fun s x=>bif x.by_==b then w64 (s+1)else s) s=w64 n):=by
  intro xs;induction xs with
  | nil=>exact fun s d=>d
  | cons x xs ih=>
   intro s d;refine ih _ ?_;show (bif x.by_==b then w64 (s+1)else s)=0\/∃n,(bif x.by_==b then w64 (s+1)else s)=w64 n
   cases x.by_==b with
   | true=>exact .inr ⟨_,rfl⟩
   | false=>exact d
 refine⟨a.foldl (fun s x=>bif x.by_==b then w64 (s+1)else s) 0,?_,wf a 0 (.inl rfl)⟩
 ·refine Ae (fun (s:Int) i=>((a,b,s,(i:Int)):List GOp×Int×Int×Int)) a (fun s x=>bif x.by_==b then w64 (s+1)else s) id (fun i x s e=>?_) (fun s=>?_) 0
  ·obtain⟨c,rfl⟩:=zC.1 e;simp only[cZ c,ac,au,e,zA,dF c h];cases a[i].by_==b<;>rfl
  ·simp only[aT,aa];rfl
theorem abZ(a:List GOp)(b:Int)(h:a.length<lim):∃v,yx a b=some v/\JA a b=some v/\(v=0\/∃n,v=w64 n):=by
 have wf:∀(xs:List GOp) (s:Int),(s=0\/∃n,s=w64 n)->(xs.foldl (fun s x=>bif x.by_==b then w64 (s+1)else s) s=0\/∃n,xs.foldl (fun s x=>bif x.by_==b then w64 (s+1)else s) s=w64 n):=by
  intro xs;induction xs with
  | nil=>exact fun s e=>e
  | cons x xs ih=>
   intro s e;refine ih _ ?_;show (bif x.by_==b then w64 (s+1)else s)=0\/∃n,(bif x.by_==b then w64 (s+1)else s)=w64 n
   cases x.by_==b with
   | true=>exact .inr ⟨_,rfl⟩
   | false=>exact e
 refine⟨a.foldl (fun s x=>bif x.by_==b then w64 (s+1)else s) 0,?_,?_,wf a 0 (.inl rfl)⟩
 ·refine Ae (fun (s:Int) i=>((a,b,s,(i:Int)):List GOp×Int×Int×Int)) a (fun s x=>bif x.by_==b then w64 (s+1)else s) id (fun i x s d=>?_) (fun s=>?_) 0
  ·obtain⟨c,rfl⟩:=zC.1 d;simp only[cZ c,ac,au,d,zA,dF c h];cases a[i].by_==b<;>rfl
  ·simp only[aT,aa];rfl
 ·refine Ae (fun (s:Int) i=>((b,s,a,(a.length:Int),(i:Int)):Int×Int×List GOp×Int×Int)) a (fun s x=>bif x.by_==b then w64 (s+1)else s) id (fun i x s d=>?_) (fun s=>?_) 0
  ·obtain⟨c,rfl⟩:=zC.1 d;simp only[cZ c,ac,au,d,zA,dF c h];cases a[i].by_==b<;>rfl
  ·simp only[aT,aa];rfl
theorem aeG(a:List GOp)(b:Int)(h:a.length<lim):∃v,yx a b=some v/\JA a b=some v:=by
 obtain⟨v,c,d,_⟩:=abZ a b h;exact⟨v,c,d⟩
theorem Ut(a:List GOp)(h:a.length<lim):Kt a=some (a.foldl (fun s x=>if x.time>s then x.time else s) 0):=by
 ·refine Ae (fun (s:Int) i=>((a,s,(i:Int)):List GOp×Int×Int)) a (fun s x=>if x.time>s then x.time else s) id (fun i x s c=>?_) (fun s=>?_) 0
  ·obtain⟨b,rfl⟩:=zC.1 c;have e:pF s a[i].time=some (if a[i].time>s then a[i].time else s):=by
    unfold pF;by_cases h1:s>a[i].time
    ·rw[aq h1,if_neg (by omega)];rfl
    ·rw[ae h1,aa];by_cases h2:a[i].time>s
     ·rw[if_pos h2]
     ·rw[if_neg h2];congr 1;omega
   simp only[cZ b,ac,au,c,zA,dF b h,e]
  ·simp only[aT,aa];rfl
def amr(s:List Int):Bool:=iw (fun n _=>decide (0<=n)&&decide (n<=60)) s 0
theorem ZX(a:List Int)(h:a.length<lim):PW a=some (amr a&&((a.length:Int)==3)):=by
 refine nM (fun i=>((a,(i:Int)):List Int×Int)) a _ _ (fun i x c=>?_) ?_
 ·obtain⟨b,rfl⟩:=zC.1 c;simp only[cZ b,ac,au,c,zA,dF b h,fO];cases (decide (0<=a[i])&&decide (a[i]<=60))<;>rfl
 ·simp only[aT,aa]
end Go.Proofs.YtngjomkjlonfpaaGreatDoor
