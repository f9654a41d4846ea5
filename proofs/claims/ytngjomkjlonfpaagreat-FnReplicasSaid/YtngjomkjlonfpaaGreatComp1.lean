import Derived.Test.YtngjomkjlonfpaaGreatFree1
import Derived.Test.YtngjomkjlonfpaaGreatPlain1
set_option linter.unusedSimpArgs false
set_option linter.unusedVariables false
/- Plain laws: notebooks compiled: CompileAll alike on both sides. -/
namespace Go.Proofs.YtngjomkjlonfpaaGreat
open Go.Abs Go.Proofs
noncomputable def errOf(w:Int):Nat->List Str->Int
 | _,[]=>-1
 | i,p::r=>if ((rowOf w p).isNone||decide (12<=i))=true then ((i+1:Nat):Int)else errOf w (i+1) r
theorem Rl(w:Int){ps:List Str}{i:Nat}{p:Str}(h:ps[i]?=some p):errOf w i (ps.drop i)=if ((rowOf w p).isNone||decide (12<=i))=true then ((i+1:Nat):Int)else errOf w (i+1) (ps.drop (i+1)):=by
 obtain⟨hi,rfl⟩:=zC.1 h;rw[List.drop_eq_getElem_cons hi];rfl
theorem ajI(a:Str)(r:a.length<=120){b:Str}{ps:List Str}(k:Go.Lib.split a [59,32]=b::ps)(m:(dataOf b ps).2=false) :
  Gl a=some (bif DI (Go.Lib.split b [32])then errOf ((Go.Lib.split b [32]).length:Int) 0 ps else 0):=by
 obtain⟨o,n⟩:=jy a [59,32];rw[k]at o n;have B:=n b (by simp);obtain⟨s,q⟩:=jy b [32];unfold Gl;have t:rU a [59,32]=some (b::ps):=by
  unfold rU;rw[if_pos ⟨by omega,by simp⟩,k]
 have u:oz b 32=some (Go.Lib.split b [32]):=KL b 32 (by omega);have v:idx (b::ps) 0=some b:=rfl;have w:(b::ps)[0]?=some b:=rfl;have y:qK a=some ((dataOf b ps).1,false):=by rw[Q7 a r k,<- m]
 have z:=ZB (Go.Lib.split b [32]) (by omega) (fun x c=>by have:=q x c;omega);simp only[y,aa,t,v,w,u,z,ZU,zA];generalize Go.Lib.split b [32]=cols at s q;cases DI cols with
 | false=>rfl
 | true=>
  simp only[aE,aa,ab];refine vk (dL (fun (_:Unit) (i:Nat)=>((cols,ps,(ps.length:Int),(i:Int)):(List Str)×(List Str)×Int×Int)) ps (fun i _=>errOf (cols.length:Int) i (ps.drop i)=errOf (cols.length:Int) 0 ps) _ (fun i p out c f=>?_) (fun out f=>?_) () rfl)
  ·have A:=n p (ao _ (zG c));obtain⟨l,ok,e,g⟩:=ac5 (cols.length:Int) p (by omega);simp only[List.length_cons]at o;have h:=Rl (cols.length:Int) c;simp only[dn c,ab,au,c,zA,e,dm c (by omega)];rcases g with ⟨rfl,g⟩ | ⟨rfl,g⟩
   ·rw[g]at h;exact .inr ⟨_,rfl,by rw[<- f,h];rfl⟩
   ·rw[g]at h;by_cases j:12<=i
    ·have d:decide ((i:Int)>=12)=true:=by simp;omega
     rw[d];refine .inr ⟨_,rfl,?_⟩;rw[<- f,h,ae j];rfl
    ·have d:decide ((i:Int)>=12)=false:=by simp;omega
     rw[d];refine .inl ⟨(),rfl,?_⟩;rw[<- f,h,ac j];rfl
  ·refine⟨_,by simp only[bP,aa];rfl,?_⟩;rw[<- f,List.drop_length];rfl
theorem aiU(a:Str)(C:a.length<=120){b:Str}{ps:List Str}(o:Go.Lib.split a [59,32]=b::ps) :
  zS a=some (bif DI (Go.Lib.split b [32])then errOf ((Go.Lib.split b [32]).length:Int) 0 ps else 0):=by
 obtain⟨q,k⟩:=jy a [59,32];rw[o]at q k;have D:=k b (by simp);obtain⟨s,r⟩:=jy b [32];unfold zS;have t:uf a=some (b::ps):=by rw[UA a (by omega),o]
 have u:jM b 32=some (Go.Lib.split b [32]):=JR b 32 (by omega);have v:idx (b::ps) 0=some b:=rfl;have w:(b::ps)[0]?=some b:=rfl;have y:=YI (Go.Lib.split b [32]) (by omega) (fun x c=>by have:=r x c;omega);simp only[t,v,w,u,y,zA];generalize Go.Lib.split b [32]=cols at s r;cases DI cols with
 | false=>rfl
 | true=>
  simp only[aE,aa,ab];refine vk (dL (fun (_:Unit) (i:Nat)=>((b::ps,cols,((i+1:Nat):Int)):(List Str)×(List Str)×Int)) ps (fun i _=>errOf (cols.length:Int) i (ps.drop i)=errOf (cols.length:Int) 0 ps) _ (fun i p out c f=>?_) (fun out f=>?_) () rfl)
  ·have z:=k p (ao _ (zG c));obtain⟨l,ok,e,g⟩:=ac4 (cols.length:Int) p (by omega);have A:=(zC.1 c).1;simp only[List.length_cons]at q;have h:=Rl (cols.length:Int) c;have m:decide (((i+1:Nat):Int)<((b::ps).length:Int))=true:=by simp;omega
   have n:(b::ps)[i+1]?=some p:=by simpa using c
   have B:w64 (((i+1:Nat):Int)+1)=((i+1+1:Nat):Int):=by rw[bM (by omega) (by omega)];omega
   simp only[m,ab,au,n,zA,aw,e,B];rcases g with ⟨rfl,g⟩ | ⟨rfl,g⟩
   ·rw[g]at h;exact .inr ⟨_,rfl,by rw[<- f,h];rfl⟩
   ·rw[g]at h;by_cases j:12<=i
    ·have d:decide (((i+1:Nat):Int)>12)=true:=by simp;omega
     rw[d];refine .inr ⟨_,rfl,?_⟩;rw[<- f,h,ae j];rfl
    ·have d:decide (((i+1:Nat):Int)>12)=false:=by simp;omega
     rw[d];refine .inl ⟨(),rfl,?_⟩;rw[<- f,h,ac j];rfl
  ·have m:decide (((ps.length+1:Nat):Int)<((b::ps).length:Int))=false:=by simp
   refine⟨_,by simp only[m,aa];rfl,?_⟩;rw[<- f,List.drop_length];rfl
def nD(c:Int)(i:Nat)(r:dh):dh:=⟨r.cells,[⟨c,(i:Int)⟩]⟩
theorem acY{ρ X:Type}{g:X->Option (X⊕ρ)}(pk:List dh->Nat->X)(c:Int)(rows:List dh)(r:ρ)
  (h:∀i x out,out.length=rows.length->i<rows.length->out[i]?=some x->g (pk out i)=some (.inl (pk (out.set i (nD c i x)) (i+1))))
  (j:g (pk (ja (nD c) 0 rows) rows.length)=some (.inr r)):aA g (pk rows 0)=some r:=by
 have key:∀(k i:Nat) (a b:List dh),rows.length=i+k->a.length=i->b.length=k->a++ja (nD c) i b=ja (nD c) 0 rows->aA g (pk (a++b) i)=some r:=by
  intro k;induction k with
  | zero=>
   intro i a b hi e d f;have:b=[]:=List.length_eq_zero_iff.1 d;subst this;rw[ja,List.append_nil]at f;rw[List.append_nil,f,aF,show i=rows.length by omega,j]
  | succ k ih=>
   intro i a b hi e d f;cases b with
   | nil=>simp at d
   | cons x b=>
    have l:(a++x::b)[i]?=some x:=by rw[<- e];simp
    rw[aF,h i x _ (by simp at d ⊢;omega) (by omega) l];simp only;have hset:(a++x::b).set i (nD c i x)=(a++[nD c i x])++b:=by
     rw[List.set_append_right _ _ (by omega),e,Nat.sub_self];simp
    rw[hset];refine ih (i+1) (a++[nD c i x]) b (by omega) (by simp[e]) (by simpa using d) ?_;rw[a6];exact f
 exact key rows.length 0 [] rows (by omega) rfl rfl rfl
theorem ahf{X ρ:Type}{f:X->Option (X⊕ρ)}{a:X}{q:Option ρ}{v:ρ}(h:f a=q.bind fun r=>some (.inr r))(b:q=some v):aA f a=some v:=by
 rw[aF,h,b];rfl
theorem ahB(r:dh)(h:r.cells.length<=1048576)(a:r.orig.length<=1048576):yU r=some r:=by
 unfold yU;rw[gdp (by omega),zA,gdp (by omega),zA];cases r;rfl
theorem agc(r:dh)(h:r.cells.length<=1048576)(a:r.orig.length<=1048576):JW r=some r:=by
 unfold JW;rw[gdp (by omega),zA,gdp (by omega),zA];cases r;rfl
theorem Ir(v:aS):dK v=v:=by cases v;rfl
structure ais(cols:List Str)(rows:List dh):Prop where
 cl:cols.length<=122
 ct:∀x,x∈cols->x.length<=120
 rl:rows.length<=122
 rr:∀r,r∈rows->r.orig=[]/\r.cells.length<=122
theorem ahE(cols:List Str)(rows:List dh)(h:ais cols rows):oD ⟨5,0,0,[],[],cols,rows⟩=some ⟨5,0,0,[],[],cols,rows⟩:=by
 have f:=h.cl;have g:=h.rl;unfold oD;obtain⟨m,b⟩:∃m,siz (⟨5,0,0,[],[],cols,rows⟩:aS)+1=m+1+1:=⟨siz (⟨5,0,0,[],[],cols,rows⟩:aS)-1,by
  have:1<=siz (⟨5,0,0,[],[],cols,rows⟩:aS):=by simp only[siz];rw[aS.mk.sizeOf_spec];omega
  omega⟩
 rw[b];show rY (dQ (m+1)).1 (dQ (m+1)).2 _=_
 unfold rY;have c:(dQ (m+1)).2 []=some []:=by
  show pM (dQ m).1 (dQ m).2 []=_
  unfold pM;rw[aF];rfl
 have d:gd (0+cols.length)=some ():=gdp (by omega);simp only[c,d,zA];refine Ej (fun (out:List dh) (i:Nat)=>((0,0,0,[],[],[],[],5,0,0,[],[],[]++cols,out,rows,(rows.length:Int),(i:Int)):Int×Int×Int×Str×(List aS)×(List Str)×(List dh)×Int×Int×Int×Str×(List aS)×(List Str)×(List dh)×(List dh)×Int×Int)) rows (fun _ r=>r) _ (fun i r out a j=>?_) ?_
 ·obtain⟨e,k⟩:=h.rr r (zG a);have hi:=(zC.1 a).1;simp only[dn a,ab,au,a,zA,ahB r (by omega) (by rw[e];simp),dm a (by omega)];rw[gdp (by simp;omega)];rfl
 ·simp only[bP,aa,vC];rfl
theorem agv(cols:List Str)(rows:List dh)(h:ais cols rows):D6 ⟨5,0,0,[],[],cols,rows⟩=some ⟨5,0,0,[],[],cols,rows⟩:=by
 have d:=h.cl;have e:=h.rl;show Cb (yj _) _=_
 unfold Cb;have b:gd (0+cols.length)=some ():=gdp (by omega);simp only[b,zA];refine ahf (by simp only[List.length_nil,Int.ofNat_zero,Int.lt_irrefl,decide_false,aa];rfl) ?_;refine Ej (fun (out:List dh) (i:Nat)=>((5,0,0,[],[],cols,rows,0,0,0,[],[],[],[],5,0,0,[],[],[]++cols,out,(i:Int)):Int×Int×Int×Str×(List aS)×(List Str)×(List dh)×Int×Int×Int×Str×(List aS)×(List Str)×(List dh)×Int×Int×Int×Str×(List aS)×(List Str)×(List dh)×Int)) rows (fun _ r=>r) _ (fun i r out a f=>?_) ?_
 ·obtain⟨c,g⟩:=h.rr r (zG a);have hi:=(zC.1 a).1;simp only[dn a,ab,au,a,zA,agc r (by omega) (by rw[c];simp),dm a (by omega)];rw[gdp (by simp;omega)];rfl
 ·simp only[bP,aa,vC];rfl
theorem aci(c:Int)(m:0<=c)(cols:List Str)(rows:List dh)(h:ais cols rows)(a:JM cols rows=true):Aj c ⟨5,0,0,[],[],cols,rows⟩=some ⟨5,0,0,[],[],cols,ja (nD c) 0 rows⟩:=by
 have b:=h.cl;have e:=h.rl;have f:=Jd cols rows (by omega) h.ct (fun r g=>by have:=h.rr r g;exact⟨this.1,by omega⟩);have d:decide (c<0)=false:=by simp;omega
 unfold Aj;simp only[Ir,f,a,ahE cols rows h,d,zA,aE,aa];refine (acY (fun (out:List dh) (i:Nat)=>((c,0,0,0,[],[],[],[],5,0,0,[],[],cols,out,(rows.length:Int),(i:Int)):Int×Int×Int×Int×Str×(List aS)×(List Str)×(List dh)×Int×Int×Int×Str×(List aS)×(List Str)×(List dh)×Int×Int)) c rows _ (fun i x out n hi j=>?_) ?_)
 ·have k:decide ((i:Int)<(rows.length:Int))=true:=by simp;omega
  have l:w64 ((i:Int)+1)=((i+1:Nat):Int):=by rw[bM (by omega) (by omega)];omega
  simp only[k,ab,au,j,zA,aw,l];rfl
 ·simp only[bP,aa]
theorem aaG(c:Int)(m:0<=c)(cols:List Str)(rows:List dh)(h:ais cols rows)(b:JM cols rows=true):sQ c ⟨5,0,0,[],[],cols,rows⟩=some ⟨5,0,0,[],[],cols,ja (nD c) 0 rows⟩:=by
 have e:=h.cl;have f:=h.rl;have g:=He cols rows (by omega) h.ct (fun r j=>by have:=h.rr r j;exact⟨this.1,by omega⟩);have d:decide (c<0)=false:=by simp;omega
 unfold sQ;simp only[Ir,g,b,agv cols rows h,d,zA,aE,aa];refine (acY (fun (out:List dh) (i:Nat)=>((c,0,0,0,[],[],[],[],5,0,0,[],[],cols,out,(i:Int)):Int×Int×Int×Int×Str×(List aS)×(List Str)×(List dh)×Int×Int×Int×Str×(List aS)×(List Str)×(List dh)×Int)) c rows _ (fun i x out n hi k=>?_) ?_)
 ·have a:decide ((i:Int)<(out.length:Int))=true:=by simp;omega
  have l:w64 ((i:Int)+1)=((i+1:Nat):Int):=by rw[bM (by omega) (by omega)];omega
  simp only[a,ab,au,k,zA,aw,l];rfl
 ·have a:decide ((rows.length:Int)<((ja (nD c) 0 rows).length:Int))=false:=by rw[Df];simp
  simp only[a,aa]
theorem Iy(a:Str)(h:a.length<=1048576):∃v,iI a=some v/\kN a=some v/\(v=true->a.length<=120):=by
 have e:iI a=kN a:=rfl;rw[e];have key:∃v,kN a=some v/\(v=true->a.length<=120):=by
  unfold kN;refine dL (fun (_:Unit) (i:Nat)=>((a,(i:Int)):Str×Int)) a (fun _ _=>True) _ (fun i x s b d=>?_) (fun s d=>?_) () trivial
  ·simp only[dn b,ab,au,b,zA,dm b (by omega)];cases decide ((x.toNat:Int)<32)with
   | true=>exact .inr ⟨false,rfl,fun h=>(by cases h)⟩
   | false=>
    cases decide ((x.toNat:Int)>126)with
    | true=>exact .inr ⟨false,rfl,fun h=>(by cases h)⟩
    | false=>exact .inl ⟨(),rfl,trivial⟩
  ·refine⟨_,by simp only[bP,aa];rfl,fun h=>?_⟩;simp at h;omega
 obtain⟨v,c,f⟩:=key;exact⟨v,c,c,f⟩
structure Vq(c:ah):Prop where
 id0:1<=c.id
 id9:c.id<=999
 v0:1<=c.version
 v9:c.version<=999
 code:c.code.length<=120
 kind:c.kind=1\/c.kind=2\/c.kind=3\/c.kind=4
 name:c.name.length<=8
theorem adH{a b c:Int}(h:(decide (b<=a)&&decide (a<=c))=true):b<=a/\a<=c:=by simpa using h
theorem Gv(c:ah)(y:c.name.length<=1048576)(l:c.code.length<=1048576):∃b,bV c=some b/\cZ c=some b/\(b=true->Vq c):=by
 obtain⟨v,m,n,o⟩:=Iy c.code l;obtain⟨u,g⟩:=mJ c.name (by omega);have p:bU c.name=some u:=by rw[<- oI c.name (by omega),g]
 have w1:∀a b d:Int,kX a b d=iH a b d:=fun a b d=>(Uj a b d).symm
 unfold bV cZ;simp only[w1,vI,m,n,g,p,zA];cases q:(decide (1<=c.id)&&decide (c.id<=999))with
 | false=>exact⟨false,rfl,rfl,fun h=>(by cases h)⟩
 | true=>
  cases r:(decide (1<=c.version)&&decide (c.version<=999))with
  | false=>exact⟨false,rfl,rfl,fun h=>(by cases h)⟩
  | true=>
   cases v with
   | false=>exact⟨false,rfl,rfl,fun h=>(by cases h)⟩
   | true=>
    have e:=adH q;have f:=adH r;have k:=o rfl;simp only[aE,aa];have no:∃b:Bool,(some false:Option Bool)=some b/\(some false:Option Bool)=some b/\(b=true->Vq c):=⟨false,rfl,rfl,fun h=>(by cases h)⟩;have named:∀z:Option Bool,(∃b,z=some b)->(c.kind=1\/c.kind=2\/c.kind=3\/c.kind=4)->∃b:Bool,(bif u then z else some false)=some b/\(bif u then z else some false)=some b/\(b=true->Vq c):=by
     intro z s i;obtain⟨b,rfl⟩:=s;cases u with
     | false=>exact no
     | true=>exact⟨b,rfl,rfl,fun _=>⟨e.1,e.2,f.1,f.2,k,i,LD c.name (by omega) g⟩⟩
    cases t:(c.kind==1)with
    | true=>
     simp only[ab];have i:c.kind=1:=eq_of_beq t;cases j:(c.name==[])with
     | false=>exact no
     | true=>exact⟨_,rfl,rfl,fun _=>⟨e.1,e.2,f.1,f.2,k,.inl i,by rw[eq_of_beq j];simp⟩⟩
    | false=>
     simp only[aa];cases w:(c.kind==2)with
     | true=>exact named _ ⟨_,rfl⟩ (.inr (.inl (eq_of_beq w)))
     | false=>
      simp only[aa];cases k4:(c.kind==4)with
      | true=>exact named _ ⟨_,rfl⟩ (.inr (.inr (.inr (eq_of_beq k4))))
      | false=>
       simp only[aa];cases x:(c.kind==3)with
       | true=>
        refine named _ ?_ (.inr (.inr (.inl (eq_of_beq x))));cases (c.code==[])<;>exact⟨_,rfl⟩
       | false=>exact no
structure qg(p:bJ):Prop where
 expr:p.kind=2->vX p.expr/\wtE p.expr<=40
 name:p.name.length<=8
theorem um(p:bJ):lF p=p:=by
 unfold lF;rw[aP,Ir]
theorem Uc(c:ah)(s:bV c=some true)(t:cZ c=some true)(b:Vq c):∃p,pU c=some p/\mQ c=some p/\qg p/\∀K,K=c.kind->(p.kind=2->K=2)/\(K=1->p.kind=1):=by
 have ne:∀(K k:Int) (n:Str) (e:af) (v:aS) (a:Int),¬k=2->n.length<=8->(K=1->k=1)->qg ⟨k,n,e,v,a⟩/\∀L,L=K->(k=2->L=2)/\(L=1->k=1):=fun K k n e v a m u f=>⟨⟨fun h=>absurd h m,u⟩,fun L o=>⟨fun h=>absurd h m,fun h=>f (by omega)⟩⟩
 unfold pU mQ;simp only[s,t,zA,aE,aa,Jg,fQ,oQ,lW,Ir,aP];rcases b.kind with k | k | k | k
 ·rw[k];exact⟨_,rfl,rfl,ne 1 _ _ _ _ _ (by decide) (by simp) fun _=>rfl⟩
 ·rw[k];obtain⟨e,p,f,i,j⟩:=MJ c.code;simp only[f,i,zA];by_cases g:p>=0
  ·rw[ae g];exact⟨_,rfl,rfl,ne 2 _ _ _ _ _ (by decide) b.name fun h=>absurd h (by decide)⟩
  ·rw[ac g];exact⟨_,rfl,rfl,⟨⟨fun _=>j (by omega),b.name⟩,fun L o=>⟨fun _=>o,fun h=>by omega⟩⟩⟩
 ·rw[k];exact⟨_,rfl,rfl,ne 3 _ _ _ _ _ (by decide) b.name fun h=>absurd h (by decide)⟩
 ·rw[k];obtain⟨v,ok,f,i,j⟩:=acv c.code b.code;simp only[f,i,zA];cases ok with
  | false=>
   obtain⟨w,ps,d⟩:=Qk c.code;have l:(dataOf w ps).2=false:=by
    have:=(Q7 c.code b.code d).symm.trans f;injection this with this;rw[this]
   rw[ajI c.code b.code d l,aiU c.code b.code d];exact⟨_,rfl,rfl,ne 4 _ _ _ _ _ (by decide) b.name fun h=>absurd h (by decide)⟩
  | true=>
   obtain⟨cols,rows,rfl,q,t1,x,y,z⟩:=j rfl;have r:ais cols rows:=⟨t1,x,y,z⟩;have A:=b.id0;rw[aci c.id (by omega) cols rows r q,aaG c.id (by omega) cols rows r q];exact⟨_,rfl,rfl,ne 4 _ _ _ _ _ (by decide) b.name fun h=>absurd h (by decide)⟩
def EQ(id:Int):Nat->List ah->Int
 | _,[]=>-1
 | i,c::r=>if (c.id==id)=true then (i:Int)else EQ id (i+1) r
theorem UQ(id:Int){cs:List ah}{i:Nat}{c:ah}(h:cs[i]?=some c):EQ id i (cs.drop i)=if (c.id==id)=true then (i:Int)else EQ id (i+1) (cs.drop (i+1)):=by
 obtain⟨hi,rfl⟩:=zC.1 h;rw[List.drop_eq_getElem_cons hi];rfl
theorem amF(cs:List ah)(id:Int)(f:cs.length<=1048576):iT ⟨cs⟩ id=some (EQ id 0 cs):=by
 unfold iT;refine vk (dL (fun (_:Unit) (i:Nat)=>((id,cs,(cs.length:Int),(i:Int)):Int×List ah×Int×Int)) cs (fun i _=>EQ id i (cs.drop i)=EQ id 0 cs) _ (fun i c s a b=>?_) (fun s b=>?_) () rfl)
 ·have d:=UQ id a;simp only[dn a,ab,au,a,zA,dm a (by omega)];cases e:(c.id==id)with
  | true=>exact .inr ⟨_,rfl,by rw[<- b,d,e];rfl⟩
  | false=>exact .inl ⟨(),rfl,by rw[<- b,d,e];rfl⟩
 ·exact⟨_,by simp only[bP,aa];rfl,by rw[<- b,List.drop_length];rfl⟩
theorem amx(cs:List ah)(id:Int)(f:cs.length<=1048576):jQ ⟨cs⟩ id=some (EQ id 0 cs):=by
 unfold jQ;refine vk (dL (fun (_:Unit) (i:Nat)=>((id,cs,(i:Int)):Int×List ah×Int)) cs (fun i _=>EQ id i (cs.drop i)=EQ id 0 cs) _ (fun i c s a b=>?_) (fun s b=>?_) () rfl)
 ·have d:=UQ id a;simp only[dn a,ab,au,a,zA,dm a (by omega)];cases e:(c.id==id)with
  | true=>exact .inr ⟨_,rfl,by rw[<- b,d,e];rfl⟩
  | false=>exact .inl ⟨(),rfl,by rw[<- b,d,e];rfl⟩
 ·exact⟨_,by simp only[bP,aa];rfl,by rw[<- b,List.drop_length];rfl⟩
structure lK(c:ah):Prop where
 name:c.name.length<=1048576
 code:c.code.length<=1048576
noncomputable def cellV(c:ah):Bool:=(bV c).getD false
theorem XG(c:ah)(h:lK c):bV c=some (cellV c):=by
 obtain⟨b,a,_⟩:=Gv c h.name h.code;unfold cellV;rw[a];rfl
theorem XF(c:ah)(h:lK c):cZ c=some (cellV c):=by
 obtain⟨b,a,d,_⟩:=Gv c h.name h.code;unfold cellV;rw[a,d];rfl
theorem aj3(c:ah)(h:lK c)(a:cellV c=true):Vq c:=by
 obtain⟨b,d,_,e⟩:=Gv c h.name h.code;refine e ?_;unfold cellV at a;rw[d]at a;exact a
noncomputable def vU(cs:List ah):Bool:=jd (fun i c=>cellV c&&(EQ c.id 0 cs==(i:Int))) 0 cs&&decide ((cs.length:Int)<=8)
theorem ZC(cs:List ah)(b:cs.length<=1048576)(h:∀c,c∈cs->lK c):iC ⟨cs⟩=some (vU cs):=by
 unfold iC vU;refine (pY (fun i=>((cs,cs,(cs.length:Int),(i:Int)):List ah×List ah×Int×Int)) cs (fun i c=>cellV c&&(EQ c.id 0 cs==(i:Int))) false (decide ((cs.length:Int)<=8)) (fun i c a=>?_) ?_).trans ?_
 ·simp only[dn a,ab,au,a,zA,XG c (h c (zG a)),amF cs c.id b,bne,dm a (by omega)];cases cellV c<;>cases (EQ c.id 0 cs==(i:Int))<;>rfl
 ·simp only[bP,aa]
 ·cases jd (fun i c=>cellV c&&(EQ c.id 0 cs==(i:Int))) 0 cs<;>rfl
theorem YK(cs:List ah)(b:cs.length<=1048576)(h:∀c,c∈cs->lK c):eU ⟨cs⟩=some (vU cs):=by
 unfold eU vU;refine (pY (fun i=>((cs,(i:Int)):List ah×Int)) cs (fun i c=>cellV c&&(EQ c.id 0 cs==(i:Int))) false (decide ((cs.length:Int)<=8)) (fun i c a=>?_) ?_).trans ?_
 ·simp only[dn a,ab,au,a,zA,XF c (h c (zG a)),amx cs c.id b,bne,dm a (by omega)];cases cellV c<;>cases (EQ c.id 0 cs==(i:Int))<;>rfl
 ·simp only[bP,aa]
 ·cases jd (fun i c=>cellV c&&(EQ c.id 0 cs==(i:Int))) 0 cs<;>rfl
theorem Ny{α:Type}{p:Nat->α->Bool}:∀ {i:Nat} {xs:List α},jd p i xs=true->∀x,x∈xs->∃j,p j x=true
 | i,y::r,h,x,a=>by
  have h:(p i y&&jd p (i+1) r)=true:=h;rw[zI]at h;rcases a8.1 a with rfl | a
  ·exact⟨i,h.1⟩
  ·exact Ny h.2 x a
theorem vS{cs:List ah}(h:∀c,c∈cs->lK c)(a:vU cs=true):cs.length<=8/\∀c,c∈cs->cellV c=true/\Vq c:=by
 unfold vU at a;rw[zI]at a;have e:=of_decide_eq_true a.2;refine⟨by omega,fun c d=>?_⟩;obtain⟨j,b⟩:=Ny a.1 c d;rw[zI]at b;exact⟨b.1,aj3 c (h c d) b.1⟩
theorem DF(cs:List ah)(z:cs.length<=1048576)(h:∀c,c∈cs->lK c):∃ps,oU ⟨cs⟩=some ps/\lX ⟨cs⟩=some ps/\(∀p,p∈ps->qg p)/\(vU cs=true->ps.length=cs.length)/\ps.length<=8/\∀(i:Nat) (p:bJ) (c:ah),ps[i]?=some p->cs[i]?=some c->(p.kind=2->c.kind=2)/\(c.kind=1->p.kind=1):=by
 unfold oU lX;simp only[ZC cs z h,YK cs z h,zA];cases C:vU cs with
 | false=>exact⟨[],rfl,rfl,fun p o=>(by cases o),fun h=>(by cases h),by simp,fun i p c h=>by simp at h⟩
 | true=>
  obtain⟨M,r⟩:=vS h C;simp only[aE,aa];have pt:∀c,c∈cs->∃p,pU c=some p/\mQ c=some p/\qg p/\(p.kind=2->c.kind=2)/\(c.kind=1->p.kind=1):=fun c s=>by
   obtain⟨A,D⟩:=r c s;obtain⟨p,t,u,k,E⟩:=Uc c (by rw[XG c (h c s),A]) (by rw[XF c (h c s),A]) D;exact⟨p,t,u,k,E _ rfl⟩
  have key:=VG (ρ:=List bJ) (f:=fun (a:(List bJ)×(List ah)×Int×Int)=>
   bif (decide (a.2.2.2<a.2.2.1))then
    (idx a.2.1 a.2.2.2).bind fun k=>
    (pU k).bind fun l=>
    (gd (a.1.length+[lF l].length)).bind fun _=>
    some (.inl (a.1++[lF l],a.2.1,a.2.2.1,w64 (a.2.2.2+1)))
   else
    some (.inr (a.1))) (g:=fun (a:(List ah)×(List bJ)×Int)=>
   bif (decide (a.2.2<(a.1.length:Int)))then
    (idx a.1 a.2.2).bind fun k=>
    (mQ k).bind fun l=>
    (gd (a.2.1.length+[lF l].length)).bind fun _=>
    some (.inl (a.1,a.2.1++[lF l],w64 (a.2.2+1)))
   else
    some (.inr (a.2.1))) (fun (out:List bJ) (i:Nat)=>((out,cs,(cs.length:Int),(i:Int)):(List bJ)×(List ah)×Int×Int)) (fun (out:List bJ) (i:Nat)=>((cs,out,(i:Int)):(List ah)×(List bJ)×Int)) cs (fun i out=>out.length=i/\(∀p,p∈out->qg p)/\∀(j:Nat) (p:bJ) (c:ah),out[j]?=some p->cs[j]?=some c->(p.kind=2->c.kind=2)/\(c.kind=1->p.kind=1)) (fun ps=>ps.length=cs.length/\(∀p,p∈ps->qg p)/\∀(i:Nat) (p:bJ) (c:ah),ps[i]?=some p->cs[i]?=some c->(p.kind=2->c.kind=2)/\(c.kind=1->p.kind=1)) (fun i c out b d=>.inl ?_) (fun out d=>⟨out,by simp only[bP,aa],by simp only[bP,aa],d⟩) [] ⟨rfl,fun p o=>(by cases o),fun j p c h=>by simp at h⟩
  ·obtain⟨ps,t,u,F,G,H⟩:=key;exact⟨ps,t,u,G,fun _=>F,by omega,H⟩
  ·obtain⟨p,I,J,K,L⟩:=pt c (zG b);have hi:=(zC.1 b).1;have B:gd (out.length+[p].length)=some ():=gdp (by simp;omega);refine⟨out++[p],?_,?_,by simp[d.1],fun q m=>?_,fun j q y n v=>?_⟩
   ·simp only[dn b,ab,au,b,zA,I,um,B,dm b (by omega)]
   ·simp only[dn b,ab,au,b,zA,J,um,B,dm b (by omega)]
   ·rcases List.mem_append.1 m with m | m
    ·exact d.2.1 q m
    ·rw[List.mem_singleton.1 m];exact K
   ·by_cases w:j<out.length
    ·rw[List.getElem?_append_left w]at n;exact d.2.2 j q y n v
    ·have x:=(zC.1 n).1;simp at x;have e:j=i:=by have:=d.1;omega
     subst e;rw[List.getElem?_append_right (by omega),d.1,Nat.sub_self]at n;rw[b]at v;cases n
     cases v
     exact L
theorem Ud(cs:List ah)(a:cs.length<=1048576)(h:∀c,c∈cs->lK c):∃ps,oU ⟨cs⟩=some ps/\lX ⟨cs⟩=some ps/\(∀p,p∈ps->qg p)/\(vU cs=true->ps.length=cs.length)/\ps.length<=8:=by
 obtain⟨ps,b,d,e,f,g,_⟩:=DF cs a h;exact⟨ps,b,d,e,f,g⟩
end Go.Proofs.YtngjomkjlonfpaaGreat
/- Plain laws: what a part uses, and who defines a name: the two programs alike. -/
namespace Go.Proofs.YtngjomkjlonfpaaGreat
open Go.Abs Go.Proofs
noncomputable def sJ(p:bJ):List Str:=(sO p).getD []
theorem DX(p:bJ)(h:qg p):wR p=some (sJ p)/\sO p=some (sJ p)/\(sJ p).length<=1000:=by
 have key:∃ys,wR p=some ys/\sO p=some ys/\ys.length<=1000:=by
  unfold wR sO;by_cases b:p.kind=2
  ·have e:(p.kind != 2)=false:=by rw[b];rfl
   obtain⟨f,g⟩:=h.expr b;obtain⟨ys,c,a,_,i,_⟩:=Bl p.expr (by omega);rw[e];simp only[aa,aP,c,a,zA];exact⟨ys,rfl,rfl,by omega⟩
  ·have e:(p.kind != 2)=true:=by simpa using b
   rw[e];exact⟨[],rfl,rfl,by simp⟩
 obtain⟨ys,c,a,d⟩:=key;have e:sJ p=ys:=by unfold sJ;rw[a];rfl
 rw[e];exact⟨c,a,d⟩
noncomputable def KU(p:bJ)(s:Str):Bool:=(sJ p).contains s
theorem Zt(p:bJ)(h:qg p)(s:Str):∃q:Int,kE (sJ p) s=some q/\decide (q>=0)=KU p s/\decide (q<0) = !(KU p s):=by
 obtain⟨_,_,c⟩:=DX p h;refine⟨posOf s 0 (sJ p),wW (sJ p) s (by omega),?_⟩;have b:=Kt s (sJ p) 0;unfold KU;cases a:(sJ p).contains s with
 | false=>
  have:=b.2 a;exact⟨by rw[ac (by omega)],by rw[ae this];rfl⟩
 | true=>
  have:¬posOf s 0 (sJ p)<0:=fun hh=>by rw[b.1 hh]at a;cases a
  exact⟨by rw[ae (by omega)],by rw[ac this];rfl⟩
theorem ahH(p:bJ)(h:qg p)(s:Str):lD (sJ p) s=some (KU p s):=by
 obtain⟨_,_,a⟩:=DX p h;exact oL (sJ p) s (by omega)
theorem Q9(p:bJ)(s:Str)(h:KU p s=true):p.kind=2:=by
 by_cases a:p.kind=2
 ·exact a
 ·have e:(p.kind != 2)=true:=by simpa using a
  have:sJ p=[]:=by unfold sJ sO;rw[e];rfl
  unfold KU at h;rw[this]at h;cases h
def dS(b:Str):Nat->List bJ->List Int
 | _,[]=>[]
 | i,p::r=>if ((p.kind != 1)&&(p.name==b))=true then (i:Int)::dS b (i+1) r else dS b (i+1) r
theorem ZT(b:Str){ps:List bJ}{i:Nat}{p:bJ}(h:ps[i]?=some p):dS b i (ps.drop i)=if ((p.kind != 1)&&(p.name==b))=true then (i:Int)::dS b (i+1) (ps.drop (i+1))else dS b (i+1) (ps.drop (i+1)):=by
 obtain⟨hi,rfl⟩:=zC.1 h;rw[List.drop_eq_getElem_cons hi];rfl
theorem Gu(b:Str):∀(ps:List bJ) (i:Nat) (k:Int),k∈dS b i ps->(i:Int)<=k/\k<((i+ps.length:Nat):Int)
 | [],i,k,h=>by cases h
 | p::r,i,k,h=>by
  unfold dS at h;split at h
  ·rcases a8.1 h with rfl | h
   ·simp;omega
   ·have:=Gu b r (i+1) k h;simp only[List.length_cons];omega
  ·have:=Gu b r (i+1) k h;simp only[List.length_cons];omega
theorem U6{b:Str}{ps:List bJ}{i:Nat}{p:bJ}(a:ps[i]?=some p){out:List Int}(c:out++dS b i (ps.drop i)=dS b 0 ps) :
  (if ((p.kind != 1)&&(p.name==b))=true then out++[(i:Int)]else out)++dS b (i+1) (ps.drop (i+1))=dS b 0 ps:=by
 rw[<- c,ZT b a];split
 ·rw[a6];rfl
 ·rfl
theorem Zg{c:Bool}{out:List Int}{i:Nat}(h:out.length<=i):(if c=true then out++[(i:Int)]else out).length<=i+1:=by
 split
 ·simp;omega
 ·omega
theorem adN(ps:List bJ)(b:Str)(e:ps.length<=1048576):yT ps b=some (dS b 0 ps):=by
 unfold yT;refine vk (dL (fun (out:List Int) (i:Nat)=>((b,out,ps,(ps.length:Int),(i:Int)):Str×(List Int)×(List bJ)×Int×Int)) ps (fun i out=>out++dS b i (ps.drop i)=dS b 0 ps/\out.length<=i) _ (fun i p out a c=>.inl ?_) (fun out c=>?_) [] ⟨rfl,ar _⟩)
 ·have hi:=(zC.1 a).1;have d:∀n:Int,gd (out.length+[n].length)=some ():=fun n=>gdp (by simp;omega)
  refine⟨if ((p.kind != 1)&&(p.name==b))=true then out++[(i:Int)]else out,?_,U6 a c.1,Zg c.2⟩;simp only[dn a,ab,au,a,zA,d,dm a (by omega)];cases (p.kind != 1)<;>cases (p.name==b)<;>rfl
 ·refine⟨out,by simp only[bP,aa],?_⟩;have:=c.1;rw[List.drop_length]at this;simpa [dS] using this
theorem ac3(ps:List bJ)(b:Str)(e:ps.length<=1048576):yF ps b=some (dS b 0 ps):=by
 unfold yF;refine vk (dL (fun (out:List Int) (i:Nat)=>((ps,b,out,(i:Int)):(List bJ)×Str×(List Int)×Int)) ps (fun i out=>out++dS b i (ps.drop i)=dS b 0 ps/\out.length<=i) _ (fun i p out a c=>.inl ?_) (fun out c=>?_) [] ⟨rfl,ar _⟩)
 ·have hi:=(zC.1 a).1;have d:∀n:Int,gd (out.length+[n].length)=some ():=fun n=>gdp (by simp;omega)
  refine⟨if ((p.kind != 1)&&(p.name==b))=true then out++[(i:Int)]else out,?_,U6 a c.1,Zg c.2⟩;simp only[dn a,ab,au,a,zA,d,dm a (by omega)];cases (p.kind != 1)<;>cases (p.name==b)<;>rfl
 ·refine⟨out,by simp only[bP,aa],?_⟩;have:=c.1;rw[List.drop_length]at this;simpa [dS] using this
def yH:List Int->Int
 | []=>-1
 | [k]=>k
 | _=>-2
theorem ajG(ps:List bJ)(b:Str)(c:ps.length<=1048576):Je ps b=some (yH (dS b 0 ps)):=by
 unfold Je;rw[adN ps b c,zA];cases dS b 0 ps with
 | nil=>rfl
 | cons k r=>cases r with
  | nil=>rfl
  | cons a r=>
   have d:(((k::a::r).length:Int)==0)=false:=by simp;omega
   have e:(((k::a::r).length:Int)==1)=false:=by simp;omega
   rw[d,e];rfl
theorem ac2(ps:List bJ)(b:Str)(c:ps.length<=1048576):BO ps b=some (yH (dS b 0 ps)):=by
 unfold BO;rw[ac3 ps b c,zA];cases dS b 0 ps with
 | nil=>rfl
 | cons k r=>cases r with
  | nil=>rfl
  | cons a r=>
   have d:(((k::a::r).length:Int)==0)=false:=by simp;omega
   have e:(((k::a::r).length:Int)==1)=false:=by simp;omega
   rw[d,e];rfl
theorem abJ(ps:List bJ)(b:Str)(h:0<=yH (dS b 0 ps)):∃k:Nat,yH (dS b 0 ps)=k/\k<ps.length:=by
 cases a:dS b 0 ps with
 | nil=>rw[a]at h;exact absurd h (by decide)
 | cons k r=>cases r with
  | nil=>
   have:=Gu b ps 0 k (by rw[a];simp)
   exact⟨k.toNat,by show k=_;omega,by omega⟩
  | cons c r=>rw[a]at h;exact absurd h (by show ¬(0:Int)<=-2;decide)
end Go.Proofs.YtngjomkjlonfpaaGreat
/- Plain laws: RenameVariable alike on both sides. -/
namespace Go.Proofs.YtngjomkjlonfpaaGreat
noncomputable section
open Go.Abs Go.Proofs
def afE(p:bJ)(b c:Str):Bool:=(lV p.expr b c).getD false
theorem ah4(p:bJ)(h:qg p)(d:p.kind=2)(b c:Str):kK p.expr b c=some (afE p b c)/\lV p.expr b c=some (afE p b c):=by
 obtain⟨g,i⟩:=h.expr d;obtain⟨v,f,a⟩:=DN p.expr b c (by omega);have e:afE p b c=v:=by unfold afE;rw[a];rfl
 rw[e];exact⟨f,a⟩
def textOf(p:bJ)(b c:Str):Str:=(((kH p.expr b c).bind fun r=>gX r.1)).getD []
theorem VJ(p:bJ)(h:qg p)(f:p.kind=2)(b c:Str)(g:b.length<=34359738368)(i:c.length<=34359738368) :
  ∃x v,mr p.expr b c=some (x,v)/\kH p.expr b c=some (x,v)/\kL x=some (textOf p b c)/\gX x=some (textOf p b c)/\prn (textOf p b c)=true:=by
 obtain⟨m,n⟩:=h.expr f;obtain⟨x,v,j,a,o⟩:=yI p.expr b c (by omega) g i;obtain⟨s,k,d,_,l⟩:=UX x (by omega);have e:textOf p b c=s:=by unfold textOf;rw[a];simp only[zA,d];rfl
 rw[e];exact⟨x,v,j,a,k,d,l⟩
def VE(d:Bool)(t:Str)(x:ah):ah:=⟨x.id,if d=true then x.version+1 else x.version,x.kind,x.name,t,x.n⟩
def lI(d:Bool)(b c:Str):Nat->List bJ->List ah->Bool->Option (List ah×Bool)
 | _,[],cs,full=>some (cs,full)
 | i,p::r,cs,full=>if KU p b=true then
   (if (textOf p b c).length<=120 then (match cs[i]? with
    | some x=>lI d b c (i+1) r (cs.set i (VE d (textOf p b c) x)) (full||(d&&decide (x.version>=999)))
    | none=>none)
   else none)
  else lI d b c (i+1) r cs full
theorem QC(d:Bool)(b c:Str){ps:List bJ}{i:Nat}{p:bJ}(h:ps[i]?=some p)(cs:List ah)(full:Bool):lI d b c i (ps.drop i) cs full=if KU p b=true then
      (if (textOf p b c).length<=120 then (match cs[i]? with
       | some x=>lI d b c (i+1) (ps.drop (i+1)) (cs.set i (VE d (textOf p b c) x)) (full||(d&&decide (x.version>=999)))
       | none=>none)
      else none)
  else lI d b c (i+1) (ps.drop (i+1)) cs full:=by
 obtain⟨hi,rfl⟩:=zC.1 h;rw[List.drop_eq_getElem_cons hi];rfl
def ZJ(cs:List ah):Option (List ah×Bool)->ak×Int
 | none=>(⟨cs⟩,5)
 | some (out,true)=>(⟨cs⟩,6)
 | some (out,false)=>(⟨out⟩,0)
abbrev RvI:=Str×Str×Bool×(List ah)×(List ah)×(List ah)×Bool×(List bJ)×Int×Int
abbrev RvS:=Str×Str×(List ah)×(List ah)×(List ah)×(List bJ)×Int×Int
def agz:RvI->Option (RvI⊕(ak×Int)):=(fun (a:Str×Str×Bool×(List ah)×(List ah)×(List ah)×Bool×(List bJ)×Int×Int)=>
      bif (decide (a.2.2.2.2.2.2.2.2.2<a.2.2.2.2.2.2.2.2.1))then
       (idx a.2.2.2.2.2.2.2.1 a.2.2.2.2.2.2.2.2.2).bind fun f=>
       (wR (lF f)).bind fun g=>
       (kE g a.1).bind fun h=>
       bif (decide (h<0))then
        some (.inl (a.1,a.2.1,a.2.2.1,a.2.2.2.1,a.2.2.2.2.1,a.2.2.2.2.2.1,a.2.2.2.2.2.2.1,a.2.2.2.2.2.2.2.1,a.2.2.2.2.2.2.2.2.1,w64 (a.2.2.2.2.2.2.2.2.2+1)))
       else
       (mr (aj f.expr) a.1 a.2.1).bind fun i=>
       (kL (aj i.1)).bind fun c=>
       (idx a.2.2.2.2.2.1 a.2.2.2.2.2.2.2.2.2).bind fun _=>
       (a.2.2.2.2.2.1[a.2.2.2.2.2.2.2.2.2.toNat]?).bind fun b=>
       (idx (a.2.2.2.2.2.1.set a.2.2.2.2.2.2.2.2.2.toNat (ah.mk b.id b.version b.kind b.name c b.n)) a.2.2.2.2.2.2.2.2.2).bind fun _=>
       ((a.2.2.2.2.2.1.set a.2.2.2.2.2.2.2.2.2.toNat (ah.mk b.id b.version b.kind b.name c b.n))[a.2.2.2.2.2.2.2.2.2.toNat]?).bind fun j=>
       bif (decide ((j.code.length:Int)>120))then
        some (.inr (ak.mk a.2.2.2.1,5))
       else
       bif a.2.2.1 then
        bif a.2.2.2.2.2.2.1 then
         (idx (a.2.2.2.2.2.1.set a.2.2.2.2.2.2.2.2.2.toNat (ah.mk b.id b.version b.kind b.name c b.n)) a.2.2.2.2.2.2.2.2.2).bind fun _=>
         ((a.2.2.2.2.2.1.set a.2.2.2.2.2.2.2.2.2.toNat (ah.mk b.id b.version b.kind b.name c b.n))[a.2.2.2.2.2.2.2.2.2.toNat]?).bind fun k=>
         (idx (a.2.2.2.2.2.1.set a.2.2.2.2.2.2.2.2.2.toNat (ah.mk b.id b.version b.kind b.name c b.n)) a.2.2.2.2.2.2.2.2.2).bind fun _=>
         ((a.2.2.2.2.2.1.set a.2.2.2.2.2.2.2.2.2.toNat (ah.mk b.id b.version b.kind b.name c b.n))[a.2.2.2.2.2.2.2.2.2.toNat]?).bind fun d=>
         some (.inl (a.1,a.2.1,a.2.2.1,a.2.2.2.1,a.2.2.2.2.1,(a.2.2.2.2.2.1.set a.2.2.2.2.2.2.2.2.2.toNat (ah.mk b.id b.version b.kind b.name c b.n)).set a.2.2.2.2.2.2.2.2.2.toNat (ah.mk d.id (w64 (k.version+1)) d.kind d.name d.code d.n),true,a.2.2.2.2.2.2.2.1,a.2.2.2.2.2.2.2.2.1,w64 (a.2.2.2.2.2.2.2.2.2+1)))
        else
         (idx (a.2.2.2.2.2.1.set a.2.2.2.2.2.2.2.2.2.toNat (ah.mk b.id b.version b.kind b.name c b.n)) a.2.2.2.2.2.2.2.2.2).bind fun _=>
         ((a.2.2.2.2.2.1.set a.2.2.2.2.2.2.2.2.2.toNat (ah.mk b.id b.version b.kind b.name c b.n))[a.2.2.2.2.2.2.2.2.2.toNat]?).bind fun l=>
         (idx (a.2.2.2.2.2.1.set a.2.2.2.2.2.2.2.2.2.toNat (ah.mk b.id b.version b.kind b.name c b.n)) a.2.2.2.2.2.2.2.2.2).bind fun _=>
         ((a.2.2.2.2.2.1.set a.2.2.2.2.2.2.2.2.2.toNat (ah.mk b.id b.version b.kind b.name c b.n))[a.2.2.2.2.2.2.2.2.2.toNat]?).bind fun m=>
         (idx (a.2.2.2.2.2.1.set a.2.2.2.2.2.2.2.2.2.toNat (ah.mk b.id b.version b.kind b.name c b.n)) a.2.2.2.2.2.2.2.2.2).bind fun _=>
         ((a.2.2.2.2.2.1.set a.2.2.2.2.2.2.2.2.2.toNat (ah.mk b.id b.version b.kind b.name c b.n))[a.2.2.2.2.2.2.2.2.2.toNat]?).bind fun e=>
         some (.inl (a.1,a.2.1,a.2.2.1,a.2.2.2.1,a.2.2.2.2.1,(a.2.2.2.2.2.1.set a.2.2.2.2.2.2.2.2.2.toNat (ah.mk b.id b.version b.kind b.name c b.n)).set a.2.2.2.2.2.2.2.2.2.toNat (ah.mk e.id (w64 (m.version+1)) e.kind e.name e.code e.n),(decide (l.version>=999)),a.2.2.2.2.2.2.2.1,a.2.2.2.2.2.2.2.2.1,w64 (a.2.2.2.2.2.2.2.2.2+1)))
       else
        some (.inl (a.1,a.2.1,a.2.2.1,a.2.2.2.1,a.2.2.2.2.1,a.2.2.2.2.2.1.set a.2.2.2.2.2.2.2.2.2.toNat (ah.mk b.id b.version b.kind b.name c b.n),a.2.2.2.2.2.2.1,a.2.2.2.2.2.2.2.1,a.2.2.2.2.2.2.2.2.1,w64 (a.2.2.2.2.2.2.2.2.2+1)))
      else
       (
        bif a.2.2.2.2.2.2.1 then
         some (ak.mk a.2.2.2.1,6)
        else
         some (ak.mk a.2.2.2.2.2.1,0)
       ).bind fun r=>some (.inr r)
  )
def aiV:RvS->Option (RvS⊕(ak×Int)):=(fun (a:Str×Str×(List ah)×(List ah)×(List ah)×(List bJ)×Int×Int)=>
      bif (decide (a.2.2.2.2.2.2.2<(a.2.2.2.2.2.1.length:Int)))then
       (idx a.2.2.2.2.2.1 a.2.2.2.2.2.2.2).bind fun _=>
       (a.2.2.2.2.2.1[a.2.2.2.2.2.2.2.toNat]?).bind fun f=>
       (sO (lF f)).bind fun g=>
       (lD g a.1).bind fun h=>
       bif (!h)then
        some (.inl (a.1,a.2.1,a.2.2.1,a.2.2.2.1,a.2.2.2.2.1,a.2.2.2.2.2.1,a.2.2.2.2.2.2.1,w64 (a.2.2.2.2.2.2.2+1)))
       else
       (idx a.2.2.2.2.2.1 a.2.2.2.2.2.2.2).bind fun _=>
       (a.2.2.2.2.2.1[a.2.2.2.2.2.2.2.toNat]?).bind fun i=>
       (kH (aj i.expr) a.1 a.2.1).bind fun j=>
       (gX (aj j.1)).bind fun c=>
       (idx a.2.2.2.2.1 a.2.2.2.2.2.2.2).bind fun _=>
       (a.2.2.2.2.1[a.2.2.2.2.2.2.2.toNat]?).bind fun b=>
       (idx (a.2.2.2.2.1.set a.2.2.2.2.2.2.2.toNat (ah.mk b.id b.version b.kind b.name c b.n)) a.2.2.2.2.2.2.2).bind fun _=>
       ((a.2.2.2.2.1.set a.2.2.2.2.2.2.2.toNat (ah.mk b.id b.version b.kind b.name c b.n))[a.2.2.2.2.2.2.2.toNat]?).bind fun k=>
       bif (decide ((k.code.length:Int)>120))then
        (ji (ak.mk a.2.2.1)).bind fun l=>
        some (.inr (l,5))
       else
       (idx (a.2.2.2.2.1.set a.2.2.2.2.2.2.2.toNat (ah.mk b.id b.version b.kind b.name c b.n)) a.2.2.2.2.2.2.2).bind fun _=>
       ((a.2.2.2.2.1.set a.2.2.2.2.2.2.2.toNat (ah.mk b.id b.version b.kind b.name c b.n))[a.2.2.2.2.2.2.2.toNat]?).bind fun m=>
       bif (m.version==999)then
        (idx (a.2.2.2.2.1.set a.2.2.2.2.2.2.2.toNat (ah.mk b.id b.version b.kind b.name c b.n)) a.2.2.2.2.2.2.2).bind fun _=>
        ((a.2.2.2.2.1.set a.2.2.2.2.2.2.2.toNat (ah.mk b.id b.version b.kind b.name c b.n))[a.2.2.2.2.2.2.2.toNat]?).bind fun o=>
        (idx (a.2.2.2.2.1.set a.2.2.2.2.2.2.2.toNat (ah.mk b.id b.version b.kind b.name c b.n)) a.2.2.2.2.2.2.2).bind fun _=>
        ((a.2.2.2.2.1.set a.2.2.2.2.2.2.2.toNat (ah.mk b.id b.version b.kind b.name c b.n))[a.2.2.2.2.2.2.2.toNat]?).bind fun d=>
        some (.inl (a.1,a.2.1,a.2.2.1,a.2.2.2.1,(a.2.2.2.2.1.set a.2.2.2.2.2.2.2.toNat (ah.mk b.id b.version b.kind b.name c b.n)).set a.2.2.2.2.2.2.2.toNat (ah.mk d.id (w64 (o.version+1)) d.kind d.name d.code d.n),a.2.2.2.2.2.1,6,w64 (a.2.2.2.2.2.2.2+1)))
       else
        (idx (a.2.2.2.2.1.set a.2.2.2.2.2.2.2.toNat (ah.mk b.id b.version b.kind b.name c b.n)) a.2.2.2.2.2.2.2).bind fun _=>
        ((a.2.2.2.2.1.set a.2.2.2.2.2.2.2.toNat (ah.mk b.id b.version b.kind b.name c b.n))[a.2.2.2.2.2.2.2.toNat]?).bind fun p=>
        (idx (a.2.2.2.2.1.set a.2.2.2.2.2.2.2.toNat (ah.mk b.id b.version b.kind b.name c b.n)) a.2.2.2.2.2.2.2).bind fun _=>
        ((a.2.2.2.2.1.set a.2.2.2.2.2.2.2.toNat (ah.mk b.id b.version b.kind b.name c b.n))[a.2.2.2.2.2.2.2.toNat]?).bind fun e=>
        some (.inl (a.1,a.2.1,a.2.2.1,a.2.2.2.1,(a.2.2.2.2.1.set a.2.2.2.2.2.2.2.toNat (ah.mk b.id b.version b.kind b.name c b.n)).set a.2.2.2.2.2.2.2.toNat (ah.mk e.id (w64 (p.version+1)) e.kind e.name e.code e.n),a.2.2.2.2.2.1,a.2.2.2.2.2.2.1,w64 (a.2.2.2.2.2.2.2+1)))
      else
       (
        bif (a.2.2.2.2.2.2.1 != 0)then
         (ji (ak.mk a.2.2.1)).bind fun q=>
         some (q,a.2.2.2.2.2.2.1)
        else
         some (ak.mk a.2.2.2.2.1,0)
       ).bind fun r=>some (.inr r)
  )
theorem adQ{α:Type}(xs:List α)(i:Nat)(x:α)(h:i<xs.length):(xs.set i x)[i]?=some x:=by
 rw[List.getElem?_set_self h]
theorem al5(d:Bool)(b c:Str)(A:b.length<=34359738368)(B:c.length<=34359738368)(cs:List ah)(ps:List bJ)(l:∀p,p∈ps->qg p)(L:ps.length<=1048576)(out0:List ah)(C:out0.length=ps.length)(D:∀x,x∈out0->1<=x.version/\x.version<=999) :
  aA agz (b,c,d,cs,[],out0,false,ps,(ps.length:Int),0)=some (ZJ cs (lI d b c 0 ps out0 false)):=by
 refine vk (dL (g:=agz) (fun (s:List ah×Bool) (i:Nat)=>((b,c,d,cs,[],s.1,s.2,ps,(ps.length:Int),(i:Int)):RvI)) ps (fun i s=>s.1.length=ps.length/\lI d b c i (ps.drop i) s.1 s.2=lI d b c 0 ps out0 false/\∀j x,i<=j->s.1[j]?=some x->1<=x.version/\x.version<=999) _ (fun i p s a m=>?_) (fun s m=>?_) (out0,false) ⟨C,rfl,fun j x _ a=>D x (zG a)⟩)
 ·obtain⟨n,f,k⟩:=m;have o:=l p (zG a);have hi:=(zC.1 a).1;obtain⟨E,M,N⟩:=DX p o;obtain⟨q,F,O,G⟩:=Zt p o b;rw[QC d b c a]at f;simp only[agz,dn a,ab,au,a,zA,um,E,F,G,dm a (by omega)];cases hh:KU p b with
  | false=>
   rw[hh]at f;refine .inl ⟨s,rfl,n,?_,fun j x r a=>k j x (by omega) a⟩;simpa using f
  | true=>
   rw[hh,if_pos rfl]at f;have h:i<s.1.length:=by omega
   have t:=zF h;obtain⟨x,v,H,P,I,k4,_⟩:=VJ p o (Q9 p b hh) b c A B;have u:∀y:ah,(s.1.set i y)[i]?=some y:=fun y=>adQ s.1 i y h
   rw[t]at f;have J:=k i _ (ar _) t;simp only[aE,aa,aP,H,I,t,aw,u,zA];by_cases w:(textOf p b c).length<=120
   ·have e:decide (((textOf p b c).length:Int)>120)=false:=by simp;omega
    rw[if_pos w]at f;rw[e];simp only[aa];have keep:∀(y:ah) (j:Nat) (x:ah),i+1<=j->(s.1.set i y)[j]?=some x->1<=x.version/\x.version<=999:=fun y j x r a=>by
     rw[List.getElem?_set_ne (by omega)]at a;exact k j x (by omega) a
    have K:w64 (s.1[i].version+1)=s.1[i].version+1:=bM (by omega) (by omega);refine .inl ⟨(s.1.set i (VE d (textOf p b c) s.1[i]),s.2||(d&&decide (s.1[i].version>=999))),?_,by simp[n],f,fun j x r a=>keep _ j x r a⟩;cases d with
    | false=>
     simp only[aa,Bool.false_and,Bool.or_false];rfl
    | true=>
     have hset:∀y z:ah,(s.1.set i y).set i z=s.1.set i z:=fun y z=>by rw[List.set_set]
     simp only[ab,Bool.true_and,K,hset];cases s.2<;>rfl
   ·have e:decide (((textOf p b c).length:Int)>120)=true:=by simp;omega
    rw[if_neg w]at f;rw[e];exact .inr ⟨_,rfl,by rw[<- f];rfl⟩
 ·obtain⟨n,f,k⟩:=m;rw[List.drop_length]at f;refine⟨ZJ cs (some s),?_,by rw[<- f];rfl⟩;obtain⟨out,full⟩:=s;simp only[agz,bP,aa];cases full<;>rfl
theorem alL(b c:Str)(C:b.length<=34359738368)(D:c.length<=34359738368)(cs:List ah)(E:cs.length<=1048576)(ps:List bJ)(k:∀p,p∈ps->qg p)(L:ps.length<=1048576)(out0:List ah)(F:out0.length=ps.length)(G:∀x,x∈out0->1<=x.version/\x.version<=999) :
  aA aiV (b,c,cs,[],out0,ps,0,0)=some (ZJ cs (lI true b c 0 ps out0 false)):=by
 have hcopy:ji ⟨cs⟩=some ⟨cs⟩:=by
  unfold ji;rw[gdp (by simp;omega)];rfl
 refine vk (dL (g:=aiV) (fun (s:List ah×Bool) (i:Nat)=>((b,c,cs,[],s.1,ps,(if s.2=true then 6 else 0),(i:Int)):RvS)) ps (fun i s=>s.1.length=ps.length/\lI true b c i (ps.drop i) s.1 s.2=lI true b c 0 ps out0 false/\∀j x,i<=j->s.1[j]?=some x->1<=x.version/\x.version<=999) _ (fun i p s a l=>?_) (fun s l=>?_) (out0,false) ⟨F,rfl,fun j x _ a=>G x (zG a)⟩)
 ·obtain⟨m,d,h⟩:=l;have n:=k p (zG a);have hi:=(zC.1 a).1;obtain⟨M,H,N⟩:=DX p n;have I:=ahH p n b;rw[QC true b c a]at d;simp only[aiV,dn a,ab,au,a,zA,aw,um,H,I,dm a (by omega)];cases hh:KU p b with
  | false=>
   rw[hh]at d;refine .inl ⟨s,rfl,m,?_,fun j x o a=>h j x (by omega) a⟩;simpa using d
  | true=>
   rw[hh,if_pos rfl]at d;have f:i<s.1.length:=by omega
   have q:=zF f;obtain⟨x,v,O,J,P,k4,_⟩:=VJ p n (Q9 p b hh) b c C D;have r:∀y:ah,(s.1.set i y)[i]?=some y:=fun y=>adQ s.1 i y f
   rw[q]at d;have K:=h i _ (ar _) q;simp only[aE,aa,aP,J,k4,q,aw,r,zA];by_cases w:(textOf p b c).length<=120
   ·have e:decide (((textOf p b c).length:Int)>120)=false:=by simp;omega
    rw[if_pos w]at d;rw[e];simp only[aa];have keep:∀(y:ah) (j:Nat) (x:ah),i+1<=j->(s.1.set i y)[j]?=some x->1<=x.version/\x.version<=999:=fun y j x o a=>by
     rw[List.getElem?_set_ne (by omega)]at a;exact h j x (by omega) a
    have A:w64 (s.1[i].version+1)=s.1[i].version+1:=bM (by omega) (by omega);have hset:∀y z:ah,(s.1.set i y).set i z=s.1.set i z:=fun y z=>by rw[List.set_set]
    refine .inl ⟨(s.1.set i (VE true (textOf p b c) s.1[i]),s.2||(true&&decide (s.1[i].version>=999))),?_,by simp[m],d,fun j x o a=>keep _ j x o a⟩;by_cases B:s.1[i].version=999
    ·have t:(s.1[i].version==999)=true:=by simp[B]
     have u:decide (s.1[i].version>=999)=true:=by simp;omega
     simp only[t,u,ab,Bool.true_and,Bool.or_true,A,hset];rfl
    ·have t:(s.1[i].version==999)=false:=by simpa using B
     have u:decide (s.1[i].version>=999)=false:=by simp;omega
     simp only[t,u,aa,Bool.true_and,Bool.or_false,A,hset];rfl
   ·have e:decide (((textOf p b c).length:Int)>120)=true:=by simp;omega
    rw[if_neg w]at d;rw[e];simp only[ab,hcopy,zA];exact .inr ⟨_,rfl,by rw[<- d];rfl⟩
 ·obtain⟨m,d,h⟩:=l;rw[List.drop_length]at d;refine⟨ZJ cs (some s),?_,by rw[<- d];rfl⟩;obtain⟨out,full⟩:=s;simp only[aiV,bP,aa,hcopy,zA];cases full<;>rfl
end
end Go.Proofs.YtngjomkjlonfpaaGreat
/- Plain laws: RenameVariable alike on both sides; the law FnExactRenameVariable. -/
namespace Go.Proofs.YtngjomkjlonfpaaGreat
noncomputable section
open Go.Abs Go.Proofs
theorem xW(a:Str)(b:a.length<=34359738368):bg a=some (fJ a)/\bU a=some (fJ a):=by
 obtain⟨v,h⟩:=mJ a b;have e:fJ a=v:=by unfold fJ;rw[h];rfl
 rw[e];exact⟨h,by rw[<- oI a b,h]⟩
def partsOf(cs:List ah):List bJ:=(lX ⟨cs⟩).getD []
theorem Qj(cs:List ah)(b:cs.length<=1048576)(h:∀c,c∈cs->lK c):oU ⟨cs⟩=some (partsOf cs)/\lX ⟨cs⟩=some (partsOf cs)/\(∀p,p∈partsOf cs->qg p)/\(vU cs=true->(partsOf cs).length=cs.length)/\(partsOf cs).length<=8:=by
 obtain⟨ps,d,a,f,g,i⟩:=Ud cs b h;have e:partsOf cs=ps:=by unfold partsOf;rw[a];rfl
 rw[e];exact⟨d,a,f,g,i⟩
def Bq(b c:Str)(p:bJ):Bool:=(p.kind==2)&&afE p b c
def ES(c:Str)(p:bJ):Bool:=KU p c
theorem EK{α:Type}(f:α->Bool){xs:List α}{i:Nat}{x:α}(h:xs[i]?=some x):(xs.take (i+1)).any f=((xs.take i).any f||f x):=by
 obtain⟨hi,rfl⟩:=zC.1 h;rw[List.take_succ_eq_append_getElem hi,List.any_append];simp
def pJ(c:Str)(cs:List ah)(k:Nat):List ah:=match cs[k]? with
 | some x=>cs.set k ⟨x.id,x.version,x.kind,c,x.code,x.n⟩
 | none=>cs
theorem Ei(c:Str)(cs:List ah)(k:Nat):(pJ c cs k).length=cs.length:=by
 unfold pJ;split
 ·rw[List.length_set]
 ·rfl
theorem KC{c:Str}{cs:List ah}{k:Nat}(h:∀x,x∈cs->1<=x.version/\x.version<=999):∀x,x∈pJ c cs k->1<=x.version/\x.version<=999:=by
 intro x a;unfold pJ at a;split at a
 ·rename_i y b;rcases List.mem_or_eq_of_mem_set a with a | rfl
  ·exact h x a
  ·exact h y (zG b)
 ·exact h x a
def qF(cs:List ah)(b c:Str)(d:Bool):ak×Int:=
 bif !(vU cs)then (⟨cs⟩,1)else bif !(fJ b)then (⟨cs⟩,1)else bif !(fJ c)then (⟨cs⟩,1)else bif (b==c)then (⟨cs⟩,1)
 else bif decide (yH (dS b 0 (partsOf cs))<0)then (⟨cs⟩,2)
 else bif (decide (((dS c 0 (partsOf cs)).length:Int)>0)||(partsOf cs).any (ES c))then (⟨cs⟩,3)
 else bif (partsOf cs).any (Bq b c)then (⟨cs⟩,4)
 else ZJ cs (lI d b c 0 (partsOf cs) (pJ c cs (yH (dS b 0 (partsOf cs))).toNat) false)
theorem Xu(cs:List ah)(a:cs.length<=1048576):cu ⟨cs⟩=some ⟨cs⟩:=by
 unfold cu;rw[gdp (by simp;omega)];rfl
theorem agw(cs:List ah)(a:cs.length<=1048576):ji ⟨cs⟩=some ⟨cs⟩:=by
 unfold ji;rw[gdp (by simp;omega)];rfl
theorem Xl(cs:List ah)(b c:Str)(d:Bool)(l:cs.length<=1048576)(h:∀c,c∈cs->lK c)(w:b.length<=34359738368)(y:c.length<=34359738368):uy ⟨cs⟩ b c d=some (qF cs b c d):=by
 obtain⟨C,_,z,E,P⟩:=Qj cs l h;have F:=ZC cs l h;have vb:=(xW b w).1;have vc:=(xW c y).1;unfold uy qF;simp only[C,F,vb,vc,zA];cases e:vU cs with
 | false=>rfl
 | true=>
  have hlen:=E e;obtain⟨Q,f⟩:=vS h e;cases fJ b with
  | false=>rfl
  | true=>
   cases fJ c with
   | false=>rfl
   | true=>
    cases (b==c)with
    | true=>rfl
    | false=>
     have G:=ajG (partsOf cs) b (by omega);have H:=adN (partsOf cs) c (by omega);simp only[aE,aa,G,H,zA];cases hneg:decide (yH (dS b 0 (partsOf cs))<0)with
     | true=>rfl
     | false=>
      obtain⟨k,I,J⟩:=abJ (partsOf cs) b (by have:=of_decide_eq_false hneg;omega);rw[I,aw];simp only[aa];generalize K:partsOf cs=ps at *;generalize R:decide (((dS c 0 ps).length:Int)>0)=D;refine vk (dL (fun (s:Bool×Bool) (i:Nat)=>((b,c,d,cs,[],ps,(k:Int),s.1,s.2,ps,(ps.length:Int),(i:Int)):Str×Str×Bool×(List ah)×(List ah)×(List bJ)×Int×Bool×Bool×(List bJ)×Int×Int)) ps (fun i s=>s.1=(D||(ps.take i).any (ES c))/\s.2=(ps.take i).any (Bq b c)) _ (fun i p s a m=>.inl ?_) (fun s m=>?_) (D,false) ⟨by simp,by simp⟩)
      ·obtain⟨g,j⟩:=m;have o:=z p (zG a);obtain⟨L,S,T⟩:=DX p o;obtain⟨q,M,N,U⟩:=Zt p o c;refine⟨(s.1||ES c p,s.2||Bq b c p),?_,by rw[EK _ a,g,Bool.or_assoc],by rw[EK _ a,j]⟩;simp only[dn a,ab,au,a,zA,um,aP,L,M,N,dm a (by omega)];unfold Bq ES;cases t:(p.kind==2)with
       | false=>cases s.1<;>cases s.2<;>simp
       | true=>
        have u:=(ah4 p o (eq_of_beq t) b c).1;cases s.1<;>cases s.2<;>simp[u]
      ·obtain⟨g,j⟩:=m;rw[List.take_length]at g j;have v:k<cs.length:=by omega
       have A:=zF v;have hver:∀x,x∈cs->1<=x.version/\x.version<=999:=fun x a=>⟨(f x a).2.v0,(f x a).2.v9⟩
       have B:=al5 d b c w y cs ps z (by omega) (pJ c cs k) (by rw[Ei,hlen]) (KC hver);have O:pJ c cs k=cs.set k ⟨cs[k].id,cs[k].version,cs[k].kind,c,cs[k].code,cs[k].n⟩:=by unfold pJ;rw[A]
       refine⟨_,?_,rfl⟩;simp only[bP,aa,g,j,Xu cs l,zA,au,A,aw];cases (D||ps.any (ES c))with
       | true=>rfl
       | false=>
        cases ps.any (Bq b c)with
        | true=>rfl
        | false=>
         simp only[aa];rw[O]at B ⊢;show (aA agz (b,c,d,cs,[],cs.set k ⟨cs[k].id,cs[k].version,cs[k].kind,c,cs[k].code,cs[k].n⟩,false,ps,(ps.length:Int),0)).bind (fun r=>some (Sum.inr r))=_
         rw[B];rfl
theorem aeM(ps:List bJ)(b c:Str)(m:ps.length<=1048576)(h:∀p,p∈ps->qg p):D7 ps b c=some (bif decide (yH (dS b 0 ps)<0)then 2 else bif (decide (((dS c 0 ps).length:Int)>0)||ps.any (ES c))then 3 else bif ps.any (Bq b c)then 4 else 0):=by
 unfold D7;rw[ac2 ps b m,zA];cases decide (yH (dS b 0 ps)<0)with
 | true=>rfl
 | false=>
  simp only[aa];have n:=ac3 ps c m;refine vk (dL (fun (s:Bool) (i:Nat)=>((ps,b,c,(bif s then 4 else 0),(i:Int)):(List bJ)×Str×Str×Int×Int)) ps (fun i s=>(ps.take i).any (ES c)=false/\s=(ps.take i).any (Bq b c)) _ (fun i p s a g=>?_) (fun s g=>?_) false ⟨by simp,by simp⟩)
  ·obtain⟨e,f⟩:=g;have j:=h p (zG a);obtain⟨r,o,t⟩:=DX p j;have q:=ahH p j c;simp only[dn a,ab,au,a,zA,um,aP,o,q,dm a (by omega)];cases hh:KU p c with
   | true=>
    refine .inr ⟨3,rfl,?_⟩;have:ps.any (ES c)=true:=List.any_eq_true.2 ⟨p,zG a,hh⟩;rw[this,Bool.or_true];rfl
   | false=>
    refine .inl ⟨s||Bq b c p,?_,by rw[EK _ a,e];exact hh,by rw[EK _ a,f]⟩;unfold Bq;cases k:(p.kind==2)with
    | false=>cases s<;>simp
    | true=>
     have d:=(ah4 p j (eq_of_beq k) b c).2;cases l:afE p b c<;>rw[l]at d<;>cases s<;>simp[d]
  ·obtain⟨e,f⟩:=g;rw[List.take_length]at e f;refine⟨_,?_,rfl⟩;simp only[bP,aa,n,zA,e,f,Bool.or_false];cases decide (((dS c 0 ps).length:Int)>0)<;>cases ps.any (Bq b c)<;>rfl
theorem aaI(cs:List ah)(b c:Str)(e:cs.length<=1048576)(h:∀c,c∈cs->lK c)(g:b.length<=34359738368)(i:c.length<=34359738368):nR ⟨cs⟩ b c=some (qF cs b c true):=by
 obtain⟨_,p,j,q,A⟩:=Qj cs e h;have r:=YK cs e h;have vb:=(xW b g).2;have vc:=(xW c i).2;unfold nR qF;simp only[agw cs e,r,vb,vc,zA];cases a:vU cs with
 | false=>rfl
 | true=>
  have hlen:=q a;obtain⟨B,d⟩:=vS h a;cases fJ b with
  | false=>rfl
  | true=>
   cases fJ c with
   | false=>rfl
   | true=>
    cases (b==c)with
    | true=>rfl
    | false=>
     have s:=ac2 (partsOf cs) b (by omega);have t:=aeM (partsOf cs) b c (by omega) j;simp only[aE,aa,p,s,t,zA];cases hneg:decide (yH (dS b 0 (partsOf cs))<0)with
     | true=>rfl
     | false=>
      obtain⟨k,u,v⟩:=abJ (partsOf cs) b (by have:=of_decide_eq_false hneg;omega);rw[u,aw];generalize w:partsOf cs=ps at *;cases (decide (((dS c 0 ps).length:Int)>0)||ps.any (ES c))with
      | true=>rfl
      | false=>
       cases ps.any (Bq b c)with
       | true=>rfl
       | false=>
        have f:k<cs.length:=by omega
        have l:=zF f;have hver:∀x,x∈cs->1<=x.version/\x.version<=999:=fun x m=>⟨(d x m).2.v0,(d x m).2.v9⟩
        have o:=alL b c g i cs e ps j (by omega) (pJ c cs k) (by rw[Ei,hlen]) (KC hver);have y:pJ c cs k=cs.set k ⟨cs[k].id,cs[k].version,cs[k].kind,c,cs[k].code,cs[k].n⟩:=by unfold pJ;rw[l]
        have z:((0:Int) != 0)=false:=rfl;simp only[aa,z,au,l,aw,zA];rw[y]at o ⊢;exact o
theorem ahN{cs:List ah}{n:Nat}{r:Option (List ah×Bool)}(h:cs.length<=n)(a:∀x,r=some x->x.1.length<=n):(ZJ cs r).1.cells.length<=n:=by
 unfold ZJ;split
 ·exact h
 ·exact h
 ·exact a _ rfl
theorem Em(d:Bool)(b c:Str):∀(ps:List bJ) (i:Nat) (cs:List ah) (full:Bool) (x:List ah×Bool),lI d b c i ps cs full=some x->x.1.length=cs.length
 | [],i,cs,full,x,h=>by cases h;rfl
 | p::r,i,cs,full,x,h=>by
  unfold lI at h;split at h
  ·split at h
   ·split at h
    ·have:=Em d b c r (i+1) _ _ x h;rw[List.length_set]at this;exact this
    ·cases h
   ·cases h
  ·exact Em d b c r (i+1) cs full x h
theorem P8(cs:List ah)(b c:Str)(d:Bool):(qF cs b c d).1.cells.length<=cs.length:=by
 have bb:∀(x:Bool) (p q:ak×Int),p.1.cells.length<=cs.length->q.1.cells.length<=cs.length->(bif x then p else q).1.cells.length<=cs.length:=by
  intro x p q a e;cases x
  ·exact e
  ·exact a
 have self:∀n:Int,((⟨cs⟩,n):ak×Int).1.cells.length<=cs.length:=fun n=>ar _
 unfold qF;refine bb _ _ _ (self _) (bb _ _ _ (self _) (bb _ _ _ (self _) (bb _ _ _ (self _) (bb _ _ _ (self _) (bb _ _ _ (self _) (bb _ _ _ (self _) ?_))))));refine ahN (ar _) fun x f=>?_
 have:=Em _ _ _ _ _ _ _ _ f;rw[this,Ei];exact ar _
end
end Go.Proofs.YtngjomkjlonfpaaGreat
/- Plain law: a renaming that counts versions and one that keeps them are alike but for the versions. -/
namespace Go.Proofs.YtngjomkjlonfpaaGreat
open Go.Abs Go.Proofs
def bare(x:ah):ah:=⟨x.id,0,x.kind,x.name,x.code,x.n⟩
theorem aie{cs cs':List ah}(h:cs.map bare=cs'.map bare)(i:Nat):(cs[i]?=none/\cs'[i]?=none)\/∃x x',cs[i]?=some x/\cs'[i]?=some x'/\bare x=bare x':=by
 have:=congrArg (·[i]?) h;simp only[List.getElem?_map]at this;cases b:cs[i]? with
 | none=>
  rw[b]at this;cases a:cs'[i]? with
  | none=>exact .inl ⟨rfl,rfl⟩
  | some x'=>rw[a]at this;cases this
 | some x=>
  rw[b]at this;cases a:cs'[i]? with
  | none=>rw[a]at this;cases this
  | some x'=>rw[a]at this;exact .inr ⟨x,x',rfl,rfl,by simpa using this⟩
theorem aid{cs cs':List ah}(h:cs.map bare=cs'.map bare)(i:Nat){y y':ah}(a:bare y=bare y'):(cs.set i y).map bare=(cs'.set i y').map bare:=by
 rw[List.map_set,List.map_set,h,a]
theorem afI{x x':ah}(h:bare x=bare x')(d d':Bool)(t:Str):bare (VE d t x)=bare (VE d' t x'):=by
 unfold bare at h ⊢;unfold VE;injection h with a f b c g e;simp only[a,b,c,e]
theorem KF(b c:Str):∀(ps:List bJ) (i:Nat) (cs cs':List ah),cs.map bare=cs'.map bare->(∀j y,i<=j->cs[j]?=some y->y.version=1) ->
  (lI true b c i ps cs false=none/\lI false b c i ps cs' false=none)\/∃x x',lI true b c i ps cs false=some (x,false)/\lI false b c i ps cs' false=some (x',false)/\x.map bare=x'.map bare
 | [],i,cs,cs',h,_=>.inr ⟨cs,cs',rfl,rfl,h⟩
 | p::r,i,cs,cs',h,g=>by
  unfold lI;by_cases a:KU p b=true
  ·rw[if_pos a,if_pos a];by_cases d:(textOf p b c).length<=120
   ·rw[if_pos d,if_pos d];rcases aie h i with ⟨e,e'⟩ | ⟨x,x',e,e',l⟩
    ·rw[e,e'];exact .inl ⟨rfl,rfl⟩
    ·rw[e,e'];have hver:=g i x (ar _) e;have m:(false||(true&&decide (x.version>=999)))=false:=by rw[hver];rfl
     have k:(false||(false&&decide (x'.version>=999)))=false:=rfl;simp only[m,k];refine KF b c r (i+1) _ _ (aid h i (afI l true false _)) fun j y n f=>?_
     rw[List.getElem?_set_ne (by omega)]at f;exact g j y (by omega) f
   ·rw[if_neg d,if_neg d];exact .inl ⟨rfl,rfl⟩
  ·rw[if_neg a,if_neg a];exact KF b c r (i+1) cs cs' h fun j y n f=>g j y (by omega) f
theorem agC(cs:List ah)(b c:Str)(d:∀x,x∈cs->x.version=1):(qF cs b c true).2=(qF cs b c false).2/\(qF cs b c true).1.cells.map bare=(qF cs b c false).1.cells.map bare:=by
 have key:∀z z':ak×Int,z.2=z'.2/\z.1.cells.map bare=z'.1.cells.map bare->∀(q:Bool) (n:Int),(bif q then ((⟨cs⟩,n):ak×Int)else z).2=(bif q then ((⟨cs⟩,n):ak×Int)else z').2 /\
   (bif q then ((⟨cs⟩,n):ak×Int)else z).1.cells.map bare=(bif q then ((⟨cs⟩,n):ak×Int)else z').1.cells.map bare:=by
  intro z z' h q n;cases q
  ·exact h
  ·exact⟨rfl,rfl⟩
 unfold qF;refine key _ _ (key _ _ (key _ _ (key _ _ (key _ _ (key _ _ (key _ _ ?_ _ _) _ _) _ _) _ _) _ _) _ _) _ _;have i:∀x,x∈pJ c cs (yH (dS b 0 (partsOf cs))).toNat->x.version=1:=by
  intro x a;unfold pJ at a;split at a
  ·rename_i y e;rcases List.mem_or_eq_of_mem_set a with a | rfl
   ·exact d x a
   ·exact d y (zG e)
  ·exact d x a
 rcases KF b c (partsOf cs) 0 _ _ rfl (fun j y _ e=>i y (zG e))with ⟨f,g⟩ | ⟨x,x',f,g,h⟩
 ·rw[f,g];exact⟨rfl,rfl⟩
 ·rw[f,g];exact⟨rfl,h⟩
end Go.Proofs.YtngjomkjlonfpaaGreat
/- Notebooks that fit. -/
namespace Go.Proofs.YtngjomkjlonfpaaGreat
open Go.Abs Go.Proofs
abbrev XO(cs:List ah):Prop:=∀x,x∈cs->Fit B20 (.base .cell) x
theorem uF{cs:List ah}(h:Fit B20 (.base .notebook) ⟨cs⟩):XO cs/\cs.length<=1048576:=by
 rw[gU]at h;have b:(cs.length:Int)<=1048576:=dA h;exact⟨fun x a=>h.aZ x a,by omega⟩
theorem uz{cs:List ah}(h:XO cs)(a:cs.length<=1048576):Fit B20 (.base .notebook) ⟨cs⟩:=by
 rw[gU];exact dY (by show (cs.length:Int)<=_;omega) h
theorem Rz{cs:List ah}(h:XO cs):∀x,x∈cs->lK x:=by
 intro x a;have:=h x a;rw[fM]at this;have b:=AZ this.2.2.2.1;have c:=AZ this.2.2.2.2.1;exact⟨by omega,by omega⟩
end Go.Proofs.YtngjomkjlonfpaaGreat
/- Plain law: RenameVariable. -/
namespace Go.Proofs.YtngjomkjlonfpaaGreat
open Go.Abs Go.Proofs
theorem wfS{n:Int}(a:-1000000000<=n)(b:n<=1000000000):(Lit.int .i64 n).wf=true:=by
 unfold Lit.wf;simp[IntKind.bits,IntKind.signed,IntKind.min,IntKind.max];omega
theorem alJ{cs:List ah}(h:XO cs)(k:Nat){y:ah}(b:Fit B20 (.base .cell) y):XO (cs.set k y):=by
 intro x a;rcases List.mem_or_eq_of_mem_set a with a | rfl
 ·exact h x a
 ·exact b
theorem afR{x:ah}(h:Fit B20 (.base .cell) x)(d:Bool){t:Str}(a:t.length<=120)(b:1<=x.version)(c:x.version<=999):Fit B20 (.base .cell) (VE d t x):=by
 rw[fM]at h ⊢;refine⟨h.1,.int .i64 _ (wfS ?_ ?_),h.2.2.1,h.2.2.2.1,Ad (by show (t.length:Int)<=_;omega),h.2.2.2.2.2⟩
 ·show -1000000000<=(if d=true then x.version+1 else x.version)
  split<;>omega
 ·show (if d=true then x.version+1 else x.version)<=_
  split<;>omega
theorem KG(d:Bool)(b c:Str):∀(ps:List bJ) (i:Nat) (cs:List ah) (full:Bool) (x:List ah×Bool),XO cs->(∀j y,i<=j->cs[j]?=some y->1<=y.version/\y.version<=999)->lI d b c i ps cs full=some x->XO x.1
 | [],i,cs,full,x,a,_,h=>by cases h;exact a
 | p::r,i,cs,full,x,a,f,h=>by
  unfold lI at h;split at h
  ·split at h
   ·rename_i k;split at h
    ·rename_i y e;refine KG d b c r (i+1) _ _ x (alJ a i (afR (a y (zG e)) d k (f i y (ar _) e).1 (f i y (ar _) e).2)) (fun j z l g=>?_) h;rw[List.getElem?_set_ne (by omega)]at g;exact f j z (by omega) g
    ·cases h
   ·cases h
  ·exact KG d b c r (i+1) cs full x a (fun j y l e=>f j y (by omega) e) h
theorem ae5{c:Str}(b:c.length<=1048576){cs:List ah}(h:XO cs)(k:Nat):XO (pJ c cs k):=by
 unfold pJ;split
 ·rename_i x a;refine alJ h k ?_;have:=h x (zG a);rw[fM]at this ⊢;exact⟨this.1,this.2.1,this.2.2.1,Ad (by show (c.length:Int)<=_;omega),this.2.2.2.2.1,this.2.2.2.2.2⟩
 ·exact h
theorem agD(cs:List ah)(b c:Str)(d:Bool)(h:Fit B20 (.base .notebook) ⟨cs⟩)(l:c.length<=1048576):Fit B20 (.base .notebook) (qF cs b c d).1:=by
 obtain⟨f,t⟩:=uF h;have bb:∀(x:Bool) (p q:ak×Int),(x=true->Fit B20 (.base .notebook) p.1)->(x=false->Fit B20 (.base .notebook) q.1)->Fit B20 (.base .notebook) (bif x then p else q).1:=by
  intro x p q m n;cases x
  ·exact n rfl
  ·exact m rfl
 unfold qF;refine bb _ _ _ (fun _=>h) fun o=>?_
 have a:vU cs=true:=by simpa using o
 refine bb _ _ _ (fun _=>h) fun _=>bb _ _ _ (fun _=>h) fun _=>bb _ _ _ (fun _=>h) fun _=>bb _ _ _ (fun _=>h) fun _=>bb _ _ _ (fun _=>h) fun _=>bb _ _ _ (fun _=>h) fun _=>?_
 have g:=vS (Rz f) a;have hver:∀x,x∈cs->1<=x.version/\x.version<=999:=fun x i=>⟨(g.2 x i).2.v0,(g.2 x i).2.v9⟩
 unfold ZJ;split
 ·exact h
 ·exact h
 ·rename_i out e;have r:=KG d b c _ 0 _ _ _ (ae5 l f _) (fun j y _ s=>KC hver y (zG s)) e;have k:=Em _ _ _ _ _ _ _ _ e;rw[Ei]at k;exact uz r (by show out.length<=_;have u:out.length=cs.length:=k;omega)
end Go.Proofs.YtngjomkjlonfpaaGreat
