import Derived.Test.YtbbmkcioplbhbaaGreatDoorFree1
import Derived.Test.YtbbmkcioplbhbaaGreatDoorPlain1
import Derived.Test.YtbbmkcioplbhbaaGreatDoorLink1
set_option linter.unusedSimpArgs false
set_option linter.unusedVariables false
/- Plain laws: notebooks compiled: CompileAll alike on both sides. -/
namespace Go.Proofs.YtbbmkcioplbhbaaGreatDoor
open Go.Abs Go.Proofs
noncomputable def errOf(w:Int):Nat->List Str->Int
 | _,[]=>-1
 | i,p::r=>if ((rowOf w p).isNone||decide (12<=i))=true then ((i+1:Nat):Int)else errOf w (i+1) r
theorem SG(w:Int){ps:List Str}{i:Nat}{p:Str}(h:ps[i]?=some p):errOf w i (ps.drop i)=if ((rowOf w p).isNone||decide (12<=i))=true then ((i+1:Nat):Int)else errOf w (i+1) (ps.drop (i+1)):=by
 obtain⟨hi,rfl⟩:=zC.1 h;rw[List.drop_eq_getElem_cons hi];rfl
theorem amc(a:Str)(q:a.length<=120){b:Str}{ps:List Str}(j:Go.Lib.split a [59,32]=b::ps)(k:(dataOf b ps).2=false) :
  zX a=some (bif DC (Go.Lib.split b [32])then errOf ((Go.Lib.split b [32]).length:Int) 0 ps else 0):=by
 obtain⟨n,m⟩:=jm a [59,32];rw[j]at n m;have A:=m b (by simp);obtain⟨r,o⟩:=jm b [32];unfold zX;have s:kR a [59,32]=some (b::ps):=by
  unfold kR;rw[if_pos ⟨by omega,by simp⟩,j]
 have t:lH b 32=some (Go.Lib.split b [32]):=KF b 32 (by omega);have u:idx (b::ps) 0=some b:=rfl;have v:(b::ps)[0]?=some b:=rfl;have w:nP a=some ((dataOf b ps).1,false):=by rw[RZ a q j,<- k]
 have y:=abG (Go.Lib.split b [32]) (by omega) (fun x c=>by have:=o x c;omega);simp only[w,aa,s,u,v,t,y,ace,zA];generalize Go.Lib.split b [32]=cols at r o;cases DC cols with
 | false=>rfl
 | true=>
  simp only[aM,aa,ac];refine uz (dw (fun (_:Unit) (i:Nat)=>((cols,ps,(ps.length:Int),(i:Int)):(List Str)×(List Str)×Int×Int)) ps (fun i _=>errOf (cols.length:Int) i (ps.drop i)=errOf (cols.length:Int) 0 ps) _ (fun i p out c f=>?_) (fun out f=>?_) () rfl)
  ·have z:=m p (ar _ (zG c));obtain⟨l,ok,e,g⟩:=afq (cols.length:Int) p (by omega);simp only[List.length_cons]at n;have hd:=SG (cols.length:Int) c;simp only[bZ c,ac,aA,c,zA,e,bY c (by omega)];rcases g with ⟨rfl,g⟩ | ⟨rfl,g⟩
   ·rw[g]at hd;exact .inr ⟨_,rfl,by rw[<- f,hd];rfl⟩
   ·rw[g]at hd;by_cases h:12<=i
    ·have d:decide ((i:Int)>=12)=true:=by simp;omega
     rw[d];refine .inr ⟨_,rfl,?_⟩;rw[<- f,hd,aq h];rfl
    ·have d:decide ((i:Int)>=12)=false:=by simp;omega
     rw[d];refine .inl ⟨(),rfl,?_⟩;rw[<- f,hd,ae h];rfl
  ·refine⟨_,by simp only[bG,aa];rfl,?_⟩;rw[<- f,List.drop_length];rfl
theorem alA(a:Str)(B:a.length<=120){b:Str}{ps:List Str}(n:Go.Lib.split a [59,32]=b::ps) :
  zi a=some (bif DC (Go.Lib.split b [32])then errOf ((Go.Lib.split b [32]).length:Int) 0 ps else 0):=by
 obtain⟨o,j⟩:=jm a [59,32];rw[n]at o j;have C:=j b (by simp);obtain⟨r,q⟩:=jm b [32];unfold zi;have s:sS a=some (b::ps):=by rw[VG a (by omega),n]
 have t:nJ b 32=some (Go.Lib.split b [32]):=JQ b 32 (by omega);have u:idx (b::ps) 0=some b:=rfl;have v:(b::ps)[0]?=some b:=rfl;have w:=aaw (Go.Lib.split b [32]) (by omega) (fun x c=>by have:=q x c;omega);simp only[s,u,v,t,w,zA];generalize Go.Lib.split b [32]=cols at r q;cases DC cols with
 | false=>rfl
 | true=>
  simp only[aM,aa,ac];refine uz (dw (fun (_:Unit) (i:Nat)=>((b::ps,cols,((i+1:Nat):Int)):(List Str)×(List Str)×Int)) ps (fun i _=>errOf (cols.length:Int) i (ps.drop i)=errOf (cols.length:Int) 0 ps) _ (fun i p out c f=>?_) (fun out f=>?_) () rfl)
  ·have y:=j p (ar _ (zG c));obtain⟨l,ok,e,g⟩:=afp (cols.length:Int) p (by omega);have z:=(zC.1 c).1;simp only[List.length_cons]at o;have hd:=SG (cols.length:Int) c;have k:decide (((i+1:Nat):Int)<((b::ps).length:Int))=true:=by simp;omega
   have m:(b::ps)[i+1]?=some p:=by simpa using c
   have A:w64 (((i+1:Nat):Int)+1)=((i+1+1:Nat):Int):=by rw[aT (by omega) (by omega)];omega
   simp only[k,ac,aA,m,zA,aD,e,A];rcases g with ⟨rfl,g⟩ | ⟨rfl,g⟩
   ·rw[g]at hd;exact .inr ⟨_,rfl,by rw[<- f,hd];rfl⟩
   ·rw[g]at hd;by_cases h:12<=i
    ·have d:decide (((i+1:Nat):Int)>12)=true:=by simp;omega
     rw[d];refine .inr ⟨_,rfl,?_⟩;rw[<- f,hd,aq h];rfl
    ·have d:decide (((i+1:Nat):Int)>12)=false:=by simp;omega
     rw[d];refine .inl ⟨(),rfl,?_⟩;rw[<- f,hd,ae h];rfl
  ·have k:decide (((ps.length+1:Nat):Int)<((b::ps).length:Int))=false:=by simp
   refine⟨_,by simp only[k,aa];rfl,?_⟩;rw[<- f,List.drop_length];rfl
def mJ(c:Int)(i:Nat)(r:bD):bD:=⟨r.cells,[⟨c,(i:Int)⟩]⟩
theorem afj{ρ X:Type}{g:X->Option (X⊕ρ)}(pk:List bD->Nat->X)(c:Int)(rows:List bD)(r:ρ)
  (h:∀i x out,out.length=rows.length->i<rows.length->out[i]?=some x->g (pk out i)=some (.inl (pk (out.set i (mJ c i x)) (i+1))))
  (j:g (pk (iO (mJ c) 0 rows) rows.length)=some (.inr r)):au g (pk rows 0)=some r:=by
 have key:∀(k i:Nat) (a b:List bD),rows.length=i+k->a.length=i->b.length=k->a++iO (mJ c) i b=iO (mJ c) 0 rows->au g (pk (a++b) i)=some r:=by
  intro k;induction k with
  | zero=>
   intro i a b hi e d f;have:b=[]:=List.length_eq_zero_iff.1 d;subst this;rw[iO,List.append_nil]at f;rw[List.append_nil,f,aC,show i=rows.length by omega,j]
  | succ k ih=>
   intro i a b hi e d f;cases b with
   | nil=>simp at d
   | cons x b=>
    have l:(a++x::b)[i]?=some x:=by rw[<- e];simp
    rw[aC,h i x _ (by simp at d ⊢;omega) (by omega) l];simp only;have hset:(a++x::b).set i (mJ c i x)=(a++[mJ c i x])++b:=by
     rw[List.set_append_right _ _ (by omega),e,Nat.sub_self];simp
    rw[hset];refine ih (i+1) (a++[mJ c i x]) b (by omega) (by simp[e]) (by simpa using d) ?_;rw[a8];exact f
 exact key rows.length 0 [] rows (by omega) rfl rfl rfl
theorem ajF{X ρ:Type}{f:X->Option (X⊕ρ)}{a:X}{q:Option ρ}{v:ρ}(h:f a=q.bind fun r=>some (.inr r))(b:q=some v):au f a=some v:=by
 rw[aC,h,b];rfl
theorem akc(r:bD)(h:r.cells.length<=1048576)(h2:r.orig.length<=1048576):yA r=some r:=by
 unfold yA;rw[gdp (by omega),zA,gdp (by omega),zA];cases r;rfl
theorem aiI(r:bD)(h:r.cells.length<=1048576)(h2:r.orig.length<=1048576):JS r=some r:=by
 unfold JS;rw[gdp (by omega),zA,gdp (by omega),zA];cases r;rfl
theorem Ir(v:aF):dD v=v:=by cases v;rfl
structure ak3(cols:List Str)(rows:List bD):Prop where
 cl:cols.length<=122
 ct:∀x,x∈cols->x.length<=120
 rl:rows.length<=122
 rr:∀r,r∈rows->r.orig=[]/\r.cells.length<=122
theorem akg(cols:List Str)(rows:List bD)(h:ak3 cols rows):nS ⟨5,0,0,[],[],cols,rows⟩=some ⟨5,0,0,[],[],cols,rows⟩:=by
 have f:=h.cl;have g:=h.rl;unfold nS;obtain⟨m,b⟩:∃m,siz (⟨5,0,0,[],[],cols,rows⟩:aF)+1=m+1+1:=⟨siz (⟨5,0,0,[],[],cols,rows⟩:aF)-1,by
  have:1<=siz (⟨5,0,0,[],[],cols,rows⟩:aF):=by simp only[siz];rw[aF.mk.sizeOf_spec];omega
  omega⟩
 rw[b];show qX (dG (m+1)).1 (dG (m+1)).2 _=_
 unfold qX;have c:(dG (m+1)).2 []=some []:=by
  show oU (dG m).1 (dG m).2 []=_
  unfold oU;rw[aC];rfl
 have d:gd (0+cols.length)=some ():=gdp (by omega);simp only[c,d,zA];refine Eo (fun (out:List bD) (i:Nat)=>((0,0,0,[],[],[],[],5,0,0,[],[],[]++cols,out,rows,(rows.length:Int),(i:Int)):Int×Int×Int×Str×(List aF)×(List Str)×(List bD)×Int×Int×Int×Str×(List aF)×(List Str)×(List bD)×(List bD)×Int×Int)) rows (fun _ r=>r) _ (fun i r out a j=>?_) ?_
 ·obtain⟨e,k⟩:=h.rr r (zG a);have hi:=(zC.1 a).1;simp only[bZ a,ac,aA,a,zA,akc r (by omega) (by rw[e];simp),bY a (by omega)];rw[gdp (by simp;omega)];rfl
 ·simp only[bG,aa,uH];rfl
theorem aiX(cols:List Str)(rows:List bD)(h:ak3 cols rows):D9 ⟨5,0,0,[],[],cols,rows⟩=some ⟨5,0,0,[],[],cols,rows⟩:=by
 have d:=h.cl;have e:=h.rl;show BI (xk _) _=_
 unfold BI;have b:gd (0+cols.length)=some ():=gdp (by omega);simp only[b,zA];refine ajF (by simp only[List.length_nil,Int.ofNat_zero,Int.lt_irrefl,decide_false,aa];rfl) ?_;refine Eo (fun (out:List bD) (i:Nat)=>((5,0,0,[],[],cols,rows,0,0,0,[],[],[],[],5,0,0,[],[],[]++cols,out,(i:Int)):Int×Int×Int×Str×(List aF)×(List Str)×(List bD)×Int×Int×Int×Str×(List aF)×(List Str)×(List bD)×Int×Int×Int×Str×(List aF)×(List Str)×(List bD)×Int)) rows (fun _ r=>r) _ (fun i r out a f=>?_) ?_
 ·obtain⟨c,g⟩:=h.rr r (zG a);have hi:=(zC.1 a).1;simp only[bZ a,ac,aA,a,zA,aiI r (by omega) (by rw[c];simp),bY a (by omega)];rw[gdp (by simp;omega)];rfl
 ·simp only[bG,aa,uH];rfl
theorem aeh(c:Int)(k:0<=c)(cols:List Str)(rows:List bD)(h:ak3 cols rows)(hv:JF cols rows=true):sD c ⟨5,0,0,[],[],cols,rows⟩=some ⟨5,0,0,[],[],cols,iO (mJ c) 0 rows⟩:=by
 have a:=h.cl;have b:=h.rl;have h1:=IZ cols rows (by omega) h.ct (fun r e=>by have:=h.rr r e;exact⟨this.1,by omega⟩);have d:decide (c<0)=false:=by simp;omega
 unfold sD;simp only[Ir,h1,hv,akg cols rows h,d,zA,aM,aa];refine (afj (fun (out:List bD) (i:Nat)=>((c,0,0,0,[],[],[],[],5,0,0,[],[],cols,out,(rows.length:Int),(i:Int)):Int×Int×Int×Int×Str×(List aF)×(List Str)×(List bD)×Int×Int×Int×Str×(List aF)×(List Str)×(List bD)×Int×Int)) c rows _ (fun i x out l hi f=>?_) ?_)
 ·have g:decide ((i:Int)<(rows.length:Int))=true:=by simp;omega
  have j:w64 ((i:Int)+1)=((i+1:Nat):Int):=by rw[aT (by omega) (by omega)];omega
  simp only[g,ac,aA,f,zA,aD,j];rfl
 ·simp only[bG,aa]
theorem ac1(c:Int)(k:0<=c)(cols:List Str)(rows:List bD)(h:ak3 cols rows)(hv:JF cols rows=true):rP c ⟨5,0,0,[],[],cols,rows⟩=some ⟨5,0,0,[],[],cols,iO (mJ c) 0 rows⟩:=by
 have b:=h.cl;have e:=h.rl;have h1:=Ib cols rows (by omega) h.ct (fun r f=>by have:=h.rr r f;exact⟨this.1,by omega⟩);have d:decide (c<0)=false:=by simp;omega
 unfold rP;simp only[Ir,h1,hv,aiX cols rows h,d,zA,aM,aa];refine (afj (fun (out:List bD) (i:Nat)=>((c,0,0,0,[],[],[],[],5,0,0,[],[],cols,out,(i:Int)):Int×Int×Int×Int×Str×(List aF)×(List Str)×(List bD)×Int×Int×Int×Str×(List aF)×(List Str)×(List bD)×Int)) c rows _ (fun i x out l hi g=>?_) ?_)
 ·have a:decide ((i:Int)<(out.length:Int))=true:=by simp;omega
  have j:w64 ((i:Int)+1)=((i+1:Nat):Int):=by rw[aT (by omega) (by omega)];omega
  simp only[a,ac,aA,g,zA,aD,j];rfl
 ·have a:decide ((rows.length:Int)<((iO (mJ c) 0 rows).length:Int))=false:=by rw[CG];simp
  simp only[a,aa]
theorem X7(a:Str)(h:a.length<=1048576):∃v,oQ a=some v/\kL a=some v/\(v=true->a.length<=120):=by
 have e:oQ a=kL a:=rfl;rw[e];have key:∃v,kL a=some v/\(v=true->a.length<=120):=by
  unfold kL;refine dw (fun (_:Unit) (i:Nat)=>((a,(i:Int)):Str×Int)) a (fun _ _=>True) _ (fun i x s b d=>?_) (fun s d=>?_) () trivial
  ·simp only[bZ b,ac,aA,b,zA,bY b (by omega)];cases decide ((x.toNat:Int)<32)with
   | true=>exact .inr ⟨false,rfl,fun h=>(by cases h)⟩
   | false=>
    cases decide ((x.toNat:Int)>126)with
    | true=>exact .inr ⟨false,rfl,fun h=>(by cases h)⟩
    | false=>exact .inl ⟨(),rfl,trivial⟩
  ·refine⟨_,by simp only[bG,aa];rfl,fun h=>?_⟩;simp at h;omega
 obtain⟨v,c,h1⟩:=key;exact⟨v,c,c,h1⟩
structure WO(c:ah):Prop where
 id0:1<=c.id
 id9:c.id<=999
 v0:1<=c.version
 v9:c.version<=999
 code:c.code.length<=120
 kind:c.kind=1\/c.kind=2\/c.kind=3\/c.kind=4
 name:c.name.length<=8
theorem afP{a b c:Int}(h:(decide (b<=a)&&decide (a<=c))=true):b<=a/\a<=c:=by simpa using h
theorem Hf(c:ah)(y:c.name.length<=1048576)(l:c.code.length<=1048576):∃b,cZ c=some b/\dm c=some b/\(b=true->WO c):=by
 obtain⟨v,m,n,o⟩:=X7 c.code l;obtain⟨u,g⟩:=oK c.name (by omega);have p:bM c.name=some u:=by rw[<- nY c.name (by omega),g]
 have q:∀a b d:Int,lZ a b d=iF a b d:=fun a b d=>(Vo a b d).symm
 unfold cZ dm;simp only[q,zS,m,n,g,p,zA];cases h1:(decide (1<=c.id)&&decide (c.id<=999))with
 | false=>exact⟨false,rfl,rfl,fun h=>(by cases h)⟩
 | true=>
  cases h2:(decide (1<=c.version)&&decide (c.version<=999))with
  | false=>exact⟨false,rfl,rfl,fun h=>(by cases h)⟩
  | true=>
   cases v with
   | false=>exact⟨false,rfl,rfl,fun h=>(by cases h)⟩
   | true=>
    have e:=afP h1;have f:=afP h2;have k:=o rfl;simp only[aM,aa];have no:∃b:Bool,(some false:Option Bool)=some b/\(some false:Option Bool)=some b/\(b=true->WO c):=⟨false,rfl,rfl,fun h=>(by cases h)⟩;have named:∀z:Option Bool,(∃b,z=some b)->(c.kind=1\/c.kind=2\/c.kind=3\/c.kind=4)->∃b:Bool,(bif u then z else some false)=some b/\(bif u then z else some false)=some b/\(b=true->WO c):=by
     intro z r i;obtain⟨b,rfl⟩:=r;cases u with
     | false=>exact no
     | true=>exact⟨b,rfl,rfl,fun _=>⟨e.1,e.2,f.1,f.2,k,i,LP c.name (by omega) g⟩⟩
    cases s:(c.kind==1)with
    | true=>
     simp only[ac];have i:c.kind=1:=eq_of_beq s;cases j:(c.name==[])with
     | false=>exact no
     | true=>exact⟨_,rfl,rfl,fun _=>⟨e.1,e.2,f.1,f.2,k,.inl i,by rw[eq_of_beq j];simp⟩⟩
    | false=>
     simp only[aa];cases t:(c.kind==2)with
     | true=>exact named _ ⟨_,rfl⟩ (.inr (.inl (eq_of_beq t)))
     | false=>
      simp only[aa];cases w:(c.kind==4)with
      | true=>exact named _ ⟨_,rfl⟩ (.inr (.inr (.inr (eq_of_beq w))))
      | false=>
       simp only[aa];cases x:(c.kind==3)with
       | true=>
        refine named _ ?_ (.inr (.inr (.inl (eq_of_beq x))));cases (c.code==[])<;>exact⟨_,rfl⟩
       | false=>exact no
structure vk(p:bH):Prop where
 expr:p.kind=2->ve p.expr/\wtE p.expr<=40
 name:p.name.length<=8
theorem sW(p:bH):jS p=p:=by
 unfold jS;rw[aS,Ir]
theorem Zp(c:ah)(hv:cZ c=some true)(m:dm c=some true)(b:WO c):∃p,lW c=some p/\lQ c=some p/\vk p:=by
 have ne:∀(k:Int) (n:Str) (e:af) (v:aF) (a:Int),¬k=2->n.length<=8->vk ⟨k,n,e,v,a⟩:=fun k n e v a o q=>⟨fun h=>absurd h o,q⟩
 unfold lW lQ;simp only[hv,m,zA,aM,aa,zV,yY,lJ,lq,Ir,aS];rcases b.kind with k | k | k | k
 ·rw[k];exact⟨_,rfl,rfl,ne _ _ _ _ _ (by decide) (by simp)⟩
 ·rw[k];obtain⟨e,p,h1,h2,g⟩:=MN c.code;simp only[h1,h2,zA];by_cases f:p>=0
  ·rw[aq f];exact⟨_,rfl,rfl,ne _ _ _ _ _ (by decide) b.name⟩
  ·rw[ae f];exact⟨_,rfl,rfl,⟨fun _=>g (by omega),b.name⟩⟩
 ·rw[k];exact⟨_,rfl,rfl,ne _ _ _ _ _ (by decide) b.name⟩
 ·rw[k];obtain⟨v,ok,h1,h2,g⟩:=aeP c.code b.code;simp only[h1,h2,zA];cases ok with
  | false=>
   obtain⟨r,ps,d⟩:=Qy c.code;have i:(dataOf r ps).2=false:=by
    have:=(RZ c.code b.code d).symm.trans h1;injection this with this;rw[this]
   rw[amc c.code b.code d i,alA c.code b.code d];exact⟨_,rfl,rfl,ne _ _ _ _ _ (by decide) b.name⟩
  | true=>
   obtain⟨cols,rows,rfl,j,s,t,u,w⟩:=g rfl;have l:ak3 cols rows:=⟨s,t,u,w⟩;have x:=b.id0;rw[aeh c.id (by omega) cols rows l j,ac1 c.id (by omega) cols rows l j];exact⟨_,rfl,rfl,ne _ _ _ _ _ (by decide) b.name⟩
def EZ(id:Int):Nat->List ah->Int
 | _,[]=>-1
 | i,c::r=>if (c.id==id)=true then (i:Int)else EZ id (i+1) r
theorem VX(id:Int){cs:List ah}{i:Nat}{c:ah}(h:cs[i]?=some c):EZ id i (cs.drop i)=if (c.id==id)=true then (i:Int)else EZ id (i+1) (cs.drop (i+1)):=by
 obtain⟨hi,rfl⟩:=zC.1 h;rw[List.drop_eq_getElem_cons hi];rfl
theorem aqS(cs:List ah)(id:Int)(e:cs.length<=1048576):gU ⟨cs⟩ id=some (EZ id 0 cs):=by
 unfold gU;refine uz (dw (fun (_:Unit) (i:Nat)=>((id,cs,(cs.length:Int),(i:Int)):Int×List ah×Int×Int)) cs (fun i _=>EZ id i (cs.drop i)=EZ id 0 cs) _ (fun i c s a b=>?_) (fun s b=>?_) () rfl)
 ·have hd:=VX id a;simp only[bZ a,ac,aA,a,zA,bY a (by omega)];cases d:(c.id==id)with
  | true=>exact .inr ⟨_,rfl,by rw[<- b,hd,d];rfl⟩
  | false=>exact .inl ⟨(),rfl,by rw[<- b,hd,d];rfl⟩
 ·exact⟨_,by simp only[bG,aa];rfl,by rw[<- b,List.drop_length];rfl⟩
theorem aqr(cs:List ah)(id:Int)(e:cs.length<=1048576):jG ⟨cs⟩ id=some (EZ id 0 cs):=by
 unfold jG;refine uz (dw (fun (_:Unit) (i:Nat)=>((id,cs,(i:Int)):Int×List ah×Int)) cs (fun i _=>EZ id i (cs.drop i)=EZ id 0 cs) _ (fun i c s a b=>?_) (fun s b=>?_) () rfl)
 ·have hd:=VX id a;simp only[bZ a,ac,aA,a,zA,bY a (by omega)];cases d:(c.id==id)with
  | true=>exact .inr ⟨_,rfl,by rw[<- b,hd,d];rfl⟩
  | false=>exact .inl ⟨(),rfl,by rw[<- b,hd,d];rfl⟩
 ·exact⟨_,by simp only[bG,aa];rfl,by rw[<- b,List.drop_length];rfl⟩
structure wC(c:ah):Prop where
 name:c.name.length<=1048576
 code:c.code.length<=1048576
noncomputable def cellV(c:ah):Bool:=(cZ c).getD false
theorem af0(c:ah)(h:wC c):cZ c=some (cellV c):=by
 obtain⟨b,h1,_⟩:=Hf c h.name h.code;unfold cellV;rw[h1];rfl
theorem afZ(c:ah)(h:wC c):dm c=some (cellV c):=by
 obtain⟨b,h1,h2,_⟩:=Hf c h.name h.code;unfold cellV;rw[h1,h2];rfl
theorem amB(c:ah)(h:wC c)(hv:cellV c=true):WO c:=by
 obtain⟨b,h1,_,a⟩:=Hf c h.name h.code;refine a ?_;unfold cellV at hv;rw[h1]at hv;exact hv
noncomputable def yN(cs:List ah):Bool:=jF (fun i c=>cellV c&&(EZ c.id 0 cs==(i:Int))) 0 cs&&decide ((cs.length:Int)<=8)
theorem abH(cs:List ah)(b:cs.length<=1048576)(h:∀c,c∈cs->wC c):fH ⟨cs⟩=some (yN cs):=by
 unfold fH yN;refine (qE (fun i=>((cs,cs,(cs.length:Int),(i:Int)):List ah×List ah×Int×Int)) cs (fun i c=>cellV c&&(EZ c.id 0 cs==(i:Int))) false (decide ((cs.length:Int)<=8)) (fun i c a=>?_) ?_).trans ?_
 ·simp only[bZ a,ac,aA,a,zA,af0 c (h c (zG a)),aqS cs c.id b,bne,bY a (by omega)];cases cellV c<;>cases (EZ c.id 0 cs==(i:Int))<;>rfl
 ·simp only[bG,aa]
 ·cases jF (fun i c=>cellV c&&(EZ c.id 0 cs==(i:Int))) 0 cs<;>rfl
theorem aay(cs:List ah)(b:cs.length<=1048576)(h:∀c,c∈cs->wC c):eU ⟨cs⟩=some (yN cs):=by
 unfold eU yN;refine (qE (fun i=>((cs,(i:Int)):List ah×Int)) cs (fun i c=>cellV c&&(EZ c.id 0 cs==(i:Int))) false (decide ((cs.length:Int)<=8)) (fun i c a=>?_) ?_).trans ?_
 ·simp only[bZ a,ac,aA,a,zA,afZ c (h c (zG a)),aqr cs c.id b,bne,bY a (by omega)];cases cellV c<;>cases (EZ c.id 0 cs==(i:Int))<;>rfl
 ·simp only[bG,aa]
 ·cases jF (fun i c=>cellV c&&(EZ c.id 0 cs==(i:Int))) 0 cs<;>rfl
theorem NC{α:Type}{p:Nat->α->Bool}:∀ {i:Nat} {xs:List α},jF p i xs=true->∀x,x∈xs->∃j,p j x=true
 | i,y::r,h,x,a=>by
  have h:(p i y&&jF p (i+1) r)=true:=h;rw[zI]at h;rcases bc.1 a with rfl | a
  ·exact⟨i,h.1⟩
  ·exact NC h.2 x a
theorem Aq{cs:List ah}(h:∀c,c∈cs->wC c)(hv:yN cs=true):cs.length<=8/\∀c,c∈cs->cellV c=true/\WO c:=by
 unfold yN at hv;rw[zI]at hv;have d:=of_decide_eq_true hv.2;refine⟨by omega,fun c b=>?_⟩;obtain⟨j,a⟩:=NC hv.1 c b;rw[zI]at a;exact⟨a.1,amB c (h c b) a.1⟩
theorem Vf(cs:List ah)(o:cs.length<=1048576)(h:∀c,c∈cs->wC c):∃ps,oD ⟨cs⟩=some ps/\og ⟨cs⟩=some ps/\(∀p,p∈ps->vk p)/\(yN cs=true->ps.length=cs.length)/\ps.length<=8:=by
 unfold oD og;simp only[abH cs o h,aay cs o h,zA];cases hv:yN cs with
 | false=>exact⟨[],rfl,rfl,fun p k=>(by cases k),fun h=>(by cases h),by simp⟩
 | true=>
  obtain⟨B,l⟩:=Aq h hv;simp only[aM,aa];have pt:∀c,c∈cs->∃p,lW c=some p/\lQ c=some p/\vk p:=fun c m=>by
   obtain⟨r,t⟩:=l c m;exact Zp c (by rw[af0 c (h c m),r]) (by rw[afZ c (h c m),r]) t
  have key:=Xb (ρ:=List bH) (f:=fun (a:(List bH)×(List ah)×Int×Int)=>
   bif (decide (a.2.2.2<a.2.2.1))then
    (idx a.2.1 a.2.2.2).bind fun n=>
    (lW n).bind fun d=>
    (gd (a.1.length+[jS d].length)).bind fun _=>
    some (.inl (a.1++[jS d],a.2.1,a.2.2.1,w64 (a.2.2.2+1)))
   else
    some (.inr (a.1))) (g:=fun (a:(List ah)×(List bH)×Int)=>
   bif (decide (a.2.2<(a.1.length:Int)))then
    (idx a.1 a.2.2).bind fun n=>
    (lQ n).bind fun d=>
    (gd (a.2.1.length+[jS d].length)).bind fun _=>
    some (.inl (a.1,a.2.1++[jS d],w64 (a.2.2+1)))
   else
    some (.inr (a.2.1))) (fun (out:List bH) (i:Nat)=>((out,cs,(cs.length:Int),(i:Int)):(List bH)×(List ah)×Int×Int)) (fun (out:List bH) (i:Nat)=>((cs,out,(i:Int)):(List ah)×(List bH)×Int)) cs (fun i out=>out.length=i/\∀p,p∈out->vk p) (fun ps=>ps.length=cs.length/\∀p,p∈ps->vk p) (fun i c out b j=>.inl ?_) (fun out j=>⟨out,by simp only[bG,aa],by simp only[bG,aa],j⟩) [] ⟨rfl,fun p k=>(by cases k)⟩
  ·obtain⟨ps,u,v,w,x⟩:=key;exact⟨ps,u,v,x,fun _=>w,by omega⟩
  ·obtain⟨p,y,z,A⟩:=pt c (zG b);have hi:=(zC.1 b).1;have s:gd (out.length+[p].length)=some ():=gdp (by simp;omega);refine⟨out++[p],?_,?_,by simp[j.1],fun q e=>?_⟩
   ·simp only[bZ b,ac,aA,b,zA,y,sW,s,bY b (by omega)]
   ·simp only[bZ b,ac,aA,b,zA,z,sW,s,bY b (by omega)]
   ·rcases List.mem_append.1 e with e | e
    ·exact j.2 q e
    ·rw[List.mem_singleton.1 e];exact A
end Go.Proofs.YtbbmkcioplbhbaaGreatDoor
/- Plain laws: what a part uses, and who defines a name: the two programs alike. -/
namespace Go.Proofs.YtbbmkcioplbhbaaGreatDoor
open Go.Abs Go.Proofs
noncomputable def rH(p:bH):List Str:=(rO p).getD []
theorem DW(p:bH)(h:vk p):su p=some (rH p)/\rO p=some (rH p)/\(rH p).length<=1000:=by
 have key:∃ys,su p=some ys/\rO p=some ys/\ys.length<=1000:=by
  unfold su rO;by_cases a:p.kind=2
  ·have e:(p.kind != 2)=false:=by rw[a];rfl
   obtain⟨hv,c⟩:=h.expr a;obtain⟨ys,h1,h2,_,d,_⟩:=AY p.expr (by omega);rw[e];simp only[aa,aS,h1,h2,zA];exact⟨ys,rfl,rfl,by omega⟩
  ·have e:(p.kind != 2)=true:=by simpa using a
   rw[e];exact⟨[],rfl,rfl,by simp⟩
 obtain⟨ys,h1,h2,b⟩:=key;have e:rH p=ys:=by unfold rH;rw[h2];rfl
 rw[e];exact⟨h1,h2,b⟩
noncomputable def KX(p:bH)(s:Str):Bool:=(rH p).contains s
theorem abj(p:bH)(h:vk p)(s:Str):∃q:Int,jC (rH p) s=some q/\decide (q>=0)=KX p s/\decide (q<0) = !(KX p s):=by
 obtain⟨_,_,c⟩:=DW p h;refine⟨posOf s 0 (rH p),qW (rH p) s (by omega),?_⟩;have b:=pV s (rH p) 0;unfold KX;cases a:(rH p).contains s with
 | false=>
  have:=b.2 a;exact⟨by rw[ae (by omega)],by rw[aq this];rfl⟩
 | true=>
  have:¬posOf s 0 (rH p)<0:=fun hh=>by rw[b.1 hh]at a;cases a
  exact⟨by rw[aq (by omega)],by rw[ae this];rfl⟩
theorem akj(p:bH)(h:vk p)(s:Str):kV (rH p) s=some (KX p s):=by
 obtain⟨_,_,a⟩:=DW p h;exact nZ (rH p) s (by omega)
theorem abM(p:bH)(s:Str)(h:KX p s=true):p.kind=2:=by
 by_cases a:p.kind=2
 ·exact a
 ·have e:(p.kind != 2)=true:=by simpa using a
  have:rH p=[]:=by unfold rH rO;rw[e];rfl
  unfold KX at h;rw[this]at h;cases h
def dU(b:Str):Nat->List bH->List Int
 | _,[]=>[]
 | i,p::r=>if ((p.kind != 1)&&(p.name==b))=true then (i:Int)::dU b (i+1) r else dU b (i+1) r
theorem ab8(b:Str){ps:List bH}{i:Nat}{p:bH}(h:ps[i]?=some p):dU b i (ps.drop i)=if ((p.kind != 1)&&(p.name==b))=true then (i:Int)::dU b (i+1) (ps.drop (i+1))else dU b (i+1) (ps.drop (i+1)):=by
 obtain⟨hi,rfl⟩:=zC.1 h;rw[List.drop_eq_getElem_cons hi];rfl
theorem He(b:Str):∀(ps:List bH) (i:Nat) (k:Int),k∈dU b i ps->(i:Int)<=k/\k<((i+ps.length:Nat):Int)
 | [],i,k,h=>by cases h
 | p::r,i,k,h=>by
  unfold dU at h;split at h
  ·rcases bc.1 h with rfl | h
   ·simp;omega
   ·have:=He b r (i+1) k h;simp only[List.length_cons];omega
  ·have:=He b r (i+1) k h;simp only[List.length_cons];omega
theorem Ws{b:Str}{ps:List bH}{i:Nat}{p:bH}(a:ps[i]?=some p){out:List Int}(c:out++dU b i (ps.drop i)=dU b 0 ps) :
  (if ((p.kind != 1)&&(p.name==b))=true then out++[(i:Int)]else out)++dU b (i+1) (ps.drop (i+1))=dU b 0 ps:=by
 rw[<- c,ab8 b a];split
 ·rw[a8];rfl
 ·rfl
theorem aa6{c:Bool}{out:List Int}{i:Nat}(h:out.length<=i):(if c=true then out++[(i:Int)]else out).length<=i+1:=by
 split
 ·simp;omega
 ·omega
theorem afS(ps:List bH)(b:Str)(e:ps.length<=1048576):tC ps b=some (dU b 0 ps):=by
 unfold tC;refine uz (dw (fun (out:List Int) (i:Nat)=>((b,out,ps,(ps.length:Int),(i:Int)):Str×(List Int)×(List bH)×Int×Int)) ps (fun i out=>out++dU b i (ps.drop i)=dU b 0 ps/\out.length<=i) _ (fun i p out a c=>.inl ?_) (fun out c=>?_) [] ⟨rfl,az _⟩)
 ·have hi:=(zC.1 a).1;have d:∀n:Int,gd (out.length+[n].length)=some ():=fun n=>gdp (by simp;omega)
  refine⟨if ((p.kind != 1)&&(p.name==b))=true then out++[(i:Int)]else out,?_,Ws a c.1,aa6 c.2⟩;simp only[bZ a,ac,aA,a,zA,d,bY a (by omega)];cases (p.kind != 1)<;>cases (p.name==b)<;>rfl
 ·refine⟨out,by simp only[bG,aa],?_⟩;have:=c.1;rw[List.drop_length]at this;simpa [dU] using this
theorem afo(ps:List bH)(b:Str)(e:ps.length<=1048576):xC ps b=some (dU b 0 ps):=by
 unfold xC;refine uz (dw (fun (out:List Int) (i:Nat)=>((ps,b,out,(i:Int)):(List bH)×Str×(List Int)×Int)) ps (fun i out=>out++dU b i (ps.drop i)=dU b 0 ps/\out.length<=i) _ (fun i p out a c=>.inl ?_) (fun out c=>?_) [] ⟨rfl,az _⟩)
 ·have hi:=(zC.1 a).1;have d:∀n:Int,gd (out.length+[n].length)=some ():=fun n=>gdp (by simp;omega)
  refine⟨if ((p.kind != 1)&&(p.name==b))=true then out++[(i:Int)]else out,?_,Ws a c.1,aa6 c.2⟩;simp only[bZ a,ac,aA,a,zA,d,bY a (by omega)];cases (p.kind != 1)<;>cases (p.name==b)<;>rfl
 ·refine⟨out,by simp only[bG,aa],?_⟩;have:=c.1;rw[List.drop_length]at this;simpa [dU] using this
def Cb:List Int->Int
 | []=>-1
 | [k]=>k
 | _=>-2
theorem al9(ps:List bH)(b:Str)(c:ps.length<=1048576):CQ ps b=some (Cb (dU b 0 ps)):=by
 unfold CQ;rw[afS ps b c,zA];cases dU b 0 ps with
 | nil=>rfl
 | cons k r=>cases r with
  | nil=>rfl
  | cons a r=>
   have d:(((k::a::r).length:Int)==0)=false:=by simp;omega
   have e:(((k::a::r).length:Int)==1)=false:=by simp;omega
   rw[d,e];rfl
theorem afn(ps:List bH)(b:Str)(c:ps.length<=1048576):BB ps b=some (Cb (dU b 0 ps)):=by
 unfold BB;rw[afo ps b c,zA];cases dU b 0 ps with
 | nil=>rfl
 | cons k r=>cases r with
  | nil=>rfl
  | cons a r=>
   have d:(((k::a::r).length:Int)==0)=false:=by simp;omega
   have e:(((k::a::r).length:Int)==1)=false:=by simp;omega
   rw[d,e];rfl
theorem ai2(ps:List bH)(b:Str)(h:0<=Cb (dU b 0 ps)):∃k:Nat,Cb (dU b 0 ps)=k/\k<ps.length:=by
 cases hd:dU b 0 ps with
 | nil=>rw[hd]at h;exact absurd h (by decide)
 | cons k r=>cases r with
  | nil=>
   have:=He b ps 0 k (by rw[hd];simp)
   exact⟨k.toNat,by show k=_;omega,by omega⟩
  | cons a r=>rw[hd]at h;exact absurd h (by show ¬(0:Int)<=-2;decide)
end Go.Proofs.YtbbmkcioplbhbaaGreatDoor
/- Plain laws: RenameVariable alike on both sides. -/
namespace Go.Proofs.YtbbmkcioplbhbaaGreatDoor
noncomputable section
open Go.Abs Go.Proofs
def ahX(p:bH)(b c:Str):Bool:=(lm p.expr b c).getD false
theorem akK(p:bH)(h:vk p)(a:p.kind=2)(b c:Str):iy p.expr b c=some (ahX p b c)/\lm p.expr b c=some (ahX p b c):=by
 obtain⟨hv,d⟩:=h.expr a;obtain⟨v,h1,h2⟩:=DJ p.expr b c (by omega);have e:ahX p b c=v:=by unfold ahX;rw[h2];rfl
 rw[e];exact⟨h1,h2⟩
def textOf(p:bH)(b c:Str):Str:=(((jZ p.expr b c).bind fun r=>kD r.1)).getD []
theorem afc(p:bH)(h:vk p)(f:p.kind=2)(b c:Str)(g:b.length<=34359738368)(i:c.length<=34359738368) :
  ∃x v,kG p.expr b c=some (x,v)/\jZ p.expr b c=some (x,v)/\kH x=some (textOf p b c)/\kD x=some (textOf p b c):=by
 obtain⟨hv,l⟩:=h.expr f;obtain⟨x,v,j,a,m⟩:=xH p.expr b c (by omega) g i;obtain⟨s,k,d,_⟩:=Jh x (by omega);have e:textOf p b c=s:=by unfold textOf;rw[a];simp only[zA,d];rfl
 rw[e];exact⟨x,v,j,a,k,d⟩
def ZI(d:Bool)(t:Str)(x:ah):ah:=⟨x.id,if d=true then x.version+1 else x.version,x.kind,x.name,t,x.n⟩
def mQ(d:Bool)(b c:Str):Nat->List bH->List ah->Bool->Option (List ah×Bool)
 | _,[],cs,full=>some (cs,full)
 | i,p::r,cs,full=>if KX p b=true then
   (if (textOf p b c).length<=120 then (match cs[i]? with
    | some x=>mQ d b c (i+1) r (cs.set i (ZI d (textOf p b c) x)) (full||(d&&decide (x.version>=999)))
    | none=>none)
   else none)
  else mQ d b c (i+1) r cs full
theorem QX(d:Bool)(b c:Str){ps:List bH}{i:Nat}{p:bH}(h:ps[i]?=some p)(cs:List ah)(full:Bool):mQ d b c i (ps.drop i) cs full=if KX p b=true then
      (if (textOf p b c).length<=120 then (match cs[i]? with
       | some x=>mQ d b c (i+1) (ps.drop (i+1)) (cs.set i (ZI d (textOf p b c) x)) (full||(d&&decide (x.version>=999)))
       | none=>none)
      else none)
  else mQ d b c (i+1) (ps.drop (i+1)) cs full:=by
 obtain⟨hi,rfl⟩:=zC.1 h;rw[List.drop_eq_getElem_cons hi];rfl
def abR(cs:List ah):Option (List ah×Bool)->ak×Int
 | none=>(⟨cs⟩,5)
 | some (out,true)=>(⟨cs⟩,6)
 | some (out,false)=>(⟨out⟩,0)
abbrev RvI:=Str×Str×Bool×(List ah)×(List ah)×(List ah)×Bool×(List bH)×Int×Int
abbrev RvS:=Str×Str×(List ah)×(List ah)×(List ah)×(List bH)×Int×Int
def ai0:RvI->Option (RvI⊕(ak×Int)):=(fun (a:Str×Str×Bool×(List ah)×(List ah)×(List ah)×Bool×(List bH)×Int×Int)=>
      bif (decide (a.2.2.2.2.2.2.2.2.2<a.2.2.2.2.2.2.2.2.1))then
       (idx a.2.2.2.2.2.2.2.1 a.2.2.2.2.2.2.2.2.2).bind fun f=>
       (su (jS f)).bind fun g=>
       (jC g a.1).bind fun h=>
       bif (decide (h<0))then
        some (.inl (a.1,a.2.1,a.2.2.1,a.2.2.2.1,a.2.2.2.2.1,a.2.2.2.2.2.1,a.2.2.2.2.2.2.1,a.2.2.2.2.2.2.2.1,a.2.2.2.2.2.2.2.2.1,w64 (a.2.2.2.2.2.2.2.2.2+1)))
       else
       (kG (aj f.expr) a.1 a.2.1).bind fun i=>
       (kH (aj i.1)).bind fun c=>
       (idx a.2.2.2.2.2.1 a.2.2.2.2.2.2.2.2.2).bind fun _=>
       (a.2.2.2.2.2.1[a.2.2.2.2.2.2.2.2.2.toNat]?).bind fun b=>
       (idx (a.2.2.2.2.2.1.set a.2.2.2.2.2.2.2.2.2.toNat (ah.mk b.id b.version b.kind b.name c b.n)) a.2.2.2.2.2.2.2.2.2).bind fun _=>
       ((a.2.2.2.2.2.1.set a.2.2.2.2.2.2.2.2.2.toNat (ah.mk b.id b.version b.kind b.name c b.n))[a.2.2.2.2.2.2.2.2.2.toNat]?).bind fun j=>
       bif (decide ((j.code.length:Int)>120))then
        some (.inr (ak.mk a.2.2.2.1,5))
       else
       bif a.2.2.1 then
        bif a.2.2.2.2.2.2.1 then
         (idx (a.2.2.2.2.2.1.set a.2.2.2.2.2.2.2.2.2.toNat (ah.mk b.id b.version b.kind b.name c b.n)) a.2.2.2.2.2.2.2.2.2).bind fun _=>
         ((a.2.2.2.2.2.1.set a.2.2.2.2.2.2.2.2.2.toNat (ah.mk b.id b.version b.kind b.name c b.n))[a.2.2.2.2.2.2.2.2.2.toNat]?).bind fun k=>
         (idx (a.2.2.2.2.2.1.set a.2.2.2.2.2.2.2.2.2.toNat (ah.mk b.id b.version b.kind b.name c b.n)) a.2.2.2.2.2.2.2.2.2).bind fun _=>
         ((a.2.2.2.2.2.1.set a.2.2.2.2.2.2.2.2.2.toNat (ah.mk b.id b.version b.kind b.name c b.n))[a.2.2.2.2.2.2.2.2.2.toNat]?).bind fun d=>
         some (.inl (a.1,a.2.1,a.2.2.1,a.2.2.2.1,a.2.2.2.2.1,(a.2.2.2.2.2.1.set a.2.2.2.2.2.2.2.2.2.toNat (ah.mk b.id b.version b.kind b.name c b.n)).set a.2.2.2.2.2.2.2.2.2.toNat (ah.mk d.id (w64 (k.version+1)) d.kind d.name d.code d.n),true,a.2.2.2.2.2.2.2.1,a.2.2.2.2.2.2.2.2.1,w64 (a.2.2.2.2.2.2.2.2.2+1)))
        else
         (idx (a.2.2.2.2.2.1.set a.2.2.2.2.2.2.2.2.2.toNat (ah.mk b.id b.version b.kind b.name c b.n)) a.2.2.2.2.2.2.2.2.2).bind fun _=>
         ((a.2.2.2.2.2.1.set a.2.2.2.2.2.2.2.2.2.toNat (ah.mk b.id b.version b.kind b.name c b.n))[a.2.2.2.2.2.2.2.2.2.toNat]?).bind fun l=>
         (idx (a.2.2.2.2.2.1.set a.2.2.2.2.2.2.2.2.2.toNat (ah.mk b.id b.version b.kind b.name c b.n)) a.2.2.2.2.2.2.2.2.2).bind fun _=>
         ((a.2.2.2.2.2.1.set a.2.2.2.2.2.2.2.2.2.toNat (ah.mk b.id b.version b.kind b.name c b.n))[a.2.2.2.2.2.2.2.2.2.toNat]?).bind fun m=>
         (idx (a.2.2.2.2.2.1.set a.2.2.2.2.2.2.2.2.2.toNat (ah.mk b.id b.version b.kind b.name c b.n)) a.2.2.2.2.2.2.2.2.2).bind fun _=>
         ((a.2.2.2.2.2.1.set a.2.2.2.2.2.2.2.2.2.toNat (ah.mk b.id b.version b.kind b.name c b.n))[a.2.2.2.2.2.2.2.2.2.toNat]?).bind fun e=>
         some (.inl (a.1,a.2.1,a.2.2.1,a.2.2.2.1,a.2.2.2.2.1,(a.2.2.2.2.2.1.set a.2.2.2.2.2.2.2.2.2.toNat (ah.mk b.id b.version b.kind b.name c b.n)).set a.2.2.2.2.2.2.2.2.2.toNat (ah.mk e.id (w64 (m.version+1)) e.kind e.name e.code e.n),(decide (l.version>=999)),a.2.2.2.2.2.2.2.1,a.2.2.2.2.2.2.2.2.1,w64 (a.2.2.2.2.2.2.2.2.2+1)))
       else
        some (.inl (a.1,a.2.1,a.2.2.1,a.2.2.2.1,a.2.2.2.2.1,a.2.2.2.2.2.1.set a.2.2.2.2.2.2.2.2.2.toNat (ah.mk b.id b.version b.kind b.name c b.n),a.2.2.2.2.2.2.1,a.2.2.2.2.2.2.2.1,a.2.2.2.2.2.2.2.2.1,w64 (a.2.2.2.2.2.2.2.2.2+1)))
      else
       (
        bif a.2.2.2.2.2.2.1 then
         some (ak.mk a.2.2.2.1,6)
        else
         some (ak.mk a.2.2.2.2.2.1,0)
       ).bind fun r=>some (.inr r)
  )
def alB:RvS->Option (RvS⊕(ak×Int)):=(fun (a:Str×Str×(List ah)×(List ah)×(List ah)×(List bH)×Int×Int)=>
      bif (decide (a.2.2.2.2.2.2.2<(a.2.2.2.2.2.1.length:Int)))then
       (idx a.2.2.2.2.2.1 a.2.2.2.2.2.2.2).bind fun _=>
       (a.2.2.2.2.2.1[a.2.2.2.2.2.2.2.toNat]?).bind fun f=>
       (rO (jS f)).bind fun g=>
       (kV g a.1).bind fun h=>
       bif (!h)then
        some (.inl (a.1,a.2.1,a.2.2.1,a.2.2.2.1,a.2.2.2.2.1,a.2.2.2.2.2.1,a.2.2.2.2.2.2.1,w64 (a.2.2.2.2.2.2.2+1)))
       else
       (idx a.2.2.2.2.2.1 a.2.2.2.2.2.2.2).bind fun _=>
       (a.2.2.2.2.2.1[a.2.2.2.2.2.2.2.toNat]?).bind fun i=>
       (jZ (aj i.expr) a.1 a.2.1).bind fun j=>
       (kD (aj j.1)).bind fun c=>
       (idx a.2.2.2.2.1 a.2.2.2.2.2.2.2).bind fun _=>
       (a.2.2.2.2.1[a.2.2.2.2.2.2.2.toNat]?).bind fun b=>
       (idx (a.2.2.2.2.1.set a.2.2.2.2.2.2.2.toNat (ah.mk b.id b.version b.kind b.name c b.n)) a.2.2.2.2.2.2.2).bind fun _=>
       ((a.2.2.2.2.1.set a.2.2.2.2.2.2.2.toNat (ah.mk b.id b.version b.kind b.name c b.n))[a.2.2.2.2.2.2.2.toNat]?).bind fun k=>
       bif (decide ((k.code.length:Int)>120))then
        (iY (ak.mk a.2.2.1)).bind fun l=>
        some (.inr (l,5))
       else
       (idx (a.2.2.2.2.1.set a.2.2.2.2.2.2.2.toNat (ah.mk b.id b.version b.kind b.name c b.n)) a.2.2.2.2.2.2.2).bind fun _=>
       ((a.2.2.2.2.1.set a.2.2.2.2.2.2.2.toNat (ah.mk b.id b.version b.kind b.name c b.n))[a.2.2.2.2.2.2.2.toNat]?).bind fun m=>
       bif (m.version==999)then
        (idx (a.2.2.2.2.1.set a.2.2.2.2.2.2.2.toNat (ah.mk b.id b.version b.kind b.name c b.n)) a.2.2.2.2.2.2.2).bind fun _=>
        ((a.2.2.2.2.1.set a.2.2.2.2.2.2.2.toNat (ah.mk b.id b.version b.kind b.name c b.n))[a.2.2.2.2.2.2.2.toNat]?).bind fun o=>
        (idx (a.2.2.2.2.1.set a.2.2.2.2.2.2.2.toNat (ah.mk b.id b.version b.kind b.name c b.n)) a.2.2.2.2.2.2.2).bind fun _=>
        ((a.2.2.2.2.1.set a.2.2.2.2.2.2.2.toNat (ah.mk b.id b.version b.kind b.name c b.n))[a.2.2.2.2.2.2.2.toNat]?).bind fun d=>
        some (.inl (a.1,a.2.1,a.2.2.1,a.2.2.2.1,(a.2.2.2.2.1.set a.2.2.2.2.2.2.2.toNat (ah.mk b.id b.version b.kind b.name c b.n)).set a.2.2.2.2.2.2.2.toNat (ah.mk d.id (w64 (o.version+1)) d.kind d.name d.code d.n),a.2.2.2.2.2.1,6,w64 (a.2.2.2.2.2.2.2+1)))
       else
        (idx (a.2.2.2.2.1.set a.2.2.2.2.2.2.2.toNat (ah.mk b.id b.version b.kind b.name c b.n)) a.2.2.2.2.2.2.2).bind fun _=>
        ((a.2.2.2.2.1.set a.2.2.2.2.2.2.2.toNat (ah.mk b.id b.version b.kind b.name c b.n))[a.2.2.2.2.2.2.2.toNat]?).bind fun p=>
        (idx (a.2.2.2.2.1.set a.2.2.2.2.2.2.2.toNat (ah.mk b.id b.version b.kind b.name c b.n)) a.2.2.2.2.2.2.2).bind fun _=>
        ((a.2.2.2.2.1.set a.2.2.2.2.2.2.2.toNat (ah.mk b.id b.version b.kind b.name c b.n))[a.2.2.2.2.2.2.2.toNat]?).bind fun e=>
        some (.inl (a.1,a.2.1,a.2.2.1,a.2.2.2.1,(a.2.2.2.2.1.set a.2.2.2.2.2.2.2.toNat (ah.mk b.id b.version b.kind b.name c b.n)).set a.2.2.2.2.2.2.2.toNat (ah.mk e.id (w64 (p.version+1)) e.kind e.name e.code e.n),a.2.2.2.2.2.1,a.2.2.2.2.2.2.1,w64 (a.2.2.2.2.2.2.2+1)))
      else
       (
        bif (a.2.2.2.2.2.2.1 != 0)then
         (iY (ak.mk a.2.2.1)).bind fun q=>
         some (q,a.2.2.2.2.2.2.1)
        else
         some (ak.mk a.2.2.2.2.1,0)
       ).bind fun r=>some (.inr r)
  )
theorem afU{α:Type}(xs:List α)(i:Nat)(x:α)(h:i<xs.length):(xs.set i x)[i]?=some x:=by
 rw[List.getElem?_set_self h]
theorem ap2(d:Bool)(b c:Str)(A:b.length<=34359738368)(B:c.length<=34359738368)(cs:List ah)(ps:List bH)(l:∀p,p∈ps->vk p)(K:ps.length<=1048576)(out0:List ah)(C:out0.length=ps.length)(hv:∀x,x∈out0->1<=x.version/\x.version<=999) :
  au ai0 (b,c,d,cs,[],out0,false,ps,(ps.length:Int),0)=some (abR cs (mQ d b c 0 ps out0 false)):=by
 refine uz (dw (g:=ai0) (fun (s:List ah×Bool) (i:Nat)=>((b,c,d,cs,[],s.1,s.2,ps,(ps.length:Int),(i:Int)):RvI)) ps (fun i s=>s.1.length=ps.length/\mQ d b c i (ps.drop i) s.1 s.2=mQ d b c 0 ps out0 false/\∀j x,i<=j->s.1[j]?=some x->1<=x.version/\x.version<=999) _ (fun i p s a m=>?_) (fun s m=>?_) (out0,false) ⟨C,rfl,fun j x _ a=>hv x (zG a)⟩)
 ·obtain⟨n,f,k⟩:=m;have o:=l p (zG a);have hi:=(zC.1 a).1;obtain⟨D,L,M⟩:=DW p o;obtain⟨q,E,N,F⟩:=abj p o b;rw[QX d b c a]at f;simp only[ai0,bZ a,ac,aA,a,zA,sW,D,E,F,bY a (by omega)];cases hh:KX p b with
  | false=>
   rw[hh]at f;refine .inl ⟨s,rfl,n,?_,fun j x r a=>k j x (by omega) a⟩;simpa using f
  | true=>
   rw[hh,if_pos rfl]at f;have h:i<s.1.length:=by omega
   have t:=zF h;obtain⟨x,v,G,O,H,P⟩:=afc p o (abM p b hh) b c A B;have u:∀y:ah,(s.1.set i y)[i]?=some y:=fun y=>afU s.1 i y h
   rw[t]at f;have I:=k i _ (az _) t;simp only[aM,aa,aS,G,H,t,aD,u,zA];by_cases w:(textOf p b c).length<=120
   ·have e:decide (((textOf p b c).length:Int)>120)=false:=by simp;omega
    rw[if_pos w]at f;rw[e];simp only[aa];have keep:∀(y:ah) (j:Nat) (x:ah),i+1<=j->(s.1.set i y)[j]?=some x->1<=x.version/\x.version<=999:=fun y j x r a=>by
     rw[List.getElem?_set_ne (by omega)]at a;exact k j x (by omega) a
    have J:w64 (s.1[i].version+1)=s.1[i].version+1:=aT (by omega) (by omega);refine .inl ⟨(s.1.set i (ZI d (textOf p b c) s.1[i]),s.2||(d&&decide (s.1[i].version>=999))),?_,by simp[n],f,fun j x r a=>keep _ j x r a⟩;cases d with
    | false=>
     simp only[aa,Bool.false_and,Bool.or_false];rfl
    | true=>
     have hset:∀y z:ah,(s.1.set i y).set i z=s.1.set i z:=fun y z=>by rw[List.set_set]
     simp only[ac,Bool.true_and,J,hset];cases s.2<;>rfl
   ·have e:decide (((textOf p b c).length:Int)>120)=true:=by simp;omega
    rw[if_neg w]at f;rw[e];exact .inr ⟨_,rfl,by rw[<- f];rfl⟩
 ·obtain⟨n,f,k⟩:=m;rw[List.drop_length]at f;refine⟨abR cs (some s),?_,by rw[<- f];rfl⟩;obtain⟨out,full⟩:=s;simp only[ai0,bG,aa];cases full<;>rfl
theorem apP(b c:Str)(C:b.length<=34359738368)(D:c.length<=34359738368)(cs:List ah)(E:cs.length<=1048576)(ps:List bH)(k:∀p,p∈ps->vk p)(L:ps.length<=1048576)(out0:List ah)(F:out0.length=ps.length)(hv:∀x,x∈out0->1<=x.version/\x.version<=999) :
  au alB (b,c,cs,[],out0,ps,0,0)=some (abR cs (mQ true b c 0 ps out0 false)):=by
 have hcopy:iY ⟨cs⟩=some ⟨cs⟩:=by
  unfold iY;rw[gdp (by simp;omega)];rfl
 refine uz (dw (g:=alB) (fun (s:List ah×Bool) (i:Nat)=>((b,c,cs,[],s.1,ps,(if s.2=true then 6 else 0),(i:Int)):RvS)) ps (fun i s=>s.1.length=ps.length/\mQ true b c i (ps.drop i) s.1 s.2=mQ true b c 0 ps out0 false/\∀j x,i<=j->s.1[j]?=some x->1<=x.version/\x.version<=999) _ (fun i p s a l=>?_) (fun s l=>?_) (out0,false) ⟨F,rfl,fun j x _ a=>hv x (zG a)⟩)
 ·obtain⟨m,d,h⟩:=l;have n:=k p (zG a);have hi:=(zC.1 a).1;obtain⟨M,G,N⟩:=DW p n;have H:=akj p n b;rw[QX true b c a]at d;simp only[alB,bZ a,ac,aA,a,zA,aD,sW,G,H,bY a (by omega)];cases hh:KX p b with
  | false=>
   rw[hh]at d;refine .inl ⟨s,rfl,m,?_,fun j x o a=>h j x (by omega) a⟩;simpa using d
  | true=>
   rw[hh,if_pos rfl]at d;have f:i<s.1.length:=by omega
   have q:=zF f;obtain⟨x,v,O,I,P,J⟩:=afc p n (abM p b hh) b c C D;have r:∀y:ah,(s.1.set i y)[i]?=some y:=fun y=>afU s.1 i y f
   rw[q]at d;have K:=h i _ (az _) q;simp only[aM,aa,aS,I,J,q,aD,r,zA];by_cases w:(textOf p b c).length<=120
   ·have e:decide (((textOf p b c).length:Int)>120)=false:=by simp;omega
    rw[if_pos w]at d;rw[e];simp only[aa];have keep:∀(y:ah) (j:Nat) (x:ah),i+1<=j->(s.1.set i y)[j]?=some x->1<=x.version/\x.version<=999:=fun y j x o a=>by
     rw[List.getElem?_set_ne (by omega)]at a;exact h j x (by omega) a
    have A:w64 (s.1[i].version+1)=s.1[i].version+1:=aT (by omega) (by omega);have hset:∀y z:ah,(s.1.set i y).set i z=s.1.set i z:=fun y z=>by rw[List.set_set]
    refine .inl ⟨(s.1.set i (ZI true (textOf p b c) s.1[i]),s.2||(true&&decide (s.1[i].version>=999))),?_,by simp[m],d,fun j x o a=>keep _ j x o a⟩;by_cases B:s.1[i].version=999
    ·have t:(s.1[i].version==999)=true:=by simp[B]
     have u:decide (s.1[i].version>=999)=true:=by simp;omega
     simp only[t,u,ac,Bool.true_and,Bool.or_true,A,hset];rfl
    ·have t:(s.1[i].version==999)=false:=by simpa using B
     have u:decide (s.1[i].version>=999)=false:=by simp;omega
     simp only[t,u,aa,Bool.true_and,Bool.or_false,A,hset];rfl
   ·have e:decide (((textOf p b c).length:Int)>120)=true:=by simp;omega
    rw[if_neg w]at d;rw[e];simp only[ac,hcopy,zA];exact .inr ⟨_,rfl,by rw[<- d];rfl⟩
 ·obtain⟨m,d,h⟩:=l;rw[List.drop_length]at d;refine⟨abR cs (some s),?_,by rw[<- d];rfl⟩;obtain⟨out,full⟩:=s;simp only[alB,bG,aa,hcopy,zA];cases full<;>rfl
end
end Go.Proofs.YtbbmkcioplbhbaaGreatDoor
/- Plain laws: loops that scan, sizes, equality with itself. -/
namespace Go.Proofs.YtbbmkcioplbhbaaGreatDoor
open Go.Abs Go.Proofs
def kT{α:Type}(p:α->Nat->Bool):List α->Nat->Bool
 | [],_=>true
 | x::r,i=>p x i&&kT p r (i+1)
theorem mM{α X:Type}{g:X->Option (X⊕Bool)}(pk:Nat->X)(xs:List α)(p:α->Nat->Bool)(fin:Bool)
  (h1:∀i x,xs[i]?=some x->g (pk i)=bif p x i then some (.inl (pk (i+1)))else some (.inr false))
  (h2:g (pk xs.length)=some (.inr fin)):au g (pk 0)=some (kT p xs 0&&fin):=by
 have key:∀(n i:Nat),xs.length=i+n->au g (pk i)=some (kT p (xs.drop i) i&&fin):=by
  intro n;induction n with
  | zero=>
   intro i hi;rw[List.drop_eq_nil_of_le (by omega),aC];have:i=xs.length:=by omega
   subst this;rw[h2];simp[kT]
  | succ n ih=>
   intro i hi;have a:i<xs.length:=by omega
   rw[List.drop_eq_getElem_cons a,aC,h1 i xs[i] (zF a)];simp only[kT];cases p xs[i] i with
   | false=>simp
   | true=>simpa using ih (i+1) (by omega)
 simpa using key xs.length 0 (by omega)
def dM{α:Type}(p:α->Bool):List α->Nat->Int
 | [],_=>-1
 | x::r,i=>bif p x then (i:Int)else dM p r (i+1)
theorem uf{α X:Type}{g:X->Option (X⊕Int)}(pk:Nat->X)(xs:List α)(p:α->Bool)
  (h1:∀i x,xs[i]?=some x->g (pk i)=bif p x then some (.inr (i:Int))else some (.inl (pk (i+1))))
  (h2:g (pk xs.length)=some (.inr (-1))):au g (pk 0)=some (dM p xs 0):=by
 have key:∀(n i:Nat),xs.length=i+n->au g (pk i)=some (dM p (xs.drop i) i):=by
  intro n;induction n with
  | zero=>
   intro i hi;rw[List.drop_eq_nil_of_le (by omega),aC];have:i=xs.length:=by omega
   subst this;rw[h2];simp[dM]
  | succ n ih=>
   intro i hi;have a:i<xs.length:=by omega
   rw[List.drop_eq_getElem_cons a,aC,h1 i xs[i] (zF a)];simp only[dM];cases p xs[i]with
   | false=>simpa using ih (i+1) (by omega)
   | true=>simp
 simpa using key xs.length 0 (by omega)
def SzOk{α:Type}(f:α->Int->Option Int)(P:α->Prop)(cE:α->Nat)(x:α):Prop:=
 ∀l:Int,0<=l->l<=1048576->∃r,f x l=some r/\(r<0\/(0<=r/\r<=l/\20*r+cE x<=20*l+20/\P x))
theorem apJ{α:Type}(f:α->Int->Option Int)(P:α->Prop)(cE:α->Nat)(xs:List α)(q:∀x∈xs,SzOk f P cE x)(A:xs.length<4611686018427387904)(l:Int)(s:0<=l)(h1:l<=1048576) :
  ∃r,au (fun (a:List α×Int×Int)=>
   bif (decide (a.2.2<(a.1.length:Int)))then
    (idx a.1 a.2.2).bind fun k=>
    (f k a.2.1).bind fun e=>
    bif (decide (e<0))then
     some (.inr ((-1)))
    else
     some (.inl (a.1,e,w64 (a.2.2+1)))
   else
    some (.inr (a.2.1))) (xs,l,0)=some r/\(r<0\/(0<=r/\r<=l/\20*r+(xs.map cE).sum<=20*l+20*xs.length/\∀x∈xs,P x)):=by
 have key:∀(n i:Nat) (l':Int),xs.length=i+n->0<=l'->l'<=l->20*l'+((xs.take i).map cE).sum<=20*l+20*i->(∀j x,xs[j]?=some x->j<i->P x)->∃r,au (fun (a:List α×Int×Int)=>
   bif (decide (a.2.2<(a.1.length:Int)))then
    (idx a.1 a.2.2).bind fun k=>
    (f k a.2.1).bind fun e=>
    bif (decide (e<0))then
     some (.inr ((-1)))
    else
     some (.inl (a.1,e,w64 (a.2.2+1)))
   else
    some (.inr (a.2.1))) (xs,l',(i:Int))=some r/\(r<0\/(0<=r/\r<=l/\20*r+(xs.map cE).sum<=20*l+20*xs.length/\∀x∈xs,P x)):=by
  intro n;induction n with
  | zero=>
   intro i l' hi c g p m;have t:xs.take i=xs:=List.take_of_length_le (by omega);rw[t]at p;refine⟨l',?_,.inr ⟨c,g,by omega,fun x u=>?_⟩⟩
   ·rw[aC];have h:¬((i:Int)<(xs.length:Int)):=by omega
    simp only[h,decide_false,aa]
   ·obtain⟨j,d,rfl⟩:=List.mem_iff_getElem.1 u;exact m j _ (zF d) (by omega)
  | succ n ih=>
   intro i l' hi c g p m;have b:i<xs.length:=by omega
   obtain⟨r,v,h⟩:=q _ (List.getElem_mem b) l' c (by omega);have hd:((i:Int)<(xs.length:Int)):=by omega
   rw[aC];simp only[hd,decide_true,ac,aA,zF b,zA,v];rcases h with h | ⟨h2,B,C,w⟩
   ·exact⟨-1,by simp[h],.inl (by omega)⟩
   ·have y:¬(r<0):=by omega
    simp only[y,decide_false,aa];rw[aT (by omega) (by omega)];have hsum:((xs.take (i+1)).map cE).sum=((xs.take i).map cE).sum+cE xs[i]:=by
     rw[List.take_add_one,zF b,List.map_append,List.sum_append];simp only[Option.toList_some,List.map_cons,List.map_nil,List.sum_cons,List.sum_nil,Nat.add_zero]
    have:=ih (i+1) r (by omega) h2 (by omega) (by rw[hsum];omega) (by
     intro j x d z;by_cases o:j=i
     ·subst o;rw[zF b]at d;cases d
      exact w
     ·exact m j x d (by omega))
    simpa using this
 exact key xs.length 0 l (by omega) s (Int.le_refl _) (by simp) (fun j x _ d=>absurd d (by omega))
theorem ap8{α:Type}(f:α->α->Option Bool)(xs:List α)(m:∀x∈xs,f x x=some true)(n:xs.length<4611686018427387904) :
  au (fun (a:List α×List α×Int)=>
   bif (decide (a.2.2<(a.1.length:Int)))then
    (idx a.1 a.2.2).bind fun b=>
    (idx a.2.1 a.2.2).bind fun c=>
    (f b c).bind fun d=>
    bif (!d)then
     some (.inr (false))
    else
     some (.inl (a.1,a.2.1,w64 (a.2.2+1)))
   else
    some (.inr (true))) (xs,xs,0)=some true:=by
 have:=mM (g:=fun (a:List α×List α×Int)=>
   bif (decide (a.2.2<(a.1.length:Int)))then
    (idx a.1 a.2.2).bind fun b=>
    (idx a.2.1 a.2.2).bind fun c=>
    (f b c).bind fun d=>
    bif (!d)then
     some (.inr (false))
    else
     some (.inl (a.1,a.2.1,w64 (a.2.2+1)))
   else
    some (.inr (true))) (fun i=>(xs,xs,(i:Int))) xs (fun _ _=>true) true (by
  intro i x k;obtain⟨j,rfl⟩:=zC.1 k;have hd:((i:Int)<(xs.length:Int)):=by omega
  simp only[hd,decide_true,ac,aA,k,zA,m _ (List.getElem_mem j),aM,aa];rw[aT (by omega) (by omega)];rfl) (by
  have h:¬((xs.length:Int)<(xs.length:Int)):=by omega
  simp only[h,decide_false,aa])
 have e:∀(l:List α) i,kT (fun (_:α) (_:Nat)=>true) l i=true:=by
  intro l;induction l with
  | nil=>intro i;rfl
  | cons x r ih=>intro i;simpa [kT] using ih (i+1)
 rw[e]at this;exact this
end Go.Proofs.YtbbmkcioplbhbaaGreatDoor
/- Plain laws of sizes, copies and equality, for every type of data. -/
namespace Go.Abs
theorem aW.aiA{L:Nat}{s:Str}(h:aW L (.str s)):s.length<=L:=by
 generalize hd:D.str s=d at h;cases h<;>cases hd
 assumption
theorem aW.wf{L:Nat}{k:IntKind}{n:Int}(h:aW L (.int k n)):(Lit.int k n).wf=true:=by
 generalize hd:D.int k n=d at h;cases h<;>cases hd
 assumption
theorem aW.Yu{L:Nat}{t:Ty}{xs:List t.den}(h:aW L (.list t xs)):xs.length<=L:=by
 generalize hd:D.list t xs=d at h;cases h<;>cases hd
 assumption
def Fit(L:Nat)(t:Ty)(x:t.den):Prop:=∀d,d∈t.cells x->aW L d
theorem aW.bW{L:Nat}{t:Ty}{xs:List t.den}(h:aW L (.list t xs)):∀x,x∈xs->Fit L t x:=by
 generalize hd:D.list t xs=d at h;cases h<;>cases hd
 rename_i b;intro x c d a;obtain⟨i,hi⟩:=List.mem_iff_getElem?.1 c;obtain⟨j,e⟩:=List.mem_iff_getElem?.1 a;exact b i x j d hi e
theorem aW.ajG{L:Nat}{t:Ty}{xs:List t.den}(h:xs.length<=L)(a:∀x,x∈xs->Fit L t x):aW L (.list t xs):=
 .list t xs h fun _ x _ d hi b=>a x (zG hi) d (zG b)
theorem aW.fD{L L':Nat}{k:IntKind}{n:Int}(h:aW L (.int k n)):aW L' (.int k n):=.int k n h.wf
theorem aW.mono{L L':Nat}(a:L<=L'){d:D}(h:aW L d):aW L' d:=by
 induction h with
 | int k n h=>exact .int k n h
 | bool b=>exact .bool b
 | str s h=>exact .str s (Nat.le_trans h a)
 | list t xs h _ ih=>exact .list t xs (Nat.le_trans h a) ih
theorem Fit.mono{L L':Nat}(a:L<=L'){t:Ty}{x:t.den}(h:Fit L t x):Fit L' t x:=fun d hd=>(h d hd).mono a
end Go.Abs
namespace Go.Proofs.YtbbmkcioplbhbaaGreatDoor
open Go.Abs Go.Proofs
abbrev B47:Nat:=140737488351232
abbrev B20:Nat:=1048576
abbrev B24:Nat:=16777216
theorem ahh:B20<=B24:=by decide
theorem uI{t:Ty}{xs:List t.den}(h:aW B24 (.list t xs)):(xs.length:Int)<=16777216:=by
 have h1:xs.length<=16777216:=h.Yu;omega
theorem ajM{t:Ty}{xs:List t.den}(h:aW B47 (.list t xs)):(xs.length:Int)<=140737488351232:=by
 have h1:xs.length<=140737488351232:=h.Yu;omega
theorem dY{t:Ty}{xs:List t.den}(h:aW B20 (.list t xs)):(xs.length:Int)<=1048576:=by
 have h1:xs.length<=1048576:=h.Yu;omega
theorem Hz{s:Str}(h:aW B47 (.str s)):(s.length:Int)<=140737488351232:=by
 have h1:s.length<=140737488351232:=h.aiA;omega
theorem Fa{s:Str}(h:aW B20 (.str s)):(s.length:Int)<=1048576:=by
 have h1:s.length<=1048576:=h.aiA;omega
theorem lU{s:Str}(h:(s.length:Int)<=1048576):aW B20 (.str s):=.str s (by show s.length<=1048576;omega)
theorem jv{t:Ty}{xs:List t.den}(h:(xs.length:Int)<=1048576)(a:∀x,x∈xs->Fit B20 t x):aW B20 (.list t xs):=.ajG (by show xs.length<=1048576;omega) a
def SzK{α:Type}(f:α->Int->Option Int)(P:Prop)(x:α)(c s:Nat):Prop:=
 ∀l:Int,0<=l->l<=1048576->∃r,f x l=some r/\(r<0\/(0<=r/\r<=l/\20*r+c<=20*l+s/\P))
theorem Pm{α:Type}(f:α->Nat):∀(xs:List α) (c:Nat),(∀x,x∈xs->f x<=c)->(xs.map f).sum<=xs.length*c
 | [],c,_=>by simp
 | x::xs,c,h=>by
  have h1:=Pm f xs c fun y a=>h y (ar _ a)
  have h2:=h x aw;simp only[List.map_cons,List.sum_cons,List.length_cons,Nat.succ_mul];omega
theorem Vy{t:Ty}{g:List t.den->Int->Option Int}(hflat:∀x:t.den,Fit B47 t x->Fit B20 t x)
  (d:∀a b,g a b=bif (decide ((w64 (b-(a.length:Int)))<0))then
  some ((-1))
 else
  some (w64 (b-(a.length:Int)))) (cE:t.den->Nat) (e:∀x,cE x<=20) (xs:List t.den) (h:aW B47 (.list t xs)):SzK g (aW B20 (.list t xs)) xs ((xs.map cE).sum) 0:=by
 intro l i h1
 have j:=ajM h
 rw[d,aT (by omega) (by omega)]
 by_cases c:l-(xs.length:Int)<0
 ·exact⟨-1,by simp only[c,decide_true,ac],.inl (by omega)⟩
 ·have k:=Pm cE xs 20 fun x _=>e x
  exact⟨_,by simp only[c,decide_false,aa];rfl,.inr ⟨by omega,by omega,by omega,jv (by omega) fun x f=>hflat x (h.bW x f)⟩⟩
theorem pq{t:Ty}{f:t.den->Int->Option Int}{g:List t.den->Int->Option Int}
  (m:∀a b,g a b=(bif (decide ((w64 (b-(a.length:Int)))<0))then
  some ((-1))
 else
 au (fun (c:(List t.den)×Int×Int)=>
  bif (decide (c.2.2<(c.1.length:Int)))then
   (idx c.1 c.2.2).bind fun n=>
   (f n c.2.1).bind fun d=>
   bif (decide (d<0))then
    some (.inr ((-1)))
   else
    some (.inl (c.1,d,w64 (c.2.2+1)))
  else
   some (.inr (c.2.1))
 ) (a,w64 (b-(a.length:Int)),0))) (cE:t.den->Nat) (s:Nat) (z:s<=20) (xs:List t.den) (o:∀x,x∈xs->Fit B47 t x->SzK f (Fit B20 t x) x (cE x) s) (h:aW B47 (.list t xs)):SzK g (aW B20 (.list t xs)) xs ((xs.map cE).sum) 0:=by
 intro l i h1
 have A:=ajM h
 rw[m,aT (by omega) (by omega)]
 by_cases j:l-(xs.length:Int)<0
 ·exact⟨-1,by simp only[j,decide_true,ac],.inl (by omega)⟩
 ·simp only[j,decide_false,aa];obtain⟨r,q,h2⟩:=apJ f (Fit B20 t) cE xs (fun x k l i h1=>by
   obtain⟨r,e,p⟩:=o x k (h.bW x k) l i h1;refine⟨r,e,?_⟩;rcases p with p | ⟨u,v,B,w⟩
   ·exact .inl p
   ·exact .inr ⟨u,v,by omega,w⟩) (by omega) (l-xs.length) (by omega) (by omega)
  refine⟨r,q,?_⟩;rcases h2 with h2 | ⟨h2,C,D,y⟩
  ·exact .inl h2
  ·exact .inr ⟨h2,by omega,by omega,jv (by omega) y⟩
theorem ags{g:List Str->Int->Option Int}
  (j:∀a b,g a b=(bif (decide ((w64 (b-(a.length:Int)))<0))then
  some ((-1))
 else
  au (fun (c:(List Str)×Int×Int)=>
   bif (decide (c.2.2<(c.1.length:Int)))then
    (idx c.1 c.2.2).bind fun i=>
    bif (decide ((w64 (c.2.1-(i.length:Int)))<0))then
     some (.inr ((-1)))
    else
     some (.inl (c.1,w64 (c.2.1-(i.length:Int)),w64 (c.2.2+1)))
   else
    some (.inr (c.2.1))
  ) (a,w64 (b-(a.length:Int)),0))) (xs:List Str) (h:aW B47 (.list (.base .str) xs)):SzK g (aW B20 (.list (.base .str) xs)) xs ((xs.map fun _=>1).sum) 0:=by
 refine pq (t:=.base .str) (f:=fun s b=>some (w64 (b-(s.length:Int)))) j (fun _=>1) 1 (by omega) xs (fun s _ k l n h1=>?_) h
 have e:aW B47 (.str s):=k (.str s) (by simp[Ty.cells,Base.cells])
 have:=Hz e
 refine⟨w64 (l-(List.length s:Int)),rfl,?_⟩
 rw[aT (by omega) (by omega)]
 by_cases m:l-(s.length:Int)<0
 ·exact .inl m
 ·exact .inr ⟨by omega,by omega,by omega,fun d hd=>by
   simp only[Ty.cells,Base.cells,List.mem_singleton]at hd;subst hd;exact lU (by omega)⟩
theorem o9{t:Ty}{f:t.den->Option t.den}{z:t.den}{g:List t.den->Option (List t.den)}
  (d:∀a,g a=(mk (a.length:Int)).bind fun e=>
 au (fun (b:(List t.den)×(List t.den)×Int)=>
  bif (decide (b.2.2<(b.1.length:Int)))then
   (idx b.1 b.2.2).bind fun i=>
   (f i).bind fun j=>
   (idx b.2.1 b.2.2).bind fun _=>
   (b.2.1[b.2.2.toNat]?).bind fun m=>
   some (.inl (b.1,b.2.1.set b.2.2.toNat j,w64 (b.2.2+1)))
  else
   some (.inr (b.2.1))
 ) (a,List.replicate e z,0)) (xs:List t.den) (k:∀x,x∈xs->Fit B20 t x->f x=some x) (h:aW B20 (.list t xs)):g xs=some xs:=by
 have n:=dY h
 rw[d]
 have l:mk (xs.length:Int)=some xs.length:=by
  unfold mk;rw[if_pos (by omega)];simp
 rw[l,zA]
 exact akI f xs (fun x c=>k x c (h.bW x c)) (by omega) _ (by simp)
theorem lX{t:Ty}{f:t.den->t.den->Option Bool}{g:List t.den->List t.den->Option Bool}
  (i:∀a b,g a b=bif ((a.length:Int) != (b.length:Int))then
  some (false)
 else
 au (fun (c:(List t.den)×(List t.den)×Int)=>
  bif (decide (c.2.2<(c.1.length:Int)))then
   (idx c.1 c.2.2).bind fun j=>
   (idx c.2.1 c.2.2).bind fun k=>
   (f j k).bind fun l=>
   bif (!l)then
    some (.inr (false))
   else
    some (.inl (c.1,c.2.1,w64 (c.2.2+1)))
  else
   some (.inr (true))
 ) (a,b,0)) (xs:List t.den) (m:∀x,x∈xs->Fit B24 t x->f x x=some true) (h:aW B24 (.list t xs)):g xs xs=some true:=by
 have n:=uI h
 rw[i]
 have e:((xs.length:Int) != (xs.length:Int))=false:=by simp
 rw[e,aa]
 exact ap8 f xs (fun x d=>m x d (h.bW x d)) (by omega)
end Go.Proofs.YtbbmkcioplbhbaaGreatDoor
