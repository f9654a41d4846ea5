import Derived.Test.YtbbmkcioplbhbaaGreatDoorFree1
import Derived.Test.YtbbmkcioplbhbaaGreatDoorPlain1
import Derived.Test.YtbbmkcioplbhbaaGreatDoorLink1
set_option linter.unusedSimpArgs false
set_option linter.unusedVariables false
/- Plain laws: notebooks compiled: CompileAll alike on both sides. -/
namespace Go.Proofs.YtbbmkcioplbhbaaGreatDoor
open Go.Abs Go.Proofs
noncomputable def errOf(w:Int):Nat->List Str->Int
 | _,[]=>-1
 | i,p::r=>if ((rowOf w p).isNone||decide (12<=i))=true then ((i+1:Nat):Int)else errOf w (i+1) r
theorem Sm(w:Int){ps:List Str}{i:Nat}{p:Str}(h:ps[i]?=some p):errOf w i (ps.drop i)=if ((rowOf w p).isNone||decide (12<=i))=true then ((i+1:Nat):Int)else errOf w (i+1) (ps.drop (i+1)):=by
 obtain⟨hi,rfl⟩:=zC.1 h;rw[List.drop_eq_getElem_cons hi];rfl
theorem alp(a:Str)(q:a.length<=120){b:Str}{ps:List Str}(j:Go.Lib.split a [59,32]=b::ps)(k:(dataOf b ps).2=false) :
  zU a=some (bif Du (Go.Lib.split b [32])then errOf ((Go.Lib.split b [32]).length:Int) 0 ps else 0):=by
 obtain⟨n,m⟩:=ji a [59,32];rw[j]at n m;have A:=m b (by simp);obtain⟨r,o⟩:=ji b [32];unfold zU;have s:kN a [59,32]=some (b::ps):=by
  unfold kN;rw[if_pos ⟨by omega,by simp⟩,j]
 have t:lD b 32=some (Go.Lib.split b [32]):=KE b 32 (by omega);have u:idx (b::ps) 0=some b:=rfl;have v:(b::ps)[0]?=some b:=rfl;have w:nP a=some ((dataOf b ps).1,false):=by rw[RN a q j,<- k]
 have y:=abn (Go.Lib.split b [32]) (by omega) (fun x c=>by have:=o x c;omega);simp only[w,aa,s,u,v,t,y,abU,zA];generalize Go.Lib.split b [32]=cols at r o;cases Du cols with
 | false=>rfl
 | true=>
  simp only[aL,aa,ac];refine xH (dH (fun (_:Unit) (i:Nat)=>((cols,ps,(ps.length:Int),(i:Int)):(List Str)×(List Str)×Int×Int)) ps (fun i _=>errOf (cols.length:Int) i (ps.drop i)=errOf (cols.length:Int) 0 ps) _ (fun i p out c f=>?_) (fun out f=>?_) () rfl)
  ·have z:=m p (aq _ (zG c));obtain⟨l,ok,e,g⟩:=aeV (cols.length:Int) p (by omega);simp only[List.length_cons]at n;have hd:=Sm (cols.length:Int) c;simp only[bY c,ac,aA,c,zA,e,cZ c (by omega)];rcases g with ⟨rfl,g⟩ | ⟨rfl,g⟩
   ·rw[g]at hd;exact .inr ⟨_,rfl,by rw[<- f,hd];rfl⟩
   ·rw[g]at hd;by_cases h:12<=i
    ·have d:decide ((i:Int)>=12)=true:=by simp;omega
     rw[d];refine .inr ⟨_,rfl,?_⟩;rw[<- f,hd,al h];rfl
    ·have d:decide ((i:Int)>=12)=false:=by simp;omega
     rw[d];refine .inl ⟨(),rfl,?_⟩;rw[<- f,hd,ae h];rfl
  ·refine⟨_,by simp only[bJ,aa];rfl,?_⟩;rw[<- f,List.drop_length];rfl
theorem akN(a:Str)(B:a.length<=120){b:Str}{ps:List Str}(n:Go.Lib.split a [59,32]=b::ps) :
  y7 a=some (bif Du (Go.Lib.split b [32])then errOf ((Go.Lib.split b [32]).length:Int) 0 ps else 0):=by
 obtain⟨o,j⟩:=ji a [59,32];rw[n]at o j;have C:=j b (by simp);obtain⟨r,q⟩:=ji b [32];unfold y7;have s:sU a=some (b::ps):=by rw[VA a (by omega),n]
 have t:nJ b 32=some (Go.Lib.split b [32]):=JO b 32 (by omega);have u:idx (b::ps) 0=some b:=rfl;have v:(b::ps)[0]?=some b:=rfl;have w:=aai (Go.Lib.split b [32]) (by omega) (fun x c=>by have:=q x c;omega);simp only[s,u,v,t,w,zA];generalize Go.Lib.split b [32]=cols at r q;cases Du cols with
 | false=>rfl
 | true=>
  simp only[aL,aa,ac];refine xH (dH (fun (_:Unit) (i:Nat)=>((b::ps,cols,((i+1:Nat):Int)):(List Str)×(List Str)×Int)) ps (fun i _=>errOf (cols.length:Int) i (ps.drop i)=errOf (cols.length:Int) 0 ps) _ (fun i p out c f=>?_) (fun out f=>?_) () rfl)
  ·have y:=j p (aq _ (zG c));obtain⟨l,ok,e,g⟩:=aeU (cols.length:Int) p (by omega);have z:=(zC.1 c).1;simp only[List.length_cons]at o;have hd:=Sm (cols.length:Int) c;have k:decide (((i+1:Nat):Int)<((b::ps).length:Int))=true:=by simp;omega
   have m:(b::ps)[i+1]?=some p:=by simpa using c
   have A:w64 (((i+1:Nat):Int)+1)=((i+1+1:Nat):Int):=by rw[aT (by omega) (by omega)];omega
   simp only[k,ac,aA,m,zA,az,e,A];rcases g with ⟨rfl,g⟩ | ⟨rfl,g⟩
   ·rw[g]at hd;exact .inr ⟨_,rfl,by rw[<- f,hd];rfl⟩
   ·rw[g]at hd;by_cases h:12<=i
    ·have d:decide (((i+1:Nat):Int)>12)=true:=by simp;omega
     rw[d];refine .inr ⟨_,rfl,?_⟩;rw[<- f,hd,al h];rfl
    ·have d:decide (((i+1:Nat):Int)>12)=false:=by simp;omega
     rw[d];refine .inl ⟨(),rfl,?_⟩;rw[<- f,hd,ae h];rfl
  ·have k:decide (((ps.length+1:Nat):Int)<((b::ps).length:Int))=false:=by simp
   refine⟨_,by simp only[k,aa];rfl,?_⟩;rw[<- f,List.drop_length];rfl
def mJ(c:Int)(i:Nat)(r:bD):bD:=⟨r.cells,[⟨c,(i:Int)⟩]⟩
theorem aeO{ρ X:Type}{g:X->Option (X⊕ρ)}(pk:List bD->Nat->X)(c:Int)(rows:List bD)(r:ρ)
  (h:∀i x out,out.length=rows.length->i<rows.length->out[i]?=some x->g (pk out i)=some (.inl (pk (out.set i (mJ c i x)) (i+1))))
  (j:g (pk (iM (mJ c) 0 rows) rows.length)=some (.inr r)):au g (pk rows 0)=some r:=by
 have key:∀(k i:Nat) (a b:List bD),rows.length=i+k->a.length=i->b.length=k->a++iM (mJ c) i b=iM (mJ c) 0 rows->au g (pk (a++b) i)=some r:=by
  intro k;induction k with
  | zero=>
   intro i a b hi e d f;have:b=[]:=List.length_eq_zero_iff.1 d;subst this;rw[iM,List.append_nil]at f;rw[List.append_nil,f,aH,show i=rows.length by omega,j]
  | succ k ih=>
   intro i a b hi e d f;cases b with
   | nil=>simp at d
   | cons x b=>
    have l:(a++x::b)[i]?=some x:=by rw[<- e];simp
    rw[aH,h i x _ (by simp at d ⊢;omega) (by omega) l];simp only;have hset:(a++x::b).set i (mJ c i x)=(a++[mJ c i x])++b:=by
     rw[List.set_append_right _ _ (by omega),e,Nat.sub_self];simp
    rw[hset];refine ih (i+1) (a++[mJ c i x]) b (by omega) (by simp[e]) (by simpa using d) ?_;rw[a7];exact f
 exact key rows.length 0 [] rows (by omega) rfl rfl rfl
theorem ai4{X ρ:Type}{f:X->Option (X⊕ρ)}{a:X}{q:Option ρ}{v:ρ}(h:f a=q.bind fun r=>some (.inr r))(b:q=some v):au f a=some v:=by
 rw[aH,h,b];rfl
theorem ajx(r:bD)(h:r.cells.length<=1048576)(h2:r.orig.length<=1048576):yw r=some r:=by
 unfold yw;rw[gdp (by omega),zA,gdp (by omega),zA];cases r;rfl
theorem ah6(r:bD)(h:r.cells.length<=1048576)(h2:r.orig.length<=1048576):JQ r=some r:=by
 unfold JQ;rw[gdp (by omega),zA,gdp (by omega),zA];cases r;rfl
theorem Ik(v:aC):dB v=v:=by cases v;rfl
structure ako(cols:List Str)(rows:List bD):Prop where
 cl:cols.length<=122
 ct:∀x,x∈cols->x.length<=120
 rl:rows.length<=122
 rr:∀r,r∈rows->r.orig=[]/\r.cells.length<=122
theorem ajB(cols:List Str)(rows:List bD)(h:ako cols rows):nS ⟨5,0,0,[],[],cols,rows⟩=some ⟨5,0,0,[],[],cols,rows⟩:=by
 have f:=h.cl;have g:=h.rl;unfold nS;obtain⟨m,b⟩:∃m,siz (⟨5,0,0,[],[],cols,rows⟩:aC)+1=m+1+1:=⟨siz (⟨5,0,0,[],[],cols,rows⟩:aC)-1,by
  have:1<=siz (⟨5,0,0,[],[],cols,rows⟩:aC):=by simp only[siz];rw[aC.mk.sizeOf_spec];omega
  omega⟩
 rw[b];show qV (dF (m+1)).1 (dF (m+1)).2 _=_
 unfold qV;have c:(dF (m+1)).2 []=some []:=by
  show oU (dF m).1 (dF m).2 []=_
  unfold oU;rw[aH];rfl
 have d:gd (0+cols.length)=some ():=gdp (by omega);simp only[c,d,zA];refine Eg (fun (out:List bD) (i:Nat)=>((0,0,0,[],[],[],[],5,0,0,[],[],[]++cols,out,rows,(rows.length:Int),(i:Int)):Int×Int×Int×Str×(List aC)×(List Str)×(List bD)×Int×Int×Int×Str×(List aC)×(List Str)×(List bD)×(List bD)×Int×Int)) rows (fun _ r=>r) _ (fun i r out a j=>?_) ?_
 ·obtain⟨e,k⟩:=h.rr r (zG a);have hi:=(zC.1 a).1;simp only[bY a,ac,aA,a,zA,ajx r (by omega) (by rw[e];simp),cZ a (by omega)];rw[gdp (by simp;omega)];rfl
 ·simp only[bJ,aa,uG];rfl
theorem ain(cols:List Str)(rows:List bD)(h:ako cols rows):DZ ⟨5,0,0,[],[],cols,rows⟩=some ⟨5,0,0,[],[],cols,rows⟩:=by
 have d:=h.cl;have e:=h.rl;show BF (wZ _) _=_
 unfold BF;have b:gd (0+cols.length)=some ():=gdp (by omega);simp only[b,zA];refine ai4 (by simp only[List.length_nil,Int.ofNat_zero,Int.lt_irrefl,decide_false,aa];rfl) ?_;refine Eg (fun (out:List bD) (i:Nat)=>((5,0,0,[],[],cols,rows,0,0,0,[],[],[],[],5,0,0,[],[],[]++cols,out,(i:Int)):Int×Int×Int×Str×(List aC)×(List Str)×(List bD)×Int×Int×Int×Str×(List aC)×(List Str)×(List bD)×Int×Int×Int×Str×(List aC)×(List Str)×(List bD)×Int)) rows (fun _ r=>r) _ (fun i r out a f=>?_) ?_
 ·obtain⟨c,g⟩:=h.rr r (zG a);have hi:=(zC.1 a).1;simp only[bY a,ac,aA,a,zA,ah6 r (by omega) (by rw[c];simp),cZ a (by omega)];rw[gdp (by simp;omega)];rfl
 ·simp only[bJ,aa,uG];rfl
theorem adU(c:Int)(k:0<=c)(cols:List Str)(rows:List bD)(h:ako cols rows)(hv:JC cols rows=true):sD c ⟨5,0,0,[],[],cols,rows⟩=some ⟨5,0,0,[],[],cols,iM (mJ c) 0 rows⟩:=by
 have a:=h.cl;have b:=h.rl;have h1:=IU cols rows (by omega) h.ct (fun r e=>by have:=h.rr r e;exact⟨this.1,by omega⟩);have d:decide (c<0)=false:=by simp;omega
 unfold sD;simp only[Ik,h1,hv,ajB cols rows h,d,zA,aL,aa];refine (aeO (fun (out:List bD) (i:Nat)=>((c,0,0,0,[],[],[],[],5,0,0,[],[],cols,out,(rows.length:Int),(i:Int)):Int×Int×Int×Int×Str×(List aC)×(List Str)×(List bD)×Int×Int×Int×Str×(List aC)×(List Str)×(List bD)×Int×Int)) c rows _ (fun i x out l hi f=>?_) ?_)
 ·have g:decide ((i:Int)<(rows.length:Int))=true:=by simp;omega
  have j:w64 ((i:Int)+1)=((i+1:Nat):Int):=by rw[aT (by omega) (by omega)];omega
  simp only[g,ac,aA,f,zA,az,j];rfl
 ·simp only[bJ,aa]
theorem acI(c:Int)(k:0<=c)(cols:List Str)(rows:List bD)(h:ako cols rows)(hv:JC cols rows=true):rP c ⟨5,0,0,[],[],cols,rows⟩=some ⟨5,0,0,[],[],cols,iM (mJ c) 0 rows⟩:=by
 have b:=h.cl;have e:=h.rl;have h1:=H8 cols rows (by omega) h.ct (fun r f=>by have:=h.rr r f;exact⟨this.1,by omega⟩);have d:decide (c<0)=false:=by simp;omega
 unfold rP;simp only[Ik,h1,hv,ain cols rows h,d,zA,aL,aa];refine (aeO (fun (out:List bD) (i:Nat)=>((c,0,0,0,[],[],[],[],5,0,0,[],[],cols,out,(i:Int)):Int×Int×Int×Int×Str×(List aC)×(List Str)×(List bD)×Int×Int×Int×Str×(List aC)×(List Str)×(List bD)×Int)) c rows _ (fun i x out l hi g=>?_) ?_)
 ·have a:decide ((i:Int)<(out.length:Int))=true:=by simp;omega
  have j:w64 ((i:Int)+1)=((i+1:Nat):Int):=by rw[aT (by omega) (by omega)];omega
  simp only[a,ac,aA,g,zA,az,j];rfl
 ·have a:decide ((rows.length:Int)<((iM (mJ c) 0 rows).length:Int))=false:=by rw[Cj];simp
  simp only[a,aa]
theorem XU(a:Str)(h:a.length<=1048576):∃v,oQ a=some v/\kH a=some v/\(v=true->a.length<=120):=by
 have e:oQ a=kH a:=rfl;rw[e];have key:∃v,kH a=some v/\(v=true->a.length<=120):=by
  unfold kH;refine dH (fun (_:Unit) (i:Nat)=>((a,(i:Int)):Str×Int)) a (fun _ _=>True) _ (fun i x s b d=>?_) (fun s d=>?_) () trivial
  ·simp only[bY b,ac,aA,b,zA,cZ b (by omega)];cases decide ((x.toNat:Int)<32)with
   | true=>exact .inr ⟨false,rfl,fun h=>(by cases h)⟩
   | false=>
    cases decide ((x.toNat:Int)>126)with
    | true=>exact .inr ⟨false,rfl,fun h=>(by cases h)⟩
    | false=>exact .inl ⟨(),rfl,trivial⟩
  ·refine⟨_,by simp only[bJ,aa];rfl,fun h=>?_⟩;simp at h;omega
 obtain⟨v,c,h1⟩:=key;exact⟨v,c,c,h1⟩
structure WE(c:ah):Prop where
 id0:1<=c.id
 id9:c.id<=999
 v0:1<=c.version
 v9:c.version<=999
 code:c.code.length<=120
 kind:c.kind=1\/c.kind=2\/c.kind=3\/c.kind=4
 name:c.name.length<=8
theorem afk{a b c:Int}(h:(decide (b<=a)&&decide (a<=c))=true):b<=a/\a<=c:=by simpa using h
theorem G7(c:ah)(y:c.name.length<=1048576)(l:c.code.length<=1048576):∃b,cO c=some b/\dm c=some b/\(b=true->WE c):=by
 obtain⟨v,m,n,o⟩:=XU c.code l;obtain⟨u,g⟩:=oJ c.name (by omega);have p:bM c.name=some u:=by rw[<- nY c.name (by omega),g]
 have q:∀a b d:Int,rH a b d=jr a b d:=fun a b d=>(Vg a b d).symm
 unfold cO dm;simp only[q,zN,m,n,g,p,zA];cases h1:(decide (1<=c.id)&&decide (c.id<=999))with
 | false=>exact⟨false,rfl,rfl,fun h=>(by cases h)⟩
 | true=>
  cases h2:(decide (1<=c.version)&&decide (c.version<=999))with
  | false=>exact⟨false,rfl,rfl,fun h=>(by cases h)⟩
  | true=>
   cases v with
   | false=>exact⟨false,rfl,rfl,fun h=>(by cases h)⟩
   | true=>
    have e:=afk h1;have f:=afk h2;have k:=o rfl;simp only[aL,aa];have no:∃b:Bool,(some false:Option Bool)=some b/\(some false:Option Bool)=some b/\(b=true->WE c):=⟨false,rfl,rfl,fun h=>(by cases h)⟩;have named:∀z:Option Bool,(∃b,z=some b)->(c.kind=1\/c.kind=2\/c.kind=3\/c.kind=4)->∃b:Bool,(bif u then z else some false)=some b/\(bif u then z else some false)=some b/\(b=true->WE c):=by
     intro z r i;obtain⟨b,rfl⟩:=r;cases u with
     | false=>exact no
     | true=>exact⟨b,rfl,rfl,fun _=>⟨e.1,e.2,f.1,f.2,k,i,LJ c.name (by omega) g⟩⟩
    cases s:(c.kind==1)with
    | true=>
     simp only[ac];have i:c.kind=1:=eq_of_beq s;cases j:(c.name==[])with
     | false=>exact no
     | true=>exact⟨_,rfl,rfl,fun _=>⟨e.1,e.2,f.1,f.2,k,.inl i,by rw[eq_of_beq j];simp⟩⟩
    | false=>
     simp only[aa];cases t:(c.kind==2)with
     | true=>exact named _ ⟨_,rfl⟩ (.inr (.inl (eq_of_beq t)))
     | false=>
      simp only[aa];cases w:(c.kind==4)with
      | true=>exact named _ ⟨_,rfl⟩ (.inr (.inr (.inr (eq_of_beq w))))
      | false=>
       simp only[aa];cases x:(c.kind==3)with
       | true=>
        refine named _ ?_ (.inr (.inr (.inl (eq_of_beq x))));cases (c.code==[])<;>exact⟨_,rfl⟩
       | false=>exact no
structure ve(p:bG):Prop where
 expr:p.kind=2->uY p.expr/\wtE p.expr<=40
 name:p.name.length<=8
theorem sZ(p:bG):jO p=p:=by
 unfold jO;rw[aS,Ik]
theorem Zd(c:ah)(hv:cO c=some true)(m:dm c=some true)(b:WE c):∃p,lX c=some p/\lS c=some p/\ve p:=by
 have ne:∀(k:Int) (n:Str) (e:af) (v:aC) (a:Int),¬k=2->n.length<=8->ve ⟨k,n,e,v,a⟩:=fun k n e v a o q=>⟨fun h=>absurd h o,q⟩
 unfold lX lS;simp only[hv,m,zA,aL,aa,zS,yU,lG,kY,Ik,aS];rcases b.kind with k | k | k | k
 ·rw[k];exact⟨_,rfl,rfl,ne _ _ _ _ _ (by decide) (by simp)⟩
 ·rw[k];obtain⟨e,p,h1,h2,g⟩:=MK c.code;simp only[h1,h2,zA];by_cases f:p>=0
  ·rw[al f];exact⟨_,rfl,rfl,ne _ _ _ _ _ (by decide) b.name⟩
  ·rw[ae f];exact⟨_,rfl,rfl,⟨fun _=>g (by omega),b.name⟩⟩
 ·rw[k];exact⟨_,rfl,rfl,ne _ _ _ _ _ (by decide) b.name⟩
 ·rw[k];obtain⟨v,ok,h1,h2,g⟩:=aeo c.code b.code;simp only[h1,h2,zA];cases ok with
  | false=>
   obtain⟨r,ps,d⟩:=Qp c.code;have i:(dataOf r ps).2=false:=by
    have:=(RN c.code b.code d).symm.trans h1;injection this with this;rw[this]
   rw[alp c.code b.code d i,akN c.code b.code d];exact⟨_,rfl,rfl,ne _ _ _ _ _ (by decide) b.name⟩
  | true=>
   obtain⟨cols,rows,rfl,j,s,t,u,w⟩:=g rfl;have l:ako cols rows:=⟨s,t,u,w⟩;have x:=b.id0;rw[adU c.id (by omega) cols rows l j,acI c.id (by omega) cols rows l j];exact⟨_,rfl,rfl,ne _ _ _ _ _ (by decide) b.name⟩
def ET(id:Int):Nat->List ah->Int
 | _,[]=>-1
 | i,c::r=>if (c.id==id)=true then (i:Int)else ET id (i+1) r
theorem VQ(id:Int){cs:List ah}{i:Nat}{c:ah}(h:cs[i]?=some c):ET id i (cs.drop i)=if (c.id==id)=true then (i:Int)else ET id (i+1) (cs.drop (i+1)):=by
 obtain⟨hi,rfl⟩:=zC.1 h;rw[List.drop_eq_getElem_cons hi];rfl
theorem apQ(cs:List ah)(id:Int)(e:cs.length<=1048576):gU ⟨cs⟩ id=some (ET id 0 cs):=by
 unfold gU;refine xH (dH (fun (_:Unit) (i:Nat)=>((id,cs,(cs.length:Int),(i:Int)):Int×List ah×Int×Int)) cs (fun i _=>ET id i (cs.drop i)=ET id 0 cs) _ (fun i c s a b=>?_) (fun s b=>?_) () rfl)
 ·have hd:=VQ id a;simp only[bY a,ac,aA,a,zA,cZ a (by omega)];cases d:(c.id==id)with
  | true=>exact .inr ⟨_,rfl,by rw[<- b,hd,d];rfl⟩
  | false=>exact .inl ⟨(),rfl,by rw[<- b,hd,d];rfl⟩
 ·exact⟨_,by simp only[bJ,aa];rfl,by rw[<- b,List.drop_length];rfl⟩
theorem apq(cs:List ah)(id:Int)(e:cs.length<=1048576):jD ⟨cs⟩ id=some (ET id 0 cs):=by
 unfold jD;refine xH (dH (fun (_:Unit) (i:Nat)=>((id,cs,(i:Int)):Int×List ah×Int)) cs (fun i _=>ET id i (cs.drop i)=ET id 0 cs) _ (fun i c s a b=>?_) (fun s b=>?_) () rfl)
 ·have hd:=VQ id a;simp only[bY a,ac,aA,a,zA,cZ a (by omega)];cases d:(c.id==id)with
  | true=>exact .inr ⟨_,rfl,by rw[<- b,hd,d];rfl⟩
  | false=>exact .inl ⟨(),rfl,by rw[<- b,hd,d];rfl⟩
 ·exact⟨_,by simp only[bJ,aa];rfl,by rw[<- b,List.drop_length];rfl⟩
structure wz(c:ah):Prop where
 name:c.name.length<=1048576
 code:c.code.length<=1048576
noncomputable def cellV(c:ah):Bool:=(cO c).getD false
theorem afv(c:ah)(h:wz c):cO c=some (cellV c):=by
 obtain⟨b,h1,_⟩:=G7 c h.name h.code;unfold cellV;rw[h1];rfl
theorem afu(c:ah)(h:wz c):dm c=some (cellV c):=by
 obtain⟨b,h1,h2,_⟩:=G7 c h.name h.code;unfold cellV;rw[h1,h2];rfl
theorem alP(c:ah)(h:wz c)(hv:cellV c=true):WE c:=by
 obtain⟨b,h1,_,a⟩:=G7 c h.name h.code;refine a ?_;unfold cellV at hv;rw[h1]at hv;exact hv
noncomputable def yI(cs:List ah):Bool:=jC (fun i c=>cellV c&&(ET c.id 0 cs==(i:Int))) 0 cs&&decide ((cs.length:Int)<=8)
theorem abo(cs:List ah)(b:cs.length<=1048576)(h:∀c,c∈cs->wz c):fK ⟨cs⟩=some (yI cs):=by
 unfold fK yI;refine (qB (fun i=>((cs,cs,(cs.length:Int),(i:Int)):List ah×List ah×Int×Int)) cs (fun i c=>cellV c&&(ET c.id 0 cs==(i:Int))) false (decide ((cs.length:Int)<=8)) (fun i c a=>?_) ?_).trans ?_
 ·simp only[bY a,ac,aA,a,zA,afv c (h c (zG a)),apQ cs c.id b,bne,cZ a (by omega)];cases cellV c<;>cases (ET c.id 0 cs==(i:Int))<;>rfl
 ·simp only[bJ,aa]
 ·cases jC (fun i c=>cellV c&&(ET c.id 0 cs==(i:Int))) 0 cs<;>rfl
theorem aak(cs:List ah)(b:cs.length<=1048576)(h:∀c,c∈cs->wz c):eP ⟨cs⟩=some (yI cs):=by
 unfold eP yI;refine (qB (fun i=>((cs,(i:Int)):List ah×Int)) cs (fun i c=>cellV c&&(ET c.id 0 cs==(i:Int))) false (decide ((cs.length:Int)<=8)) (fun i c a=>?_) ?_).trans ?_
 ·simp only[bY a,ac,aA,a,zA,afu c (h c (zG a)),apq cs c.id b,bne,cZ a (by omega)];cases cellV c<;>cases (ET c.id 0 cs==(i:Int))<;>rfl
 ·simp only[bJ,aa]
 ·cases jC (fun i c=>cellV c&&(ET c.id 0 cs==(i:Int))) 0 cs<;>rfl
theorem Nz{α:Type}{p:Nat->α->Bool}:∀ {i:Nat} {xs:List α},jC p i xs=true->∀x,x∈xs->∃j,p j x=true
 | i,y::r,h,x,a=>by
  have h:(p i y&&jC p (i+1) r)=true:=h;rw[zI]at h;rcases ba.1 a with rfl | a
  ·exact⟨i,h.1⟩
  ·exact Nz h.2 x a
theorem Ag{cs:List ah}(h:∀c,c∈cs->wz c)(hv:yI cs=true):cs.length<=8/\∀c,c∈cs->cellV c=true/\WE c:=by
 unfold yI at hv;rw[zI]at hv;have d:=of_decide_eq_true hv.2;refine⟨by omega,fun c b=>?_⟩;obtain⟨j,a⟩:=Nz hv.1 c b;rw[zI]at a;exact⟨a.1,alP c (h c b) a.1⟩
theorem U8(cs:List ah)(o:cs.length<=1048576)(h:∀c,c∈cs->wz c):∃ps,oC ⟨cs⟩=some ps/\og ⟨cs⟩=some ps/\(∀p,p∈ps->ve p)/\(yI cs=true->ps.length=cs.length)/\ps.length<=8:=by
 unfold oC og;simp only[abo cs o h,aak cs o h,zA];cases hv:yI cs with
 | false=>exact⟨[],rfl,rfl,fun p k=>(by cases k),fun h=>(by cases h),by simp⟩
 | true=>
  obtain⟨B,l⟩:=Ag h hv;simp only[aL,aa];have pt:∀c,c∈cs->∃p,lX c=some p/\lS c=some p/\ve p:=fun c m=>by
   obtain⟨r,t⟩:=l c m;exact Zd c (by rw[afv c (h c m),r]) (by rw[afu c (h c m),r]) t
  have key:=aeE (ρ:=List bG) (f:=fun (a:(List bG)×(List ah)×Int×Int)=>
   bif (decide (a.2.2.2<a.2.2.1))then
    (idx a.2.1 a.2.2.2).bind fun n=>
    (lX n).bind fun d=>
    (gd (a.1.length+[jO d].length)).bind fun _=>
    some (.inl (a.1++[jO d],a.2.1,a.2.2.1,w64 (a.2.2.2+1)))
   else
    some (.inr (a.1))) (g:=fun (a:(List ah)×(List bG)×Int)=>
   bif (decide (a.2.2<(a.1.length:Int)))then
    (idx a.1 a.2.2).bind fun n=>
    (lS n).bind fun d=>
    (gd (a.2.1.length+[jO d].length)).bind fun _=>
    some (.inl (a.1,a.2.1++[jO d],w64 (a.2.2+1)))
   else
    some (.inr (a.2.1))) (fun (out:List bG) (i:Nat)=>((out,cs,(cs.length:Int),(i:Int)):(List bG)×(List ah)×Int×Int)) (fun (out:List bG) (i:Nat)=>((cs,out,(i:Int)):(List ah)×(List bG)×Int)) cs (fun i out=>out.length=i/\∀p,p∈out->ve p) (fun ps=>ps.length=cs.length/\∀p,p∈ps->ve p) (fun i c out b j=>.inl ?_) (fun out j=>⟨out,by simp only[bJ,aa],by simp only[bJ,aa],j⟩) [] ⟨rfl,fun p k=>(by cases k)⟩
  ·obtain⟨ps,u,v,w,x⟩:=key;exact⟨ps,u,v,x,fun _=>w,by omega⟩
  ·obtain⟨p,y,z,A⟩:=pt c (zG b);have hi:=(zC.1 b).1;have s:gd (out.length+[p].length)=some ():=gdp (by simp;omega);refine⟨out++[p],?_,?_,by simp[j.1],fun q e=>?_⟩
   ·simp only[bY b,ac,aA,b,zA,y,sZ,s,cZ b (by omega)]
   ·simp only[bY b,ac,aA,b,zA,z,sZ,s,cZ b (by omega)]
   ·rcases List.mem_append.1 e with e | e
    ·exact j.2 q e
    ·rw[List.mem_singleton.1 e];exact A
end Go.Proofs.YtbbmkcioplbhbaaGreatDoor
/- Plain laws: what a part uses, and who defines a name: the two programs alike. -/
namespace Go.Proofs.YtbbmkcioplbhbaaGreatDoor
open Go.Abs Go.Proofs
noncomputable def rG(p:bG):List Str:=(rO p).getD []
theorem DN(p:bG)(h:ve p):su p=some (rG p)/\rO p=some (rG p)/\(rG p).length<=1000:=by
 have key:∃ys,su p=some ys/\rO p=some ys/\ys.length<=1000:=by
  unfold su rO;by_cases a:p.kind=2
  ·have e:(p.kind != 2)=false:=by rw[a];rfl
   obtain⟨hv,c⟩:=h.expr a;obtain⟨ys,h1,h2,_,d,_⟩:=AB p.expr (by omega);rw[e];simp only[aa,aS,h1,h2,zA];exact⟨ys,rfl,rfl,by omega⟩
  ·have e:(p.kind != 2)=true:=by simpa using a
   rw[e];exact⟨[],rfl,rfl,by simp⟩
 obtain⟨ys,h1,h2,b⟩:=key;have e:rG p=ys:=by unfold rG;rw[h2];rfl
 rw[e];exact⟨h1,h2,b⟩
noncomputable def KU(p:bG)(s:Str):Bool:=(rG p).contains s
theorem aa0(p:bG)(h:ve p)(s:Str):∃q:Int,jy (rG p) s=some q/\decide (q>=0)=KU p s/\decide (q<0) = !(KU p s):=by
 obtain⟨_,_,c⟩:=DN p h;refine⟨posOf s 0 (rG p),qU (rG p) s (by omega),?_⟩;have b:=pR s (rG p) 0;unfold KU;cases a:(rG p).contains s with
 | false=>
  have:=b.2 a;exact⟨by rw[ae (by omega)],by rw[al this];rfl⟩
 | true=>
  have:¬posOf s 0 (rG p)<0:=fun hh=>by rw[b.1 hh]at a;cases a
  exact⟨by rw[al (by omega)],by rw[ae this];rfl⟩
theorem ajE(p:bG)(h:ve p)(s:Str):kR (rG p) s=some (KU p s):=by
 obtain⟨_,_,a⟩:=DN p h;exact nZ (rG p) s (by omega)
theorem abu(p:bG)(s:Str)(h:KU p s=true):p.kind=2:=by
 by_cases a:p.kind=2
 ·exact a
 ·have e:(p.kind != 2)=true:=by simpa using a
  have:rG p=[]:=by unfold rG rO;rw[e];rfl
  unfold KU at h;rw[this]at h;cases h
def dR(b:Str):Nat->List bG->List Int
 | _,[]=>[]
 | i,p::r=>if ((p.kind != 1)&&(p.name==b))=true then (i:Int)::dR b (i+1) r else dR b (i+1) r
theorem abR(b:Str){ps:List bG}{i:Nat}{p:bG}(h:ps[i]?=some p):dR b i (ps.drop i)=if ((p.kind != 1)&&(p.name==b))=true then (i:Int)::dR b (i+1) (ps.drop (i+1))else dR b (i+1) (ps.drop (i+1)):=by
 obtain⟨hi,rfl⟩:=zC.1 h;rw[List.drop_eq_getElem_cons hi];rfl
theorem G6(b:Str):∀(ps:List bG) (i:Nat) (k:Int),k∈dR b i ps->(i:Int)<=k/\k<((i+ps.length:Nat):Int)
 | [],i,k,h=>by cases h
 | p::r,i,k,h=>by
  unfold dR at h;split at h
  ·rcases ba.1 h with rfl | h
   ·simp;omega
   ·have:=G6 b r (i+1) k h;simp only[List.length_cons];omega
  ·have:=G6 b r (i+1) k h;simp only[List.length_cons];omega
theorem Wh{b:Str}{ps:List bG}{i:Nat}{p:bG}(a:ps[i]?=some p){out:List Int}(c:out++dR b i (ps.drop i)=dR b 0 ps) :
  (if ((p.kind != 1)&&(p.name==b))=true then out++[(i:Int)]else out)++dR b (i+1) (ps.drop (i+1))=dR b 0 ps:=by
 rw[<- c,abR b a];split
 ·rw[a7];rfl
 ·rfl
theorem aaP{c:Bool}{out:List Int}{i:Nat}(h:out.length<=i):(if c=true then out++[(i:Int)]else out).length<=i+1:=by
 split
 ·simp;omega
 ·omega
theorem afn(ps:List bG)(b:Str)(e:ps.length<=1048576):tH ps b=some (dR b 0 ps):=by
 unfold tH;refine xH (dH (fun (out:List Int) (i:Nat)=>((b,out,ps,(ps.length:Int),(i:Int)):Str×(List Int)×(List bG)×Int×Int)) ps (fun i out=>out++dR b i (ps.drop i)=dR b 0 ps/\out.length<=i) _ (fun i p out a c=>.inl ?_) (fun out c=>?_) [] ⟨rfl,aw _⟩)
 ·have hi:=(zC.1 a).1;have d:∀n:Int,gd (out.length+[n].length)=some ():=fun n=>gdp (by simp;omega)
  refine⟨if ((p.kind != 1)&&(p.name==b))=true then out++[(i:Int)]else out,?_,Wh a c.1,aaP c.2⟩;simp only[bY a,ac,aA,a,zA,d,cZ a (by omega)];cases (p.kind != 1)<;>cases (p.name==b)<;>rfl
 ·refine⟨out,by simp only[bJ,aa],?_⟩;have:=c.1;rw[List.drop_length]at this;simpa [dR] using this
theorem aeT(ps:List bG)(b:Str)(e:ps.length<=1048576):xw ps b=some (dR b 0 ps):=by
 unfold xw;refine xH (dH (fun (out:List Int) (i:Nat)=>((ps,b,out,(i:Int)):(List bG)×Str×(List Int)×Int)) ps (fun i out=>out++dR b i (ps.drop i)=dR b 0 ps/\out.length<=i) _ (fun i p out a c=>.inl ?_) (fun out c=>?_) [] ⟨rfl,aw _⟩)
 ·have hi:=(zC.1 a).1;have d:∀n:Int,gd (out.length+[n].length)=some ():=fun n=>gdp (by simp;omega)
  refine⟨if ((p.kind != 1)&&(p.name==b))=true then out++[(i:Int)]else out,?_,Wh a c.1,aaP c.2⟩;simp only[bY a,ac,aA,a,zA,d,cZ a (by omega)];cases (p.kind != 1)<;>cases (p.name==b)<;>rfl
 ·refine⟨out,by simp only[bJ,aa],?_⟩;have:=c.1;rw[List.drop_length]at this;simpa [dR] using this
def BU:List Int->Int
 | []=>-1
 | [k]=>k
 | _=>-2
theorem aln(ps:List bG)(b:Str)(c:ps.length<=1048576):CG ps b=some (BU (dR b 0 ps)):=by
 unfold CG;rw[afn ps b c,zA];cases dR b 0 ps with
 | nil=>rfl
 | cons k r=>cases r with
  | nil=>rfl
  | cons a r=>
   have d:(((k::a::r).length:Int)==0)=false:=by simp;omega
   have e:(((k::a::r).length:Int)==1)=false:=by simp;omega
   rw[d,e];rfl
theorem aeS(ps:List bG)(b:Str)(c:ps.length<=1048576):Bv ps b=some (BU (dR b 0 ps)):=by
 unfold Bv;rw[aeT ps b c,zA];cases dR b 0 ps with
 | nil=>rfl
 | cons k r=>cases r with
  | nil=>rfl
  | cons a r=>
   have d:(((k::a::r).length:Int)==0)=false:=by simp;omega
   have e:(((k::a::r).length:Int)==1)=false:=by simp;omega
   rw[d,e];rfl
theorem ais(ps:List bG)(b:Str)(h:0<=BU (dR b 0 ps)):∃k:Nat,BU (dR b 0 ps)=k/\k<ps.length:=by
 cases hd:dR b 0 ps with
 | nil=>rw[hd]at h;exact absurd h (by decide)
 | cons k r=>cases r with
  | nil=>
   have:=G6 b ps 0 k (by rw[hd];simp)
   exact⟨k.toNat,by show k=_;omega,by omega⟩
  | cons a r=>rw[hd]at h;exact absurd h (by show ¬(0:Int)<=-2;decide)
end Go.Proofs.YtbbmkcioplbhbaaGreatDoor
/- Plain laws: RenameVariable alike on both sides. -/
namespace Go.Proofs.YtbbmkcioplbhbaaGreatDoor
noncomputable section
open Go.Abs Go.Proofs
def aht(p:bG)(b c:Str):Bool:=(kX p.expr b c).getD false
theorem aj3(p:bG)(h:ve p)(a:p.kind=2)(b c:Str):iy p.expr b c=some (aht p b c)/\kX p.expr b c=some (aht p b c):=by
 obtain⟨hv,d⟩:=h.expr a;obtain⟨v,h1,h2⟩:=Dy p.expr b c (by omega);have e:aht p b c=v:=by unfold aht;rw[h2];rfl
 rw[e];exact⟨h1,h2⟩
def textOf(p:bG)(b c:Str):Str:=(((jX p.expr b c).bind fun r=>kz r.1)).getD []
theorem aeK(p:bG)(h:ve p)(f:p.kind=2)(b c:Str)(g:b.length<=34359738368)(i:c.length<=34359738368) :
  ∃x v,kE p.expr b c=some (x,v)/\jX p.expr b c=some (x,v)/\kF x=some (textOf p b c)/\kz x=some (textOf p b c):=by
 obtain⟨hv,l⟩:=h.expr f;obtain⟨x,v,j,a,m⟩:=xC p.expr b c (by omega) g i;obtain⟨s,k,d,_⟩:=Jc x (by omega);have e:textOf p b c=s:=by unfold textOf;rw[a];simp only[zA,d];rfl
 rw[e];exact⟨x,v,j,a,k,d⟩
def Zu(d:Bool)(t:Str)(x:ah):ah:=⟨x.id,if d=true then x.version+1 else x.version,x.kind,x.name,t,x.n⟩
def mO(d:Bool)(b c:Str):Nat->List bG->List ah->Bool->Option (List ah×Bool)
 | _,[],cs,full=>some (cs,full)
 | i,p::r,cs,full=>if KU p b=true then
   (if (textOf p b c).length<=120 then (match cs[i]? with
    | some x=>mO d b c (i+1) r (cs.set i (Zu d (textOf p b c) x)) (full||(d&&decide (x.version>=999)))
    | none=>none)
   else none)
  else mO d b c (i+1) r cs full
theorem QO(d:Bool)(b c:Str){ps:List bG}{i:Nat}{p:bG}(h:ps[i]?=some p)(cs:List ah)(full:Bool):mO d b c i (ps.drop i) cs full=if KU p b=true then
      (if (textOf p b c).length<=120 then (match cs[i]? with
       | some x=>mO d b c (i+1) (ps.drop (i+1)) (cs.set i (Zu d (textOf p b c) x)) (full||(d&&decide (x.version>=999)))
       | none=>none)
      else none)
  else mO d b c (i+1) (ps.drop (i+1)) cs full:=by
 obtain⟨hi,rfl⟩:=zC.1 h;rw[List.drop_eq_getElem_cons hi];rfl
def abz(cs:List ah):Option (List ah×Bool)->ak×Int
 | none=>(⟨cs⟩,5)
 | some (out,true)=>(⟨cs⟩,6)
 | some (out,false)=>(⟨out⟩,0)
abbrev RvI:=Str×Str×Bool×(List ah)×(List ah)×(List ah)×Bool×(List bG)×Int×Int
abbrev RvS:=Str×Str×(List ah)×(List ah)×(List ah)×(List bG)×Int×Int
def aiq:RvI->Option (RvI⊕(ak×Int)):=(fun (a:Str×Str×Bool×(List ah)×(List ah)×(List ah)×Bool×(List bG)×Int×Int)=>
      bif (decide (a.2.2.2.2.2.2.2.2.2<a.2.2.2.2.2.2.2.2.1))then
       (idx a.2.2.2.2.2.2.2.1 a.2.2.2.2.2.2.2.2.2).bind fun f=>
       (su (jO f)).bind fun g=>
       (jy g a.1).bind fun h=>
       bif (decide (h<0))then
        some (.inl (a.1,a.2.1,a.2.2.1,a.2.2.2.1,a.2.2.2.2.1,a.2.2.2.2.2.1,a.2.2.2.2.2.2.1,a.2.2.2.2.2.2.2.1,a.2.2.2.2.2.2.2.2.1,w64 (a.2.2.2.2.2.2.2.2.2+1)))
       else
       (kE (aj f.expr) a.1 a.2.1).bind fun i=>
       (kF (aj i.1)).bind fun c=>
       (idx a.2.2.2.2.2.1 a.2.2.2.2.2.2.2.2.2).bind fun _=>
       (a.2.2.2.2.2.1[a.2.2.2.2.2.2.2.2.2.toNat]?).bind fun b=>
       (idx (a.2.2.2.2.2.1.set a.2.2.2.2.2.2.2.2.2.toNat (ah.mk b.id b.version b.kind b.name c b.n)) a.2.2.2.2.2.2.2.2.2).bind fun _=>
       ((a.2.2.2.2.2.1.set a.2.2.2.2.2.2.2.2.2.toNat (ah.mk b.id b.version b.kind b.name c b.n))[a.2.2.2.2.2.2.2.2.2.toNat]?).bind fun j=>
       bif (decide ((j.code.length:Int)>120))then
        some (.inr (ak.mk a.2.2.2.1,5))
       else
       bif a.2.2.1 then
        bif a.2.2.2.2.2.2.1 then
         (idx (a.2.2.2.2.2.1.set a.2.2.2.2.2.2.2.2.2.toNat (ah.mk b.id b.version b.kind b.name c b.n)) a.2.2.2.2.2.2.2.2.2).bind fun _=>
         ((a.2.2.2.2.2.1.set a.2.2.2.2.2.2.2.2.2.toNat (ah.mk b.id b.version b.kind b.name c b.n))[a.2.2.2.2.2.2.2.2.2.toNat]?).bind fun k=>
         (idx (a.2.2.2.2.2.1.set a.2.2.2.2.2.2.2.2.2.toNat (ah.mk b.id b.version b.kind b.name c b.n)) a.2.2.2.2.2.2.2.2.2).bind fun _=>
         ((a.2.2.2.2.2.1.set a.2.2.2.2.2.2.2.2.2.toNat (ah.mk b.id b.version b.kind b.name c b.n))[a.2.2.2.2.2.2.2.2.2.toNat]?).bind fun d=>
         some (.inl (a.1,a.2.1,a.2.2.1,a.2.2.2.1,a.2.2.2.2.1,(a.2.2.2.2.2.1.set a.2.2.2.2.2.2.2.2.2.toNat (ah.mk b.id b.version b.kind b.name c b.n)).set a.2.2.2.2.2.2.2.2.2.toNat (ah.mk d.id (w64 (k.version+1)) d.kind d.name d.code d.n),true,a.2.2.2.2.2.2.2.1,a.2.2.2.2.2.2.2.2.1,w64 (a.2.2.2.2.2.2.2.2.2+1)))
        else
         (idx (a.2.2.2.2.2.1.set a.2.2.2.2.2.2.2.2.2.toNat (ah.mk b.id b.version b.kind b.name c b.n)) a.2.2.2.2.2.2.2.2.2).bind fun _=>
         ((a.2.2.2.2.2.1.set a.2.2.2.2.2.2.2.2.2.toNat (ah.mk b.id b.version b.kind b.name c b.n))[a.2.2.2.2.2.2.2.2.2.toNat]?).bind fun l=>
         (idx (a.2.2.2.2.2.1.set a.2.2.2.2.2.2.2.2.2.toNat (ah.mk b.id b.version b.kind b.name c b.n)) a.2.2.2.2.2.2.2.2.2).bind fun _=>
         ((a.2.2.2.2.2.1.set a.2.2.2.2.2.2.2.2.2.toNat (ah.mk b.id b.version b.kind b.name c b.n))[a.2.2.2.2.2.2.2.2.2.toNat]?).bind fun m=>
         (idx (a.2.2.2.2.2.1.set a.2.2.2.2.2.2.2.2.2.toNat (ah.mk b.id b.version b.kind b.name c b.n)) a.2.2.2.2.2.2.2.2.2).bind fun _=>
         ((a.2.2.2.2.2.1.set a.2.2.2.2.2.2.2.2.2.toNat (ah.mk b.id b.version b.kind b.name c b.n))[a.2.2.2.2.2.2.2.2.2.toNat]?).bind fun e=>
         some (.inl (a.1,a.2.1,a.2.2.1,a.2.2.2.1,a.2.2.2.2.1,(a.2.2.2.2.2.1.set a.2.2.2.2.2.2.2.2.2.toNat (ah.mk b.id b.version b.kind b.name c b.n)).set a.2.2.2.2.2.2.2.2.2.toNat (ah.mk e.id (w64 (m.version+1)) e.kind e.name e.code e.n),(decide (l.version>=999)),a.2.2.2.2.2.2.2.1,a.2.2.2.2.2.2.2.2.1,w64 (a.2.2.2.2.2.2.2.2.2+1)))
       else
        some (.inl (a.1,a.2.1,a.2.2.1,a.2.2.2.1,a.2.2.2.2.1,a.2.2.2.2.2.1.set a.2.2.2.2.2.2.2.2.2.toNat (ah.mk b.id b.version b.kind b.name c b.n),a.2.2.2.2.2.2.1,a.2.2.2.2.2.2.2.1,a.2.2.2.2.2.2.2.2.1,w64 (a.2.2.2.2.2.2.2.2.2+1)))
      else
       (
        bif a.2.2.2.2.2.2.1 then
         some (ak.mk a.2.2.2.1,6)
        else
         some (ak.mk a.2.2.2.2.2.1,0)
       ).bind fun r=>some (.inr r)
  )
def akO:RvS->Option (RvS⊕(ak×Int)):=(fun (a:Str×Str×(List ah)×(List ah)×(List ah)×(List bG)×Int×Int)=>
      bif (decide (a.2.2.2.2.2.2.2<(a.2.2.2.2.2.1.length:Int)))then
       (idx a.2.2.2.2.2.1 a.2.2.2.2.2.2.2).bind fun _=>
       (a.2.2.2.2.2.1[a.2.2.2.2.2.2.2.toNat]?).bind fun f=>
       (rO (jO f)).bind fun g=>
       (kR g a.1).bind fun h=>
       bif (!h)then
        some (.inl (a.1,a.2.1,a.2.2.1,a.2.2.2.1,a.2.2.2.2.1,a.2.2.2.2.2.1,a.2.2.2.2.2.2.1,w64 (a.2.2.2.2.2.2.2+1)))
       else
       (idx a.2.2.2.2.2.1 a.2.2.2.2.2.2.2).bind fun _=>
       (a.2.2.2.2.2.1[a.2.2.2.2.2.2.2.toNat]?).bind fun i=>
       (jX (aj i.expr) a.1 a.2.1).bind fun j=>
       (kz (aj j.1)).bind fun c=>
       (idx a.2.2.2.2.1 a.2.2.2.2.2.2.2).bind fun _=>
       (a.2.2.2.2.1[a.2.2.2.2.2.2.2.toNat]?).bind fun b=>
       (idx (a.2.2.2.2.1.set a.2.2.2.2.2.2.2.toNat (ah.mk b.id b.version b.kind b.name c b.n)) a.2.2.2.2.2.2.2).bind fun _=>
       ((a.2.2.2.2.1.set a.2.2.2.2.2.2.2.toNat (ah.mk b.id b.version b.kind b.name c b.n))[a.2.2.2.2.2.2.2.toNat]?).bind fun k=>
       bif (decide ((k.code.length:Int)>120))then
        (iV (ak.mk a.2.2.1)).bind fun l=>
        some (.inr (l,5))
       else
       (idx (a.2.2.2.2.1.set a.2.2.2.2.2.2.2.toNat (ah.mk b.id b.version b.kind b.name c b.n)) a.2.2.2.2.2.2.2).bind fun _=>
       ((a.2.2.2.2.1.set a.2.2.2.2.2.2.2.toNat (ah.mk b.id b.version b.kind b.name c b.n))[a.2.2.2.2.2.2.2.toNat]?).bind fun m=>
       bif (m.version==999)then
        (idx (a.2.2.2.2.1.set a.2.2.2.2.2.2.2.toNat (ah.mk b.id b.version b.kind b.name c b.n)) a.2.2.2.2.2.2.2).bind fun _=>
        ((a.2.2.2.2.1.set a.2.2.2.2.2.2.2.toNat (ah.mk b.id b.version b.kind b.name c b.n))[a.2.2.2.2.2.2.2.toNat]?).bind fun o=>
        (idx (a.2.2.2.2.1.set a.2.2.2.2.2.2.2.toNat (ah.mk b.id b.version b.kind b.name c b.n)) a.2.2.2.2.2.2.2).bind fun _=>
        ((a.2.2.2.2.1.set a.2.2.2.2.2.2.2.toNat (ah.mk b.id b.version b.kind b.name c b.n))[a.2.2.2.2.2.2.2.toNat]?).bind fun d=>
        some (.inl (a.1,a.2.1,a.2.2.1,a.2.2.2.1,(a.2.2.2.2.1.set a.2.2.2.2.2.2.2.toNat (ah.mk b.id b.version b.kind b.name c b.n)).set a.2.2.2.2.2.2.2.toNat (ah.mk d.id (w64 (o.version+1)) d.kind d.name d.code d.n),a.2.2.2.2.2.1,6,w64 (a.2.2.2.2.2.2.2+1)))
       else
        (idx (a.2.2.2.2.1.set a.2.2.2.2.2.2.2.toNat (ah.mk b.id b.version b.kind b.name c b.n)) a.2.2.2.2.2.2.2).bind fun _=>
        ((a.2.2.2.2.1.set a.2.2.2.2.2.2.2.toNat (ah.mk b.id b.version b.kind b.name c b.n))[a.2.2.2.2.2.2.2.toNat]?).bind fun p=>
        (idx (a.2.2.2.2.1.set a.2.2.2.2.2.2.2.toNat (ah.mk b.id b.version b.kind b.name c b.n)) a.2.2.2.2.2.2.2).bind fun _=>
        ((a.2.2.2.2.1.set a.2.2.2.2.2.2.2.toNat (ah.mk b.id b.version b.kind b.name c b.n))[a.2.2.2.2.2.2.2.toNat]?).bind fun e=>
        some (.inl (a.1,a.2.1,a.2.2.1,a.2.2.2.1,(a.2.2.2.2.1.set a.2.2.2.2.2.2.2.toNat (ah.mk b.id b.version b.kind b.name c b.n)).set a.2.2.2.2.2.2.2.toNat (ah.mk e.id (w64 (p.version+1)) e.kind e.name e.code e.n),a.2.2.2.2.2.1,a.2.2.2.2.2.2.1,w64 (a.2.2.2.2.2.2.2+1)))
      else
       (
        bif (a.2.2.2.2.2.2.1 != 0)then
         (iV (ak.mk a.2.2.1)).bind fun q=>
         some (q,a.2.2.2.2.2.2.1)
        else
         some (ak.mk a.2.2.2.2.1,0)
       ).bind fun r=>some (.inr r)
  )
theorem afp{α:Type}(xs:List α)(i:Nat)(x:α)(h:i<xs.length):(xs.set i x)[i]?=some x:=by
 rw[List.getElem?_set_self h]
theorem ao1(d:Bool)(b c:Str)(A:b.length<=34359738368)(B:c.length<=34359738368)(cs:List ah)(ps:List bG)(l:∀p,p∈ps->ve p)(K:ps.length<=1048576)(out0:List ah)(C:out0.length=ps.length)(hv:∀x,x∈out0->1<=x.version/\x.version<=999) :
  au aiq (b,c,d,cs,[],out0,false,ps,(ps.length:Int),0)=some (abz cs (mO d b c 0 ps out0 false)):=by
 refine xH (dH (g:=aiq) (fun (s:List ah×Bool) (i:Nat)=>((b,c,d,cs,[],s.1,s.2,ps,(ps.length:Int),(i:Int)):RvI)) ps (fun i s=>s.1.length=ps.length/\mO d b c i (ps.drop i) s.1 s.2=mO d b c 0 ps out0 false/\∀j x,i<=j->s.1[j]?=some x->1<=x.version/\x.version<=999) _ (fun i p s a m=>?_) (fun s m=>?_) (out0,false) ⟨C,rfl,fun j x _ a=>hv x (zG a)⟩)
 ·obtain⟨n,f,k⟩:=m;have o:=l p (zG a);have hi:=(zC.1 a).1;obtain⟨D,L,M⟩:=DN p o;obtain⟨q,E,N,F⟩:=aa0 p o b;rw[QO d b c a]at f;simp only[aiq,bY a,ac,aA,a,zA,sZ,D,E,F,cZ a (by omega)];cases hh:KU p b with
  | false=>
   rw[hh]at f;refine .inl ⟨s,rfl,n,?_,fun j x r a=>k j x (by omega) a⟩;simpa using f
  | true=>
   rw[hh,if_pos rfl]at f;have h:i<s.1.length:=by omega
   have t:=zF h;obtain⟨x,v,G,O,H,P⟩:=aeK p o (abu p b hh) b c A B;have u:∀y:ah,(s.1.set i y)[i]?=some y:=fun y=>afp s.1 i y h
   rw[t]at f;have I:=k i _ (aw _) t;simp only[aL,aa,aS,G,H,t,az,u,zA];by_cases w:(textOf p b c).length<=120
   ·have e:decide (((textOf p b c).length:Int)>120)=false:=by simp;omega
    rw[if_pos w]at f;rw[e];simp only[aa];have keep:∀(y:ah) (j:Nat) (x:ah),i+1<=j->(s.1.set i y)[j]?=some x->1<=x.version/\x.version<=999:=fun y j x r a=>by
     rw[List.getElem?_set_ne (by omega)]at a;exact k j x (by omega) a
    have J:w64 (s.1[i].version+1)=s.1[i].version+1:=aT (by omega) (by omega);refine .inl ⟨(s.1.set i (Zu d (textOf p b c) s.1[i]),s.2||(d&&decide (s.1[i].version>=999))),?_,by simp[n],f,fun j x r a=>keep _ j x r a⟩;cases d with
    | false=>
     simp only[aa,Bool.false_and,Bool.or_false];rfl
    | true=>
     have hset:∀y z:ah,(s.1.set i y).set i z=s.1.set i z:=fun y z=>by rw[List.set_set]
     simp only[ac,Bool.true_and,J,hset];cases s.2<;>rfl
   ·have e:decide (((textOf p b c).length:Int)>120)=true:=by simp;omega
    rw[if_neg w]at f;rw[e];exact .inr ⟨_,rfl,by rw[<- f];rfl⟩
 ·obtain⟨n,f,k⟩:=m;rw[List.drop_length]at f;refine⟨abz cs (some s),?_,by rw[<- f];rfl⟩;obtain⟨out,full⟩:=s;simp only[aiq,bJ,aa];cases full<;>rfl
theorem aoO(b c:Str)(C:b.length<=34359738368)(D:c.length<=34359738368)(cs:List ah)(E:cs.length<=1048576)(ps:List bG)(k:∀p,p∈ps->ve p)(L:ps.length<=1048576)(out0:List ah)(F:out0.length=ps.length)(hv:∀x,x∈out0->1<=x.version/\x.version<=999) :
  au akO (b,c,cs,[],out0,ps,0,0)=some (abz cs (mO true b c 0 ps out0 false)):=by
 have hcopy:iV ⟨cs⟩=some ⟨cs⟩:=by
  unfold iV;rw[gdp (by simp;omega)];rfl
 refine xH (dH (g:=akO) (fun (s:List ah×Bool) (i:Nat)=>((b,c,cs,[],s.1,ps,(if s.2=true then 6 else 0),(i:Int)):RvS)) ps (fun i s=>s.1.length=ps.length/\mO true b c i (ps.drop i) s.1 s.2=mO true b c 0 ps out0 false/\∀j x,i<=j->s.1[j]?=some x->1<=x.version/\x.version<=999) _ (fun i p s a l=>?_) (fun s l=>?_) (out0,false) ⟨F,rfl,fun j x _ a=>hv x (zG a)⟩)
 ·obtain⟨m,d,h⟩:=l;have n:=k p (zG a);have hi:=(zC.1 a).1;obtain⟨M,G,N⟩:=DN p n;have H:=ajE p n b;rw[QO true b c a]at d;simp only[akO,bY a,ac,aA,a,zA,az,sZ,G,H,cZ a (by omega)];cases hh:KU p b with
  | false=>
   rw[hh]at d;refine .inl ⟨s,rfl,m,?_,fun j x o a=>h j x (by omega) a⟩;simpa using d
  | true=>
   rw[hh,if_pos rfl]at d;have f:i<s.1.length:=by omega
   have q:=zF f;obtain⟨x,v,O,I,P,J⟩:=aeK p n (abu p b hh) b c C D;have r:∀y:ah,(s.1.set i y)[i]?=some y:=fun y=>afp s.1 i y f
   rw[q]at d;have K:=h i _ (aw _) q;simp only[aL,aa,aS,I,J,q,az,r,zA];by_cases w:(textOf p b c).length<=120
   ·have e:decide (((textOf p b c).length:Int)>120)=false:=by simp;omega
    rw[if_pos w]at d;rw[e];simp only[aa];have keep:∀(y:ah) (j:Nat) (x:ah),i+1<=j->(s.1.set i y)[j]?=some x->1<=x.version/\x.version<=999:=fun y j x o a=>by
     rw[List.getElem?_set_ne (by omega)]at a;exact h j x (by omega) a
    have A:w64 (s.1[i].version+1)=s.1[i].version+1:=aT (by omega) (by omega);have hset:∀y z:ah,(s.1.set i y).set i z=s.1.set i z:=fun y z=>by rw[List.set_set]
    refine .inl ⟨(s.1.set i (Zu true (textOf p b c) s.1[i]),s.2||(true&&decide (s.1[i].version>=999))),?_,by simp[m],d,fun j x o a=>keep _ j x o a⟩;by_cases B:s.1[i].version=999
    ·have t:(s.1[i].version==999)=true:=by simp[B]
     have u:decide (s.1[i].version>=999)=true:=by simp;omega
     simp only[t,u,ac,Bool.true_and,Bool.or_true,A,hset];rfl
    ·have t:(s.1[i].version==999)=false:=by simpa using B
     have u:decide (s.1[i].version>=999)=false:=by simp;omega
     simp only[t,u,aa,Bool.true_and,Bool.or_false,A,hset];rfl
   ·have e:decide (((textOf p b c).length:Int)>120)=true:=by simp;omega
    rw[if_neg w]at d;rw[e];simp only[ac,hcopy,zA];exact .inr ⟨_,rfl,by rw[<- d];rfl⟩
 ·obtain⟨m,d,h⟩:=l;rw[List.drop_length]at d;refine⟨abz cs (some s),?_,by rw[<- d];rfl⟩;obtain⟨out,full⟩:=s;simp only[akO,bJ,aa,hcopy,zA];cases full<;>rfl
end
end Go.Proofs.YtbbmkcioplbhbaaGreatDoor
/- Plain laws: loops that scan, sizes, equality with itself. -/
namespace Go.Proofs.YtbbmkcioplbhbaaGreatDoor
open Go.Abs Go.Proofs
def uX{α:Type}(p:α->Nat->Bool):List α->Nat->Bool
 | [],_=>true
 | x::r,i=>p x i&&uX p r (i+1)
theorem uf{α X:Type}{g:X->Option (X⊕Bool)}(pk:Nat->X)(xs:List α)(p:α->Nat->Bool)(fin:Bool)
  (h1:∀i x,xs[i]?=some x->g (pk i)=bif p x i then some (.inl (pk (i+1)))else some (.inr false))
  (h2:g (pk xs.length)=some (.inr fin)):au g (pk 0)=some (uX p xs 0&&fin):=by
 have key:∀(n i:Nat),xs.length=i+n->au g (pk i)=some (uX p (xs.drop i) i&&fin):=by
  intro n;induction n with
  | zero=>
   intro i hi;rw[List.drop_eq_nil_of_le (by omega),aH];have:i=xs.length:=by omega
   subst this;rw[h2];simp[uX]
  | succ n ih=>
   intro i hi;have a:i<xs.length:=by omega
   rw[List.drop_eq_getElem_cons a,aH,h1 i xs[i] (zF a)];simp only[uX];cases p xs[i] i with
   | false=>simp
   | true=>simpa using ih (i+1) (by omega)
 simpa using key xs.length 0 (by omega)
def dU{α:Type}(p:α->Bool):List α->Nat->Int
 | [],_=>-1
 | x::r,i=>bif p x then (i:Int)else dU p r (i+1)
theorem yT{α X:Type}{g:X->Option (X⊕Int)}(pk:Nat->X)(xs:List α)(p:α->Bool)
  (h1:∀i x,xs[i]?=some x->g (pk i)=bif p x then some (.inr (i:Int))else some (.inl (pk (i+1))))
  (h2:g (pk xs.length)=some (.inr (-1))):au g (pk 0)=some (dU p xs 0):=by
 have key:∀(n i:Nat),xs.length=i+n->au g (pk i)=some (dU p (xs.drop i) i):=by
  intro n;induction n with
  | zero=>
   intro i hi;rw[List.drop_eq_nil_of_le (by omega),aH];have:i=xs.length:=by omega
   subst this;rw[h2];simp[dU]
  | succ n ih=>
   intro i hi;have a:i<xs.length:=by omega
   rw[List.drop_eq_getElem_cons a,aH,h1 i xs[i] (zF a)];simp only[dU];cases p xs[i]with
   | false=>simpa using ih (i+1) (by omega)
   | true=>simp
 simpa using key xs.length 0 (by omega)
def SzOk{α:Type}(f:α->Int->Option Int)(P:α->Prop)(cE:α->Nat)(x:α):Prop:=
 ∀l:Int,0<=l->l<=1048576->∃r,f x l=some r/\(r<0\/(0<=r/\r<=l/\20*r+cE x<=20*l+20/\P x))
theorem aoI{α:Type}(f:α->Int->Option Int)(P:α->Prop)(cE:α->Nat)(xs:List α)(q:∀x∈xs,SzOk f P cE x)(A:xs.length<4611686018427387904)(l:Int)(s:0<=l)(h1:l<=1048576) :
  ∃r,au (fun (a:List α×Int×Int)=>
   bif (decide (a.2.2<(a.1.length:Int)))then
    (idx a.1 a.2.2).bind fun k=>
    (f k a.2.1).bind fun e=>
    bif (decide (e<0))then
     some (.inr ((-1)))
    else
     some (.inl (a.1,e,w64 (a.2.2+1)))
   else
    some (.inr (a.2.1))) (xs,l,0)=some r/\(r<0\/(0<=r/\r<=l/\20*r+(xs.map cE).sum<=20*l+20*xs.length/\∀x∈xs,P x)):=by
 have key:∀(n i:Nat) (l':Int),xs.length=i+n->0<=l'->l'<=l->20*l'+((xs.take i).map cE).sum<=20*l+20*i->(∀j x,xs[j]?=some x->j<i->P x)->∃r,au (fun (a:List α×Int×Int)=>
   bif (decide (a.2.2<(a.1.length:Int)))then
    (idx a.1 a.2.2).bind fun k=>
    (f k a.2.1).bind fun e=>
    bif (decide (e<0))then
     some (.inr ((-1)))
    else
     some (.inl (a.1,e,w64 (a.2.2+1)))
   else
    some (.inr (a.2.1))) (xs,l',(i:Int))=some r/\(r<0\/(0<=r/\r<=l/\20*r+(xs.map cE).sum<=20*l+20*xs.length/\∀x∈xs,P x)):=by
  intro n;induction n with
  | zero=>
   intro i l' hi c g p m;have t:xs.take i=xs:=List.take_of_length_le (by omega);rw[t]at p;refine⟨l',?_,.inr ⟨c,g,by omega,fun x u=>?_⟩⟩
   ·rw[aH];have h:¬((i:Int)<(xs.length:Int)):=by omega
    simp only[h,decide_false,aa]
   ·obtain⟨j,d,rfl⟩:=List.mem_iff_getElem.1 u;exact m j _ (zF d) (by omega)
  | succ n ih=>
   intro i l' hi c g p m;have b:i<xs.length:=by omega
   obtain⟨r,v,h⟩:=q _ (List.getElem_mem b) l' c (by omega);have hd:((i:Int)<(xs.length:Int)):=by omega
   rw[aH];simp only[hd,decide_true,ac,aA,zF b,zA,v];rcases h with h | ⟨h2,B,C,w⟩
   ·exact⟨-1,by simp[h],.inl (by omega)⟩
   ·have y:¬(r<0):=by omega
    simp only[y,decide_false,aa];rw[aT (by omega) (by omega)];have hsum:((xs.take (i+1)).map cE).sum=((xs.take i).map cE).sum+cE xs[i]:=by
     rw[List.take_add_one,zF b,List.map_append,List.sum_append];simp only[Option.toList_some,List.map_cons,List.map_nil,List.sum_cons,List.sum_nil,Nat.add_zero]
    have:=ih (i+1) r (by omega) h2 (by omega) (by rw[hsum];omega) (by
     intro j x d z;by_cases o:j=i
     ·subst o;rw[zF b]at d;cases d
      exact w
     ·exact m j x d (by omega))
    simpa using this
 exact key xs.length 0 l (by omega) s (Int.le_refl _) (by simp) (fun j x _ d=>absurd d (by omega))
theorem ao6{α:Type}(f:α->α->Option Bool)(xs:List α)(m:∀x∈xs,f x x=some true)(n:xs.length<4611686018427387904) :
  au (fun (a:List α×List α×Int)=>
   bif (decide (a.2.2<(a.1.length:Int)))then
    (idx a.1 a.2.2).bind fun b=>
    (idx a.2.1 a.2.2).bind fun c=>
    (f b c).bind fun d=>
    bif (!d)then
     some (.inr (false))
    else
     some (.inl (a.1,a.2.1,w64 (a.2.2+1)))
   else
    some (.inr (true))) (xs,xs,0)=some true:=by
 have:=uf (g:=fun (a:List α×List α×Int)=>
   bif (decide (a.2.2<(a.1.length:Int)))then
    (idx a.1 a.2.2).bind fun b=>
    (idx a.2.1 a.2.2).bind fun c=>
    (f b c).bind fun d=>
    bif (!d)then
     some (.inr (false))
    else
     some (.inl (a.1,a.2.1,w64 (a.2.2+1)))
   else
    some (.inr (true))) (fun i=>(xs,xs,(i:Int))) xs (fun _ _=>true) true (by
  intro i x k;obtain⟨j,rfl⟩:=zC.1 k;have hd:((i:Int)<(xs.length:Int)):=by omega
  simp only[hd,decide_true,ac,aA,k,zA,m _ (List.getElem_mem j),aL,aa];rw[aT (by omega) (by omega)];rfl) (by
  have h:¬((xs.length:Int)<(xs.length:Int)):=by omega
  simp only[h,decide_false,aa])
 have e:∀(l:List α) i,uX (fun (_:α) (_:Nat)=>true) l i=true:=by
  intro l;induction l with
  | nil=>intro i;rfl
  | cons x r ih=>intro i;simpa [uX] using ih (i+1)
 rw[e]at this;exact this
end Go.Proofs.YtbbmkcioplbhbaaGreatDoor
/- Plain laws of sizes, copies and equality, for every type of data. -/
namespace Go.Abs
theorem aV.ahY{L:Nat}{s:Str}(h:aV L (.str s)):s.length<=L:=by
 generalize hd:D.str s=d at h;cases h<;>cases hd
 assumption
theorem aV.wf{L:Nat}{k:IntKind}{n:Int}(h:aV L (.int k n)):(Lit.int k n).wf=true:=by
 generalize hd:D.int k n=d at h;cases h<;>cases hd
 assumption
theorem aV.Yj{L:Nat}{t:Ty}{xs:List t.den}(h:aV L (.list t xs)):xs.length<=L:=by
 generalize hd:D.list t xs=d at h;cases h<;>cases hd
 assumption
def Fit(L:Nat)(t:Ty)(x:t.den):Prop:=∀d,d∈t.cells x->aV L d
theorem aV.cu{L:Nat}{t:Ty}{xs:List t.den}(h:aV L (.list t xs)):∀x,x∈xs->Fit L t x:=by
 generalize hd:D.list t xs=d at h;cases h<;>cases hd
 rename_i b;intro x c d a;obtain⟨i,hi⟩:=List.mem_iff_getElem?.1 c;obtain⟨j,e⟩:=List.mem_iff_getElem?.1 a;exact b i x j d hi e
theorem aV.ai5{L:Nat}{t:Ty}{xs:List t.den}(h:xs.length<=L)(a:∀x,x∈xs->Fit L t x):aV L (.list t xs):=
 .list t xs h fun _ x _ d hi b=>a x (zG hi) d (zG b)
theorem aV.dY{L L':Nat}{k:IntKind}{n:Int}(h:aV L (.int k n)):aV L' (.int k n):=.int k n h.wf
theorem aV.mono{L L':Nat}(a:L<=L'){d:D}(h:aV L d):aV L' d:=by
 induction h with
 | int k n h=>exact .int k n h
 | bool b=>exact .bool b
 | str s h=>exact .str s (Nat.le_trans h a)
 | list t xs h _ ih=>exact .list t xs (Nat.le_trans h a) ih
theorem Fit.mono{L L':Nat}(a:L<=L'){t:Ty}{x:t.den}(h:Fit L t x):Fit L' t x:=fun d hd=>(h d hd).mono a
end Go.Abs
namespace Go.Proofs.YtbbmkcioplbhbaaGreatDoor
open Go.Abs Go.Proofs
abbrev B47:Nat:=140737488351232
abbrev B20:Nat:=1048576
abbrev B24:Nat:=16777216
theorem Kz:B20<=B24:=by decide
theorem uH{t:Ty}{xs:List t.den}(h:aV B24 (.list t xs)):(xs.length:Int)<=16777216:=by
 have h1:xs.length<=16777216:=h.Yj;omega
theorem ai9{t:Ty}{xs:List t.den}(h:aV B47 (.list t xs)):(xs.length:Int)<=140737488351232:=by
 have h1:xs.length<=140737488351232:=h.Yj;omega
theorem eU{t:Ty}{xs:List t.den}(h:aV B20 (.list t xs)):(xs.length:Int)<=1048576:=by
 have h1:xs.length<=1048576:=h.Yj;omega
theorem Hu{s:Str}(h:aV B47 (.str s)):(s.length:Int)<=140737488351232:=by
 have h1:s.length<=140737488351232:=h.ahY;omega
theorem EY{s:Str}(h:aV B20 (.str s)):(s.length:Int)<=1048576:=by
 have h1:s.length<=1048576:=h.ahY;omega
theorem lV{s:Str}(h:(s.length:Int)<=1048576):aV B20 (.str s):=.str s (by show s.length<=1048576;omega)
theorem lu{t:Ty}{xs:List t.den}(h:(xs.length:Int)<=1048576)(a:∀x,x∈xs->Fit B20 t x):aV B20 (.list t xs):=.ai5 (by show xs.length<=1048576;omega) a
def SzK{α:Type}(f:α->Int->Option Int)(P:Prop)(x:α)(c s:Nat):Prop:=
 ∀l:Int,0<=l->l<=1048576->∃r,f x l=some r/\(r<0\/(0<=r/\r<=l/\20*r+c<=20*l+s/\P))
theorem O8{α:Type}(f:α->Nat):∀(xs:List α) (c:Nat),(∀x,x∈xs->f x<=c)->(xs.map f).sum<=xs.length*c
 | [],c,_=>by simp
 | x::xs,c,h=>by
  have h1:=O8 f xs c fun y a=>h y (aq _ a)
  have h2:=h x ar;simp only[List.map_cons,List.sum_cons,List.length_cons,Nat.succ_mul];omega
theorem Vr{t:Ty}{g:List t.den->Int->Option Int}(hflat:∀x:t.den,Fit B47 t x->Fit B20 t x)
  (d:∀a b,g a b=bif (decide ((w64 (b-(a.length:Int)))<0))then
  some ((-1))
 else
  some (w64 (b-(a.length:Int)))) (cE:t.den->Nat) (e:∀x,cE x<=20) (xs:List t.den) (h:aV B47 (.list t xs)):SzK g (aV B20 (.list t xs)) xs ((xs.map cE).sum) 0:=by
 intro l i h1
 have j:=ai9 h
 rw[d,aT (by omega) (by omega)]
 by_cases c:l-(xs.length:Int)<0
 ·exact⟨-1,by simp only[c,decide_true,ac],.inl (by omega)⟩
 ·have k:=O8 cE xs 20 fun x _=>e x
  exact⟨_,by simp only[c,decide_false,aa];rfl,.inr ⟨by omega,by omega,by omega,lu (by omega) fun x f=>hflat x (h.cu x f)⟩⟩
theorem lN{t:Ty}{f:t.den->Int->Option Int}{g:List t.den->Int->Option Int}
  (m:∀a b,g a b=(bif (decide ((w64 (b-(a.length:Int)))<0))then
  some ((-1))
 else
 au (fun (c:(List t.den)×Int×Int)=>
  bif (decide (c.2.2<(c.1.length:Int)))then
   (idx c.1 c.2.2).bind fun n=>
   (f n c.2.1).bind fun d=>
   bif (decide (d<0))then
    some (.inr ((-1)))
   else
    some (.inl (c.1,d,w64 (c.2.2+1)))
  else
   some (.inr (c.2.1))
 ) (a,w64 (b-(a.length:Int)),0))) (cE:t.den->Nat) (s:Nat) (z:s<=20) (xs:List t.den) (o:∀x,x∈xs->Fit B47 t x->SzK f (Fit B20 t x) x (cE x) s) (h:aV B47 (.list t xs)):SzK g (aV B20 (.list t xs)) xs ((xs.map cE).sum) 0:=by
 intro l i h1
 have A:=ai9 h
 rw[m,aT (by omega) (by omega)]
 by_cases j:l-(xs.length:Int)<0
 ·exact⟨-1,by simp only[j,decide_true,ac],.inl (by omega)⟩
 ·simp only[j,decide_false,aa];obtain⟨r,q,h2⟩:=aoI f (Fit B20 t) cE xs (fun x k l i h1=>by
   obtain⟨r,e,p⟩:=o x k (h.cu x k) l i h1;refine⟨r,e,?_⟩;rcases p with p | ⟨u,v,B,w⟩
   ·exact .inl p
   ·exact .inr ⟨u,v,by omega,w⟩) (by omega) (l-xs.length) (by omega) (by omega)
  refine⟨r,q,?_⟩;rcases h2 with h2 | ⟨h2,C,D,y⟩
  ·exact .inl h2
  ·exact .inr ⟨h2,by omega,by omega,lu (by omega) y⟩
theorem afU{g:List Str->Int->Option Int}
  (j:∀a b,g a b=(bif (decide ((w64 (b-(a.length:Int)))<0))then
  some ((-1))
 else
  au (fun (c:(List Str)×Int×Int)=>
   bif (decide (c.2.2<(c.1.length:Int)))then
    (idx c.1 c.2.2).bind fun i=>
    bif (decide ((w64 (c.2.1-(i.length:Int)))<0))then
     some (.inr ((-1)))
    else
     some (.inl (c.1,w64 (c.2.1-(i.length:Int)),w64 (c.2.2+1)))
   else
    some (.inr (c.2.1))
  ) (a,w64 (b-(a.length:Int)),0))) (xs:List Str) (h:aV B47 (.list (.base .str) xs)):SzK g (aV B20 (.list (.base .str) xs)) xs ((xs.map fun _=>1).sum) 0:=by
 refine lN (t:=.base .str) (f:=fun s b=>some (w64 (b-(s.length:Int)))) j (fun _=>1) 1 (by omega) xs (fun s _ k l n h1=>?_) h
 have e:aV B47 (.str s):=k (.str s) (by simp[Ty.cells,Base.cells])
 have:=Hu e
 refine⟨w64 (l-(List.length s:Int)),rfl,?_⟩
 rw[aT (by omega) (by omega)]
 by_cases m:l-(s.length:Int)<0
 ·exact .inl m
 ·exact .inr ⟨by omega,by omega,by omega,fun d hd=>by
   simp only[Ty.cells,Base.cells,List.mem_singleton]at hd;subst hd;exact lV (by omega)⟩
theorem lM{t:Ty}{f:t.den->Option t.den}{z:t.den}{g:List t.den->Option (List t.den)}
  (d:∀a,g a=(mk (a.length:Int)).bind fun e=>
 au (fun (b:(List t.den)×(List t.den)×Int)=>
  bif (decide (b.2.2<(b.1.length:Int)))then
   (idx b.1 b.2.2).bind fun i=>
   (f i).bind fun j=>
   (idx b.2.1 b.2.2).bind fun _=>
   (b.2.1[b.2.2.toNat]?).bind fun m=>
   some (.inl (b.1,b.2.1.set b.2.2.toNat j,w64 (b.2.2+1)))
  else
   some (.inr (b.2.1))
 ) (a,List.replicate e z,0)) (xs:List t.den) (k:∀x,x∈xs->Fit B20 t x->f x=some x) (h:aV B20 (.list t xs)):g xs=some xs:=by
 have n:=eU h
 rw[d]
 have l:mk (xs.length:Int)=some xs.length:=by
  unfold mk;rw[if_pos (by omega)];simp
 rw[l,zA]
 exact aj1 f xs (fun x c=>k x c (h.cu x c)) (by omega) _ (by simp)
theorem lY{t:Ty}{f:t.den->t.den->Option Bool}{g:List t.den->List t.den->Option Bool}
  (i:∀a b,g a b=bif ((a.length:Int) != (b.length:Int))then
  some (false)
 else
 au (fun (c:(List t.den)×(List t.den)×Int)=>
  bif (decide (c.2.2<(c.1.length:Int)))then
   (idx c.1 c.2.2).bind fun j=>
   (idx c.2.1 c.2.2).bind fun k=>
   (f j k).bind fun l=>
   bif (!l)then
    some (.inr (false))
   else
    some (.inl (c.1,c.2.1,w64 (c.2.2+1)))
  else
   some (.inr (true))
 ) (a,b,0)) (xs:List t.den) (m:∀x,x∈xs->Fit B24 t x->f x x=some true) (h:aV B24 (.list t xs)):g xs xs=some true:=by
 have n:=uH h
 rw[i]
 have e:((xs.length:Int) != (xs.length:Int))=false:=by simp
 rw[e,aa]
 exact ao6 f xs (fun x d=>m x d (h.cu x d)) (by omega)
end Go.Proofs.YtbbmkcioplbhbaaGreatDoor
