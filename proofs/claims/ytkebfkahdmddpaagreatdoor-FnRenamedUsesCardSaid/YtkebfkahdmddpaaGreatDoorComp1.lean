import Derived.Test.YtkebfkahdmddpaaGreatDoorNum3
import Derived.Test.YtkebfkahdmddpaaGreatDoorPlain1
import Derived.Test.YtkebfkahdmddpaaGreatDoorLink1
set_option linter.unusedSimpArgs false
set_option linter.unusedVariables false
/- Plain laws: notebooks compiled: CompileAll alike on both sides. -/
namespace Go.Proofs.YtkebfkahdmddpaaGreatDoor
open Go.Abs Go.Proofs
noncomputable def errOf(w:Int):Nat->List Str->Int
 | _,[]=>-1
 | i,p::r=>if ((rowOf w p).isNone||decide (12<=i))=true then ((i+1:Nat):Int)else errOf w (i+1) r
theorem OM(w:Int){ps:List Str}{i:Nat}{p:Str}(h:ps[i]?=some p):errOf w i (ps.drop i)=if ((rowOf w p).isNone||decide (12<=i))=true then ((i+1:Nat):Int)else errOf w (i+1) (ps.drop (i+1)):=by
 obtain⟨hi,rfl⟩:=zC.1 h;rw[List.drop_eq_getElem_cons hi];rfl
theorem agm(a:Str)(r:a.length<=120){b:Str}{ps:List Str}(k:Go.Lib.split a [59,32]=b::ps)(m:(dataOf b ps).2=false) :
  yu a=some (bif AU (Go.Lib.split b [32])then errOf ((Go.Lib.split b [32]).length:Int) 0 ps else 0):=by
 obtain⟨o,n⟩:=iT a [59,32];rw[k]at o n;have B:=n b (by simp);obtain⟨s,q⟩:=iT b [32];unfold yu;have t:kH a [59,32]=some (b::ps):=by
  unfold kH;rw[if_pos ⟨by omega,by simp⟩,k]
 have u:kY b 32=some (Go.Lib.split b [32]):=Io b 32 (by omega);have v:idx (b::ps) 0=some b:=rfl;have w:(b::ps)[0]?=some b:=rfl;have y:nC a=some ((dataOf b ps).1,false):=by rw[OE a r k,<- m]
 have z:=XA (Go.Lib.split b [32]) (by omega) (fun x c=>by have:=q x c;omega);simp only[y,aa,t,v,w,u,z,XU,zA];generalize Go.Lib.split b [32]=cols at s q;cases AU cols with
 | false=>rfl
 | true=>
  simp only[aM,aa,ac];refine nR (bU (fun (_:Unit) (i:Nat)=>((cols,ps,(ps.length:Int),(i:Int)):(List Str)×(List Str)×Int×Int)) ps (fun i _=>errOf (cols.length:Int) i (ps.drop i)=errOf (cols.length:Int) 0 ps) _ (fun i p out c f=>?_) (fun out f=>?_) () rfl)
  ·have A:=n p (aq _ (zG c));obtain⟨l,ok,e,g⟩:=aap (cols.length:Int) p (by omega);simp only[List.length_cons]at o;have h:=OM (cols.length:Int) c;simp only[bW c,ac,au,c,zA,e,bT c (by omega)];rcases g with ⟨rfl,g⟩ | ⟨rfl,g⟩
   ·rw[g]at h;exact .inr ⟨_,rfl,by rw[<- f,h];rfl⟩
   ·rw[g]at h;by_cases j:12<=i
    ·have d:decide ((i:Int)>=12)=true:=by simp;omega
     rw[d];refine .inr ⟨_,rfl,?_⟩;rw[<- f,h,al j];rfl
    ·have d:decide ((i:Int)>=12)=false:=by simp;omega
     rw[d];refine .inl ⟨(),rfl,?_⟩;rw[<- f,h,ae j];rfl
  ·refine⟨_,by simp only[bG,aa];rfl,?_⟩;rw[<- f,List.drop_length];rfl
theorem afG(a:Str)(C:a.length<=120){b:Str}{ps:List Str}(o:Go.Lib.split a [59,32]=b::ps) :
  xH a=some (bif AU (Go.Lib.split b [32])then errOf ((Go.Lib.split b [32]).length:Int) 0 ps else 0):=by
 obtain⟨q,k⟩:=iT a [59,32];rw[o]at q k;have D:=k b (by simp);obtain⟨s,r⟩:=iT b [32];unfold xH;have t:rJ a=some (b::ps):=by rw[Rh a (by omega),o]
 have u:jv b 32=some (Go.Lib.split b [32]):=Ho b 32 (by omega);have v:idx (b::ps) 0=some b:=rfl;have w:(b::ps)[0]?=some b:=rfl;have y:=Ws (Go.Lib.split b [32]) (by omega) (fun x c=>by have:=r x c;omega);simp only[t,v,w,u,y,zA];generalize Go.Lib.split b [32]=cols at s r;cases AU cols with
 | false=>rfl
 | true=>
  simp only[aM,aa,ac];refine nR (bU (fun (_:Unit) (i:Nat)=>((b::ps,cols,((i+1:Nat):Int)):(List Str)×(List Str)×Int)) ps (fun i _=>errOf (cols.length:Int) i (ps.drop i)=errOf (cols.length:Int) 0 ps) _ (fun i p out c f=>?_) (fun out f=>?_) () rfl)
  ·have z:=k p (aq _ (zG c));obtain⟨l,ok,e,g⟩:=aao (cols.length:Int) p (by omega);have A:=(zC.1 c).1;simp only[List.length_cons]at q;have h:=OM (cols.length:Int) c;have m:decide (((i+1:Nat):Int)<((b::ps).length:Int))=true:=by simp;omega
   have n:(b::ps)[i+1]?=some p:=by simpa using c
   have B:w64 (((i+1:Nat):Int)+1)=((i+1+1:Nat):Int):=by rw[bK (by omega) (by omega)];omega
   simp only[m,ac,au,n,zA,aD,e,B];rcases g with ⟨rfl,g⟩ | ⟨rfl,g⟩
   ·rw[g]at h;exact .inr ⟨_,rfl,by rw[<- f,h];rfl⟩
   ·rw[g]at h;by_cases j:12<=i
    ·have d:decide (((i+1:Nat):Int)>12)=true:=by simp;omega
     rw[d];refine .inr ⟨_,rfl,?_⟩;rw[<- f,h,al j];rfl
    ·have d:decide (((i+1:Nat):Int)>12)=false:=by simp;omega
     rw[d];refine .inl ⟨(),rfl,?_⟩;rw[<- f,h,ae j];rfl
  ·have m:decide (((ps.length+1:Nat):Int)<((b::ps).length:Int))=false:=by simp
   refine⟨_,by simp only[m,aa];rfl,?_⟩;rw[<- f,List.drop_length];rfl
def lY(c:Int)(i:Nat)(r:dm):dm:=⟨r.cells,[⟨c,(i:Int)⟩]⟩
theorem aaj{ρ X:Type}{g:X->Option (X⊕ρ)}(pk:List dm->Nat->X)(c:Int)(rows:List dm)(r:ρ)
  (h:∀i x out,out.length=rows.length->i<rows.length->out[i]?=some x->g (pk out i)=some (.inl (pk (out.set i (lY c i x)) (i+1))))
  (j:g (pk (iC (lY c) 0 rows) rows.length)=some (.inr r)):ak g (pk rows 0)=some r:=by
 have key:∀(k i:Nat) (a b:List dm),rows.length=i+k->a.length=i->b.length=k->a++iC (lY c) i b=iC (lY c) 0 rows->ak g (pk (a++b) i)=some r:=by
  intro k;induction k with
  | zero=>
   intro i a b hi e d f;have:b=[]:=List.length_eq_zero_iff.1 d;subst this;rw[iC,List.append_nil]at f;rw[List.append_nil,f,aJ,show i=rows.length by omega,j]
  | succ k ih=>
   intro i a b hi e d f;cases b with
   | nil=>simp at d
   | cons x b=>
    have l:(a++x::b)[i]?=some x:=by rw[<- e];simp
    rw[aJ,h i x _ (by simp at d ⊢;omega) (by omega) l];simp only;have hset:(a++x::b).set i (lY c i x)=(a++[lY c i x])++b:=by
     rw[List.set_append_right _ _ (by omega),e,Nat.sub_self];simp
    rw[hset];refine ih (i+1) (a++[lY c i x]) b (by omega) (by simp[e]) (by simpa using d) ?_;rw[a8];exact f
 exact key rows.length 0 [] rows (by omega) rfl rfl rfl
theorem ad9{X ρ:Type}{f:X->Option (X⊕ρ)}{a:X}{q:Option ρ}{v:ρ}(h:f a=q.bind fun r=>some (.inr r))(b:q=some v):ak f a=some v:=by
 rw[aJ,h,b];rfl
theorem aez(r:dm)(h:r.cells.length<=1048576)(a:r.orig.length<=1048576):Gn r=some r:=by
 unfold Gn;rw[gdp (by omega),zA,gdp (by omega),zA];cases r;rfl
theorem adl(r:dm)(h:r.cells.length<=1048576)(a:r.orig.length<=1048576):TY r=some r:=by
 unfold TY;rw[gdp (by omega),zA,gdp (by omega),zA];cases r;rfl
theorem FC(v:bJ):jB v=v:=by cases v;rfl
structure afi(cols:List Str)(rows:List dm):Prop where
 cl:cols.length<=122
 ct:∀x,x∈cols->x.length<=120
 rl:rows.length<=122
 rr:∀r,r∈rows->r.orig=[]/\r.cells.length<=122
theorem aeD(cols:List Str)(rows:List dm)(h:afi cols rows):yx ⟨5,0,0,[],[],cols,rows⟩=some ⟨5,0,0,[],[],cols,rows⟩:=by
 have f:=h.cl;have g:=h.rl;unfold yx;obtain⟨m,b⟩:∃m,siz (⟨5,0,0,[],[],cols,rows⟩:bJ)+1=m+1+1:=⟨siz (⟨5,0,0,[],[],cols,rows⟩:bJ)-1,by
  have:1<=siz (⟨5,0,0,[],[],cols,rows⟩:bJ):=by simp only[siz];rw[bJ.mk.sizeOf_spec];omega
  omega⟩
 rw[b];show Ar (eX (m+1)).1 (eX (m+1)).2 _=_
 unfold Ar;have c:(eX (m+1)).2 []=some []:=by
  show yw (eX m).1 (eX m).2 []=_
  unfold yw;rw[aJ];rfl
 have d:gd (0+cols.length)=some ():=gdp (by omega);simp only[c,d,zA];refine BF (fun (out:List dm) (i:Nat)=>((0,0,0,[],[],[],[],5,0,0,[],[],[]++cols,out,rows,(rows.length:Int),(i:Int)):Int×Int×Int×Str×(List bJ)×(List Str)×(List dm)×Int×Int×Int×Str×(List bJ)×(List Str)×(List dm)×(List dm)×Int×Int)) rows (fun _ r=>r) _ (fun i r out a j=>?_) ?_
 ·obtain⟨e,k⟩:=h.rr r (zG a);have hi:=(zC.1 a).1;simp only[bW a,ac,au,a,zA,aez r (by omega) (by rw[e];simp),bT a (by omega)];rw[gdp (by simp;omega)];rfl
 ·simp only[bG,aa,sO];rfl
theorem adz(cols:List Str)(rows:List dm)(h:afi cols rows):Ua ⟨5,0,0,[],[],cols,rows⟩=some ⟨5,0,0,[],[],cols,rows⟩:=by
 have d:=h.cl;have e:=h.rl;show LY (ET _) _=_
 unfold LY;have b:gd (0+cols.length)=some ():=gdp (by omega);simp only[b,zA];refine ad9 (by simp only[List.length_nil,Int.ofNat_zero,Int.lt_irrefl,decide_false,aa];rfl) ?_;refine BF (fun (out:List dm) (i:Nat)=>((5,0,0,[],[],cols,rows,0,0,0,[],[],[],[],5,0,0,[],[],[]++cols,out,(i:Int)):Int×Int×Int×Str×(List bJ)×(List Str)×(List dm)×Int×Int×Int×Str×(List bJ)×(List Str)×(List dm)×Int×Int×Int×Str×(List bJ)×(List Str)×(List dm)×Int)) rows (fun _ r=>r) _ (fun i r out a f=>?_) ?_
 ·obtain⟨c,g⟩:=h.rr r (zG a);have hi:=(zC.1 a).1;simp only[bW a,ac,au,a,zA,adl r (by omega) (by rw[c];simp),bT a (by omega)];rw[gdp (by simp;omega)];rfl
 ·simp only[bG,aa,sO];rfl
theorem Zy(c:Int)(l:0<=c)(cols:List Str)(rows:List dm)(h:afi cols rows)(hv:G7 cols rows=true):rf c ⟨5,0,0,[],[],cols,rows⟩=some ⟨5,0,0,[],[],cols,iC (lY c) 0 rows⟩:=by
 have a:=h.cl;have b:=h.rl;have e:=FZ cols rows (by omega) h.ct (fun r f=>by have:=h.rr r f;exact⟨this.1,by omega⟩);have d:decide (c<0)=false:=by simp;omega
 unfold rf;simp only[FC,e,hv,aeD cols rows h,d,zA,aM,aa];refine (aaj (fun (out:List dm) (i:Nat)=>((c,0,0,0,[],[],[],[],5,0,0,[],[],cols,out,(rows.length:Int),(i:Int)):Int×Int×Int×Int×Str×(List bJ)×(List Str)×(List dm)×Int×Int×Int×Str×(List bJ)×(List Str)×(List dm)×Int×Int)) c rows _ (fun i x out m hi g=>?_) ?_)
 ·have j:decide ((i:Int)<(rows.length:Int))=true:=by simp;omega
  have k:w64 ((i:Int)+1)=((i+1:Nat):Int):=by rw[bK (by omega) (by omega)];omega
  simp only[j,ac,au,g,zA,aD,k];rfl
 ·simp only[bG,aa]
theorem Yu(c:Int)(l:0<=c)(cols:List Str)(rows:List dm)(h:afi cols rows)(hv:G7 cols rows=true):qU c ⟨5,0,0,[],[],cols,rows⟩=some ⟨5,0,0,[],[],cols,iC (lY c) 0 rows⟩:=by
 have b:=h.cl;have e:=h.rl;have f:=EO cols rows (by omega) h.ct (fun r g=>by have:=h.rr r g;exact⟨this.1,by omega⟩);have d:decide (c<0)=false:=by simp;omega
 unfold qU;simp only[FC,f,hv,adz cols rows h,d,zA,aM,aa];refine (aaj (fun (out:List dm) (i:Nat)=>((c,0,0,0,[],[],[],[],5,0,0,[],[],cols,out,(i:Int)):Int×Int×Int×Int×Str×(List bJ)×(List Str)×(List dm)×Int×Int×Int×Str×(List bJ)×(List Str)×(List dm)×Int)) c rows _ (fun i x out m hi j=>?_) ?_)
 ·have a:decide ((i:Int)<(out.length:Int))=true:=by simp;omega
  have k:w64 ((i:Int)+1)=((i+1:Nat):Int):=by rw[bK (by omega) (by omega)];omega
  simp only[a,ac,au,j,zA,aD,k];rfl
 ·have a:decide ((rows.length:Int)<((iC (lY c) 0 rows).length:Int))=false:=by rw[uG];simp
  simp only[a,aa]
theorem FH(a:Str)(h:a.length<=1048576):∃v,gm a=some v/\lH a=some v/\(v=true->a.length<=120):=by
 have e:gm a=lH a:=rfl;rw[e];have key:∃v,lH a=some v/\(v=true->a.length<=120):=by
  unfold lH;refine bU (fun (_:Unit) (i:Nat)=>((a,(i:Int)):Str×Int)) a (fun _ _=>True) _ (fun i x s b d=>?_) (fun s d=>?_) () trivial
  ·simp only[bW b,ac,au,b,zA,bT b (by omega)];cases decide ((x.toNat:Int)<32)with
   | true=>exact .inr ⟨false,rfl,fun h=>(by cases h)⟩
   | false=>
    cases decide ((x.toNat:Int)>126)with
    | true=>exact .inr ⟨false,rfl,fun h=>(by cases h)⟩
    | false=>exact .inl ⟨(),rfl,trivial⟩
  ·refine⟨_,by simp only[bG,aa];rfl,fun h=>?_⟩;simp at h;omega
 obtain⟨v,c,f⟩:=key;exact⟨v,c,c,f⟩
structure Ti(c:aj):Prop where
 id0:1<=c.id
 id9:c.id<=999
 v0:1<=c.version
 v9:c.version<=999
 code:c.code.length<=120
 kind:c.kind=1\/c.kind=2\/c.kind=3\/c.kind=4
 name:c.name.length<=8
theorem aaM{a b c:Int}(h:(decide (b<=a)&&decide (a<=c))=true):b<=a/\a<=c:=by simpa using h
theorem Eu(c:aj)(A:c.name.length<=1048576)(l:c.code.length<=1048576):∃b,bY c=some b/\dL c=some b/\(b=true->Ti c):=by
 obtain⟨v,m,n,o⟩:=FH c.code l;obtain⟨u,g⟩:=lC c.name (by omega);have p:aX c.name=some u:=by rw[<- nI c.name (by omega),g]
 have q:∀a b d:Int,qm a b d=kN a b d:=fun a b d=>(QN a b d).symm
 unfold bY dL;simp only[q,pF,m,n,g,p,zA];cases r:(decide (1<=c.id)&&decide (c.id<=999))with
 | false=>exact⟨false,rfl,rfl,fun h=>(by cases h)⟩
 | true=>
  cases s:(decide (1<=c.version)&&decide (c.version<=999))with
  | false=>exact⟨false,rfl,rfl,fun h=>(by cases h)⟩
  | true=>
   cases v with
   | false=>exact⟨false,rfl,rfl,fun h=>(by cases h)⟩
   | true=>
    have e:=aaM r;have f:=aaM s;have k:=o rfl;simp only[aM,aa];have no:∃b:Bool,(some false:Option Bool)=some b/\(some false:Option Bool)=some b/\(b=true->Ti c):=⟨false,rfl,rfl,fun h=>(by cases h)⟩;have named:∀z:Option Bool,(∃b,z=some b)->(c.kind=1\/c.kind=2\/c.kind=3\/c.kind=4)->∃b:Bool,(bif u then z else some false)=some b/\(bif u then z else some false)=some b/\(b=true->Ti c):=by
     intro z t i;obtain⟨b,rfl⟩:=t;cases u with
     | false=>exact no
     | true=>exact⟨b,rfl,rfl,fun _=>⟨e.1,e.2,f.1,f.2,k,i,Jb c.name (by omega) g⟩⟩
    cases w:(c.kind==1)with
    | true=>
     simp only[ac];have i:c.kind=1:=eq_of_beq w;cases j:(c.name==[])with
     | false=>exact no
     | true=>exact⟨_,rfl,rfl,fun _=>⟨e.1,e.2,f.1,f.2,k,.inl i,by rw[eq_of_beq j];simp⟩⟩
    | false=>
     simp only[aa];cases x:(c.kind==2)with
     | true=>exact named _ ⟨_,rfl⟩ (.inr (.inl (eq_of_beq x)))
     | false=>
      simp only[aa];cases k4:(c.kind==4)with
      | true=>exact named _ ⟨_,rfl⟩ (.inr (.inr (.inr (eq_of_beq k4))))
      | false=>
       simp only[aa];cases y:(c.kind==3)with
       | true=>
        refine named _ ?_ (.inr (.inr (.inl (eq_of_beq y))));cases (c.code==[])<;>exact⟨_,rfl⟩
       | false=>exact no
structure lu(p:aO):Prop where
 expr:p.kind=2->jA p.expr/\wtE p.expr<=40
 name:p.name.length<=8
theorem nO(p:aO):jW p=p:=by
 unfold jW;rw[aH,FC]
theorem QH(c:aj)(hv:bY c=some true)(s:dL c=some true)(b:Ti c):∃p,lK c=some p/\dh c=some p/\lu p/\∀K,K=c.kind->(p.kind=2->K=2)/\(K=1->p.kind=1):=by
 have ne:∀(K k:Int) (n:Str) (e:af) (v:bJ) (a:Int),¬k=2->n.length<=8->(K=1->k=1)->lu ⟨k,n,e,v,a⟩/\∀L,L=K->(k=2->L=2)/\(L=1->k=1):=fun K k n e v a m t f=>⟨⟨fun h=>absurd h m,t⟩,fun L o=>⟨fun h=>absurd h m,fun h=>f (by omega)⟩⟩
 unfold lK dh;simp only[hv,s,zA,aM,aa,yj,xA,lg,kT,FC,aH];rcases b.kind with k | k | k | k
 ·rw[k];exact⟨_,rfl,rfl,ne 1 _ _ _ _ _ (by decide) (by simp) fun _=>rfl⟩
 ·rw[k];obtain⟨e,p,f,i,j⟩:=WM c.code;simp only[f,i,zA];by_cases g:p>=0
  ·rw[al g];exact⟨_,rfl,rfl,ne 2 _ _ _ _ _ (by decide) b.name fun h=>absurd h (by decide)⟩
  ·rw[ae g];exact⟨_,rfl,rfl,⟨⟨fun _=>j (by omega),b.name⟩,fun L o=>⟨fun _=>o,fun h=>by omega⟩⟩⟩
 ·rw[k];exact⟨_,rfl,rfl,ne 3 _ _ _ _ _ (by decide) b.name fun h=>absurd h (by decide)⟩
 ·rw[k];obtain⟨v,ok,f,i,j⟩:=ZP c.code b.code;simp only[f,i,zA];cases ok with
  | false=>
   obtain⟨u,ps,d⟩:=Nu c.code;have l:(dataOf u ps).2=false:=by
    have:=(OE c.code b.code d).symm.trans f;injection this with this;rw[this]
   rw[agm c.code b.code d l,afG c.code b.code d];exact⟨_,rfl,rfl,ne 4 _ _ _ _ _ (by decide) b.name fun h=>absurd h (by decide)⟩
  | true=>
   obtain⟨cols,rows,rfl,q,w,x,y,z⟩:=j rfl;have r:afi cols rows:=⟨w,x,y,z⟩;have A:=b.id0;rw[Zy c.id (by omega) cols rows r q,Yu c.id (by omega) cols rows r q];exact⟨_,rfl,rfl,ne 4 _ _ _ _ _ (by decide) b.name fun h=>absurd h (by decide)⟩
def wu(id:Int):Nat->List aj->Int
 | _,[]=>-1
 | i,c::r=>if (c.id==id)=true then (i:Int)else wu id (i+1) r
theorem RP(id:Int){cs:List aj}{i:Nat}{c:aj}(h:cs[i]?=some c):wu id i (cs.drop i)=if (c.id==id)=true then (i:Int)else wu id (i+1) (cs.drop (i+1)):=by
 obtain⟨hi,rfl⟩:=zC.1 h;rw[List.drop_eq_getElem_cons hi];rfl
theorem ajp(cs:List aj)(id:Int)(f:cs.length<=1048576):nG ⟨cs⟩ id=some (wu id 0 cs):=by
 unfold nG;refine nR (bU (fun (_:Unit) (i:Nat)=>((id,cs,(cs.length:Int),(i:Int)):Int×List aj×Int×Int)) cs (fun i _=>wu id i (cs.drop i)=wu id 0 cs) _ (fun i c s a b=>?_) (fun s b=>?_) () rfl)
 ·have d:=RP id a;simp only[bW a,ac,au,a,zA,bT a (by omega)];cases e:(c.id==id)with
  | true=>exact .inr ⟨_,rfl,by rw[<- b,d,e];rfl⟩
  | false=>exact .inl ⟨(),rfl,by rw[<- b,d,e];rfl⟩
 ·exact⟨_,by simp only[bG,aa];rfl,by rw[<- b,List.drop_length];rfl⟩
theorem ai2(cs:List aj)(id:Int)(f:cs.length<=1048576):ng ⟨cs⟩ id=some (wu id 0 cs):=by
 unfold ng;refine nR (bU (fun (_:Unit) (i:Nat)=>((id,cs,(i:Int)):Int×List aj×Int)) cs (fun i _=>wu id i (cs.drop i)=wu id 0 cs) _ (fun i c s a b=>?_) (fun s b=>?_) () rfl)
 ·have d:=RP id a;simp only[bW a,ac,au,a,zA,bT a (by omega)];cases e:(c.id==id)with
  | true=>exact .inr ⟨_,rfl,by rw[<- b,d,e];rfl⟩
  | false=>exact .inl ⟨(),rfl,by rw[<- b,d,e];rfl⟩
 ·exact⟨_,by simp only[bG,aa];rfl,by rw[<- b,List.drop_length];rfl⟩
structure kJ(c:aj):Prop where
 name:c.name.length<=1048576
 code:c.code.length<=1048576
noncomputable def cellV(c:aj):Bool:=(bY c).getD false
theorem Vo(c:aj)(h:kJ c):bY c=some (cellV c):=by
 obtain⟨b,a,_⟩:=Eu c h.name h.code;unfold cellV;rw[a];rfl
theorem KW(c:aj)(h:kJ c):dL c=some (cellV c):=by
 obtain⟨b,a,d,_⟩:=Eu c h.name h.code;unfold cellV;rw[a,d];rfl
theorem aaZ(c:aj)(h:kJ c)(hv:cellV c=true):Ti c:=by
 obtain⟨b,a,_,d⟩:=Eu c h.name h.code;refine d ?_;unfold cellV at hv;rw[a]at hv;exact hv
noncomputable def oC(cs:List aj):Bool:=fK (fun i c=>cellV c&&(wu c.id 0 cs==(i:Int))) 0 cs&&decide ((cs.length:Int)<=8)
theorem XB(cs:List aj)(b:cs.length<=1048576)(h:∀c,c∈cs->kJ c):jO ⟨cs⟩=some (oC cs):=by
 unfold jO oC;refine (oD (fun i=>((cs,cs,(cs.length:Int),(i:Int)):List aj×List aj×Int×Int)) cs (fun i c=>cellV c&&(wu c.id 0 cs==(i:Int))) false (decide ((cs.length:Int)<=8)) (fun i c a=>?_) ?_).trans ?_
 ·simp only[bW a,ac,au,a,zA,Vo c (h c (zG a)),ajp cs c.id b,bne,bT a (by omega)];cases cellV c<;>cases (wu c.id 0 cs==(i:Int))<;>rfl
 ·simp only[bG,aa]
 ·cases fK (fun i c=>cellV c&&(wu c.id 0 cs==(i:Int))) 0 cs<;>rfl
theorem Wv(cs:List aj)(b:cs.length<=1048576)(h:∀c,c∈cs->kJ c):jK ⟨cs⟩=some (oC cs):=by
 unfold jK oC;refine (oD (fun i=>((cs,(i:Int)):List aj×Int)) cs (fun i c=>cellV c&&(wu c.id 0 cs==(i:Int))) false (decide ((cs.length:Int)<=8)) (fun i c a=>?_) ?_).trans ?_
 ·simp only[bW a,ac,au,a,zA,KW c (h c (zG a)),ai2 cs c.id b,bne,bT a (by omega)];cases cellV c<;>cases (wu c.id 0 cs==(i:Int))<;>rfl
 ·simp only[bG,aa]
 ·cases fK (fun i c=>cellV c&&(wu c.id 0 cs==(i:Int))) 0 cs<;>rfl
theorem JP{α:Type}{p:Nat->α->Bool}:∀ {i:Nat} {xs:List α},fK p i xs=true->∀x,x∈xs->∃j,p j x=true
 | i,y::r,h,x,a=>by
  have h:(p i y&&fK p (i+1) r)=true:=h;rw[zI]at h;rcases bc.1 a with rfl | a
  ·exact⟨i,h.1⟩
  ·exact JP h.2 x a
theorem tC{cs:List aj}(h:∀c,c∈cs->kJ c)(hv:oC cs=true):cs.length<=8/\∀c,c∈cs->cellV c=true/\Ti c:=by
 unfold oC at hv;rw[zI]at hv;have d:=of_decide_eq_true hv.2;refine⟨by omega,fun c b=>?_⟩;obtain⟨j,a⟩:=JP hv.1 c b;rw[zI]at a;exact⟨a.1,aaZ c (h c b) a.1⟩
theorem AQ(cs:List aj)(z:cs.length<=1048576)(h:∀c,c∈cs->kJ c):∃ps,nV ⟨cs⟩=some ps/\je ⟨cs⟩=some ps/\(∀p,p∈ps->lu p)/\(oC cs=true->ps.length=cs.length)/\ps.length<=8/\∀(i:Nat) (p:aO) (c:aj),ps[i]?=some p->cs[i]?=some c->dh c=some p/\(p.kind=2->c.kind=2)/\(c.kind=1->p.kind=1):=by
 unfold nV je;simp only[XB cs z h,Wv cs z h,zA];cases hv:oC cs with
 | false=>exact⟨[],rfl,rfl,fun p o=>(by cases o),fun h=>(by cases h),by simp,fun i p c h=>by simp at h⟩
 | true=>
  obtain⟨L,r⟩:=tC h hv;simp only[aM,aa];have pt:∀c,c∈cs->∃p,lK c=some p/\dh c=some p/\lu p/\(p.kind=2->c.kind=2)/\(c.kind=1->p.kind=1):=fun c s=>by
   obtain⟨A,D⟩:=r c s;obtain⟨p,t,u,k,E⟩:=QH c (by rw[Vo c (h c s),A]) (by rw[KW c (h c s),A]) D;exact⟨p,t,u,k,E _ rfl⟩
  have key:=afo (ρ:=List aO) (f:=fun (a:(List aO)×(List aj)×Int×Int)=>
   bif (decide (a.2.2.2<a.2.2.1))then
    (idx a.2.1 a.2.2.2).bind fun k=>
    (lK k).bind fun l=>
    (gd (a.1.length+[jW l].length)).bind fun _=>
    some (.inl (a.1++[jW l],a.2.1,a.2.2.1,w64 (a.2.2.2+1)))
   else
    some (.inr (a.1))) (g:=fun (a:(List aj)×(List aO)×Int)=>
   bif (decide (a.2.2<(a.1.length:Int)))then
    (idx a.1 a.2.2).bind fun k=>
    (dh k).bind fun l=>
    (gd (a.2.1.length+[jW l].length)).bind fun _=>
    some (.inl (a.1,a.2.1++[jW l],w64 (a.2.2+1)))
   else
    some (.inr (a.2.1))) (fun (out:List aO) (i:Nat)=>((out,cs,(cs.length:Int),(i:Int)):(List aO)×(List aj)×Int×Int)) (fun (out:List aO) (i:Nat)=>((cs,out,(i:Int)):(List aj)×(List aO)×Int)) cs (fun i out=>out.length=i/\(∀p,p∈out->lu p)/\∀(j:Nat) (p:aO) (c:aj),out[j]?=some p->cs[j]?=some c->dh c=some p/\(p.kind=2->c.kind=2)/\(c.kind=1->p.kind=1)) (fun ps=>ps.length=cs.length/\(∀p,p∈ps->lu p)/\∀(i:Nat) (p:aO) (c:aj),ps[i]?=some p->cs[i]?=some c->dh c=some p/\(p.kind=2->c.kind=2)/\(c.kind=1->p.kind=1)) (fun i c out b d=>.inl ?_) (fun out d=>⟨out,by simp only[bG,aa],by simp only[bG,aa],d⟩) [] ⟨rfl,fun p o=>(by cases o),fun j p c h=>by simp at h⟩
  ·obtain⟨ps,t,u,F,G,H⟩:=key;exact⟨ps,t,u,G,fun _=>F,by omega,H⟩
  ·obtain⟨p,I,B,J,K⟩:=pt c (zG b);have hi:=(zC.1 b).1;have C:gd (out.length+[p].length)=some ():=gdp (by simp;omega);refine⟨out++[p],?_,?_,by simp[d.1],fun q m=>?_,fun j q y n v=>?_⟩
   ·simp only[bW b,ac,au,b,zA,I,nO,C,bT b (by omega)]
   ·simp only[bW b,ac,au,b,zA,B,nO,C,bT b (by omega)]
   ·rcases List.mem_append.1 m with m | m
    ·exact d.2.1 q m
    ·rw[List.mem_singleton.1 m];exact J
   ·by_cases w:j<out.length
    ·rw[List.getElem?_append_left w]at n;exact d.2.2 j q y n v
    ·have x:=(zC.1 n).1;simp at x;have e:j=i:=by have:=d.1;omega
     subst e;rw[List.getElem?_append_right (by omega),d.1,Nat.sub_self]at n;rw[b]at v;cases n
     cases v
     exact⟨B,K⟩
theorem QI(cs:List aj)(a:cs.length<=1048576)(h:∀c,c∈cs->kJ c):∃ps,nV ⟨cs⟩=some ps/\je ⟨cs⟩=some ps/\(∀p,p∈ps->lu p)/\(oC cs=true->ps.length=cs.length)/\ps.length<=8:=by
 obtain⟨ps,b,d,e,f,g,_⟩:=AQ cs a h;exact⟨ps,b,d,e,f,g⟩
end Go.Proofs.YtkebfkahdmddpaaGreatDoor
/- Plain laws: what a part uses, and who defines a name: the two programs alike. -/
namespace Go.Proofs.YtkebfkahdmddpaaGreatDoor
open Go.Abs Go.Proofs
noncomputable def dY(p:aO):List Str:=(kL p).getD []
theorem qM(p:aO)(h:lu p):yg p=some (dY p)/\kL p=some (dY p)/\(dY p).length<=1000:=by
 have key:∃ys,yg p=some ys/\kL p=some ys/\ys.length<=1000:=by
  unfold yg kL;by_cases b:p.kind=2
  ·have e:(p.kind != 2)=false:=by rw[b];rfl
   obtain⟨hv,f⟩:=h.expr b;obtain⟨ys,c,a,_,g,_⟩:=yR p.expr (by omega);rw[e];simp only[aa,aH,c,a,zA];exact⟨ys,rfl,rfl,by omega⟩
  ·have e:(p.kind != 2)=true:=by simpa using b
   rw[e];exact⟨[],rfl,rfl,by simp⟩
 obtain⟨ys,c,a,d⟩:=key;have e:dY p=ys:=by unfold dY;rw[a];rfl
 rw[e];exact⟨c,a,d⟩
noncomputable def tX(p:aO)(s:Str):Bool:=(dY p).contains s
theorem Xl(p:aO)(h:lu p)(s:Str):∃q:Int,mJ (dY p) s=some q/\decide (q>=0)=tX p s/\decide (q<0) = !(tX p s):=by
 obtain⟨_,_,c⟩:=qM p h;refine⟨posOf s 0 (dY p),uK (dY p) s (by omega),?_⟩;have b:=pq s (dY p) 0;unfold tX;cases a:(dY p).contains s with
 | false=>
  have:=b.2 a;exact⟨by rw[ae (by omega)],by rw[al this];rfl⟩
 | true=>
  have:¬posOf s 0 (dY p)<0:=fun hh=>by rw[b.1 hh]at a;cases a
  exact⟨by rw[al (by omega)],by rw[ae this];rfl⟩
theorem aeG(p:aO)(h:lu p)(s:Str):lU (dY p) s=some (tX p s):=by
 obtain⟨_,_,a⟩:=qM p h;exact oP (dY p) s (by omega)
theorem Au(p:aO)(s:Str)(h:tX p s=true):p.kind=2:=by
 by_cases a:p.kind=2
 ·exact a
 ·have e:(p.kind != 2)=true:=by simpa using a
  have:dY p=[]:=by unfold dY kL;rw[e];rfl
  unfold tX at h;rw[this]at h;cases h
def bP(b:Str):Nat->List aO->List Int
 | _,[]=>[]
 | i,p::r=>if ((p.kind != 1)&&(p.name==b))=true then (i:Int)::bP b (i+1) r else bP b (i+1) r
theorem XT(b:Str){ps:List aO}{i:Nat}{p:aO}(h:ps[i]?=some p):bP b i (ps.drop i)=if ((p.kind != 1)&&(p.name==b))=true then (i:Int)::bP b (i+1) (ps.drop (i+1))else bP b (i+1) (ps.drop (i+1)):=by
 obtain⟨hi,rfl⟩:=zC.1 h;rw[List.drop_eq_getElem_cons hi];rfl
theorem yC(b:Str):∀(ps:List aO) (i:Nat) (k:Int),k∈bP b i ps->(i:Int)<=k/\k<((i+ps.length:Nat):Int)
 | [],i,k,h=>by cases h
 | p::r,i,k,h=>by
  unfold bP at h;split at h
  ·rcases bc.1 h with rfl | h
   ·simp;omega
   ·have:=yC b r (i+1) k h;simp only[List.length_cons];omega
  ·have:=yC b r (i+1) k h;simp only[List.length_cons];omega
theorem SE{b:Str}{ps:List aO}{i:Nat}{p:aO}(a:ps[i]?=some p){out:List Int}(c:out++bP b i (ps.drop i)=bP b 0 ps) :
  (if ((p.kind != 1)&&(p.name==b))=true then out++[(i:Int)]else out)++bP b (i+1) (ps.drop (i+1))=bP b 0 ps:=by
 rw[<- c,XT b a];split
 ·rw[a8];rfl
 ·rfl
theorem Xc{c:Bool}{out:List Int}{i:Nat}(h:out.length<=i):(if c=true then out++[(i:Int)]else out).length<=i+1:=by
 split
 ·simp;omega
 ·omega
theorem aaQ(ps:List aO)(b:Str)(e:ps.length<=1048576):wI ps b=some (bP b 0 ps):=by
 unfold wI;refine nR (bU (fun (out:List Int) (i:Nat)=>((b,out,ps,(ps.length:Int),(i:Int)):Str×(List Int)×(List aO)×Int×Int)) ps (fun i out=>out++bP b i (ps.drop i)=bP b 0 ps/\out.length<=i) _ (fun i p out a c=>.inl ?_) (fun out c=>?_) [] ⟨rfl,az _⟩)
 ·have hi:=(zC.1 a).1;have d:∀n:Int,gd (out.length+[n].length)=some ():=fun n=>gdp (by simp;omega)
  refine⟨if ((p.kind != 1)&&(p.name==b))=true then out++[(i:Int)]else out,?_,SE a c.1,Xc c.2⟩;simp only[bW a,ac,au,a,zA,d,bT a (by omega)];cases (p.kind != 1)<;>cases (p.name==b)<;>rfl
 ·refine⟨out,by simp only[bG,aa],?_⟩;have:=c.1;rw[List.drop_length]at this;simpa [bP] using this
theorem Ul(ps:List aO)(b:Str)(e:ps.length<=1048576):rP ps b=some (bP b 0 ps):=by
 unfold rP;refine nR (bU (fun (out:List Int) (i:Nat)=>((ps,b,out,(i:Int)):(List aO)×Str×(List Int)×Int)) ps (fun i out=>out++bP b i (ps.drop i)=bP b 0 ps/\out.length<=i) _ (fun i p out a c=>.inl ?_) (fun out c=>?_) [] ⟨rfl,az _⟩)
 ·have hi:=(zC.1 a).1;have d:∀n:Int,gd (out.length+[n].length)=some ():=fun n=>gdp (by simp;omega)
  refine⟨if ((p.kind != 1)&&(p.name==b))=true then out++[(i:Int)]else out,?_,SE a c.1,Xc c.2⟩;simp only[bW a,ac,au,a,zA,d,bT a (by omega)];cases (p.kind != 1)<;>cases (p.name==b)<;>rfl
 ·refine⟨out,by simp only[bG,aa],?_⟩;have:=c.1;rw[List.drop_length]at this;simpa [bP] using this
def nN:List Int->Int
 | []=>-1
 | [k]=>k
 | _=>-2
theorem agk(ps:List aO)(b:Str)(c:ps.length<=1048576):F5 ps b=some (nN (bP b 0 ps)):=by
 unfold F5;rw[aaQ ps b c,zA];cases bP b 0 ps with
 | nil=>rfl
 | cons k r=>cases r with
  | nil=>rfl
  | cons a r=>
   have d:(((k::a::r).length:Int)==0)=false:=by simp;omega
   have e:(((k::a::r).length:Int)==1)=false:=by simp;omega
   rw[d,e];rfl
theorem EP(ps:List aO)(b:Str)(c:ps.length<=1048576):qi ps b=some (nN (bP b 0 ps)):=by
 unfold qi;rw[Ul ps b c,zA];cases bP b 0 ps with
 | nil=>rfl
 | cons k r=>cases r with
  | nil=>rfl
  | cons a r=>
   have d:(((k::a::r).length:Int)==0)=false:=by simp;omega
   have e:(((k::a::r).length:Int)==1)=false:=by simp;omega
   rw[d,e];rfl
theorem Y5(ps:List aO)(b:Str)(h:0<=nN (bP b 0 ps)):∃k:Nat,nN (bP b 0 ps)=k/\k<ps.length:=by
 cases a:bP b 0 ps with
 | nil=>rw[a]at h;exact absurd h (by decide)
 | cons k r=>cases r with
  | nil=>
   have:=yC b ps 0 k (by rw[a];simp)
   exact⟨k.toNat,by show k=_;omega,by omega⟩
  | cons c r=>rw[a]at h;exact absurd h (by show ¬(0:Int)<=-2;decide)
end Go.Proofs.YtkebfkahdmddpaaGreatDoor
/- Plain laws: RenameVariable alike on both sides. -/
namespace Go.Proofs.YtkebfkahdmddpaaGreatDoor
noncomputable section
open Go.Abs Go.Proofs
def Ku(p:aO)(b c:Str):Bool:=(iE p.expr b c).getD false
theorem ae5(p:aO)(h:lu p)(d:p.kind=2)(b c:Str):jk p.expr b c=some (Ku p b c)/\iE p.expr b c=some (Ku p b c):=by
 obtain⟨hv,g⟩:=h.expr d;obtain⟨v,f,a⟩:=AY p.expr b c (by omega);have e:Ku p b c=v:=by unfold Ku;rw[a];rfl
 rw[e];exact⟨f,a⟩
def textOf(p:aO)(b c:Str):Str:=(((iZ p.expr b c).bind fun r=>iF r.1)).getD []
theorem TJ(p:aO)(h:lu p)(f:p.kind=2)(b c:Str)(g:b.length<=34359738368)(i:c.length<=34359738368) :
  ∃x v,nS p.expr b c=some (x,v)/\iZ p.expr b c=some (x,v)/\nU x=some (textOf p b c)/\iF x=some (textOf p b c)/\prn (textOf p b c)=true:=by
 obtain⟨hv,m⟩:=h.expr f;obtain⟨x,v,j,a,n⟩:=H7 p.expr b c (by omega) g i;obtain⟨s,k,d,_,l,_⟩:=RU x (by omega);have e:textOf p b c=s:=by unfold textOf;rw[a];simp only[zA,d];rfl
 rw[e];exact⟨x,v,j,a,k,d,l⟩
def TD(d:Bool)(t:Str)(x:aj):aj:=⟨x.id,if d=true then x.version+1 else x.version,x.kind,x.name,t,x.n⟩
def lN(d:Bool)(b c:Str):Nat->List aO->List aj->Bool->Option (List aj×Bool)
 | _,[],cs,full=>some (cs,full)
 | i,p::r,cs,full=>if tX p b=true then
   (if (textOf p b c).length<=120 then (match cs[i]? with
    | some x=>lN d b c (i+1) r (cs.set i (TD d (textOf p b c) x)) (full||(d&&decide (x.version>=999)))
    | none=>none)
   else none)
  else lN d b c (i+1) r cs full
theorem NR(d:Bool)(b c:Str){ps:List aO}{i:Nat}{p:aO}(h:ps[i]?=some p)(cs:List aj)(full:Bool):lN d b c i (ps.drop i) cs full=if tX p b=true then
      (if (textOf p b c).length<=120 then (match cs[i]? with
       | some x=>lN d b c (i+1) (ps.drop (i+1)) (cs.set i (TD d (textOf p b c) x)) (full||(d&&decide (x.version>=999)))
       | none=>none)
      else none)
  else lN d b c (i+1) (ps.drop (i+1)) cs full:=by
 obtain⟨hi,rfl⟩:=zC.1 h;rw[List.drop_eq_getElem_cons hi];rfl
def ZL(cs:List aj):Option (List aj×Bool)->aC×Int
 | none=>(⟨cs⟩,5)
 | some (out,true)=>(⟨cs⟩,6)
 | some (out,false)=>(⟨out⟩,0)
abbrev RvI:=Str×Str×Bool×(List aj)×(List aj)×(List aj)×Bool×(List aO)×Int×Int
abbrev RvS:=Str×Str×(List aj)×(List aj)×(List aj)×(List aO)×Int×Int
def adB:RvI->Option (RvI⊕(aC×Int)):=(fun (a:Str×Str×Bool×(List aj)×(List aj)×(List aj)×Bool×(List aO)×Int×Int)=>
      bif (decide (a.2.2.2.2.2.2.2.2.2<a.2.2.2.2.2.2.2.2.1))then
       (idx a.2.2.2.2.2.2.2.1 a.2.2.2.2.2.2.2.2.2).bind fun f=>
       (yg (jW f)).bind fun g=>
       (mJ g a.1).bind fun h=>
       bif (decide (h<0))then
        some (.inl (a.1,a.2.1,a.2.2.1,a.2.2.2.1,a.2.2.2.2.1,a.2.2.2.2.2.1,a.2.2.2.2.2.2.1,a.2.2.2.2.2.2.2.1,a.2.2.2.2.2.2.2.2.1,w64 (a.2.2.2.2.2.2.2.2.2+1)))
       else
       (nS (ah f.expr) a.1 a.2.1).bind fun i=>
       (nU (ah i.1)).bind fun c=>
       (idx a.2.2.2.2.2.1 a.2.2.2.2.2.2.2.2.2).bind fun _=>
       (a.2.2.2.2.2.1[a.2.2.2.2.2.2.2.2.2.toNat]?).bind fun b=>
       (idx (a.2.2.2.2.2.1.set a.2.2.2.2.2.2.2.2.2.toNat (aj.mk b.id b.version b.kind b.name c b.n)) a.2.2.2.2.2.2.2.2.2).bind fun _=>
       ((a.2.2.2.2.2.1.set a.2.2.2.2.2.2.2.2.2.toNat (aj.mk b.id b.version b.kind b.name c b.n))[a.2.2.2.2.2.2.2.2.2.toNat]?).bind fun j=>
       bif (decide ((j.code.length:Int)>120))then
        some (.inr (aC.mk a.2.2.2.1,5))
       else
       bif a.2.2.1 then
        bif a.2.2.2.2.2.2.1 then
         (idx (a.2.2.2.2.2.1.set a.2.2.2.2.2.2.2.2.2.toNat (aj.mk b.id b.version b.kind b.name c b.n)) a.2.2.2.2.2.2.2.2.2).bind fun _=>
         ((a.2.2.2.2.2.1.set a.2.2.2.2.2.2.2.2.2.toNat (aj.mk b.id b.version b.kind b.name c b.n))[a.2.2.2.2.2.2.2.2.2.toNat]?).bind fun k=>
         (idx (a.2.2.2.2.2.1.set a.2.2.2.2.2.2.2.2.2.toNat (aj.mk b.id b.version b.kind b.name c b.n)) a.2.2.2.2.2.2.2.2.2).bind fun _=>
         ((a.2.2.2.2.2.1.set a.2.2.2.2.2.2.2.2.2.toNat (aj.mk b.id b.version b.kind b.name c b.n))[a.2.2.2.2.2.2.2.2.2.toNat]?).bind fun d=>
         some (.inl (a.1,a.2.1,a.2.2.1,a.2.2.2.1,a.2.2.2.2.1,(a.2.2.2.2.2.1.set a.2.2.2.2.2.2.2.2.2.toNat (aj.mk b.id b.version b.kind b.name c b.n)).set a.2.2.2.2.2.2.2.2.2.toNat (aj.mk d.id (w64 (k.version+1)) d.kind d.name d.code d.n),true,a.2.2.2.2.2.2.2.1,a.2.2.2.2.2.2.2.2.1,w64 (a.2.2.2.2.2.2.2.2.2+1)))
        else
         (idx (a.2.2.2.2.2.1.set a.2.2.2.2.2.2.2.2.2.toNat (aj.mk b.id b.version b.kind b.name c b.n)) a.2.2.2.2.2.2.2.2.2).bind fun _=>
         ((a.2.2.2.2.2.1.set a.2.2.2.2.2.2.2.2.2.toNat (aj.mk b.id b.version b.kind b.name c b.n))[a.2.2.2.2.2.2.2.2.2.toNat]?).bind fun l=>
         (idx (a.2.2.2.2.2.1.set a.2.2.2.2.2.2.2.2.2.toNat (aj.mk b.id b.version b.kind b.name c b.n)) a.2.2.2.2.2.2.2.2.2).bind fun _=>
         ((a.2.2.2.2.2.1.set a.2.2.2.2.2.2.2.2.2.toNat (aj.mk b.id b.version b.kind b.name c b.n))[a.2.2.2.2.2.2.2.2.2.toNat]?).bind fun m=>
         (idx (a.2.2.2.2.2.1.set a.2.2.2.2.2.2.2.2.2.toNat (aj.mk b.id b.version b.kind b.name c b.n)) a.2.2.2.2.2.2.2.2.2).bind fun _=>
         ((a.2.2.2.2.2.1.set a.2.2.2.2.2.2.2.2.2.toNat (aj.mk b.id b.version b.kind b.name c b.n))[a.2.2.2.2.2.2.2.2.2.toNat]?).bind fun e=>
         some (.inl (a.1,a.2.1,a.2.2.1,a.2.2.2.1,a.2.2.2.2.1,(a.2.2.2.2.2.1.set a.2.2.2.2.2.2.2.2.2.toNat (aj.mk b.id b.version b.kind b.name c b.n)).set a.2.2.2.2.2.2.2.2.2.toNat (aj.mk e.id (w64 (m.version+1)) e.kind e.name e.code e.n),(decide (l.version>=999)),a.2.2.2.2.2.2.2.1,a.2.2.2.2.2.2.2.2.1,w64 (a.2.2.2.2.2.2.2.2.2+1)))
       else
        some (.inl (a.1,a.2.1,a.2.2.1,a.2.2.2.1,a.2.2.2.2.1,a.2.2.2.2.2.1.set a.2.2.2.2.2.2.2.2.2.toNat (aj.mk b.id b.version b.kind b.name c b.n),a.2.2.2.2.2.2.1,a.2.2.2.2.2.2.2.1,a.2.2.2.2.2.2.2.2.1,w64 (a.2.2.2.2.2.2.2.2.2+1)))
      else
       (
        bif a.2.2.2.2.2.2.1 then
         some (aC.mk a.2.2.2.1,6)
        else
         some (aC.mk a.2.2.2.2.2.1,0)
       ).bind fun r=>some (.inr r)
  )
def afH:RvS->Option (RvS⊕(aC×Int)):=(fun (a:Str×Str×(List aj)×(List aj)×(List aj)×(List aO)×Int×Int)=>
      bif (decide (a.2.2.2.2.2.2.2<(a.2.2.2.2.2.1.length:Int)))then
       (idx a.2.2.2.2.2.1 a.2.2.2.2.2.2.2).bind fun _=>
       (a.2.2.2.2.2.1[a.2.2.2.2.2.2.2.toNat]?).bind fun f=>
       (kL (jW f)).bind fun g=>
       (lU g a.1).bind fun h=>
       bif (!h)then
        some (.inl (a.1,a.2.1,a.2.2.1,a.2.2.2.1,a.2.2.2.2.1,a.2.2.2.2.2.1,a.2.2.2.2.2.2.1,w64 (a.2.2.2.2.2.2.2+1)))
       else
       (idx a.2.2.2.2.2.1 a.2.2.2.2.2.2.2).bind fun _=>
       (a.2.2.2.2.2.1[a.2.2.2.2.2.2.2.toNat]?).bind fun i=>
       (iZ (ah i.expr) a.1 a.2.1).bind fun j=>
       (iF (ah j.1)).bind fun c=>
       (idx a.2.2.2.2.1 a.2.2.2.2.2.2.2).bind fun _=>
       (a.2.2.2.2.1[a.2.2.2.2.2.2.2.toNat]?).bind fun b=>
       (idx (a.2.2.2.2.1.set a.2.2.2.2.2.2.2.toNat (aj.mk b.id b.version b.kind b.name c b.n)) a.2.2.2.2.2.2.2).bind fun _=>
       ((a.2.2.2.2.1.set a.2.2.2.2.2.2.2.toNat (aj.mk b.id b.version b.kind b.name c b.n))[a.2.2.2.2.2.2.2.toNat]?).bind fun k=>
       bif (decide ((k.code.length:Int)>120))then
        (mg (aC.mk a.2.2.1)).bind fun l=>
        some (.inr (l,5))
       else
       (idx (a.2.2.2.2.1.set a.2.2.2.2.2.2.2.toNat (aj.mk b.id b.version b.kind b.name c b.n)) a.2.2.2.2.2.2.2).bind fun _=>
       ((a.2.2.2.2.1.set a.2.2.2.2.2.2.2.toNat (aj.mk b.id b.version b.kind b.name c b.n))[a.2.2.2.2.2.2.2.toNat]?).bind fun m=>
       bif (m.version==999)then
        (idx (a.2.2.2.2.1.set a.2.2.2.2.2.2.2.toNat (aj.mk b.id b.version b.kind b.name c b.n)) a.2.2.2.2.2.2.2).bind fun _=>
        ((a.2.2.2.2.1.set a.2.2.2.2.2.2.2.toNat (aj.mk b.id b.version b.kind b.name c b.n))[a.2.2.2.2.2.2.2.toNat]?).bind fun o=>
        (idx (a.2.2.2.2.1.set a.2.2.2.2.2.2.2.toNat (aj.mk b.id b.version b.kind b.name c b.n)) a.2.2.2.2.2.2.2).bind fun _=>
        ((a.2.2.2.2.1.set a.2.2.2.2.2.2.2.toNat (aj.mk b.id b.version b.kind b.name c b.n))[a.2.2.2.2.2.2.2.toNat]?).bind fun d=>
        some (.inl (a.1,a.2.1,a.2.2.1,a.2.2.2.1,(a.2.2.2.2.1.set a.2.2.2.2.2.2.2.toNat (aj.mk b.id b.version b.kind b.name c b.n)).set a.2.2.2.2.2.2.2.toNat (aj.mk d.id (w64 (o.version+1)) d.kind d.name d.code d.n),a.2.2.2.2.2.1,6,w64 (a.2.2.2.2.2.2.2+1)))
       else
        (idx (a.2.2.2.2.1.set a.2.2.2.2.2.2.2.toNat (aj.mk b.id b.version b.kind b.name c b.n)) a.2.2.2.2.2.2.2).bind fun _=>
        ((a.2.2.2.2.1.set a.2.2.2.2.2.2.2.toNat (aj.mk b.id b.version b.kind b.name c b.n))[a.2.2.2.2.2.2.2.toNat]?).bind fun p=>
        (idx (a.2.2.2.2.1.set a.2.2.2.2.2.2.2.toNat (aj.mk b.id b.version b.kind b.name c b.n)) a.2.2.2.2.2.2.2).bind fun _=>
        ((a.2.2.2.2.1.set a.2.2.2.2.2.2.2.toNat (aj.mk b.id b.version b.kind b.name c b.n))[a.2.2.2.2.2.2.2.toNat]?).bind fun e=>
        some (.inl (a.1,a.2.1,a.2.2.1,a.2.2.2.1,(a.2.2.2.2.1.set a.2.2.2.2.2.2.2.toNat (aj.mk b.id b.version b.kind b.name c b.n)).set a.2.2.2.2.2.2.2.toNat (aj.mk e.id (w64 (p.version+1)) e.kind e.name e.code e.n),a.2.2.2.2.2.1,a.2.2.2.2.2.2.1,w64 (a.2.2.2.2.2.2.2+1)))
      else
       (
        bif (a.2.2.2.2.2.2.1 != 0)then
         (mg (aC.mk a.2.2.1)).bind fun q=>
         some (q,a.2.2.2.2.2.2.1)
        else
         some (aC.mk a.2.2.2.2.1,0)
       ).bind fun r=>some (.inr r)
  )
theorem aaS{α:Type}(xs:List α)(i:Nat)(x:α)(h:i<xs.length):(xs.set i x)[i]?=some x:=by
 rw[List.getElem?_set_self h]
theorem aiH(d:Bool)(b c:Str)(A:b.length<=34359738368)(B:c.length<=34359738368)(cs:List aj)(ps:List aO)(l:∀p,p∈ps->lu p)(K:ps.length<=1048576)(out0:List aj)(C:out0.length=ps.length)(hv:∀x,x∈out0->1<=x.version/\x.version<=999) :
  ak adB (b,c,d,cs,[],out0,false,ps,(ps.length:Int),0)=some (ZL cs (lN d b c 0 ps out0 false)):=by
 refine nR (bU (g:=adB) (fun (s:List aj×Bool) (i:Nat)=>((b,c,d,cs,[],s.1,s.2,ps,(ps.length:Int),(i:Int)):RvI)) ps (fun i s=>s.1.length=ps.length/\lN d b c i (ps.drop i) s.1 s.2=lN d b c 0 ps out0 false/\∀j x,i<=j->s.1[j]?=some x->1<=x.version/\x.version<=999) _ (fun i p s a m=>?_) (fun s m=>?_) (out0,false) ⟨C,rfl,fun j x _ a=>hv x (zG a)⟩)
 ·obtain⟨n,f,k⟩:=m;have o:=l p (zG a);have hi:=(zC.1 a).1;obtain⟨D,L,M⟩:=qM p o;obtain⟨q,E,N,F⟩:=Xl p o b;rw[NR d b c a]at f;simp only[adB,bW a,ac,au,a,zA,nO,D,E,F,bT a (by omega)];cases hh:tX p b with
  | false=>
   rw[hh]at f;refine .inl ⟨s,rfl,n,?_,fun j x r a=>k j x (by omega) a⟩;simpa using f
  | true=>
   rw[hh,if_pos rfl]at f;have h:i<s.1.length:=by omega
   have t:=zF h;obtain⟨x,v,G,O,H,k4,_⟩:=TJ p o (Au p b hh) b c A B;have u:∀y:aj,(s.1.set i y)[i]?=some y:=fun y=>aaS s.1 i y h
   rw[t]at f;have I:=k i _ (az _) t;simp only[aM,aa,aH,G,H,t,aD,u,zA];by_cases w:(textOf p b c).length<=120
   ·have e:decide (((textOf p b c).length:Int)>120)=false:=by simp;omega
    rw[if_pos w]at f;rw[e];simp only[aa];have keep:∀(y:aj) (j:Nat) (x:aj),i+1<=j->(s.1.set i y)[j]?=some x->1<=x.version/\x.version<=999:=fun y j x r a=>by
     rw[List.getElem?_set_ne (by omega)]at a;exact k j x (by omega) a
    have J:w64 (s.1[i].version+1)=s.1[i].version+1:=bK (by omega) (by omega);refine .inl ⟨(s.1.set i (TD d (textOf p b c) s.1[i]),s.2||(d&&decide (s.1[i].version>=999))),?_,by simp[n],f,fun j x r a=>keep _ j x r a⟩;cases d with
    | false=>
     simp only[aa,Bool.false_and,Bool.or_false];rfl
    | true=>
     have hset:∀y z:aj,(s.1.set i y).set i z=s.1.set i z:=fun y z=>by rw[List.set_set]
     simp only[ac,Bool.true_and,J,hset];cases s.2<;>rfl
   ·have e:decide (((textOf p b c).length:Int)>120)=true:=by simp;omega
    rw[if_neg w]at f;rw[e];exact .inr ⟨_,rfl,by rw[<- f];rfl⟩
 ·obtain⟨n,f,k⟩:=m;rw[List.drop_length]at f;refine⟨ZL cs (some s),?_,by rw[<- f];rfl⟩;obtain⟨out,full⟩:=s;simp only[adB,bG,aa];cases full<;>rfl
theorem ain(b c:Str)(C:b.length<=34359738368)(D:c.length<=34359738368)(cs:List aj)(E:cs.length<=1048576)(ps:List aO)(k:∀p,p∈ps->lu p)(K:ps.length<=1048576)(out0:List aj)(F:out0.length=ps.length)(hv:∀x,x∈out0->1<=x.version/\x.version<=999) :
  ak afH (b,c,cs,[],out0,ps,0,0)=some (ZL cs (lN true b c 0 ps out0 false)):=by
 have hcopy:mg ⟨cs⟩=some ⟨cs⟩:=by
  unfold mg;rw[gdp (by simp;omega)];rfl
 refine nR (bU (g:=afH) (fun (s:List aj×Bool) (i:Nat)=>((b,c,cs,[],s.1,ps,(if s.2=true then 6 else 0),(i:Int)):RvS)) ps (fun i s=>s.1.length=ps.length/\lN true b c i (ps.drop i) s.1 s.2=lN true b c 0 ps out0 false/\∀j x,i<=j->s.1[j]?=some x->1<=x.version/\x.version<=999) _ (fun i p s a l=>?_) (fun s l=>?_) (out0,false) ⟨F,rfl,fun j x _ a=>hv x (zG a)⟩)
 ·obtain⟨m,d,h⟩:=l;have n:=k p (zG a);have hi:=(zC.1 a).1;obtain⟨L,G,M⟩:=qM p n;have H:=aeG p n b;rw[NR true b c a]at d;simp only[afH,bW a,ac,au,a,zA,aD,nO,G,H,bT a (by omega)];cases hh:tX p b with
  | false=>
   rw[hh]at d;refine .inl ⟨s,rfl,m,?_,fun j x o a=>h j x (by omega) a⟩;simpa using d
  | true=>
   rw[hh,if_pos rfl]at d;have f:i<s.1.length:=by omega
   have q:=zF f;obtain⟨x,v,N,I,O,k4,_⟩:=TJ p n (Au p b hh) b c C D;have r:∀y:aj,(s.1.set i y)[i]?=some y:=fun y=>aaS s.1 i y f
   rw[q]at d;have J:=h i _ (az _) q;simp only[aM,aa,aH,I,k4,q,aD,r,zA];by_cases w:(textOf p b c).length<=120
   ·have e:decide (((textOf p b c).length:Int)>120)=false:=by simp;omega
    rw[if_pos w]at d;rw[e];simp only[aa];have keep:∀(y:aj) (j:Nat) (x:aj),i+1<=j->(s.1.set i y)[j]?=some x->1<=x.version/\x.version<=999:=fun y j x o a=>by
     rw[List.getElem?_set_ne (by omega)]at a;exact h j x (by omega) a
    have A:w64 (s.1[i].version+1)=s.1[i].version+1:=bK (by omega) (by omega);have hset:∀y z:aj,(s.1.set i y).set i z=s.1.set i z:=fun y z=>by rw[List.set_set]
    refine .inl ⟨(s.1.set i (TD true (textOf p b c) s.1[i]),s.2||(true&&decide (s.1[i].version>=999))),?_,by simp[m],d,fun j x o a=>keep _ j x o a⟩;by_cases B:s.1[i].version=999
    ·have t:(s.1[i].version==999)=true:=by simp[B]
     have u:decide (s.1[i].version>=999)=true:=by simp;omega
     simp only[t,u,ac,Bool.true_and,Bool.or_true,A,hset];rfl
    ·have t:(s.1[i].version==999)=false:=by simpa using B
     have u:decide (s.1[i].version>=999)=false:=by simp;omega
     simp only[t,u,aa,Bool.true_and,Bool.or_false,A,hset];rfl
   ·have e:decide (((textOf p b c).length:Int)>120)=true:=by simp;omega
    rw[if_neg w]at d;rw[e];simp only[ac,hcopy,zA];exact .inr ⟨_,rfl,by rw[<- d];rfl⟩
 ·obtain⟨m,d,h⟩:=l;rw[List.drop_length]at d;refine⟨ZL cs (some s),?_,by rw[<- d];rfl⟩;obtain⟨out,full⟩:=s;simp only[afH,bG,aa,hcopy,zA];cases full<;>rfl
end
end Go.Proofs.YtkebfkahdmddpaaGreatDoor
/- Plain laws: loops that scan, sizes, equality with itself. -/
namespace Go.Proofs.YtkebfkahdmddpaaGreatDoor
open Go.Abs Go.Proofs
def O5{α:Type}(p:α->Nat->Bool):List α->Nat->Bool
 | [],_=>true
 | x::r,i=>p x i&&O5 p r (i+1)
theorem adi{α X:Type}{g:X->Option (X⊕Bool)}(pk:Nat->X)(xs:List α)(p:α->Nat->Bool)(fin:Bool)
  (b:∀i x,xs[i]?=some x->g (pk i)=bif p x i then some (.inl (pk (i+1)))else some (.inr false))
  (c:g (pk xs.length)=some (.inr fin)):ak g (pk 0)=some (O5 p xs 0&&fin):=by
 have key:∀(n i:Nat),xs.length=i+n->ak g (pk i)=some (O5 p (xs.drop i) i&&fin):=by
  intro n;induction n with
  | zero=>
   intro i hi;rw[List.drop_eq_nil_of_le (by omega),aJ];have:i=xs.length:=by omega
   subst this;rw[c];simp[O5]
  | succ n ih=>
   intro i hi;have a:i<xs.length:=by omega
   rw[List.drop_eq_getElem_cons a,aJ,b i xs[i] (zF a)];simp only[O5];cases p xs[i] i with
   | false=>simp
   | true=>simpa using ih (i+1) (by omega)
 simpa using key xs.length 0 (by omega)
def kP{α:Type}(p:α->Bool):List α->Nat->Int
 | [],_=>-1
 | x::r,i=>bif p x then (i:Int)else kP p r (i+1)
theorem LK{α X:Type}{g:X->Option (X⊕Int)}(pk:Nat->X)(xs:List α)(p:α->Bool)
  (b:∀i x,xs[i]?=some x->g (pk i)=bif p x then some (.inr (i:Int))else some (.inl (pk (i+1))))
  (c:g (pk xs.length)=some (.inr (-1))):ak g (pk 0)=some (kP p xs 0):=by
 have key:∀(n i:Nat),xs.length=i+n->ak g (pk i)=some (kP p (xs.drop i) i):=by
  intro n;induction n with
  | zero=>
   intro i hi;rw[List.drop_eq_nil_of_le (by omega),aJ];have:i=xs.length:=by omega
   subst this;rw[c];simp[kP]
  | succ n ih=>
   intro i hi;have a:i<xs.length:=by omega
   rw[List.drop_eq_getElem_cons a,aJ,b i xs[i] (zF a)];simp only[kP];cases p xs[i]with
   | false=>simpa using ih (i+1) (by omega)
   | true=>simp
 simpa using key xs.length 0 (by omega)
end Go.Proofs.YtkebfkahdmddpaaGreatDoor
/- Plain laws of sizes, copies and equality, for every type of data. -/
namespace Go.Abs
theorem fH.aik{L:Nat}{s:Str}(h:fH L (.str s)):s.length<=L:=by
 generalize a:D.str s=d at h;cases h<;>cases a
 assumption
theorem fH.wf{L:Nat}{k:IntKind}{n:Int}(h:fH L (.int k n)):(Lit.int k n).wf=true:=by
 generalize a:D.int k n=d at h;cases h<;>cases a
 assumption
theorem fH.af8{L:Nat}{t:Ty}{xs:List t.den}(h:fH L (.list t xs)):xs.length<=L:=by
 generalize a:D.list t xs=d at h;cases h<;>cases a
 assumption
def Fit(L:Nat)(t:Ty)(x:t.den):Prop:=∀d,d∈t.cells x->fH L d
theorem fH.NS{L:Nat}{t:Ty}{xs:List t.den}(h:fH L (.list t xs)):∀x,x∈xs->Fit L t x:=by
 generalize b:D.list t xs=d at h;cases h<;>cases b
 rename_i c;intro x e d a;obtain⟨i,hi⟩:=List.mem_iff_getElem?.1 e;obtain⟨j,f⟩:=List.mem_iff_getElem?.1 a;exact c i x j d hi f
theorem fH.aiC{L:Nat}{t:Ty}{xs:List t.den}(h:xs.length<=L)(a:∀x,x∈xs->Fit L t x):fH L (.list t xs):=
 .list t xs h fun _ x _ d hi b=>a x (zG hi) d (zG b)
theorem fH.mono{L L':Nat}(a:L<=L'){d:D}(h:fH L d):fH L' d:=by
 induction h with
 | int k n h=>exact .int k n h
 | bool b=>exact .bool b
 | str s h=>exact .str s (Nat.le_trans h a)
 | list t xs h _ ih=>exact .list t xs (Nat.le_trans h a) ih
theorem Fit.mono{L L':Nat}(a:L<=L'){t:Ty}{x:t.den}(h:Fit L t x):Fit L' t x:=fun d b=>(h d b).mono a
end Go.Abs
namespace Go.Proofs.YtkebfkahdmddpaaGreatDoor
open Go.Abs Go.Proofs
abbrev B47:Nat:=140737488351232
abbrev B20:Nat:=1048576
theorem NU{t:Ty}{xs:List t.den}(h:fH B20 (.list t xs)):(xs.length:Int)<=1048576:=by
 have a:xs.length<=1048576:=h.af8;omega
theorem aag{s:Str}(h:fH B20 (.str s)):(s.length:Int)<=1048576:=by
 have a:s.length<=1048576:=h.aik;omega
theorem aaF{s:Str}(h:(s.length:Int)<=1048576):fH B20 (.str s):=.str s (by show s.length<=1048576;omega)
theorem WZ{t:Ty}{xs:List t.den}(h:(xs.length:Int)<=1048576)(a:∀x,x∈xs->Fit B20 t x):fH B20 (.list t xs):=.aiC (by show xs.length<=1048576;omega) a
end Go.Proofs.YtkebfkahdmddpaaGreatDoor
/- Sizes, copies and equality of this translation, by genbasic.py. -/
namespace Go.Proofs.YtkebfkahdmddpaaGreatDoor
open Go.Abs Go.Proofs
theorem Gu{L:Nat}{x:af}:Fit L (.base .expr) x↔fH L (.int .i64 x.kind)/\fH L (.int .i64 x.n)/\fH L (.str x.text)/\fH L (.list (.base .expr) x.args):=by
 simp only[Fit,Ty.cells,Base.cells,bc,List.not_mem_nil,or_false,forall_eq_or_imp,forall_eq]
theorem Gv{L:Nat}{x:aj}:Fit L (.base .cell) x↔fH L (.int .i64 x.id)/\fH L (.int .i64 x.version)/\fH L (.int .i64 x.kind)/\fH L (.str x.name)/\fH L (.str x.code)/\fH L (.int .i64 x.n):=by
 simp only[Fit,Ty.cells,Base.cells,bc,List.not_mem_nil,or_false,forall_eq_or_imp,forall_eq]
theorem Gt{L:Nat}{x:aC}:Fit L (.base .notebook) x↔fH L (.list (.base .cell) x.cells):=by
 simp only[Fit,Ty.cells,Base.cells,bc,List.not_mem_nil,or_false,forall_eq_or_imp,forall_eq]
noncomputable def dP(x:af):Nat:=af.rec (motive_1:=fun _=>Nat) (motive_2:=fun _=>Nat) (fun a0 c d e ih=>1+1+1+ih) 0 (fun _ _ a b=>a+b) x
noncomputable def mQ(xs:List af):Nat:=af.rec_1 (motive_1:=fun _=>Nat) (motive_2:=fun _=>Nat) (fun a0 c d e ih=>1+1+1+ih) 0 (fun _ _ a b=>a+b) xs
theorem AX(x:af):dP x=1+1+1+mQ x.args:=by cases x;rfl
theorem jl:∀xs:List af,mQ xs=(xs.map dP).sum
 | []=>rfl
 | x::xs=>by rw[List.map_cons,List.sum_cons,<- jl xs];rfl
end Go.Proofs.YtkebfkahdmddpaaGreatDoor
/- Plain laws that hold of no one function: loops, Booleans, the first steps of a law. -/
namespace Go.Proofs.YtkebfkahdmddpaaGreatDoor
open Go.Abs Go.Proofs
abbrev lim:Nat:=4611686018427387904
theorem NV{n:Nat}(h:(n:Int)<=1048576):n<lim:=by
 show n<4611686018427387904
 omega
theorem BG{a b:Nat}(h:a<b):decide ((a:Int)<(b:Int))=true:=by simpa using h
theorem iJ{a:Nat}:decide ((a:Int)<(a:Int))=false:=by simp
theorem Ey{i n:Nat}(h:i<n)(a:n<lim):w64 ((i:Int)+1)=((i+1:Nat):Int):=by
 have c:(i:Int)<(n:Int):=Int.ofNat_lt.2 h;have b:(n:Int)<4611686018427387904:=Int.ofNat_lt.2 a;rw[bK (by omega) (by omega)];rfl
theorem VY(a b c:Int):qm a b c=some (decide (b<=a)&&decide (a<=c)):=by
 unfold qm;show (bif decide (b<=a)then _ else _)=_
 cases decide (b<=a)<;>rfl
end Go.Proofs.YtkebfkahdmddpaaGreatDoor
/- Plain laws: OpBefore, StampVersion, IsValidOp, CountBy, LastTime. -/
namespace Go.Proofs.YtkebfkahdmddpaaGreatDoor
open Go.Abs Go.Proofs
end Go.Proofs.YtkebfkahdmddpaaGreatDoor
/- Plain laws: RenameVariable alike on both sides; the law FnExactRenameVariable. -/
namespace Go.Proofs.YtkebfkahdmddpaaGreatDoor
noncomputable section
open Go.Abs Go.Proofs
theorem vz(a:Str)(b:a.length<=34359738368):aT a=some (bZ a)/\aX a=some (bZ a):=by
 obtain⟨v,h⟩:=lC a b;have e:bZ a=v:=by unfold bZ;rw[h];rfl
 rw[e];exact⟨h,by rw[<- nI a b,h]⟩
def partsOf(cs:List aj):List aO:=(je ⟨cs⟩).getD []
theorem qx(cs:List aj)(b:cs.length<=1048576)(h:∀c,c∈cs->kJ c):nV ⟨cs⟩=some (partsOf cs)/\je ⟨cs⟩=some (partsOf cs)/\(∀p,p∈partsOf cs->lu p)/\(oC cs=true->(partsOf cs).length=cs.length)/\(partsOf cs).length<=8:=by
 obtain⟨ps,d,a,f,g,i⟩:=QI cs b h;have e:partsOf cs=ps:=by unfold partsOf;rw[a];rfl
 rw[e];exact⟨d,a,f,g,i⟩
def wR(b c:Str)(p:aO):Bool:=(p.kind==2)&&Ku p b c
def y7(c:Str)(p:aO):Bool:=tX p c
theorem Cb{α:Type}(f:α->Bool){xs:List α}{i:Nat}{x:α}(h:xs[i]?=some x):(xs.take (i+1)).any f=((xs.take i).any f||f x):=by
 obtain⟨hi,rfl⟩:=zC.1 h;rw[List.take_succ_eq_append_getElem hi,List.any_append];simp
def oH(c:Str)(cs:List aj)(k:Nat):List aj:=match cs[k]? with
 | some x=>cs.set k ⟨x.id,x.version,x.kind,c,x.code,x.n⟩
 | none=>cs
theorem Ie(c:Str)(cs:List aj)(k:Nat):(oH c cs k).length=cs.length:=by
 unfold oH;split
 ·rw[List.length_set]
 ·rfl
theorem Ry{c:Str}{cs:List aj}{k:Nat}(h:∀x,x∈cs->1<=x.version/\x.version<=999):∀x,x∈oH c cs k->1<=x.version/\x.version<=999:=by
 intro x a;unfold oH at a;split at a
 ·rename_i y b;rcases List.mem_or_eq_of_mem_set a with a | rfl
  ·exact h x a
  ·exact h y (zG b)
 ·exact h x a
def tN(cs:List aj)(b c:Str)(d:Bool):aC×Int:=
 bif !(oC cs)then (⟨cs⟩,1)else bif !(bZ b)then (⟨cs⟩,1)else bif !(bZ c)then (⟨cs⟩,1)else bif (b==c)then (⟨cs⟩,1)
 else bif decide (nN (bP b 0 (partsOf cs))<0)then (⟨cs⟩,2)
 else bif (decide (((bP c 0 (partsOf cs)).length:Int)>0)||(partsOf cs).any (y7 c))then (⟨cs⟩,3)
 else bif (partsOf cs).any (wR b c)then (⟨cs⟩,4)
 else ZL cs (lN d b c 0 (partsOf cs) (oH c cs (nN (bP b 0 (partsOf cs))).toNat) false)
theorem aeE(cs:List aj)(a:cs.length<=1048576):mM ⟨cs⟩=some ⟨cs⟩:=by
 unfold mM;rw[gdp (by simp;omega)];rfl
theorem aip(cs:List aj)(a:cs.length<=1048576):mg ⟨cs⟩=some ⟨cs⟩:=by
 unfold mg;rw[gdp (by simp;omega)];rfl
theorem U0(cs:List aj)(b c:Str)(d:Bool)(l:cs.length<=1048576)(h:∀c,c∈cs->kJ c)(w:b.length<=34359738368)(y:c.length<=34359738368):BM ⟨cs⟩ b c d=some (tN cs b c d):=by
 obtain⟨C,_,z,E,O⟩:=qx cs l h;have hv:=XB cs l h;have vb:=(vz b w).1;have vc:=(vz c y).1;unfold BM tN;simp only[C,hv,vb,vc,zA];cases e:oC cs with
 | false=>rfl
 | true=>
  have hlen:=E e;obtain⟨P,f⟩:=tC h e;cases bZ b with
  | false=>rfl
  | true=>
   cases bZ c with
   | false=>rfl
   | true=>
    cases (b==c)with
    | true=>rfl
    | false=>
     have F:=agk (partsOf cs) b (by omega);have G:=aaQ (partsOf cs) c (by omega);simp only[aM,aa,F,G,zA];cases hneg:decide (nN (bP b 0 (partsOf cs))<0)with
     | true=>rfl
     | false=>
      obtain⟨k,H,I⟩:=Y5 (partsOf cs) b (by have:=of_decide_eq_false hneg;omega);rw[H,aD];simp only[aa];generalize J:partsOf cs=ps at *;generalize Q:decide (((bP c 0 ps).length:Int)>0)=D;refine nR (bU (fun (s:Bool×Bool) (i:Nat)=>((b,c,d,cs,[],ps,(k:Int),s.1,s.2,ps,(ps.length:Int),(i:Int)):Str×Str×Bool×(List aj)×(List aj)×(List aO)×Int×Bool×Bool×(List aO)×Int×Int)) ps (fun i s=>s.1=(D||(ps.take i).any (y7 c))/\s.2=(ps.take i).any (wR b c)) _ (fun i p s a m=>.inl ?_) (fun s m=>?_) (D,false) ⟨by simp,by simp⟩)
      ·obtain⟨g,j⟩:=m;have o:=z p (zG a);obtain⟨K,R,S⟩:=qM p o;obtain⟨q,L,M,T⟩:=Xl p o c;refine⟨(s.1||y7 c p,s.2||wR b c p),?_,by rw[Cb _ a,g,Bool.or_assoc],by rw[Cb _ a,j]⟩;simp only[bW a,ac,au,a,zA,nO,aH,K,L,M,bT a (by omega)];unfold wR y7;cases t:(p.kind==2)with
       | false=>cases s.1<;>cases s.2<;>simp
       | true=>
        have u:=(ae5 p o (eq_of_beq t) b c).1;cases s.1<;>cases s.2<;>simp[u]
      ·obtain⟨g,j⟩:=m;rw[List.take_length]at g j;have v:k<cs.length:=by omega
       have A:=zF v;have hver:∀x,x∈cs->1<=x.version/\x.version<=999:=fun x a=>⟨(f x a).2.v0,(f x a).2.v9⟩
       have B:=aiH d b c w y cs ps z (by omega) (oH c cs k) (by rw[Ie,hlen]) (Ry hver);have N:oH c cs k=cs.set k ⟨cs[k].id,cs[k].version,cs[k].kind,c,cs[k].code,cs[k].n⟩:=by unfold oH;rw[A]
       refine⟨_,?_,rfl⟩;simp only[bG,aa,g,j,aeE cs l,zA,au,A,aD];cases (D||ps.any (y7 c))with
       | true=>rfl
       | false=>
        cases ps.any (wR b c)with
        | true=>rfl
        | false=>
         simp only[aa];rw[N]at B ⊢;show (ak adB (b,c,d,cs,[],cs.set k ⟨cs[k].id,cs[k].version,cs[k].kind,c,cs[k].code,cs[k].n⟩,false,ps,(ps.length:Int),0)).bind (fun r=>some (Sum.inr r))=_
         rw[B];rfl
theorem abC(ps:List aO)(b c:Str)(m:ps.length<=1048576)(h:∀p,p∈ps->lu p):Bj ps b c=some (bif decide (nN (bP b 0 ps)<0)then 2 else bif (decide (((bP c 0 ps).length:Int)>0)||ps.any (y7 c))then 3 else bif ps.any (wR b c)then 4 else 0):=by
 unfold Bj;rw[EP ps b m,zA];cases decide (nN (bP b 0 ps)<0)with
 | true=>rfl
 | false=>
  simp only[aa];have n:=Ul ps c m;refine nR (bU (fun (s:Bool) (i:Nat)=>((ps,b,c,(bif s then 4 else 0),(i:Int)):(List aO)×Str×Str×Int×Int)) ps (fun i s=>(ps.take i).any (y7 c)=false/\s=(ps.take i).any (wR b c)) _ (fun i p s a g=>?_) (fun s g=>?_) false ⟨by simp,by simp⟩)
  ·obtain⟨e,f⟩:=g;have j:=h p (zG a);obtain⟨r,o,t⟩:=qM p j;have q:=aeG p j c;simp only[bW a,ac,au,a,zA,nO,aH,o,q,bT a (by omega)];cases hh:tX p c with
   | true=>
    refine .inr ⟨3,rfl,?_⟩;have:ps.any (y7 c)=true:=List.any_eq_true.2 ⟨p,zG a,hh⟩;rw[this,Bool.or_true];rfl
   | false=>
    refine .inl ⟨s||wR b c p,?_,by rw[Cb _ a,e];exact hh,by rw[Cb _ a,f]⟩;unfold wR;cases k:(p.kind==2)with
    | false=>cases s<;>simp
    | true=>
     have d:=(ae5 p j (eq_of_beq k) b c).2;cases l:Ku p b c<;>rw[l]at d<;>cases s<;>simp[d]
  ·obtain⟨e,f⟩:=g;rw[List.take_length]at e f;refine⟨_,?_,rfl⟩;simp only[bG,aa,n,zA,e,f,Bool.or_false];cases decide (((bP c 0 ps).length:Int)>0)<;>cases ps.any (wR b c)<;>rfl
theorem Yw(cs:List aj)(b c:Str)(e:cs.length<=1048576)(h:∀c,c∈cs->kJ c)(g:b.length<=34359738368)(i:c.length<=34359738368):kE ⟨cs⟩ b c=some (tN cs b c true):=by
 obtain⟨_,p,j,q,z⟩:=qx cs e h;have hv:=Wv cs e h;have vb:=(vz b g).2;have vc:=(vz c i).2;unfold kE tN;simp only[aip cs e,hv,vb,vc,zA];cases a:oC cs with
 | false=>rfl
 | true=>
  have hlen:=q a;obtain⟨A,d⟩:=tC h a;cases bZ b with
  | false=>rfl
  | true=>
   cases bZ c with
   | false=>rfl
   | true=>
    cases (b==c)with
    | true=>rfl
    | false=>
     have r:=EP (partsOf cs) b (by omega);have s:=abC (partsOf cs) b c (by omega) j;simp only[aM,aa,p,r,s,zA];cases hneg:decide (nN (bP b 0 (partsOf cs))<0)with
     | true=>rfl
     | false=>
      obtain⟨k,t,u⟩:=Y5 (partsOf cs) b (by have:=of_decide_eq_false hneg;omega);rw[t,aD];generalize v:partsOf cs=ps at *;cases (decide (((bP c 0 ps).length:Int)>0)||ps.any (y7 c))with
      | true=>rfl
      | false=>
       cases ps.any (wR b c)with
       | true=>rfl
       | false=>
        have f:k<cs.length:=by omega
        have l:=zF f;have hver:∀x,x∈cs->1<=x.version/\x.version<=999:=fun x m=>⟨(d x m).2.v0,(d x m).2.v9⟩
        have o:=ain b c g i cs e ps j (by omega) (oH c cs k) (by rw[Ie,hlen]) (Ry hver);have w:oH c cs k=cs.set k ⟨cs[k].id,cs[k].version,cs[k].kind,c,cs[k].code,cs[k].n⟩:=by unfold oH;rw[l]
        have y:((0:Int) != 0)=false:=rfl;simp only[aa,y,au,l,aD,zA];rw[w]at o ⊢;exact o
theorem aeM{cs:List aj}{n:Nat}{r:Option (List aj×Bool)}(h:cs.length<=n)(a:∀x,r=some x->x.1.length<=n):(ZL cs r).1.cells.length<=n:=by
 unfold ZL;split
 ·exact h
 ·exact h
 ·exact a _ rfl
theorem Ih(d:Bool)(b c:Str):∀(ps:List aO) (i:Nat) (cs:List aj) (full:Bool) (x:List aj×Bool),lN d b c i ps cs full=some x->x.1.length=cs.length
 | [],i,cs,full,x,h=>by cases h;rfl
 | p::r,i,cs,full,x,h=>by
  unfold lN at h;split at h
  ·split at h
   ·split at h
    ·have:=Ih d b c r (i+1) _ _ x h;rw[List.length_set]at this;exact this
    ·cases h
   ·cases h
  ·exact Ih d b c r (i+1) cs full x h
theorem adG(cs:List aj)(b c:Str)(d:Bool):(tN cs b c d).1.cells.length<=cs.length:=by
 have bb:∀(x:Bool) (p q:aC×Int),p.1.cells.length<=cs.length->q.1.cells.length<=cs.length->(bif x then p else q).1.cells.length<=cs.length:=by
  intro x p q a e;cases x
  ·exact e
  ·exact a
 have self:∀n:Int,((⟨cs⟩,n):aC×Int).1.cells.length<=cs.length:=fun n=>az _
 unfold tN;refine bb _ _ _ (self _) (bb _ _ _ (self _) (bb _ _ _ (self _) (bb _ _ _ (self _) (bb _ _ _ (self _) (bb _ _ _ (self _) (bb _ _ _ (self _) ?_))))));refine aeM (az _) fun x f=>?_
 have:=Ih _ _ _ _ _ _ _ _ f;rw[this,Ie];exact az _
theorem Us(cs:List aj)(b c:Str)(a:cs.length<=1048576)(h:∀c,c∈cs->kJ c)(d:b.length<=34359738368)(f:c.length<=34359738368):mW ⟨cs⟩ b c=some (tN cs b c true)/\kE ⟨cs⟩ b c=some (tN cs b c true):=by
 refine⟨?_,Yw cs b c a h d f⟩;have hlen:=adG cs b c true;unfold mW;rw[U0 cs b c true a h d f,zA];have:=aeE (tN cs b c true).1.cells (by omega);have e:(⟨(tN cs b c true).1.cells⟩:aC)=(tN cs b c true).1:=by cases (tN cs b c true).1;rfl
 rw[e]at this;rw[this];rfl
end
end Go.Proofs.YtkebfkahdmddpaaGreatDoor
