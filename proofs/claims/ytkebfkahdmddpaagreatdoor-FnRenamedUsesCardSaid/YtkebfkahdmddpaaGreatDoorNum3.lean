import Derived.Test.YtkebfkahdmddpaaGreatDoorForm1
import Derived.Lib.SplitLaws
import Derived.Test.YtkebfkahdmddpaaGreatDoorFree1
set_option linter.unusedSimpArgs false
set_option linter.unusedVariables false
/- Plain laws: numbers with a sign, as both sides read them. -/
namespace Go.Proofs.YtkebfkahdmddpaaGreatDoor
open Go.Abs Go.Proofs
theorem agq:∀(n:Nat) (s:Str) (q:Nat),0<n->n<10 ^ q->n<9223372036854775808->s.length+q<=40->ak rD (-(n:Int),true,s)=some (45::(Go.Lib.decDigits n++s)):=by
 intro n;induction n using Nat.strongRecOn with
 | _ n ih=>
  intro s q o a t u;have i:0<q:=by
   rcases Nat.eq_zero_or_pos q with h | h
   ·subst h;simp at a;omega
   ·exact h
  have e:(-(n:Int) != 0)=true:=by simp;omega
  have em:(-(n:Int)).tmod 10 = -((n % 10:Nat):Int):=by
   rw[Int.neg_tmod,Int.tmod_eq_emod_of_nonneg (by omega)];omega
  have ed:(-(n:Int)).tdiv 10 = -((n / 10:Nat):Int):=by
   rw[Int.neg_tdiv,Int.tdiv_eq_ediv_of_nonneg (by omega)];omega
  have f:w64 ((-(n:Int)).tdiv 10) = -((n / 10:Nat):Int):=by
   rw[ed];exact bK (by omega) (by omega)
  have g:gd ([UInt8.ofNat (48+n % 10)].length+s.length)=some ():=gdp (by simp;omega);have hstep:rD (-(n:Int),true,s)=some (.inl (-((n / 10:Nat):Int),true,UInt8.ofNat (48+n % 10)::s)):=by
   unfold rD;by_cases j:n % 10=0
   ·have b:decide ((-(n:Int)).tmod 10<0)=false:=by rw[em];simp;omega
    have c:bytesOf [w8 (w64 (48+((-(n:Int)).tmod 10)))]=[UInt8.ofNat (48+n % 10)]:=by
     rw[em,j];rfl
    simp only[e,b,ac,aa,c,g,zA,f];rfl
   ·have b:decide ((-(n:Int)).tmod 10<0)=true:=by rw[em];simp;omega
    have k:w64 (0-(-(n:Int)).tmod 10)=((n % 10:Nat):Int):=by
     rw[em,bK (by omega) (by omega)];omega
    have c:bytesOf [w8 (w64 (48+(w64 (0-(-(n:Int)).tmod 10))))]=[UInt8.ofNat (48+n % 10)]:=by
     rw[k];exact OO _ (by omega)
    simp only[e,b,ac,aa,c,g,zA,f];rfl
  rw[aJ,hstep];simp only;by_cases d:n<10
  ·have l:n / 10=0:=by omega
   rw[l,aJ];have:rD (-((0:Nat):Int),true,UInt8.ofNat (48+n % 10)::s)=some (.inr (45::(UInt8.ofNat (48+n % 10)::s))):=by
    show ((gd ([45].length+(UInt8.ofNat (48+n % 10)::s).length)).bind fun _=>some (([45]:Str)++(UInt8.ofNat (48+n % 10)::s))).bind (fun r=>some (Sum.inr r))=_
    rw[gdp (by simp;omega)];rfl
   rw[this];rw[Go.Lib.decDigits,dif_pos d,Nat.mod_eq_of_lt d];rfl
  ·have m:10 ^ q=10 ^ (q-1)*10:=by rw[<- Nat.pow_succ];congr 1;omega
   rw[ih (n / 10) (by omega) (UInt8.ofNat (48+n % 10)::s) (q-1) (by omega) (by rw[m]at a;generalize 10 ^ (q-1)=p at a ⊢;omega) (by omega) (by simp;omega)];conv=>rhs;rw[Go.Lib.decDigits,dif_neg d]
   simp
theorem zW(n:Int)(d:-9223372036854775808<n)(a:n<9223372036854775808):dM n=some (Go.Lib.itoa n):=by
 by_cases b:0<=n
 ·exact uV n b a
 ·obtain⟨m,rfl⟩:∃m:Nat,n = -(m:Int):=⟨n.natAbs,by omega⟩;rw[yK];have e:(-(m:Int)==0)=false:=by simp;omega
  have c:decide (-(m:Int)<0)=true:=by simp;omega
  rw[e,c,aa,agq m [] 19 (by omega) (by have:(10:Nat) ^ 19=10000000000000000000:=rfl;omega) (by omega) (by decide)];unfold Go.Lib.itoa;rw[if_pos (by omega),List.append_nil];have:(-(m:Int)).natAbs=m:=by omega
  rw[this]
theorem rE:∀(n:Nat),(∀c,c∈Go.Lib.decDigits n->iR c)/\aQ 0 (Go.Lib.decDigits n)=n/\Go.Lib.decDigits n≠[]:=by
 intro n;induction n using Nat.strongRecOn with
 | _ n ih=>
  have b:∀d,d<10->(UInt8.ofNat (48+d)).toNat=48+d:=fun d h=>by
   rw[UInt8.toNat_ofNat'];omega
  rw[Go.Lib.decDigits];by_cases e:n<10
  ·rw[dif_pos e];refine⟨fun c a=>?_,?_,by simp⟩
   ·rw[List.mem_singleton.1 a];unfold iR;rw[b n e];omega
   ·show 0*10+((UInt8.ofNat (48+n)).toNat-48)=n
    rw[b n e];omega
  ·rw[dif_neg e];obtain⟨g,f,i⟩:=ih (n / 10) (by omega);refine⟨fun c a=>?_,?_,by simp⟩
   ·rcases List.mem_append.1 a with a | a
    ·exact g c a
    ·rw[List.mem_singleton.1 a];unfold iR;rw[b _ (by omega)];omega
   ·unfold aQ at f ⊢;rw[List.foldl_append,f];show n / 10*10+((UInt8.ofNat (48+n % 10)).toNat-48)=n
    rw[b _ (by omega)];omega
theorem Xe(n:Nat):Go.Lib.itoa (n:Int)=Go.Lib.decDigits n:=by
 unfold Go.Lib.itoa;rw[if_neg (by omega)];rfl
theorem itoa_neg(n:Nat)(h:0<n):Go.Lib.itoa (-(n:Int))=45::Go.Lib.decDigits n:=by
 unfold Go.Lib.itoa;rw[if_pos (by omega)];have:(-(n:Int)).natAbs=n:=by omega
 rw[this]
theorem I7(v:Int)(f:-999999999999<=v)(g:v<=999999999999):Go.Lib.atoiAll (Go.Lib.itoa v)=.ok v:=by
 by_cases i:0<=v
 ·obtain⟨n,rfl⟩:∃n:Nat,v=n:=⟨v.toNat,by omega⟩;obtain⟨a,b,c⟩:=rE n;have d:=GH n 12 (by decide) (by omega);rw[Xe,Yb _ a c d,b]
 ·obtain⟨n,rfl⟩:∃n:Nat,v = -(n:Int):=⟨v.natAbs,by omega⟩;obtain⟨a,b,c⟩:=rE n;have d:=GH n 12 (by decide) (by omega);rw[itoa_neg n (by omega)];have j:10 ^ (Go.Lib.decDigits n).length<=10 ^ 12:=Nat.pow_le_pow_right (by decide) d;unfold Go.Lib.atoiAll;simp only;rw[if_pos (.inr rfl)];unfold Go.Lib.parseMag;rw[if_neg c,uY _ 0 a (by omega),b];simp only;have e:((45:UInt8).toNat=45)=True:=by simp
  rw[if_neg (fun h=>h.1 rfl),if_neg (fun h=>by have:=h.2;omega),if_pos (show UInt8.toNat 45=45 from rfl)]
theorem JG(t:Str)(lo hi:Int)(d:t.length<=34359738368)(f:-999999999999<=lo)(g:hi<=999999999999) :
  ∃v ok,lW t lo hi=some (v,ok)/\(ok=true->Go.Lib.itoa v=t/\lo<=v/\v<=hi)/\(ok=false->v=0/\∀u,lo<=u->u<=hi->Go.Lib.itoa u≠t):=by
 unfold lW qC;rw[gdp d,zA];have no:∀u,lo<=u->u<=hi->Go.Lib.itoa u=t->Go.Lib.atoiAll t=.ok u:=fun u b c e=>by rw[<- e];exact I7 u (by omega) (by omega)
 cases h:Go.Lib.atoiAll t with
 | ok v=>
  simp only;by_cases a:v<lo\/hi<v\/Go.Lib.itoa v≠t
  ·rw[if_pos a];refine⟨0,false,rfl,fun h=>(by cases h),fun _=>⟨rfl,fun u b c e=>?_⟩⟩;have:=no u b c e;rw[h]at this;injection this with this;subst this;rcases a with a | a | a
   ·omega
   ·omega
   ·exact a e
  ·rw[if_neg a];refine⟨v,true,rfl,fun _=>⟨?_,by omega,by omega⟩,fun h=>(by cases h)⟩;rcases Decidable.em (Go.Lib.itoa v=t)with e | e
   ·exact e
   ·exact absurd (.inr (.inr e)) a
 | range=>exact⟨0,false,rfl,fun h=>(by cases h),fun _=>⟨rfl,fun u b c e=>by have:=no u b c e;rw[h]at this;cases this⟩⟩
 | _=>exact⟨0,false,rfl,fun h=>(by cases h),fun _=>⟨rfl,fun u b c e=>by have:=no u b c e;rw[h]at this;cases this⟩⟩
abbrev RdX:=Str×Bool×Str×Int×Int
noncomputable def DN:RdX->Option (RdX⊕(Int×Bool)):=(fun (a:Str×Bool×Str×Int×Int)=>
      bif (decide (a.2.2.2.2<(a.2.2.1.length:Int)))then
       (idx a.2.2.1 a.2.2.2.2).bind fun b=>
       bif (decide ((b.toNat:Int)<48))then
        some (.inr (0,false))
       else
        (idx a.2.2.1 a.2.2.2.2).bind fun c=>
        bif (decide ((c.toNat:Int)>57))then
         some (.inr (0,false))
        else
         (idx a.2.2.1 a.2.2.2.2).bind fun d=>
         some (.inl (a.1,a.2.1,a.2.2.1,w64 ((w64 (10*a.2.2.2.1))+(w64 (w8 ((d.toNat:Int)-48)))),w64 (a.2.2.2.2+1)))
      else
      (
       bif a.2.1 then
        (dM (w64 (0-a.2.2.2.1))).bind fun e=>
        bif (!(e==a.1))then
         some (0,false)
        else
         some (w64 (0-a.2.2.2.1),true)
       else
        (dM a.2.2.2.1).bind fun f=>
        bif (!(f==a.1))then
         some (0,false)
        else
         some (a.2.2.2.1,true)
      ).bind fun r=>some (.inr r)
  )
def sgn(B:Bool)(n:Nat):Int:=if B=true then -(n:Int)else n
def OJ(s:Str)(B:Bool)(n:Nat):Int×Bool:=if Go.Lib.itoa (sgn B n)=s then (sgn B n,true)else (0,false)
theorem TA(a:Str)(c:UInt8):aQ 0 (a++[c])=aQ 0 a*10+(c.toNat-48):=by
 unfold aQ;rw[List.foldl_append];rfl
theorem adK(s u:Str)(B:Bool)(t:u.length<=12):∃r,ak DN (s,B,u,0,0)=some r/\((r=(0,false)/\∃c,c∈u/\¬iR c)\/((∀c,c∈u->iR c)/\r=OJ s B (aQ 0 u))):=by
 have l:∀i,i<=u.length->(∀c,c∈u.take i->iR c)->aQ 0 (u.take i)<10 ^ 12:=fun i hi h=>by
  have o:=rX (u.take i) 0 h;have p:10 ^ (u.take i).length<=10 ^ 12:=Nat.pow_le_pow_right (by decide) (by rw[ba];omega);omega
 refine bU (g:=DN) (fun (n:Int) (i:Nat)=>((s,B,u,n,(i:Int)):RdX)) u (fun i n=>(∀c,c∈u.take i->iR c)/\n=(aQ 0 (u.take i):Int)) _ (fun i c n a j=>?_) (fun n j=>?_) 0 ⟨by simp,by simp[aQ]⟩
 ·obtain⟨b,rfl⟩:=j;have hi:=(zC.1 a).1;have hv:=l i (by omega) b;have m:u.take (i+1)=u.take i++[c]:=by
   obtain⟨hi,rfl⟩:=zC.1 a;rw[List.take_succ_eq_append_getElem hi]
  simp only[DN,bW a,ac,au,a,zA,bT a (by omega)];by_cases o:c.toNat<48
  ·have e:decide ((c.toNat:Int)<48)=true:=by simp;omega
   rw[e];exact .inr ⟨_,rfl,.inl ⟨rfl,c,zG a,fun h=>by unfold iR at h;omega⟩⟩
  ·have e:decide ((c.toNat:Int)<48)=false:=by simp;omega
   rw[e];by_cases p:c.toNat>57
   ·have k:decide ((c.toNat:Int)>57)=true:=by simp;omega
    rw[k];exact .inr ⟨_,rfl,.inl ⟨rfl,c,zG a,fun h=>by unfold iR at h;omega⟩⟩
   ·have k:decide ((c.toNat:Int)>57)=false:=by simp;omega
    rw[k];have q:w8 ((c.toNat:Int)-48)=((c.toNat-48:Nat):Int):=by
     simp only[w8,IntKind.wrap,IntKind.bits,IntKind.signed];simp;omega
    have ew:w64 (w64 (10*((aQ 0 (u.take i):Nat):Int))+w64 (w8 ((c.toNat:Int)-48)))=((aQ 0 (u.take (i+1)):Nat):Int):=by
     rw[q,m,TA,bK (n:=10*_) (by omega) (by omega),bK (n:=((c.toNat-48:Nat):Int)) (by omega) (by omega),bK (by omega) (by omega)];omega
    refine .inl ⟨_,by simp only[aa,ew],fun d f=>?_,rfl⟩;rw[m]at f;rcases List.mem_append.1 f with f | f
    ·exact b d f
    ·rw[List.mem_singleton.1 f];unfold iR;omega
 ·obtain⟨b,rfl⟩:=j;have hv:=l u.length (az _) b;rw[List.take_length]at b hv ⊢;refine⟨OJ s B (aQ 0 u),?_,.inr ⟨b,rfl⟩⟩;simp only[DN,bG,aa];unfold OJ;cases B with
  | true=>
   have e:w64 (0-((aQ 0 u:Nat):Int))=sgn true (aQ 0 u):=by
    rw[bK (by omega) (by omega)];unfold sgn;rw[if_pos rfl];omega
   simp only[ac,e];rw[zW _ (by unfold sgn;rw[if_pos rfl];omega) (by unfold sgn;rw[if_pos rfl];omega),zA];by_cases h:Go.Lib.itoa (sgn true (aQ 0 u))=s
   ·have:(Go.Lib.itoa (sgn true (aQ 0 u))==s)=true:=by simp[h]
    rw[if_pos h,this];rfl
   ·have:(Go.Lib.itoa (sgn true (aQ 0 u))==s)=false:=by simpa using h
    rw[if_neg h,this];rfl
  | false=>
   have e:sgn false (aQ 0 u)=((aQ 0 u:Nat):Int):=rfl;rw[e];simp only[aa];rw[zW _ (by omega) (by omega),zA];by_cases h:Go.Lib.itoa ((aQ 0 u:Nat):Int)=s
   ·have:(Go.Lib.itoa ((aQ 0 u:Nat):Int)==s)=true:=by simp[h]
    rw[if_pos h,this];rfl
   ·have:(Go.Lib.itoa ((aQ 0 u:Nat):Int)==s)=false:=by simpa using h
    rw[if_neg h,this];rfl
theorem adm(a:Str)(b:Int):Bo a b=bif (decide ((a.length:Int)>0))then
  ((idx a 0).bind fun c=>
  bif ((c.toNat:Int)==45)then
   ((eff.cutL a (some 1) none).bind fun d=>
   bif (decide ((d.length:Int)<1))then some (0,false)
   else bif (decide ((d.length:Int)>b))then some (0,false)
   else ak DN (a,((c.toNat:Int)==45),d,0,0))
  else
  bif (decide ((a.length:Int)<1))then some (0,false)
  else bif (decide ((a.length:Int)>b))then some (0,false)
  else ak DN (a,((c.toNat:Int)==45),a,0,0))
 else
 bif (decide ((a.length:Int)<1))then some (0,false)
 else bif (decide ((a.length:Int)>b))then some (0,false)
 else ak DN (a,false,a,0,0):=rfl
theorem OI(s:Str)(B:Bool)(n:Nat)(h:n<10 ^ 12):-999999999999<=(OJ s B n).1/\(OJ s B n).1<=999999999999:=by
 unfold OJ;split
 ·show -999999999999<=sgn B n/\sgn B n<=999999999999
  unfold sgn;split<;>omega
 ·exact⟨by decide,by decide⟩
theorem SC(u:Str)(a:u.length<=12)(h:∀c,c∈u->iR c):aQ 0 u<10 ^ 12:=by
 have b:=rX u 0 h;have d:10 ^ u.length<=10 ^ 12:=Nat.pow_le_pow_right (by decide) a;omega
theorem Sj(s:Str)(B:Bool)(n:Nat):((OJ s B n).2=true->Go.Lib.itoa (OJ s B n).1=s)/\((OJ s B n).2=false->(OJ s B n).1=0/\Go.Lib.itoa (sgn B n)≠s):=by
 unfold OJ;split
 ·rename_i h;exact⟨fun _=>h,fun h=>by cases h⟩
 ·rename_i h;exact⟨fun h=>(by cases h),fun _=>⟨rfl,h⟩⟩
theorem LQ(t:Str)(D:t.length<=34359738368) :
  ∃v ok,gU t=some (v,ok)/\(ok=true->Go.Lib.itoa v=t/\-999999999999<=v/\v<=999999999999)/\(ok=false->v=0/\∀u,-999999999999<=u->u<=999999999999->Go.Lib.itoa u≠t):=by
 have key:∃r,Bo t 12=some r/\(r.2=true->Go.Lib.itoa r.1=t/\-999999999999<=r.1/\r.1<=999999999999)/\(r.2=false->r.1=0/\∀u,-999999999999<=u->u<=999999999999->Go.Lib.itoa u≠t):=by
  have no:(∀u,-999999999999<=u->u<=999999999999->Go.Lib.itoa u≠t)->∃r,(some (0,false):Option (Int×Bool))=some r/\(r.2=true->Go.Lib.itoa r.1=t/\-999999999999<=r.1/\r.1<=999999999999)/\(r.2=false->r.1=0/\∀u,-999999999999<=u->u<=999999999999->Go.Lib.itoa u≠t):=fun h=>⟨_,rfl,fun h=>(by cases h),fun _=>⟨rfl,h⟩⟩
  have pos:∀u:Int,-999999999999<=u->u<=999999999999->(∃n:Nat,u=n/\Go.Lib.itoa u=Go.Lib.decDigits n/\n<10 ^ 12)\/∃n:Nat,0<n/\u = -(n:Int)/\Go.Lib.itoa u=45::Go.Lib.decDigits n/\n<10 ^ 12:=by
   intro u b a;by_cases w:0<=u
   ·obtain⟨n,rfl⟩:∃n:Nat,u=n:=⟨u.toNat,by omega⟩;exact .inl ⟨n,rfl,Xe n,by omega⟩
   ·obtain⟨n,rfl⟩:∃n:Nat,u = -(n:Int):=⟨u.natAbs,by omega⟩;exact .inr ⟨n,by omega,rfl,itoa_neg n (by omega),by omega⟩
  rw[adm];cases t with
  | nil=>
   refine no fun u b a e=>?_
   rcases pos u b a with ⟨n,_,f,_⟩ | ⟨n,_,_,f,_⟩
   ·rw[f]at e;exact (rE n).2.2 e
   ·rw[f]at e;cases e
  | cons c r=>
   have E:decide (((c::r).length:Int)>0)=true:=by simp
   have y:idx (c::r) 0=some c:=rfl;rw[E];simp only[ac,y,zA];have F:r.length<=34359738368:=by simp at D;omega
   by_cases o:c.toNat=45
   ·have H:c=45:=UInt8.toNat_inj.1 o;have l:((c.toNat:Int)==45)=true:=by simp;omega
    have hcut:eff.cutL (c::r) (some 1) none=some r:=AP (c::r) 1 (by simp);simp only[l,ac,hcut,zA];have dig:∀u,-999999999999<=u->u<=999999999999->Go.Lib.itoa u=c::r->∃n:Nat,0<n/\u = -(n:Int)/\r=Go.Lib.decDigits n/\n<10 ^ 12:=by
     intro u b a e;rcases pos u b a with ⟨n,_,f,_⟩ | ⟨n,w,j,f,k⟩
     ·rw[f]at e;have:=(rE n).1 c (by rw[e];simp);unfold iR at this;omega
     ·rw[f]at e;injection e with _ e;exact⟨n,w,j,e.symm,k⟩
    by_cases z:r.length=0
    ·have p:decide ((r.length:Int)<1)=true:=by simp;omega
     rw[p];refine no fun u b a e=>?_
     obtain⟨n,_,_,i,_⟩:=dig u b a e;rw[List.length_eq_zero_iff.1 z]at i;exact (rE n).2.2 i.symm
    ·have p:decide ((r.length:Int)<1)=false:=by simp;omega
     rw[p];by_cases g:r.length<=12
     ·have f:decide ((r.length:Int)>12)=false:=by simp;omega
      rw[f];simp only[aa];obtain⟨x,A,B⟩:=adK (c::r) r true g;refine⟨x,A,?_⟩;rcases B with ⟨rfl,d,q,m⟩ | ⟨hall,rfl⟩
      ·refine⟨fun h=>(by cases h),fun _=>⟨rfl,fun u b a e=>?_⟩⟩;obtain⟨n,_,_,i,_⟩:=dig u b a e;rw[i]at q;exact m ((rE n).1 d q)
      ·obtain⟨C,s⟩:=Sj (c::r) true (aQ 0 r);refine⟨fun h=>⟨C h,OI _ _ _ (SC r g hall)⟩,fun h=>⟨(s h).1,fun u b a e=>?_⟩⟩;obtain⟨n,_,j,i,_⟩:=dig u b a e;have:aQ 0 r=n:=by rw[i];exact (rE n).2.1
       apply (s h).2;rw[this,<- e,j];rfl
     ·have f:decide ((r.length:Int)>12)=true:=by simp;omega
      rw[f];refine no fun u b a e=>?_
      obtain⟨n,_,_,i,k⟩:=dig u b a e;have:=GH n 12 (by decide) k;rw[<- i]at this;exact g this
   ·have l:((c.toNat:Int)==45)=false:=by simp;omega
    have p:decide (((c::r).length:Int)<1)=false:=by simp;omega
    simp only[l,aa,p];have dig:∀u,-999999999999<=u->u<=999999999999->Go.Lib.itoa u=c::r->∃n:Nat,u=(n:Int)/\c::r=Go.Lib.decDigits n/\n<10 ^ 12:=by
     intro u b a e;rcases pos u b a with ⟨n,j,f,k⟩ | ⟨n,w,j,f,k⟩
     ·rw[f]at e;exact⟨n,j,e.symm,k⟩
     ·rw[f]at e;injection e with e _;exact absurd (by rw[<- e];rfl) o
    by_cases g:(c::r).length<=12
    ·have f:decide (((c::r).length:Int)>12)=false:=by simp at g ⊢;omega
     rw[f];simp only[aa];obtain⟨x,A,B⟩:=adK (c::r) (c::r) false g;refine⟨x,A,?_⟩;rcases B with ⟨rfl,d,q,m⟩ | ⟨hall,rfl⟩
     ·refine⟨fun h=>(by cases h),fun _=>⟨rfl,fun u b a e=>?_⟩⟩;obtain⟨n,_,i,_⟩:=dig u b a e;rw[i]at q;exact m ((rE n).1 d q)
     ·obtain⟨C,s⟩:=Sj (c::r) false (aQ 0 (c::r));refine⟨fun h=>⟨C h,OI _ _ _ (SC (c::r) g hall)⟩,fun h=>⟨(s h).1,fun u b a e=>?_⟩⟩;obtain⟨n,j,i,_⟩:=dig u b a e;have:aQ 0 (c::r)=n:=by rw[i];exact (rE n).2.1
      apply (s h).2;rw[this,<- e,j];rfl
    ·have f:decide (((c::r).length:Int)>12)=true:=by simp at g ⊢;omega
     rw[f];refine no fun u b a e=>?_
     obtain⟨n,_,i,k⟩:=dig u b a e;have:=GH n 12 (by decide) k;rw[<- i]at this;exact g this
 obtain⟨⟨v,ok⟩,e,a,G⟩:=key;refine⟨v,ok,?_,a,G⟩;unfold gU;rw[e];rfl
theorem Xf{u v:Int}(b:-999999999999<=u/\u<=999999999999)(h:Go.Lib.itoa u=Go.Lib.itoa v)(hv:-999999999999<=v/\v<=999999999999):u=v:=by
 have a:=I7 u b.1 b.2;have c:=I7 v hv.1 hv.2;rw[h,c]at a;injection a with a;exact a.symm
end Go.Proofs.YtkebfkahdmddpaaGreatDoor
/- Plain laws: texts split at a separator: the library's strings.Split against the reference's loops. -/
namespace Go.Proofs.YtkebfkahdmddpaaGreatDoor
open Go.Abs Go.Proofs
theorem QY{s sub:Str}{i:Nat}(hsub:sub≠[])(h:Go.Lib.NoOcc s sub i)(hi:i<=s.length)(b:Go.Lib.occAt s sub i=true):Go.Lib.split s sub=s.take i::Go.Lib.split (s.drop (i+sub.length)) sub:=by
 have a:=Go.Lib.index_hit h hi b;have c:=Go.Lib.count_hit hsub a;unfold Go.Lib.split;rw[c,Nat.add_comm 1];show (if Go.Lib.index s sub == -1 then [s]else s.take ((Go.Lib.index s sub).toNat+0)::Go.Lib.splitK sub 0 _ (s.drop ((Go.Lib.index s sub).toNat+sub.length)))=_
 rw[a];have e:((i:Int) == -1)=false:=by simp
 rw[e];simp
theorem Dx{s sub:Str}(h:∀j,j<=s.length->Go.Lib.occAt s sub j=false):Go.Lib.split s sub=[s]:=by
 have a:=Go.Lib.index_none h;have b:=Go.Lib.count_miss a;unfold Go.Lib.split;rw[b];rfl
theorem vW(s:Str)(c:UInt8)(i:Nat):Go.Lib.occAt s [c] i=(s[i]? == some c):=by
 unfold Go.Lib.occAt;cases h:s.drop i with
 | nil=>
  have:s[i]?=none:=zJ (List.drop_eq_nil_iff.1 h);rw[this];rfl
 | cons x r=>
  have:s[i]?=some x:=by
   have:=congrArg (·[0]?) h;simpa using this
  rw[this];show ((c==x)&&true)=(x==c)
  rw[Bool.and_true];by_cases e:c=x
  ·subst e;rfl
  ·have a:(c==x)=false:=by simpa using e
   have b:(x==c)=false:=by simpa using fun h=>e h.symm
   rw[a,b]
theorem vV(s:Str)(c d:UInt8)(i:Nat):Go.Lib.occAt s [c,d] i=((s[i]? == some c)&&(s[i+1]? == some d)):=by
 have a:=vW s c i;have b:=vW s d (i+1);unfold Go.Lib.occAt at a b ⊢;rw[<- a,<- b];cases h:s.drop i with
 | nil=>
  have:s.drop (i+1)=[]:=List.drop_eq_nil_iff.2 (by have:=List.drop_eq_nil_iff.1 h;omega);rw[this];rfl
 | cons x r=>
  have:s.drop (i+1)=r:=by
   have:=congrArg List.tail h;simpa using this
  rw[this];show ((c==x)&&[d].isPrefixOf r)=(((c==x)&&true)&&[d].isPrefixOf r)
  rw[Bool.and_true]
theorem ny(s sub:Str)(f j:Nat):Go.Lib.occAt (s.drop f) sub j=Go.Lib.occAt s sub (f+j):=by
 unfold Go.Lib.occAt;rw[List.drop_drop]
abbrev SpX:=Str×Int×(List Str)×Int×Int
noncomputable def uS:SpX->Option (SpX⊕List Str):=(fun (a:Str×Int×(List Str)×Int×Int)=>
      bif (decide (a.2.2.2.2<=(a.1.length:Int)))then
       bif (a.2.2.2.2==(a.1.length:Int))then
        (eff.cutL a.1 (some a.2.2.2.1) (some a.2.2.2.2)).bind fun b=>
        (gd (a.2.2.1.length+([b]:List Str).length)).bind fun _=>
        some (.inl (a.1,a.2.1,a.2.2.1++([b]:List Str),w64 (a.2.2.2.2+1),w64 (a.2.2.2.2+1)))
       else
        (idx a.1 a.2.2.2.2).bind fun d=>
        bif ((d.toNat:Int)==a.2.1)then
         (eff.cutL a.1 (some a.2.2.2.1) (some a.2.2.2.2)).bind fun c=>
         (gd (a.2.2.1.length+([c]:List Str).length)).bind fun _=>
         some (.inl (a.1,a.2.1,a.2.2.1++([c]:List Str),w64 (a.2.2.2.2+1),w64 (a.2.2.2.2+1)))
        else
         some (.inl (a.1,a.2.1,a.2.2.1,a.2.2.2.1,w64 (a.2.2.2.2+1)))
      else
       some (.inr (a.2.2.1))
  )
theorem Ho(s:Str)(c:UInt8)(z:s.length<=1048576):jv s (c.toNat:Int)=some (Go.Lib.split s [c]):=by
 have key:∀(k i f:Nat) (out:List Str),s.length+1=i+k->f<=i->i<=s.length->out.length<=i->(∀j,f<=j->j<i->Go.Lib.occAt s [c] j=false) ->
   ak uS (s,(c.toNat:Int),out,(f:Int),(i:Int))=some (out++Go.Lib.split (s.drop f) [c]):=by
  intro k;induction k with
  | zero=>intro i f out m _ u;omega
  | succ k ih=>
   intro i f out A w hi B a;have n:decide ((i:Int)<=(s.length:Int))=true:=by simp;omega
   have o:w64 ((i:Int)+1)=((i+1:Nat):Int):=by rw[bK (by omega) (by omega)];omega
   have v:∀x:Str,gd (out.length+([x]:List Str).length)=some ():=fun x=>gdp (by simp;omega)
   have hcut:=pY s f i w hi;have hNo:Go.Lib.NoOcc (s.drop f) [c] (i-f):=fun j p=>by rw[ny];exact a (f+j) (by omega) (by omega)
   rw[aJ];by_cases y:i=s.length
   ·subst y;have e:((s.length:Int)==(s.length:Int))=true:=by simp
    have b:uS (s,(c.toNat:Int),out,(f:Int),(s.length:Int))=some (.inl (s,(c.toNat:Int),out++[(s.take s.length).drop f],((s.length+1:Nat):Int),((s.length+1:Nat):Int))):=by
     simp only[uS,n,e,ac,hcut,zA,v,o]
    rw[b];simp only;rw[aJ];have d:decide (((s.length+1:Nat):Int)<=(s.length:Int))=false:=by simp;omega
    have q:uS (s,(c.toNat:Int),out++[(s.take s.length).drop f],((s.length+1:Nat):Int),((s.length+1:Nat):Int))=some (.inr (out++[(s.take s.length).drop f])):=by
     simp only[uS,d,aa]
    rw[q];simp only;rw[Dx (s:=s.drop f) (sub:=[c]) fun j p=>?_,List.take_length];rw[ny];by_cases r:f+j<s.length
    ·exact a (f+j) (by omega) r
    ·rw[vW,zJ (by omega)];rfl
   ·have t:i<s.length:=by omega
    have e:((i:Int)==(s.length:Int))=false:=by simp;omega
    have g:=zF t;by_cases l:s[i]=c
    ·have d:((s[i].toNat:Int)==(c.toNat:Int))=true:=by rw[l];simp
     have b:uS (s,(c.toNat:Int),out,(f:Int),(i:Int))=some (.inl (s,(c.toNat:Int),out++[(s.take i).drop f],((i+1:Nat):Int),((i+1:Nat):Int))):=by
      simp only[uS,n,e,d,ac,aa,au,g,hcut,zA,v,o]
     rw[b];simp only;rw[ih (i+1) (i+1) (out++[(s.take i).drop f]) (by omega) (az _) (by omega) (by simp;omega) (fun j m u=>by omega)];rw[QY (s:=s.drop f) (sub:=[c]) (i:=i-f) (by simp) hNo (by simp;omega) (by rw[ny,vW,show f+(i-f)=i by omega,g,l];simp)];rw[List.drop_drop,List.drop_take,show f+(i-f+[c].length)=i+1 by simp;omega];simp
    ·have d:((s[i].toNat:Int)==(c.toNat:Int))=false:=by
      have:¬s[i].toNat=c.toNat:=fun h=>l (UInt8.toNat_inj.1 h)
      simp;omega
     have b:uS (s,(c.toNat:Int),out,(f:Int),(i:Int))=some (.inl (s,(c.toNat:Int),out,(f:Int),((i+1:Nat):Int))):=by
      simp only[uS,n,e,d,ac,aa,au,g,zA,o]
     rw[b];simp only;refine ih (i+1) f out (by omega) (by omega) (by omega) (by omega) fun j m u=>?_
     by_cases p:j<i
     ·exact a j m p
     ·have:j=i:=by omega
      subst this;rw[vW,g];simpa using l
 have:=key (s.length+1) 0 0 [] (by omega) (az _) (Nat.zero_le _) (Nat.zero_le _) (fun j _ h=>by omega);show ak uS (s,(c.toNat:Int),[],0,0)=_
 simpa using this
theorem Io(s:Str)(c:UInt8)(a:s.length<=1048576):kY s (c.toNat:Int)=some (Go.Lib.split s [c]):=by
 unfold kY kH;have e:bytesOf [(c.toNat:Int)]=[c]:=GK [c];rw[e,if_pos ⟨by omega,by simp⟩];rfl
abbrev PaX:=Str×(List Str)×Int×Int
noncomputable def qH:PaX->Option (PaX⊕List Str):=(fun (a:Str×(List Str)×Int×Int)=>
      bif (decide ((w64 (a.2.2.2+1))<(a.1.length:Int)))then
       (idx a.1 a.2.2.2).bind fun d=>
       bif ((d.toNat:Int)==59)then
        (idx a.1 (w64 (a.2.2.2+1))).bind fun e=>
        bif ((e.toNat:Int)==32)then
         (eff.cutL a.1 (some a.2.2.1) (some a.2.2.2)).bind fun b=>
         (gd (a.2.1.length+([b]:List Str).length)).bind fun _=>
         some (.inl (a.1,a.2.1++([b]:List Str),w64 (a.2.2.2+2),w64 (a.2.2.2+1)))
        else
         some (.inl (a.1,a.2.1,a.2.2.1,w64 (a.2.2.2+1)))
       else
        some (.inl (a.1,a.2.1,a.2.2.1,w64 (a.2.2.2+1)))
      else
       (
        (eff.cutL a.1 (some a.2.2.1) none).bind fun c=>
        (gd (a.2.1.length+([c]:List Str).length)).bind fun _=>
        some (a.2.1++([c]:List Str))
       ).bind fun r=>some (.inr r)
  )
theorem Rh(s:Str)(G:s.length<=1048576):rJ s=some (Go.Lib.split s [59,32]):=by
 have key:∀(k i f:Nat) (out:List Str),s.length=i+k->(f<=i\/(f=i+1/\s[i]?=some 32))->f<=s.length->out.length<=i->(∀j,f<=j->j<i->Go.Lib.occAt s [59,32] j=false) ->
   ak qH (s,out,(f:Int),(i:Int))=some (out++Go.Lib.split (s.drop f) [59,32]):=by
  intro k;induction k with
  | zero=>
   intro i f out D y c E a;have e:decide (w64 ((i:Int)+1)<(s.length:Int))=false:=by rw[bK (by omega) (by omega)];simp;omega
   have hcut:=AP s f c;rw[aJ];have g:qH (s,out,(f:Int),(i:Int))=some (.inr (out++[s.drop f])):=by
    simp only[qH,e,aa,hcut,zA];rw[gdp (by simp;omega)];rfl
   rw[g];simp only;rw[Dx fun j p=>?_];rw[ny];by_cases l:f+j<i
   ·exact a (f+j) (by omega) l
   ·rw[vV,zJ (by omega)];rfl
  | succ k ih=>
   intro i f out D y c E a;have t:i<s.length:=by omega
   have q:w64 ((i:Int)+1)=((i+1:Nat):Int):=by rw[bK (by omega) (by omega)];omega
   have u:w64 ((i:Int)+2)=((i+2:Nat):Int):=by rw[bK (by omega) (by omega)];omega
   have m:=zF t;by_cases H:i+1=s.length
   ·have e:decide (((i+1:Nat):Int)<(s.length:Int))=false:=by simp;omega
    have hcut:=AP s f c;have g:qH (s,out,(f:Int),(i:Int))=some (.inr (out++[s.drop f])):=by
     simp only[qH,q,e,aa,hcut,zA];rw[gdp (by simp;omega)];rfl
    rw[aJ,g];simp only;rw[Dx fun j p=>?_];rw[ny];by_cases l:f+j<i
    ·exact a (f+j) (by omega) l
    ·rw[vV,zJ (show s.length<=f+j+1 by omega)];simp
   ·have n:i+1<s.length:=by omega
    have e:decide (((i+1:Nat):Int)<(s.length:Int))=true:=by simp;omega
    have b:=zF n;have skip:Go.Lib.occAt s [59,32] i=false->qH (s,out,(f:Int),(i:Int))=some (.inl (s,out,(f:Int),((i+1:Nat):Int)))->(f<=i+1) ->
      ak qH (s,out,(f:Int),(i:Int))=some (out++Go.Lib.split (s.drop f) [59,32]):=by
     intro v g d;rw[aJ,g];refine ih (i+1) f out (by omega) (.inl d) c (by omega) fun j z F=>?_
     by_cases p:j<i
     ·exact a j z p
     ·have:j=i:=by omega
      subst this;exact v
    have d:f<=i+1:=by omega
    by_cases A:s[i].toNat=59
    ·have r:((s[i].toNat:Int)==59)=true:=by simp;omega
     have B:s[i]=59:=UInt8.toNat_inj.1 A;have w:f<=i:=by
      rcases y with h | ⟨_,h⟩
      ·exact h
      ·rw[m,B]at h;cases h
     by_cases o:s[i+1].toNat=32
     ·have x:((s[i+1].toNat:Int)==32)=true:=by simp;omega
      have C:s[i+1]=32:=UInt8.toNat_inj.1 o;have hcut:=pY s f i w (by omega);have g:qH (s,out,(f:Int),(i:Int))=some (.inl (s,out++[(s.take i).drop f],((i+2:Nat):Int),((i+1:Nat):Int))):=by
       simp only[qH,q,u,e,r,x,ac,au,m,b,hcut,zA];rw[gdp (by simp;omega)];rfl
      rw[aJ,g];simp only;have hNo:Go.Lib.NoOcc (s.drop f) [59,32] (i-f):=fun j p=>by rw[ny];exact a (f+j) (by omega) (by omega)
      rw[ih (i+1) (i+2) (out++[(s.take i).drop f]) (by omega) (.inr ⟨rfl,by rw[b,C]⟩) (by omega) (by simp;omega) (fun j z F=>by omega)];rw[QY (s:=s.drop f) (sub:=[59,32]) (i:=i-f) (by simp) hNo (by simp;omega) (by rw[ny,vV,show f+(i-f)=i by omega,m,b,B,C];rfl)];rw[List.drop_drop,List.drop_take,show f+(i-f+([59,32]:Str).length)=i+2 by simp;omega];simp
     ·have x:((s[i+1].toNat:Int)==32)=false:=by simp;omega
      refine skip ?_ ?_ d
      ·rw[vV,b];have:¬s[i+1]=32:=fun h=>o (by rw[h];rfl)
       simp[this]
      ·simp only[qH,q,e,r,x,ac,aa,au,m,b,zA]
    ·have r:((s[i].toNat:Int)==59)=false:=by simp;omega
     refine skip ?_ ?_ d
     ·rw[vV,m];have:¬s[i]=59:=fun h=>A (by rw[h];rfl)
      simp[this]
     ·simp only[qH,q,e,r,ac,aa,au,m,zA]
 have:=key s.length 0 0 [] (by omega) (.inl (az _)) (Nat.zero_le _) (Nat.zero_le _) (fun j _ h=>by omega);show ak qH (s,[],0,0)=_
 simpa using this
theorem ade(s sub:Str):Go.Lib.split s sub≠[]:=by
 unfold Go.Lib.split;cases Go.Lib.count s sub with
 | zero=>simp[Go.Lib.splitK]
 | succ k=>
  unfold Go.Lib.splitK;split<;>simp
theorem iT(s sub:Str):(Go.Lib.split s sub).length<=s.length+2/\∀p,p∈Go.Lib.split s sub->p.length<=s.length:=by
 have key:∀(k:Nat) (s:Str),(Go.Lib.splitK sub 0 k s).length<=k+1/\∀p,p∈Go.Lib.splitK sub 0 k s->p.length<=s.length:=by
  intro k;induction k with
  | zero=>intro s;exact⟨az _,fun p a=>by rw[List.mem_singleton.1 a];exact az _⟩
  | succ k ih=>
   intro s;unfold Go.Lib.splitK;split
   ·exact⟨by simp,fun p a=>by rw[List.mem_singleton.1 a];exact az _⟩
   ·obtain⟨c,b⟩:=ih (s.drop ((Go.Lib.index s sub).toNat+sub.length));refine⟨by simp only[List.length_cons];omega,fun p a=>?_⟩;rcases bc.1 a with rfl | a
    ·rw[ba];omega
    ·have:=b p a;rw[List.length_drop]at this;omega
 have d:=Go.Lib.count_le s sub;obtain⟨c,b⟩:=key (Go.Lib.count s sub) s;exact⟨by unfold Go.Lib.split;omega,b⟩
end Go.Proofs.YtkebfkahdmddpaaGreatDoor
/- Plain laws: tables out of a text: ParseData alike on both sides. -/
namespace Go.Proofs.YtkebfkahdmddpaaGreatDoor
noncomputable section
open Go.Abs Go.Proofs
theorem nR{ρ:Type}{x:Option ρ}{v:ρ}(h:∃r,x=some r/\r=v):x=some v:=by
 obtain⟨r,e,rfl⟩:=h;exact e
theorem aiz{ρ σ:Type}{x:Option ρ}{F:σ->ρ}(h:∃r,x=some r/\∃y,r=F y):∃y,x=some (F y):=by
 obtain⟨r,e,y,rfl⟩:=h;exact⟨y,e⟩
def fK{α:Type}(p:Nat->α->Bool):Nat->List α->Bool
 | _,[]=>true
 | i,x::r=>p i x&&fK p (i+1) r
theorem oD{α X ρ:Type}{g:X->Option (X⊕ρ)}(pk:Nat->X)(xs:List α)(p:Nat->α->Bool)(no yes:ρ)
  (d:∀i x,xs[i]?=some x->g (pk i)=bif p i x then some (.inl (pk (i+1)))else some (.inr no))
  (e:g (pk xs.length)=some (.inr yes)):ak g (pk 0)=some (bif fK p 0 xs then yes else no):=by
 have key:∀(ys:List α) (i:Nat),xs.drop i=ys->i<=xs.length->ak g (pk i)=some (bif fK p i ys then yes else no):=by
  intro ys;induction ys with
  | nil=>
   intro i a hi;have f:xs.length<=i:=List.drop_eq_nil_iff.1 a;have:i=xs.length:=by omega
   subst this;rw[aJ,e];rfl
  | cons y r ih=>
   intro i a hi;have c:xs[i]?=some y:=by
    have:=congrArg (·[0]?) a;simpa using this
   have b:=(zC.1 c).1;rw[aJ,d i y c];show _=some (bif (p i y&&fK p (i+1) r)then yes else no)
   cases p i y with
   | true=>
    simp only[ac,Bool.true_and];refine ih (i+1) ?_ b;have:=congrArg List.tail a;simpa using this
   | false=>rfl
 exact key xs 0 rfl (Nat.zero_le _)
def xO(p:Str):Option Int:=match lW p (-1000000000) 1000000000 with
 | some (v,true)=>some v
 | _=>none
theorem numI(p:Str)(b:p.length<=1048576):∃v,lW p (-1000000000) 1000000000=some (v,(xO p).isSome)/\(∀u,xO p=some u->v=u):=by
 obtain⟨v,ok,e,_,_⟩:=JG p (-1000000000) 1000000000 (by omega) (by omega) (by omega);unfold xO;rw[e];cases ok with
 | true=>exact⟨v,rfl,fun u a=>by cases a;rfl⟩
 | false=>exact⟨v,rfl,fun u a=>by cases a⟩
theorem numS(p:Str)(s:p.length<=1048576):∃v ok,gU p=some (v,ok)/\(xO p).isSome=(ok&&(decide (v>=-1000000000)&&decide (v<=1000000000)))/\(∀u,xO p=some u->v=u):=by
 obtain⟨v,ok,e,h,j⟩:=LQ p (by omega);obtain⟨w,a,k,l,q⟩:=JG p (-1000000000) 1000000000 (by omega) (by omega) (by omega);refine⟨v,ok,e,?_,?_⟩
 ·unfold xO;rw[k];cases a with
  | true=>
   obtain⟨b,m,n⟩:=l rfl;cases ok with
   | true=>
    obtain⟨c,d,f⟩:=h rfl;have:v=w:=Xf ⟨d,f⟩ (c.trans b.symm) ⟨by omega,by omega⟩;subst this;rw[al m,al n];rfl
   | false=>exact absurd b ((j rfl).2 w (by omega) (by omega))
  | false=>
   cases ok with
   | false=>rfl
   | true=>
    obtain⟨c,d,f⟩:=h rfl;by_cases i:v>=-1000000000/\v<=1000000000
    ·exact absurd c ((q rfl).2 v i.1 i.2)
    ·have:(decide (v>=-1000000000)&&decide (v<=1000000000))=false:=by
      by_cases o:v>=-1000000000
      ·rw[ae (fun r=>i ⟨o,r⟩),Bool.and_false]
      ·rw[ae o,Bool.false_and]
     rw[this];rfl
 ·intro u g;unfold xO at g;rw[k]at g;cases a with
  | false=>cases g
  | true=>
   cases g
   obtain⟨b,m,n⟩:=l rfl;cases ok with
   | true=>
    obtain⟨c,d,f⟩:=h rfl;exact Xf ⟨d,f⟩ (c.trans b.symm) ⟨by omega,by omega⟩
   | false=>exact absurd b ((j rfl).2 w (by omega) (by omega))
def numsOf:List Str->Option (List Int)
 | []=>some []
 | p::r=>(xO p).bind fun v=>(numsOf r).map (v :: ·)
theorem ve:∀(a b:List Str),numsOf (a++b)=(numsOf a).bind fun x=>(numsOf b).map (x ++ ·)
 | [],b=>by simp[numsOf]
 | p::r,b=>by
  show (xO p).bind (fun v=>(numsOf (r++b)).map (v :: ·))=((xO p).bind fun v=>(numsOf r).map (v :: ·)).bind fun x=>(numsOf b).map (x ++ ·)
  rw[ve r b];cases xO p with
  | none=>rfl
  | some v=>
   simp only[zA];cases numsOf r with
   | none=>rfl
   | some x=>
    simp only[zA,Option.map_some];cases numsOf b<;>rfl
theorem DX:∀ {a:List Str} {x:List Int},numsOf a=some x->x.length=a.length
 | [],x,h=>by cases h;rfl
 | p::r,x,h=>by
  have h:(xO p).bind (fun v=>(numsOf r).map (v :: ·))=some x:=h;cases c:xO p with
  | none=>rw[c]at h;cases h
  | some v=>
   rw[c]at h;simp only[zA]at h;cases b:numsOf r with
   | none=>rw[b]at h;cases h
   | some y=>
    rw[b]at h;cases h
    simp[DX b]
theorem Jw{xs:List Str}{i:Nat}{p:Str}(h:xs[i]?=some p)(a:xO p=none):numsOf xs=none:=by
 obtain⟨hi,rfl⟩:=zC.1 h;have e:xs=xs.take i++(xs[i]::xs.drop (i+1)):=by rw[<- List.drop_eq_getElem_cons hi,List.take_append_drop]
 rw[e,ve];have:numsOf (xs[i]::xs.drop (i+1))=none:=by
  show (xO xs[i]).bind _=none
  rw[a];rfl
 rw[this];cases numsOf (xs.take i)<;>rfl
theorem Jv{xs:List Str}{i:Nat}{p:Str}{v:Int}{out:List Int}(h:xs[i]?=some p)(a:numsOf (xs.take i)=some out)(b:xO p=some v):numsOf (xs.take (i+1))=some (out++[v]):=by
 obtain⟨hi,rfl⟩:=zC.1 h;rw[List.take_succ_eq_append_getElem hi,ve,a];show (Option.some out).bind (fun x=>((xO xs[i]).bind fun v=>(numsOf []).map (v :: ·)).map (x ++ ·))=_
 rw[b];rfl
theorem agj(a:Str)(b:Int)(k:a.length<=100000):wJ a b=some (match numsOf (Go.Lib.split a [32])with
  | some l=>(l,(l.length:Int)==b)
  | none=>([],false)):=by
 obtain⟨h,g⟩:=iT a [32];unfold wJ;rw[show (32:Int)=((32:UInt8).toNat:Int)from rfl,Io a 32 (by omega)];simp only[zA];generalize Go.Lib.split a [32]=ps at h g;refine nR (bU (fun (out:List Int) (i:Nat)=>((b,out,ps,(ps.length:Int),(i:Int)):Int×(List Int)×(List Str)×Int×Int)) ps (fun i out=>numsOf (ps.take i)=some out) _ (fun i p out c d=>?_) (fun out d=>?_) [] rfl)
 ·have hi:=(zC.1 c).1;obtain⟨v,e,hv⟩:=numI p (by have:=g p (zG c);omega);simp only[bW c,ac,au,c,zA,aD,e,bT c (by omega)];cases f:xO p with
  | none=>exact .inr ⟨_,rfl,by rw[Jw c f]⟩
  | some u=>
   have:=hv u f;subst this;have j:=DX d;rw[ba]at j;refine .inl ⟨out++[v],?_,Jv c d f⟩;rw[gdp (by simp;omega)];rfl
 ·rw[List.take_length]at d;exact⟨_,by simp only[bG,aa];rfl,by rw[d]⟩
theorem afA(a:Str)(b:Int)(n:a.length<=100000):∃xs,Bv a b=some (match numsOf (Go.Lib.split a [32])with
  | some l=>(l,(l.length:Int)==b)
  | none=>(xs,false)):=by
 obtain⟨k,j⟩:=iT a [32];unfold Bv;rw[show (32:Int)=((32:UInt8).toNat:Int)from rfl,Ho a 32 (by omega)];simp only[zA];generalize Go.Lib.split a [32]=ps at k j;refine aiz (bU (fun (out:List Int) (i:Nat)=>((b,out,ps,(i:Int)):Int×(List Int)×(List Str)×Int)) ps (fun i out=>numsOf (ps.take i)=some out) (fun r=>∃xs,r=(match numsOf ps with
  | some l=>(l,(l.length:Int)==b)
  | none=>(xs,false))) (fun i p out d g=>?_) (fun out g=>?_) [] rfl)
 ·have hi:=(zC.1 d).1;obtain⟨v,ok,e,c,hv⟩:=numS p (by have:=j p (zG d);omega);have m:=DX g;rw[ba]at m;have hnum:oO v=some (decide (v>=-1000000000)&&decide (v<=1000000000)):=by
   unfold oO;rw[iV];rfl
  simp only[bW d,ac,au,d,zA,aD,e,hnum,bT d (by omega)];cases h:xO p with
  | none=>
   rw[h]at c;have c:(ok&&(decide (v>=-1000000000)&&decide (v<=1000000000)))=false:=c.symm;refine .inr ⟨(out,false),?_,out,by rw[Jw d h]⟩;cases ok with
   | false=>rfl
   | true=>
    rw[Bool.true_and]at c;rw[c];rfl
  | some u=>
   have:=hv u h;subst this;rw[h]at c;have c:true=(ok&&(decide (v>=-1000000000)&&decide (v<=1000000000))):=c;have f:=c.symm;rw[zI]at f;refine .inl ⟨out++[v],?_,Jv d g h⟩;rw[f.1,f.2,gdp (by simp;omega)];rfl
 ·rw[List.take_length]at g;exact⟨_,by simp only[bG,aa];rfl,[],by rw[g]⟩
theorem aeX{α:Type}(a:List α)(k:Nat)(h:k<=a.length):eff.cutL a none (some (k:Int))=some (a.take k):=by
 unfold eff.cutL;simp only[Option.getD_none,Option.getD_some];rw[if_pos]
 ·simp
 ·omega
theorem XU{α:Type}(x:α)(r:List α):eff.cutL (x::r) (some 1) none=some r:=by
 unfold eff.cutL;simp only[Option.getD_none,Option.getD_some];rw[if_pos]
 ·simp
 ·simp;omega
theorem Vr(b:Bool):(bif b then true else false)=b:=by cases b<;>rfl
def SB(xs:List Str):Bool:=fK (fun i x=>!((xs.take i).contains x)) 0 xs
theorem aeC(xs:List Str)(c:xs.length<=1048576):ru xs=some (SB xs):=by
 unfold ru;refine (oD (fun i=>((xs,xs,(xs.length:Int),(i:Int)):(List Str)×(List Str)×Int×Int)) xs (fun i x=>!((xs.take i).contains x)) false true (fun i x a=>?_) ?_).trans (congrArg some (Vr _))
 ·have b:=Ns x xs i 0 a;rw[Nat.zero_add]at b;simp only[bW a,ac,au,a,zA,uK xs x (by omega),bne,b,bT a (by omega)];cases (xs.take i).contains x<;>rfl
 ·simp only[bG,aa]
theorem adx(xs:List Str)(b:xs.length<=1048576):qX xs=some (SB xs):=by
 unfold qX;refine (oD (fun i=>((xs,(i:Int)):(List Str)×Int)) xs (fun i x=>!((xs.take i).contains x)) false true (fun i x a=>?_) ?_).trans (congrArg some (Vr _))
 ·have hi:=(zC.1 a).1;simp only[bW a,ac,au,a,zA,aeX xs i (by omega),oP (xs.take i) x (by rw[ba];omega),bT a (by omega)];cases (xs.take i).contains x<;>rfl
 ·simp only[bG,aa]
def AU(xs:List Str):Bool:=fK (fun _ x=>bZ x) 0 xs&&((decide (1<=(xs.length:Int))&&decide ((xs.length:Int)<=4))&&SB xs)
theorem XA(xs:List Str)(b:xs.length<=1048576)(c:∀x,x∈xs->x.length<=120):qF xs=some (AU xs):=by
 unfold qF;refine (oD (fun i=>((xs,xs,(xs.length:Int),(i:Int)):(List Str)×(List Str)×Int×Int)) xs (fun _ x=>bZ x) false ((decide (1<=(xs.length:Int))&&decide ((xs.length:Int)<=4))&&SB xs) (fun i x a=>?_) ?_).trans ?_
 ·simp only[bW a,ac,au,a,zA,wz x (c x (zG a)),bT a (by omega)];cases bZ x<;>rfl
 ·simp only[bG,aa,pF,zA,aeC xs b];cases (decide (1<=(xs.length:Int))&&decide ((xs.length:Int)<=4))<;>rfl
 ·unfold AU;cases fK (fun _ x=>bZ x) 0 xs<;>rfl
theorem Ws(xs:List Str)(b:xs.length<=1048576)(c:∀x,x∈xs->x.length<=120):sF xs=some (AU xs):=by
 unfold sF;refine (oD (fun i=>((xs,(i:Int)):(List Str)×Int)) xs (fun _ x=>bZ x) false ((decide (1<=(xs.length:Int))&&decide ((xs.length:Int)<=4))&&SB xs) (fun i x a=>?_) ?_).trans ?_
 ·simp only[bW a,ac,au,a,zA,nJ x (c x (zG a)),bT a (by omega)];cases bZ x<;>rfl
 ·simp only[bG,aa,iV,zA,adx xs b];show _=some (Sum.inr ((decide ((xs.length:Int)>=1)&&decide ((xs.length:Int)<=4))&&SB xs))
  cases (decide ((xs.length:Int)>=1)&&decide ((xs.length:Int)<=4))<;>rfl
 ·unfold AU;cases fK (fun _ x=>bZ x) 0 xs<;>rfl
def inR(n:Int):Bool:=decide (-1000000000<=n)&&decide (n<=1000000000)
theorem ZC(n:Int):BN n=some (inR n):=by
 unfold BN;rw[pF];rfl
theorem Yx(n:Int):oO n=some (inR n):=by
 unfold oO;rw[iV];rfl
def rowB(w:Int)(r:dm):Bool:=((r.cells.length:Int)==w)&&fK (fun _ n=>inR n) 0 r.cells
def G7(cols:List Str)(rows:List dm):Bool:=AU cols&&(decide ((rows.length:Int)<=12)&&fK (fun _ r=>rowB (cols.length:Int) r) 0 rows)
theorem aci(n step:Int)(text:Str)(cols:List Str)(rows:List dm)(e:cols.length<=1048576)(f:∀x,x∈cols->x.length<=120)(g:∀r,r∈rows->r.orig=[]/\r.cells.length<=1048576) :
  Am ⟨5,n,step,text,[],cols,rows⟩=some (G7 cols rows):=by
 unfold Am G7;simp only[XA cols e f,zA];cases AU cols with
 | false=>rfl
 | true=>
  simp only[aM,aa,Bool.true_and];by_cases a:(rows.length:Int)>12
  ·rw[al a,ae (by omega)];rfl
  ·rw[ae a,al (by omega)];simp only[aa,Bool.true_and];refine (oD (fun i=>((5,n,step,text,[],cols,rows,rows,(rows.length:Int),(i:Int)):Int×Int×Int×Str×(List bJ)×(List Str)×(List dm)×(List dm)×Int×Int)) rows (fun _ r=>rowB (cols.length:Int) r) false true (fun i r b=>?_) ?_).trans (congrArg some (Vr _))
   ·obtain⟨h,k⟩:=g r (zG b);have c:=bT b (by omega);simp only[bW b,ac,au,b,zA,h,bne];unfold rowB;cases ((r.cells.length:Int)==(cols.length:Int))with
    | false=>rfl
    | true=>
     simp only[aM,aa,Bool.true_and];refine (oD (fun j=>((5,n,step,text,[],cols,rows,r.cells,[],rows,(rows.length:Int),(i:Int),r.cells,(r.cells.length:Int),(j:Int)):Int×Int×Int×Str×(List bJ)×(List Str)×(List dm)×(List Int)×(List iQ)×(List dm)×Int×Int×(List Int)×Int×Int)) r.cells (fun _ m=>inR m) (Sum.inr false) (Sum.inl (5,n,step,text,[],cols,rows,rows,(rows.length:Int),((i+1:Nat):Int))) (fun j m d=>?_) ?_).trans ?_
     ·simp only[bW d,ac,au,d,zA,ZC,bT d (by omega)];cases inR m<;>rfl
     ·simp only[bG,aa];rw[aJ];simp only[List.length_nil,Int.ofNat_zero,Int.lt_irrefl,decide_false,aa,c,zA]
     ·cases fK (fun _ m=>inR m) 0 r.cells<;>rfl
   ·simp only[bG,aa]
theorem adA:qV []=some true:=by
 unfold qV;rw[aJ];rfl
theorem abl(n step:Int)(text:Str)(cols:List Str)(rows:List dm)(e:cols.length<=1048576)(f:∀x,x∈cols->x.length<=120)(g:∀r,r∈rows->r.orig=[]/\r.cells.length<=1048576) :
  ES ⟨5,n,step,text,[],cols,rows⟩=some (G7 cols rows):=by
 unfold ES G7;simp only[Ws cols e f,zA];cases AU cols with
 | false=>rfl
 | true=>
  simp only[aM,aa,Bool.true_and];by_cases a:(rows.length:Int)>12
  ·rw[al a,ae (by omega)];rfl
  ·rw[ae a,al (by omega)];simp only[aa,Bool.true_and];refine (oD (fun i=>((5,n,step,text,[],cols,rows,(i:Int)):Int×Int×Int×Str×(List bJ)×(List Str)×(List dm)×Int)) rows (fun _ r=>rowB (cols.length:Int) r) false true (fun i r b=>?_) ?_).trans (congrArg some (Vr _))
   ·obtain⟨h,k⟩:=g r (zG b);have c:=bT b (by omega);simp only[bW b,ac,au,b,zA,h,adA,bne];unfold rowB;cases ((r.cells.length:Int)==(cols.length:Int))with
    | false=>rfl
    | true=>
     simp only[aM,aa,Bool.true_and];refine (oD (fun j=>((5,n,step,text,[],cols,rows,(i:Int),r.cells,[],(j:Int)):Int×Int×Int×Str×(List bJ)×(List Str)×(List dm)×Int×(List Int)×(List iQ)×Int)) r.cells (fun _ m=>inR m) (Sum.inr false) (Sum.inl (5,n,step,text,[],cols,rows,((i+1:Nat):Int))) (fun j m d=>?_) ?_).trans ?_
     ·simp only[bW d,ac,au,d,zA,Yx,bT d (by omega)];cases inR m<;>rfl
     ·simp only[bG,aa,c]
     ·cases fK (fun _ m=>inR m) 0 r.cells<;>rfl
   ·simp only[bG,aa]
theorem FZ(cols:List Str)(rows:List dm)(a:cols.length<=1048576)(b:∀x,x∈cols->x.length<=120)(c:∀r,r∈rows->r.orig=[]/\r.cells.length<=1048576) :
  pX ⟨5,0,0,[],[],cols,rows⟩=some (G7 cols rows):=by
 have h:=aci 0 0 [] cols rows a b c;show jM ⟨5,0,0,[],[],cols,rows⟩=_
 unfold jM;simp only[h,zA];cases ((cols.length:Int)==0)<;>rfl
theorem EO(cols:List Str)(rows:List dm)(a:cols.length<=1048576)(b:∀x,x∈cols->x.length<=120)(c:∀r,r∈rows->r.orig=[]/\r.cells.length<=1048576) :
  pU ⟨5,0,0,[],[],cols,rows⟩=some (G7 cols rows):=by
 have h:=abl 0 0 [] cols rows a b c;show jJ ⟨5,0,0,[],[],cols,rows⟩=_
 unfold jJ;simp only[h,zA];rfl
def rowOf(w:Int)(p:Str):Option dm:=match numsOf (Go.Lib.split p [32])with
 | some l=>if (l.length:Int)==w then some ⟨l,[]⟩else none
 | none=>none
def rowsOf(w:Int):List Str->Option (List dm)
 | []=>some []
 | p::r=>(rowOf w p).bind fun v=>(rowsOf w r).map (v :: ·)
theorem uX(w:Int):∀(a b:List Str),rowsOf w (a++b)=(rowsOf w a).bind fun x=>(rowsOf w b).map (x ++ ·)
 | [],b=>by simp[rowsOf]
 | p::r,b=>by
  show (rowOf w p).bind (fun v=>(rowsOf w (r++b)).map (v :: ·))=((rowOf w p).bind fun v=>(rowsOf w r).map (v :: ·)).bind fun x=>(rowsOf w b).map (x ++ ·)
  rw[uX w r b];cases rowOf w p with
  | none=>rfl
  | some v=>
   simp only[zA];cases rowsOf w r with
   | none=>rfl
   | some x=>
    simp only[zA,Option.map_some];cases rowsOf w b<;>rfl
theorem Jq{w:Int}{xs:List Str}{i:Nat}{p:Str}(h:xs[i]?=some p)(a:rowOf w p=none):rowsOf w xs=none:=by
 obtain⟨hi,rfl⟩:=zC.1 h;have e:xs=xs.take i++(xs[i]::xs.drop (i+1)):=by rw[<- List.drop_eq_getElem_cons hi,List.take_append_drop]
 rw[e,uX];have:rowsOf w (xs[i]::xs.drop (i+1))=none:=by
  show (rowOf w xs[i]).bind _=none
  rw[a];rfl
 rw[this];cases rowsOf w (xs.take i)<;>rfl
theorem Jp{w:Int}{xs:List Str}{i:Nat}{p:Str}{v:dm}{out:List dm}(h:xs[i]?=some p)(a:rowsOf w (xs.take i)=some out)(b:rowOf w p=some v):rowsOf w (xs.take (i+1))=some (out++[v]):=by
 obtain⟨hi,rfl⟩:=zC.1 h;rw[List.take_succ_eq_append_getElem hi,uX,a];show (Option.some out).bind (fun x=>((rowOf w xs[i]).bind fun v=>(rowsOf w []).map (v :: ·)).map (x ++ ·))=_
 rw[b];rfl
theorem o8{w:Int}:∀ {a:List Str} {x:List dm},rowsOf w a=some x->x.length=a.length/\∀r,r∈x->r.orig=[]/\(r.cells.length:Int)=w
 | [],x,h=>by cases h;exact⟨rfl,fun r c=>by cases c⟩
 | p::r,x,h=>by
  have h:(rowOf w p).bind (fun v=>(rowsOf w r).map (v :: ·))=some x:=h;cases b:rowOf w p with
  | none=>rw[b]at h;cases h
  | some v=>
   rw[b]at h;simp only[zA]at h;cases c:rowsOf w r with
   | none=>rw[c]at h;cases h
   | some y=>
    rw[c]at h;cases h
    obtain⟨f,g⟩:=o8 c;refine⟨by simp[f],fun q d=>?_⟩;rcases bc.1 d with rfl | d
    ·unfold rowOf at b;split at b
     ·rename_i l _;split at b
      ·rename_i e;cases b
       exact⟨rfl,by simpa using e⟩
      ·cases b
     ·cases b
    ·exact g q d
theorem aap(w:Int)(p:Str)(a:p.length<=100000):∃l ok,wJ p w=some (l,ok)/\((ok=false/\rowOf w p=none)\/(ok=true/\rowOf w p=some ⟨l,[]⟩)):=by
 rw[agj p w a];unfold rowOf;cases numsOf (Go.Lib.split p [32])with
 | none=>exact⟨_,_,rfl,.inl ⟨rfl,rfl⟩⟩
 | some l=>
  refine⟨l,_,rfl,?_⟩;cases h:((l.length:Int)==w)with
  | true=>exact .inr ⟨rfl,by simpa using h⟩
  | false=>exact .inl ⟨rfl,by simpa using h⟩
theorem aao(w:Int)(p:Str)(a:p.length<=100000):∃l ok,Bv p w=some (l,ok)/\((ok=false/\rowOf w p=none)\/(ok=true/\rowOf w p=some ⟨l,[]⟩)):=by
 obtain⟨xs,e⟩:=afA p w a;rw[e];unfold rowOf;cases numsOf (Go.Lib.split p [32])with
 | none=>exact⟨_,_,rfl,.inl ⟨rfl,rfl⟩⟩
 | some l=>
  refine⟨l,_,rfl,?_⟩;cases h:((l.length:Int)==w)with
  | true=>exact .inr ⟨rfl,by simpa using h⟩
  | false=>exact .inl ⟨rfl,by simpa using h⟩
def dataOf(a:Str)(ps:List Str):bJ×Bool:=match rowsOf ((Go.Lib.split a [32]).length:Int) ps with
 | none=>(⟨0,0,0,[],[],[],[]⟩,false)
 | some rows=>if G7 (Go.Lib.split a [32]) rows=true then (⟨5,0,0,[],[],Go.Lib.split a [32],rows⟩,true)else (⟨0,0,0,[],[],[],[]⟩,false)
theorem Nu(a:Str):∃b ps,Go.Lib.split a [59,32]=b::ps:=List.exists_cons_of_ne_nil (ade a [59,32])
theorem OE(a:Str)(z:a.length<=120){b:Str}{ps:List Str}(c:Go.Lib.split a [59,32]=b::ps):nC a=some (dataOf b ps):=by
 obtain⟨k,g⟩:=iT a [59,32];rw[c]at k g;have A:=g b (by simp);obtain⟨n,m⟩:=iT b [32];unfold nC dataOf;have o:kH a [59,32]=some (b::ps):=by
  unfold kH;rw[if_pos ⟨by omega,by simp⟩,c]
 have q:kY b 32=some (Go.Lib.split b [32]):=Io b 32 (by omega);have s:idx (b::ps) 0=some b:=rfl;have t:(b::ps)[0]?=some b:=rfl;simp only[o,s,t,q,XU,zA];generalize hcols:Go.Lib.split b [32]=cols at n m;refine nR (bU (fun (out:List dm) (i:Nat)=>((0,0,0,[],[],[],[],5,0,0,[],[],cols,out,ps,(ps.length:Int),(i:Int)):Int×Int×Int×Str×(List bJ)×(List Str)×(List dm)×Int×Int×Int×Str×(List bJ)×(List Str)×(List dm)×(List Str)×Int×Int)) ps (fun i out=>rowsOf (cols.length:Int) (ps.take i)=some out) _ (fun i p out c f=>?_) (fun out f=>?_) [] rfl)
 ·have u:=g p (aq _ (zG c));obtain⟨l,ok,e,d⟩:=aap (cols.length:Int) p (by omega);have v:=(zC.1 c).1;have h:=(o8 f).1;rw[ba]at h;simp only[List.length_cons]at k;simp only[bW c,ac,au,c,zA,e,bT c (by omega)];rcases d with ⟨rfl,d⟩ | ⟨rfl,d⟩
  ·exact .inr ⟨_,rfl,by rw[Jq c d]⟩
  ·refine .inl ⟨out++[⟨l,[]⟩],?_,Jp c f d⟩;rw[gdp (by simp;omega)];rfl
 ·rw[List.take_length]at f;obtain⟨w,j⟩:=o8 f;have hv:=FZ cols out (by omega) (fun x y=>by have:=m x y;omega) (fun r d=>by have:=j r d;exact⟨this.1,by omega⟩);refine⟨_,?_,rfl⟩;simp only[bG,aa,hv,zA,f];cases G7 cols out<;>rfl
theorem ady(a:Str)(B:a.length<=120){b:Str}{ps:List Str}(c:Go.Lib.split a [59,32]=b::ps):su a=some (dataOf b ps):=by
 obtain⟨n,g⟩:=iT a [59,32];rw[c]at n g;have C:=g b (by simp);obtain⟨q,o⟩:=iT b [32];unfold su dataOf;have s:rJ a=some (b::ps):=by rw[Rh a (by omega),c]
 have t:jv b 32=some (Go.Lib.split b [32]):=Ho b 32 (by omega);have u:idx (b::ps) 0=some b:=rfl;have v:(b::ps)[0]?=some b:=rfl;simp only[s,u,v,t,zA];generalize hcols:Go.Lib.split b [32]=cols at q o;refine nR (bU (fun (out:List dm) (i:Nat)=>((0,0,0,[],[],[],[],b::ps,5,0,0,[],[],cols,out,((i+1:Nat):Int)):Int×Int×Int×Str×(List bJ)×(List Str)×(List dm)×(List Str)×Int×Int×Int×Str×(List bJ)×(List Str)×(List dm)×Int)) ps (fun i out=>rowsOf (cols.length:Int) (ps.take i)=some out) _ (fun i p out c f=>?_) (fun out f=>?_) [] rfl)
 ·have w:=g p (aq _ (zG c));obtain⟨l,ok,e,d⟩:=aao (cols.length:Int) p (by omega);have y:=(zC.1 c).1;have h:=(o8 f).1;rw[ba]at h;simp only[List.length_cons]at n;have j:decide (((i+1:Nat):Int)<((b::ps).length:Int))=true:=by simp;omega
  have k:(b::ps)[i+1]?=some p:=by simpa using c
  have z:w64 (((i+1:Nat):Int)+1)=((i+1+1:Nat):Int):=by rw[bK (by omega) (by omega)];omega
  simp only[j,ac,au,k,zA,aD,e,z];rcases d with ⟨rfl,d⟩ | ⟨rfl,d⟩
  ·exact .inr ⟨_,rfl,by rw[Jq c d]⟩
  ·refine .inl ⟨out++[⟨l,[]⟩],?_,Jp c f d⟩;rw[gdp (by simp;omega)];rfl
 ·rw[List.take_length]at f;obtain⟨A,m⟩:=o8 f;have hv:=EO cols out (by omega) (fun x k=>by have:=o x k;omega) (fun r d=>by have:=m r d;exact⟨this.1,by omega⟩);have j:decide (((ps.length+1:Nat):Int)<((b::ps).length:Int))=false:=by simp
  refine⟨_,?_,rfl⟩;simp only[j,aa,hv,zA,f];cases G7 cols out<;>rfl
theorem ZP(a:Str)(f:a.length<=120):∃v ok,nC a=some (v,ok)/\su a=some (v,ok)/\(ok=true->∃cols rows,v=⟨5,0,0,[],[],cols,rows⟩/\G7 cols rows=true/\cols.length<=122/\(∀x,x∈cols->x.length<=120)/\rows.length<=122/\∀r,r∈rows->r.orig=[]/\r.cells.length<=122):=by
 obtain⟨b,ps,d⟩:=Nu a;refine⟨(dataOf b ps).1,(dataOf b ps).2,OE a f d,ady a f d,fun h=>?_⟩;obtain⟨g,i⟩:=iT a [59,32];rw[d]at g i;simp only[List.length_cons]at g;have m:=i b (by simp);obtain⟨n,j⟩:=iT b [32];unfold dataOf at h ⊢;cases c:rowsOf ((Go.Lib.split b [32]).length:Int) ps with
 | none=>rw[c]at h;cases h
 | some rows=>
  rw[c]at h;simp only at h ⊢;by_cases e:G7 (Go.Lib.split b [32]) rows=true
  ·rw[if_pos e];obtain⟨o,k⟩:=o8 c;exact⟨_,rows,rfl,e,by omega,fun x l=>by have:=j x l;omega,by omega,fun r c=>by have:=k r c;exact⟨this.1,by omega⟩⟩
  ·rw[if_neg e]at h;cases h
end
end Go.Proofs.YtkebfkahdmddpaaGreatDoor
