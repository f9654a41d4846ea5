import Derived.Test.YtapgeemjgckgaaaGreatDoorData1
import Derived.Test.YtapgeemjgckgaaaGreatDoorPlain1
import Derived.Test.YtapgeemjgckgaaaGreatDoorMarks
import Derived.Test.YtapgeemjgckgaaaGreatDoorRen1
import Derived.Test.YtapgeemjgckgaaaGreatDoorS3
import Derived.Test.YtapgeemjgckgaaaGreatDoorLink1
import Derived.Shelf.Strconv.Itoa3
import Derived.Shelf.Strings.OnBuilder
import Derived.Shelf.Strings.Prefix
import Derived.Shelf.Strings.Split
import Derived.Shelf.Small.Strs
import Derived.Shelf.Sort.Plain
import Derived.Shelf.Slices.In.SortNone2
set_option linter.unusedSimpArgs false
set_option linter.unusedVariables false
/- Plain laws: RenameVariable alike on both sides. -/
namespace Go.Proofs.YtapgeemjgckgaaaGreatDoor
noncomputable section
open Go.Abs Go.Proofs
def aht(p:bG)(b c:Str):Bool:=(kZ p.expr b c).getD false
theorem aj1(p:bG)(h:qW p)(d:p.kind=2)(b c:Str):jv p.expr b c=some (aht p b c)/\kZ p.expr b c=some (aht p b c):=by
 obtain⟨hv,g⟩:=h.expr d;obtain⟨v,f,a⟩:=Dq p.expr b c (by omega);have e:aht p b c=v:=by unfold aht;rw[a];rfl
 rw[e];exact⟨f,a⟩
def textOf(p:bG)(b c:Str):Str:=(((kV p.expr b c).bind fun r=>lg r.1)).getD []
theorem aeC(p:bG)(h:qW p)(f:p.kind=2)(b c:Str)(g:b.length<=34359738368)(i:c.length<=34359738368) :
  ∃x v,nZ p.expr b c=some (x,v)/\kV p.expr b c=some (x,v)/\oh x=some (textOf p b c)/\lg x=some (textOf p b c)/\prn (textOf p b c)=true:=by
 obtain⟨hv,m⟩:=h.expr f;obtain⟨x,v,j,a,n⟩:=J8 p.expr b c (by omega) g i;obtain⟨s,k,d,_,l,_⟩:=ag5 x (by omega);have e:textOf p b c=s:=by unfold textOf;rw[a];simp only[zA,d];rfl
 rw[e];exact⟨x,v,j,a,k,d,l⟩
def ahE(d:Bool)(t:Str)(x:aj):aj:=⟨x.id,if d=true then x.version+1 else x.version,x.kind,x.name,t,x.n⟩
def qU(d:Bool)(b c:Str):Nat->List bG->List aj->Bool->Option (List aj×Bool)
 | _,[],cs,full=>some (cs,full)
 | i,p::r,cs,full=>if NH p b=true then
   (if (textOf p b c).length<=120 then (match cs[i]? with
    | some x=>qU d b c (i+1) r (cs.set i (ahE d (textOf p b c) x)) (full||(d&&decide (x.version>=999)))
    | none=>none)
   else none)
  else qU d b c (i+1) r cs full
theorem QD(d:Bool)(b c:Str){ps:List bG}{i:Nat}{p:bG}(h:ps[i]?=some p)(cs:List aj)(full:Bool):qU d b c i (ps.drop i) cs full=if NH p b=true then
      (if (textOf p b c).length<=120 then (match cs[i]? with
       | some x=>qU d b c (i+1) (ps.drop (i+1)) (cs.set i (ahE d (textOf p b c) x)) (full||(d&&decide (x.version>=999)))
       | none=>none)
      else none)
  else qU d b c (i+1) (ps.drop (i+1)) cs full:=by
 obtain⟨hi,rfl⟩:=zC.1 h;rw[List.drop_eq_getElem_cons hi];rfl
def abk(cs:List aj):Option (List aj×Bool)->au×Int
 | none=>(⟨cs⟩,5)
 | some (out,true)=>(⟨cs⟩,6)
 | some (out,false)=>(⟨out⟩,0)
abbrev RvI:=Str×Str×Bool×(List aj)×(List aj)×(List aj)×Bool×(List bG)×Int×Int
abbrev RvS:=Str×Str×(List aj)×(List aj)×(List aj)×(List bG)×Int×Int
def ais:RvI->Option (RvI⊕(au×Int)):=(fun (a:Str×Str×Bool×(List aj)×(List aj)×(List aj)×Bool×(List bG)×Int×Int)=>
      bif (decide (a.2.2.2.2.2.2.2.2.2<a.2.2.2.2.2.2.2.2.1))then
       (idx a.2.2.2.2.2.2.2.1 a.2.2.2.2.2.2.2.2.2).bind fun f=>
       (Aa (kQ f)).bind fun g=>
       (mQ g a.1).bind fun h=>
       bif (decide (h<0))then
        some (.inl (a.1,a.2.1,a.2.2.1,a.2.2.2.1,a.2.2.2.2.1,a.2.2.2.2.2.1,a.2.2.2.2.2.2.1,a.2.2.2.2.2.2.2.1,a.2.2.2.2.2.2.2.2.1,w64 (a.2.2.2.2.2.2.2.2.2+1)))
       else
       (nZ (ah f.expr) a.1 a.2.1).bind fun i=>
       (oh (ah i.1)).bind fun c=>
       (idx a.2.2.2.2.2.1 a.2.2.2.2.2.2.2.2.2).bind fun _=>
       (a.2.2.2.2.2.1[a.2.2.2.2.2.2.2.2.2.toNat]?).bind fun b=>
       (idx (a.2.2.2.2.2.1.set a.2.2.2.2.2.2.2.2.2.toNat (aj.mk b.id b.version b.kind b.name c b.n)) a.2.2.2.2.2.2.2.2.2).bind fun _=>
       ((a.2.2.2.2.2.1.set a.2.2.2.2.2.2.2.2.2.toNat (aj.mk b.id b.version b.kind b.name c b.n))[a.2.2.2.2.2.2.2.2.2.toNat]?).bind fun j=>
       bif (decide ((j.code.length:Int)>120))then
        some (.inr (au.mk a.2.2.2.1,5))
       else
       bif a.2.2.1 then
        bif a.2.2.2.2.2.2.1 then
         (idx (a.2.2.2.2.2.1.set a.2.2.2.2.2.2.2.2.2.toNat (aj.mk b.id b.version b.kind b.name c b.n)) a.2.2.2.2.2.2.2.2.2).bind fun _=>
         ((a.2.2.2.2.2.1.set a.2.2.2.2.2.2.2.2.2.toNat (aj.mk b.id b.version b.kind b.name c b.n))[a.2.2.2.2.2.2.2.2.2.toNat]?).bind fun k=>
         (idx (a.2.2.2.2.2.1.set a.2.2.2.2.2.2.2.2.2.toNat (aj.mk b.id b.version b.kind b.name c b.n)) a.2.2.2.2.2.2.2.2.2).bind fun _=>
         ((a.2.2.2.2.2.1.set a.2.2.2.2.2.2.2.2.2.toNat (aj.mk b.id b.version b.kind b.name c b.n))[a.2.2.2.2.2.2.2.2.2.toNat]?).bind fun d=>
         some (.inl (a.1,a.2.1,a.2.2.1,a.2.2.2.1,a.2.2.2.2.1,(a.2.2.2.2.2.1.set a.2.2.2.2.2.2.2.2.2.toNat (aj.mk b.id b.version b.kind b.name c b.n)).set a.2.2.2.2.2.2.2.2.2.toNat (aj.mk d.id (w64 (k.version+1)) d.kind d.name d.code d.n),true,a.2.2.2.2.2.2.2.1,a.2.2.2.2.2.2.2.2.1,w64 (a.2.2.2.2.2.2.2.2.2+1)))
        else
         (idx (a.2.2.2.2.2.1.set a.2.2.2.2.2.2.2.2.2.toNat (aj.mk b.id b.version b.kind b.name c b.n)) a.2.2.2.2.2.2.2.2.2).bind fun _=>
         ((a.2.2.2.2.2.1.set a.2.2.2.2.2.2.2.2.2.toNat (aj.mk b.id b.version b.kind b.name c b.n))[a.2.2.2.2.2.2.2.2.2.toNat]?).bind fun l=>
         (idx (a.2.2.2.2.2.1.set a.2.2.2.2.2.2.2.2.2.toNat (aj.mk b.id b.version b.kind b.name c b.n)) a.2.2.2.2.2.2.2.2.2).bind fun _=>
         ((a.2.2.2.2.2.1.set a.2.2.2.2.2.2.2.2.2.toNat (aj.mk b.id b.version b.kind b.name c b.n))[a.2.2.2.2.2.2.2.2.2.toNat]?).bind fun m=>
         (idx (a.2.2.2.2.2.1.set a.2.2.2.2.2.2.2.2.2.toNat (aj.mk b.id b.version b.kind b.name c b.n)) a.2.2.2.2.2.2.2.2.2).bind fun _=>
         ((a.2.2.2.2.2.1.set a.2.2.2.2.2.2.2.2.2.toNat (aj.mk b.id b.version b.kind b.name c b.n))[a.2.2.2.2.2.2.2.2.2.toNat]?).bind fun e=>
         some (.inl (a.1,a.2.1,a.2.2.1,a.2.2.2.1,a.2.2.2.2.1,(a.2.2.2.2.2.1.set a.2.2.2.2.2.2.2.2.2.toNat (aj.mk b.id b.version b.kind b.name c b.n)).set a.2.2.2.2.2.2.2.2.2.toNat (aj.mk e.id (w64 (m.version+1)) e.kind e.name e.code e.n),(decide (l.version>=999)),a.2.2.2.2.2.2.2.1,a.2.2.2.2.2.2.2.2.1,w64 (a.2.2.2.2.2.2.2.2.2+1)))
       else
        some (.inl (a.1,a.2.1,a.2.2.1,a.2.2.2.1,a.2.2.2.2.1,a.2.2.2.2.2.1.set a.2.2.2.2.2.2.2.2.2.toNat (aj.mk b.id b.version b.kind b.name c b.n),a.2.2.2.2.2.2.1,a.2.2.2.2.2.2.2.1,a.2.2.2.2.2.2.2.2.1,w64 (a.2.2.2.2.2.2.2.2.2+1)))
      else
       (
        bif a.2.2.2.2.2.2.1 then
         some (au.mk a.2.2.2.1,6)
        else
         some (au.mk a.2.2.2.2.2.1,0)
       ).bind fun r=>some (.inr r)
  )
def akI:RvS->Option (RvS⊕(au×Int)):=(fun (a:Str×Str×(List aj)×(List aj)×(List aj)×(List bG)×Int×Int)=>
      bif (decide (a.2.2.2.2.2.2.2<(a.2.2.2.2.2.1.length:Int)))then
       (idx a.2.2.2.2.2.1 a.2.2.2.2.2.2.2).bind fun _=>
       (a.2.2.2.2.2.1[a.2.2.2.2.2.2.2.toNat]?).bind fun f=>
       (qZ (kQ f)).bind fun g=>
       (nK g a.1).bind fun h=>
       bif (!h)then
        some (.inl (a.1,a.2.1,a.2.2.1,a.2.2.2.1,a.2.2.2.2.1,a.2.2.2.2.2.1,a.2.2.2.2.2.2.1,w64 (a.2.2.2.2.2.2.2+1)))
       else
       (idx a.2.2.2.2.2.1 a.2.2.2.2.2.2.2).bind fun _=>
       (a.2.2.2.2.2.1[a.2.2.2.2.2.2.2.toNat]?).bind fun i=>
       (kV (ah i.expr) a.1 a.2.1).bind fun j=>
       (lg (ah j.1)).bind fun c=>
       (idx a.2.2.2.2.1 a.2.2.2.2.2.2.2).bind fun _=>
       (a.2.2.2.2.1[a.2.2.2.2.2.2.2.toNat]?).bind fun b=>
       (idx (a.2.2.2.2.1.set a.2.2.2.2.2.2.2.toNat (aj.mk b.id b.version b.kind b.name c b.n)) a.2.2.2.2.2.2.2).bind fun _=>
       ((a.2.2.2.2.1.set a.2.2.2.2.2.2.2.toNat (aj.mk b.id b.version b.kind b.name c b.n))[a.2.2.2.2.2.2.2.toNat]?).bind fun k=>
       bif (decide ((k.code.length:Int)>120))then
        (jK (au.mk a.2.2.1)).bind fun l=>
        some (.inr (l,5))
       else
       (idx (a.2.2.2.2.1.set a.2.2.2.2.2.2.2.toNat (aj.mk b.id b.version b.kind b.name c b.n)) a.2.2.2.2.2.2.2).bind fun _=>
       ((a.2.2.2.2.1.set a.2.2.2.2.2.2.2.toNat (aj.mk b.id b.version b.kind b.name c b.n))[a.2.2.2.2.2.2.2.toNat]?).bind fun m=>
       bif (m.version==999)then
        (idx (a.2.2.2.2.1.set a.2.2.2.2.2.2.2.toNat (aj.mk b.id b.version b.kind b.name c b.n)) a.2.2.2.2.2.2.2).bind fun _=>
        ((a.2.2.2.2.1.set a.2.2.2.2.2.2.2.toNat (aj.mk b.id b.version b.kind b.name c b.n))[a.2.2.2.2.2.2.2.toNat]?).bind fun o=>
        (idx (a.2.2.2.2.1.set a.2.2.2.2.2.2.2.toNat (aj.mk b.id b.version b.kind b.name c b.n)) a.2.2.2.2.2.2.2).bind fun _=>
        ((a.2.2.2.2.1.set a.2.2.2.2.2.2.2.toNat (aj.mk b.id b.version b.kind b.name c b.n))[a.2.2.2.2.2.2.2.toNat]?).bind fun d=>
        some (.inl (a.1,a.2.1,a.2.2.1,a.2.2.2.1,(a.2.2.2.2.1.set a.2.2.2.2.2.2.2.toNat (aj.mk b.id b.version b.kind b.name c b.n)).set a.2.2.2.2.2.2.2.toNat (aj.mk d.id (w64 (o.version+1)) d.kind d.name d.code d.n),a.2.2.2.2.2.1,6,w64 (a.2.2.2.2.2.2.2+1)))
       else
        (idx (a.2.2.2.2.1.set a.2.2.2.2.2.2.2.toNat (aj.mk b.id b.version b.kind b.name c b.n)) a.2.2.2.2.2.2.2).bind fun _=>
        ((a.2.2.2.2.1.set a.2.2.2.2.2.2.2.toNat (aj.mk b.id b.version b.kind b.name c b.n))[a.2.2.2.2.2.2.2.toNat]?).bind fun p=>
        (idx (a.2.2.2.2.1.set a.2.2.2.2.2.2.2.toNat (aj.mk b.id b.version b.kind b.name c b.n)) a.2.2.2.2.2.2.2).bind fun _=>
        ((a.2.2.2.2.1.set a.2.2.2.2.2.2.2.toNat (aj.mk b.id b.version b.kind b.name c b.n))[a.2.2.2.2.2.2.2.toNat]?).bind fun e=>
        some (.inl (a.1,a.2.1,a.2.2.1,a.2.2.2.1,(a.2.2.2.2.1.set a.2.2.2.2.2.2.2.toNat (aj.mk b.id b.version b.kind b.name c b.n)).set a.2.2.2.2.2.2.2.toNat (aj.mk e.id (w64 (p.version+1)) e.kind e.name e.code e.n),a.2.2.2.2.2.1,a.2.2.2.2.2.2.1,w64 (a.2.2.2.2.2.2.2+1)))
      else
       (
        bif (a.2.2.2.2.2.2.1 != 0)then
         (jK (au.mk a.2.2.1)).bind fun q=>
         some (q,a.2.2.2.2.2.2.1)
        else
         some (au.mk a.2.2.2.2.1,0)
       ).bind fun r=>some (.inr r)
  )
theorem afh{α:Type}(xs:List α)(i:Nat)(x:α)(h:i<xs.length):(xs.set i x)[i]?=some x:=by
 rw[List.getElem?_set_self h]
theorem aoL(d:Bool)(b c:Str)(A:b.length<=34359738368)(B:c.length<=34359738368)(cs:List aj)(ps:List bG)(l:∀p,p∈ps->qW p)(K:ps.length<=1048576)(out0:List aj)(C:out0.length=ps.length)(hv:∀x,x∈out0->1<=x.version/\x.version<=999) :
  ak ais (b,c,d,cs,[],out0,false,ps,(ps.length:Int),0)=some (abk cs (qU d b c 0 ps out0 false)):=by
 refine xW (dL (g:=ais) (fun (s:List aj×Bool) (i:Nat)=>((b,c,d,cs,[],s.1,s.2,ps,(ps.length:Int),(i:Int)):RvI)) ps (fun i s=>s.1.length=ps.length/\qU d b c i (ps.drop i) s.1 s.2=qU d b c 0 ps out0 false/\∀j x,i<=j->s.1[j]?=some x->1<=x.version/\x.version<=999) _ (fun i p s a m=>?_) (fun s m=>?_) (out0,false) ⟨C,rfl,fun j x _ a=>hv x (zG a)⟩)
 ·obtain⟨n,f,k⟩:=m;have o:=l p (zG a);have hi:=(zC.1 a).1;obtain⟨D,L,M⟩:=DC p o;obtain⟨q,E,N,F⟩:=aaP p o b;rw[QD d b c a]at f;simp only[ais,dD a,ac,aA,a,zA,sU,D,E,F,dI a (by omega)];cases hh:NH p b with
  | false=>
   rw[hh]at f;refine .inl ⟨s,rfl,n,?_,fun j x r a=>k j x (by omega) a⟩;simpa using f
  | true=>
   rw[hh,if_pos rfl]at f;have h:i<s.1.length:=by omega
   have t:=zF h;obtain⟨x,v,G,O,H,P,_⟩:=aeC p o (abf p b hh) b c A B;have u:∀y:aj,(s.1.set i y)[i]?=some y:=fun y=>afh s.1 i y h
   rw[t]at f;have I:=k i _ (aw _) t;simp only[aL,aa,aQ,G,H,t,az,u,zA];by_cases w:(textOf p b c).length<=120
   ·have e:decide (((textOf p b c).length:Int)>120)=false:=by simp;omega
    rw[if_pos w]at f;rw[e];simp only[aa];have keep:∀(y:aj) (j:Nat) (x:aj),i+1<=j->(s.1.set i y)[j]?=some x->1<=x.version/\x.version<=999:=fun y j x r a=>by
     rw[List.getElem?_set_ne (by omega)]at a;exact k j x (by omega) a
    have J:w64 (s.1[i].version+1)=s.1[i].version+1:=aX (by omega) (by omega);refine .inl ⟨(s.1.set i (ahE d (textOf p b c) s.1[i]),s.2||(d&&decide (s.1[i].version>=999))),?_,by simp[n],f,fun j x r a=>keep _ j x r a⟩;cases d with
    | false=>
     simp only[aa,Bool.false_and,Bool.or_false];rfl
    | true=>
     have hset:∀y z:aj,(s.1.set i y).set i z=s.1.set i z:=fun y z=>by rw[List.set_set]
     simp only[ac,Bool.true_and,J,hset];cases s.2<;>rfl
   ·have e:decide (((textOf p b c).length:Int)>120)=true:=by simp;omega
    rw[if_neg w]at f;rw[e];exact .inr ⟨_,rfl,by rw[<- f];rfl⟩
 ·obtain⟨n,f,k⟩:=m;rw[List.drop_length]at f;refine⟨abk cs (some s),?_,by rw[<- f];rfl⟩;obtain⟨out,full⟩:=s;simp only[ais,bY,aa];cases full<;>rfl
theorem aox(b c:Str)(C:b.length<=34359738368)(D:c.length<=34359738368)(cs:List aj)(E:cs.length<=1048576)(ps:List bG)(k:∀p,p∈ps->qW p)(L:ps.length<=1048576)(out0:List aj)(F:out0.length=ps.length)(hv:∀x,x∈out0->1<=x.version/\x.version<=999) :
  ak akI (b,c,cs,[],out0,ps,0,0)=some (abk cs (qU true b c 0 ps out0 false)):=by
 have hcopy:jK ⟨cs⟩=some ⟨cs⟩:=by
  unfold jK;rw[gdp (by simp;omega)];rfl
 refine xW (dL (g:=akI) (fun (s:List aj×Bool) (i:Nat)=>((b,c,cs,[],s.1,ps,(if s.2=true then 6 else 0),(i:Int)):RvS)) ps (fun i s=>s.1.length=ps.length/\qU true b c i (ps.drop i) s.1 s.2=qU true b c 0 ps out0 false/\∀j x,i<=j->s.1[j]?=some x->1<=x.version/\x.version<=999) _ (fun i p s a l=>?_) (fun s l=>?_) (out0,false) ⟨F,rfl,fun j x _ a=>hv x (zG a)⟩)
 ·obtain⟨m,d,h⟩:=l;have n:=k p (zG a);have hi:=(zC.1 a).1;obtain⟨M,G,N⟩:=DC p n;have H:=ajC p n b;rw[QD true b c a]at d;simp only[akI,dD a,ac,aA,a,zA,az,sU,G,H,dI a (by omega)];cases hh:NH p b with
  | false=>
   rw[hh]at d;refine .inl ⟨s,rfl,m,?_,fun j x o a=>h j x (by omega) a⟩;simpa using d
  | true=>
   rw[hh,if_pos rfl]at d;have f:i<s.1.length:=by omega
   have q:=zF f;obtain⟨x,v,O,I,P,J,_⟩:=aeC p n (abf p b hh) b c C D;have r:∀y:aj,(s.1.set i y)[i]?=some y:=fun y=>afh s.1 i y f
   rw[q]at d;have K:=h i _ (aw _) q;simp only[aL,aa,aQ,I,J,q,az,r,zA];by_cases w:(textOf p b c).length<=120
   ·have e:decide (((textOf p b c).length:Int)>120)=false:=by simp;omega
    rw[if_pos w]at d;rw[e];simp only[aa];have keep:∀(y:aj) (j:Nat) (x:aj),i+1<=j->(s.1.set i y)[j]?=some x->1<=x.version/\x.version<=999:=fun y j x o a=>by
     rw[List.getElem?_set_ne (by omega)]at a;exact h j x (by omega) a
    have A:w64 (s.1[i].version+1)=s.1[i].version+1:=aX (by omega) (by omega);have hset:∀y z:aj,(s.1.set i y).set i z=s.1.set i z:=fun y z=>by rw[List.set_set]
    refine .inl ⟨(s.1.set i (ahE true (textOf p b c) s.1[i]),s.2||(true&&decide (s.1[i].version>=999))),?_,by simp[m],d,fun j x o a=>keep _ j x o a⟩;by_cases B:s.1[i].version=999
    ·have t:(s.1[i].version==999)=true:=by simp[B]
     have u:decide (s.1[i].version>=999)=true:=by simp;omega
     simp only[t,u,ac,Bool.true_and,Bool.or_true,A,hset];rfl
    ·have t:(s.1[i].version==999)=false:=by simpa using B
     have u:decide (s.1[i].version>=999)=false:=by simp;omega
     simp only[t,u,aa,Bool.true_and,Bool.or_false,A,hset];rfl
   ·have e:decide (((textOf p b c).length:Int)>120)=true:=by simp;omega
    rw[if_neg w]at d;rw[e];simp only[ac,hcopy,zA];exact .inr ⟨_,rfl,by rw[<- d];rfl⟩
 ·obtain⟨m,d,h⟩:=l;rw[List.drop_length]at d;refine⟨abk cs (some s),?_,by rw[<- d];rfl⟩;obtain⟨out,full⟩:=s;simp only[akI,bY,aa,hcopy,zA];cases full<;>rfl
end
end Go.Proofs.YtapgeemjgckgaaaGreatDoor
/- Plain laws: RenameVariable alike on both sides; the law FnExactRenameVariable. -/
namespace Go.Proofs.YtapgeemjgckgaaaGreatDoor
noncomputable section
open Go.Abs Go.Proofs
theorem Dz(a:Str)(b:a.length<=34359738368):bU a=some (fH a)/\bP a=some (fH a):=by
 obtain⟨v,h⟩:=oD a b;have e:fH a=v:=by unfold fH;rw[h];rfl
 rw[e];exact⟨h,by rw[<- nX a b,h]⟩
def partsOf(cs:List aj):List bG:=(lq ⟨cs⟩).getD []
theorem aag(cs:List aj)(b:cs.length<=1048576)(h:∀c,c∈cs->yS c):oq ⟨cs⟩=some (partsOf cs)/\lq ⟨cs⟩=some (partsOf cs)/\(∀p,p∈partsOf cs->qW p)/\(wL cs=true->(partsOf cs).length=cs.length)/\(partsOf cs).length<=8:=by
 obtain⟨ps,d,a,f,g,i⟩:=U1 cs b h;have e:partsOf cs=ps:=by unfold partsOf;rw[a];rfl
 rw[e];exact⟨d,a,f,g,i⟩
def Dt(b c:Str)(p:bG):Bool:=(p.kind==2)&&aht p b c
def Hg(c:Str)(p:bG):Bool:=NH p c
theorem EM{α:Type}(f:α->Bool){xs:List α}{i:Nat}{x:α}(h:xs[i]?=some x):(xs.take (i+1)).any f=((xs.take i).any f||f x):=by
 obtain⟨hi,rfl⟩:=zC.1 h;rw[List.take_succ_eq_append_getElem hi,List.any_append];simp
def yg(c:Str)(cs:List aj)(k:Nat):List aj:=match cs[k]? with
 | some x=>cs.set k ⟨x.id,x.version,x.kind,c,x.code,x.n⟩
 | none=>cs
theorem D5(c:Str)(cs:List aj)(k:Nat):(yg c cs k).length=cs.length:=by
 unfold yg;split
 ·rw[List.length_set]
 ·rfl
theorem Kr{c:Str}{cs:List aj}{k:Nat}(h:∀x,x∈cs->1<=x.version/\x.version<=999):∀x,x∈yg c cs k->1<=x.version/\x.version<=999:=by
 intro x a;unfold yg at a;split at a
 ·rename_i y b;rcases List.mem_or_eq_of_mem_set a with a | rfl
  ·exact h x a
  ·exact h y (zG b)
 ·exact h x a
def Gj(cs:List aj)(b c:Str)(d:Bool):au×Int:=
 bif !(wL cs)then (⟨cs⟩,1)else bif !(fH b)then (⟨cs⟩,1)else bif !(fH c)then (⟨cs⟩,1)else bif (b==c)then (⟨cs⟩,1)
 else bif decide (Fb (dY b 0 (partsOf cs))<0)then (⟨cs⟩,2)
 else bif (decide (((dY c 0 (partsOf cs)).length:Int)>0)||(partsOf cs).any (Hg c))then (⟨cs⟩,3)
 else bif (partsOf cs).any (Dt b c)then (⟨cs⟩,4)
 else abk cs (qU d b c 0 (partsOf cs) (yg c cs (Fb (dY b 0 (partsOf cs))).toNat) false)
theorem ajz(cs:List aj)(a:cs.length<=1048576):iQ ⟨cs⟩=some ⟨cs⟩:=by
 unfold iQ;rw[gdp (by simp;omega)];rfl
theorem aoz(cs:List aj)(a:cs.length<=1048576):jK ⟨cs⟩=some ⟨cs⟩:=by
 unfold jK;rw[gdp (by simp;omega)];rfl
theorem Yg(cs:List aj)(b c:Str)(d:Bool)(l:cs.length<=1048576)(h:∀c,c∈cs->yS c)(w:b.length<=34359738368)(y:c.length<=34359738368):Em ⟨cs⟩ b c d=some (Gj cs b c d):=by
 obtain⟨C,_,z,E,O⟩:=aag cs l h;have hv:=aa6 cs l h;have vb:=(Dz b w).1;have vc:=(Dz c y).1;unfold Em Gj;simp only[C,hv,vb,vc,zA];cases e:wL cs with
 | false=>rfl
 | true=>
  have hlen:=E e;obtain⟨P,f⟩:=Au h e;cases fH b with
  | false=>rfl
  | true=>
   cases fH c with
   | false=>rfl
   | true=>
    cases (b==c)with
    | true=>rfl
    | false=>
     have F:=ak8 (partsOf cs) b (by omega);have G:=aff (partsOf cs) c (by omega);simp only[aL,aa,F,G,zA];cases hneg:decide (Fb (dY b 0 (partsOf cs))<0)with
     | true=>rfl
     | false=>
      obtain⟨k,H,I⟩:=aiu (partsOf cs) b (by have:=of_decide_eq_false hneg;omega);rw[H,az];simp only[aa];generalize J:partsOf cs=ps at *;generalize Q:decide (((dY c 0 ps).length:Int)>0)=D;refine xW (dL (fun (s:Bool×Bool) (i:Nat)=>((b,c,d,cs,[],ps,(k:Int),s.1,s.2,ps,(ps.length:Int),(i:Int)):Str×Str×Bool×(List aj)×(List aj)×(List bG)×Int×Bool×Bool×(List bG)×Int×Int)) ps (fun i s=>s.1=(D||(ps.take i).any (Hg c))/\s.2=(ps.take i).any (Dt b c)) _ (fun i p s a m=>.inl ?_) (fun s m=>?_) (D,false) ⟨by simp,by simp⟩)
      ·obtain⟨g,j⟩:=m;have o:=z p (zG a);obtain⟨K,R,S⟩:=DC p o;obtain⟨q,L,M,T⟩:=aaP p o c;refine⟨(s.1||Hg c p,s.2||Dt b c p),?_,by rw[EM _ a,g,Bool.or_assoc],by rw[EM _ a,j]⟩;simp only[dD a,ac,aA,a,zA,sU,aQ,K,L,M,dI a (by omega)];unfold Dt Hg;cases t:(p.kind==2)with
       | false=>cases s.1<;>cases s.2<;>simp
       | true=>
        have u:=(aj1 p o (eq_of_beq t) b c).1;cases s.1<;>cases s.2<;>simp[u]
      ·obtain⟨g,j⟩:=m;rw[List.take_length]at g j;have v:k<cs.length:=by omega
       have A:=zF v;have hver:∀x,x∈cs->1<=x.version/\x.version<=999:=fun x a=>⟨(f x a).2.v0,(f x a).2.v9⟩
       have B:=aoL d b c w y cs ps z (by omega) (yg c cs k) (by rw[D5,hlen]) (Kr hver);have N:yg c cs k=cs.set k ⟨cs[k].id,cs[k].version,cs[k].kind,c,cs[k].code,cs[k].n⟩:=by unfold yg;rw[A]
       refine⟨_,?_,rfl⟩;simp only[bY,aa,g,j,ajz cs l,zA,aA,A,az];cases (D||ps.any (Hg c))with
       | true=>rfl
       | false=>
        cases ps.any (Dt b c)with
        | true=>rfl
        | false=>
         simp only[aa];rw[N]at B ⊢;show (ak ais (b,c,d,cs,[],cs.set k ⟨cs[k].id,cs[k].version,cs[k].kind,c,cs[k].code,cs[k].n⟩,false,ps,(ps.length:Int),0)).bind (fun r=>some (Sum.inr r))=_
         rw[B];rfl
theorem agl(ps:List bG)(b c:Str)(m:ps.length<=1048576)(h:∀p,p∈ps->qW p):DR ps b c=some (bif decide (Fb (dY b 0 ps)<0)then 2 else bif (decide (((dY c 0 ps).length:Int)>0)||ps.any (Hg c))then 3 else bif ps.any (Dt b c)then 4 else 0):=by
 unfold DR;rw[aeJ ps b m,zA];cases decide (Fb (dY b 0 ps)<0)with
 | true=>rfl
 | false=>
  simp only[aa];have hd:=aeK ps c m;refine xW (dL (fun (s:Bool) (i:Nat)=>((ps,b,c,(bif s then 4 else 0),(i:Int)):(List bG)×Str×Str×Int×Int)) ps (fun i s=>(ps.take i).any (Hg c)=false/\s=(ps.take i).any (Dt b c)) _ (fun i p s a g=>?_) (fun s g=>?_) false ⟨by simp,by simp⟩)
  ·obtain⟨e,f⟩:=g;have j:=h p (zG a);obtain⟨q,n,r⟩:=DC p j;have o:=ajC p j c;simp only[dD a,ac,aA,a,zA,sU,aQ,n,o,dI a (by omega)];cases hh:NH p c with
   | true=>
    refine .inr ⟨3,rfl,?_⟩;have:ps.any (Hg c)=true:=List.any_eq_true.2 ⟨p,zG a,hh⟩;rw[this,Bool.or_true];rfl
   | false=>
    refine .inl ⟨s||Dt b c p,?_,by rw[EM _ a,e];exact hh,by rw[EM _ a,f]⟩;unfold Dt;cases k:(p.kind==2)with
    | false=>cases s<;>simp
    | true=>
     have d:=(aj1 p j (eq_of_beq k) b c).2;cases l:aht p b c<;>rw[l]at d<;>cases s<;>simp[d]
  ·obtain⟨e,f⟩:=g;rw[List.take_length]at e f;refine⟨_,?_,rfl⟩;simp only[bY,aa,hd,zA,e,f,Bool.or_false];cases decide (((dY c 0 ps).length:Int)>0)<;>cases ps.any (Dt b c)<;>rfl
theorem acG(cs:List aj)(b c:Str)(e:cs.length<=1048576)(h:∀c,c∈cs->yS c)(g:b.length<=34359738368)(i:c.length<=34359738368):kJ ⟨cs⟩ b c=some (Gj cs b c true):=by
 obtain⟨_,p,j,q,z⟩:=aag cs e h;have hv:=ZY cs e h;have vb:=(Dz b g).2;have vc:=(Dz c i).2;unfold kJ Gj;simp only[aoz cs e,hv,vb,vc,zA];cases a:wL cs with
 | false=>rfl
 | true=>
  have hlen:=q a;obtain⟨A,d⟩:=Au h a;cases fH b with
  | false=>rfl
  | true=>
   cases fH c with
   | false=>rfl
   | true=>
    cases (b==c)with
    | true=>rfl
    | false=>
     have r:=aeJ (partsOf cs) b (by omega);have s:=agl (partsOf cs) b c (by omega) j;simp only[aL,aa,p,r,s,zA];cases hneg:decide (Fb (dY b 0 (partsOf cs))<0)with
     | true=>rfl
     | false=>
      obtain⟨k,t,u⟩:=aiu (partsOf cs) b (by have:=of_decide_eq_false hneg;omega);rw[t,az];generalize v:partsOf cs=ps at *;cases (decide (((dY c 0 ps).length:Int)>0)||ps.any (Hg c))with
      | true=>rfl
      | false=>
       cases ps.any (Dt b c)with
       | true=>rfl
       | false=>
        have f:k<cs.length:=by omega
        have l:=zF f;have hver:∀x,x∈cs->1<=x.version/\x.version<=999:=fun x m=>⟨(d x m).2.v0,(d x m).2.v9⟩
        have o:=aox b c g i cs e ps j (by omega) (yg c cs k) (by rw[D5,hlen]) (Kr hver);have w:yg c cs k=cs.set k ⟨cs[k].id,cs[k].version,cs[k].kind,c,cs[k].code,cs[k].n⟩:=by unfold yg;rw[l]
        have y:((0:Int) != 0)=false:=rfl;simp only[aa,y,aA,l,az,zA];rw[w]at o ⊢;exact o
theorem ajH{cs:List aj}{n:Nat}{r:Option (List aj×Bool)}(h:cs.length<=n)(a:∀x,r=some x->x.1.length<=n):(abk cs r).1.cells.length<=n:=by
 unfold abk;split
 ·exact h
 ·exact h
 ·exact a _ rfl
theorem Ee(d:Bool)(b c:Str):∀(ps:List bG) (i:Nat) (cs:List aj) (full:Bool) (x:List aj×Bool),qU d b c i ps cs full=some x->x.1.length=cs.length
 | [],i,cs,full,x,h=>by cases h;rfl
 | p::r,i,cs,full,x,h=>by
  unfold qU at h;split at h
  ·split at h
   ·split at h
    ·have:=Ee d b c r (i+1) _ _ x h;rw[List.length_set]at this;exact this
    ·cases h
   ·cases h
  ·exact Ee d b c r (i+1) cs full x h
theorem Z8(cs:List aj)(b c:Str)(d:Bool):(Gj cs b c d).1.cells.length<=cs.length:=by
 have bb:∀(x:Bool) (p q:au×Int),p.1.cells.length<=cs.length->q.1.cells.length<=cs.length->(bif x then p else q).1.cells.length<=cs.length:=by
  intro x p q a e;cases x
  ·exact e
  ·exact a
 have self:∀n:Int,((⟨cs⟩,n):au×Int).1.cells.length<=cs.length:=fun n=>aw _
 unfold Gj;refine bb _ _ _ (self _) (bb _ _ _ (self _) (bb _ _ _ (self _) (bb _ _ _ (self _) (bb _ _ _ (self _) (bb _ _ _ (self _) (bb _ _ _ (self _) ?_))))));refine ajH (aw _) fun x f=>?_
 have:=Ee _ _ _ _ _ _ _ _ f;rw[this,D5];exact aw _
theorem Xy(cs:List aj)(b c:Str)(a:cs.length<=1048576)(h:∀c,c∈cs->yS c)(d:b.length<=34359738368)(f:c.length<=34359738368):ny ⟨cs⟩ b c=some (Gj cs b c true)/\kJ ⟨cs⟩ b c=some (Gj cs b c true):=by
 refine⟨?_,acG cs b c a h d f⟩;have hlen:=Z8 cs b c true;unfold ny;rw[Yg cs b c true a h d f,zA];have:=ajz (Gj cs b c true).1.cells (by omega);have e:(⟨(Gj cs b c true).1.cells⟩:au)=(Gj cs b c true).1:=by cases (Gj cs b c true).1;rfl
 rw[e]at this;rw[this];rfl
end
end Go.Proofs.YtapgeemjgckgaaaGreatDoor
/- Notebooks that fit. -/
namespace Go.Proofs.YtapgeemjgckgaaaGreatDoor
open Go.Abs Go.Proofs
abbrev Za(cs:List aj):Prop:=∀x,x∈cs->Fit B20 (.base .cell) x
theorem V6{cs:List aj}(h:Fit B20 (.base .notebook) ⟨cs⟩):Za cs/\cs.length<=1048576:=by
 rw[gm]at h;have b:(cs.length:Int)<=1048576:=dN h;exact⟨fun x a=>h.cO x a,by omega⟩
theorem ag6{cs:List aj}(h:Za cs)(a:cs.length<=1048576):Fit B20 (.base .notebook) ⟨cs⟩:=by
 rw[gm];exact jR (by show (cs.length:Int)<=_;omega) h
theorem abQ{cs:List aj}(h:Za cs):∀x,x∈cs->yS x:=by
 intro x a;have:=h x a;rw[yL]at this;have b:=alE this.2.2.2.1;have c:=alE this.2.2.2.2.1;exact⟨by omega,by omega⟩
end Go.Proofs.YtapgeemjgckgaaaGreatDoor
/- Plain law: RenameVariable. -/
namespace Go.Proofs.YtapgeemjgckgaaaGreatDoor
open Go.Abs Go.Proofs
theorem wfS{n:Int}(a:-1000000000<=n)(b:n<=1000000000):(Lit.int .i64 n).wf=true:=by
 unfold Lit.wf;simp[IntKind.bits,IntKind.signed,IntKind.min,IntKind.max];omega
theorem setC{cs:List aj}(h:Za cs)(k:Nat){y:aj}(b:Fit B20 (.base .cell) y):Za (cs.set k y):=by
 intro x a;rcases List.mem_or_eq_of_mem_set a with a | rfl
 ·exact h x a
 ·exact b
theorem ahD{x:aj}(h:Fit B20 (.base .cell) x)(d:Bool){t:Str}(a:t.length<=120)(b:1<=x.version)(c:x.version<=999):Fit B20 (.base .cell) (ahE d t x):=by
 rw[yL]at h ⊢;refine⟨h.1,.int .i64 _ (wfS ?_ ?_),h.2.2.1,h.2.2.2.1,vW (by show (t.length:Int)<=_;omega),h.2.2.2.2.2⟩
 ·show -1000000000<=(if d=true then x.version+1 else x.version)
  split<;>omega
 ·show (if d=true then x.version+1 else x.version)<=_
  split<;>omega
theorem KC(d:Bool)(b c:Str):∀(ps:List bG) (i:Nat) (cs:List aj) (full:Bool) (x:List aj×Bool),Za cs->(∀j y,i<=j->cs[j]?=some y->1<=y.version/\y.version<=999)->qU d b c i ps cs full=some x->Za x.1
 | [],i,cs,full,x,a,_,h=>by cases h;exact a
 | p::r,i,cs,full,x,a,hv,h=>by
  unfold qU at h;split at h
  ·split at h
   ·rename_i g;split at h
    ·rename_i y e;refine KC d b c r (i+1) _ _ x (setC a i (ahD (a y (zG e)) d g (hv i y (aw _) e).1 (hv i y (aw _) e).2)) (fun j z k f=>?_) h;rw[List.getElem?_set_ne (by omega)]at f;exact hv j z (by omega) f
    ·cases h
   ·cases h
  ·exact KC d b c r (i+1) cs full x a (fun j y k e=>hv j y (by omega) e) h
theorem agE{c:Str}(b:c.length<=1048576){cs:List aj}(h:Za cs)(k:Nat):Za (yg c cs k):=by
 unfold yg;split
 ·rename_i x a;refine setC h k ?_;have:=h x (zG a);rw[yL]at this ⊢;exact⟨this.1,this.2.1,this.2.2.1,vW (by show (c.length:Int)<=_;omega),this.2.2.2.2.1,this.2.2.2.2.2⟩
 ·exact h
theorem aiy(cs:List aj)(b c:Str)(d:Bool)(h:Fit B20 (.base .notebook) ⟨cs⟩)(l:c.length<=1048576):Fit B20 (.base .notebook) (Gj cs b c d).1:=by
 obtain⟨f,s⟩:=V6 h;have bb:∀(x:Bool) (p q:au×Int),(x=true->Fit B20 (.base .notebook) p.1)->(x=false->Fit B20 (.base .notebook) q.1)->Fit B20 (.base .notebook) (bif x then p else q).1:=by
  intro x p q m n;cases x
  ·exact n rfl
  ·exact m rfl
 unfold Gj;refine bb _ _ _ (fun _=>h) fun hv=>?_
 have a:wL cs=true:=by simpa using hv
 refine bb _ _ _ (fun _=>h) fun _=>bb _ _ _ (fun _=>h) fun _=>bb _ _ _ (fun _=>h) fun _=>bb _ _ _ (fun _=>h) fun _=>bb _ _ _ (fun _=>h) fun _=>bb _ _ _ (fun _=>h) fun _=>?_
 have g:=Au (abQ f) a;have hver:∀x,x∈cs->1<=x.version/\x.version<=999:=fun x i=>⟨(g.2 x i).2.v0,(g.2 x i).2.v9⟩
 unfold abk;split
 ·exact h
 ·exact h
 ·rename_i out e;have o:=KC d b c _ 0 _ _ _ (agE l f _) (fun j y _ r=>Kr hver y (zG r)) e;have k:=Ee _ _ _ _ _ _ _ _ e;rw[D5]at k;exact ag6 o (by show out.length<=_;have t:out.length=cs.length:=k;omega)
end Go.Proofs.YtapgeemjgckgaaaGreatDoor
/- Plain law: RenameInEngine. -/
namespace Go.Proofs.YtapgeemjgckgaaaGreatDoor
open Go.Abs Go.Proofs
theorem WV(x:bM)(h:Fit B47 (.base .engine) x):SzK Ht (Fit B20 (.base .engine) x) x (20*x.notebook.cells.length+tC x.world+(lU x.tapes+18*x.tapes.length)+jg x.entries) 2:=by
 intro l v w;rw[jF]at h ⊢;obtain⟨j,k,m,n,o,p,q⟩:=h;unfold Ht;obtain⟨e,r,a⟩:=OX x.notebook j l (by omega) (by omega);rw[r,zA];rcases a with a | ⟨y,z,A,a⟩
 ·exact⟨-1,by simp only[a,decide_true,ac],.inl (by omega)⟩
 rw[ae (show ¬e<0 by omega),aa];obtain⟨f,s,b⟩:=aco x.world k e (by omega) (by omega);rw[s,zA];rcases b with b | ⟨B,C,D,b⟩
 ·exact⟨-1,by simp only[b,decide_true,ac],.inl (by omega)⟩
 rw[ae (show ¬f<0 by omega),aa];obtain⟨g,t,c⟩:=Zn x.tapes m f (by omega) (by omega);rw[t,zA];rcases c with c | ⟨E,F,G,c⟩
 ·exact⟨-1,by simp only[c,decide_true,ac],.inl (by omega)⟩
 rw[ae (show ¬g<0 by omega),aa];obtain⟨i,u,d⟩:=Zr x.entries n g (by omega) (by omega);rw[u,zA];rcases d with d | ⟨H,I,J,d⟩
 ·exact⟨-1,by simp only[d,decide_true,ac],.inl (by omega)⟩
 rw[ae (show ¬i<0 by omega),aa];exact⟨i,rfl,.inr ⟨by omega,by omega,by omega,a,b,c,d,o.fM,p.fM,q.fM⟩⟩
theorem PZ(a:bM)(b:Int)(h:a.entries.length<lim):vS a b=some (eF (fun c=>c.cell==b) a.entries 0):=by
 refine oW (fun i=>((b,a.notebook.cells,a.world.clock,a.world.seed,a.world.files,a.tapes,a.entries,a.next,a.limit,a.work,(i:Int)):Int×(List aj)×Int×Int×(List dh)×(List aB)×(List aO)×Int×Int×Int×Int)) a.entries (fun c=>c.cell==b) (fun i x e=>?_) ?_
 ·obtain⟨d,rfl⟩:=zC.1 e;simp only[Ed d,ac,aA,e,zA,G9 d h]
 ·simp only[fE,aa]
theorem Rn(a:bM)(b:Int)(h:a.entries.length<lim):wC a b=some (eF (fun c=>c.cell==b) a.entries 0):=by
 refine oW (fun i=>((b,a.entries,(a.entries.length:Int),(i:Int)):Int×List aO×Int×Int)) a.entries (fun c=>c.cell==b) (fun i x e=>?_) ?_
 ·obtain⟨d,rfl⟩:=zC.1 e;simp only[Ed d,ac,aA,e,zA,G9 d h]
 ·simp only[fE,aa]
def afu(v:Int)(x:aO):aO:=aO.mk x.cell v x.stamp x.inputs x.value x.has
theorem ahz{x:aO}{v:Int}(h:Fit B20 (.base .entry) x)(hv:aT B20 (.int .i64 v)):Fit B20 (.base .entry) (afu v x):=by
 rw[tu]at h ⊢;exact⟨h.1,hv,h.2.2⟩
theorem aeE{α:Type}(f:α->Nat):∀(l:List α) (n:Nat) (x y:α),l[n]?=some x->f y=f x->((l.set n y).map f).sum=(l.map f).sum
 | [],n,x,y,h,_=>by simp at h
 | z::l,0,x,y,h,e=>by
  have:z=x:=by simpa using h
  subst this;simp[e]
 | z::l,n+1,x,y,h,e=>by
  have:=aeE f l n x y (by simpa using h) e;simp only[List.set_cons_succ,List.map_cons,List.sum_cons,this]
theorem ah5{l:List aO}(h:aT B20 (.list (.base .entry) l)){n:Nat}{y:aO}(b:Fit B20 (.base .entry) y):aT B20 (.list (.base .entry) (l.set n y)):=by
 have:=dN h;refine jR (by rw[List.length_set];exact this) fun x a=>?_
 rcases List.mem_or_eq_of_mem_set a with a | rfl
 ·exact h.cO x a
 ·exact b
def ahx(N:Nat)(l:List aO):Prop:=aT B20 (.list (.base .entry) l)/\jg l<=N
theorem ajU{N:Nat}{l:List aO}(h:ahx N l){n:Nat}{x:aO}(a:l[n]?=some x){v:Int}(hv:aT B20 (.int .i64 v)):ahx N (l.set n (afu v x)):=by
 obtain⟨b,c⟩:=h;refine⟨ah5 b (ahz (b.cO x (zG a)) hv),?_⟩;have:jg (l.set n (afu v x))=jg l:=aeE kP l n x (afu v x) a rfl;omega
theorem Il{N:Nat}(a:bM)(b c:Str)(j:Fit B20 (.base .engine) a)(G:jg a.entries<=N)(hb:b.length<=1048576)(f:c.length<=1048576)(S:a.tapes.length+a.notebook.cells.length<=1048576) :
  ∃r,mY a b c=some r/\kL a b c=some r/\Fit B20 (.base .engine) r.1/\r.1.world=a.world/\jg r.1.entries<=N /\
   ∀C,2<=C->(∀t∈a.tapes,dF t<=C)->Jt 1048576 C r.1.tapes:=by
 have fa:=j;rw[jF]at fa;obtain⟨k,H,I,U,V,W,X⟩:=fa;obtain⟨Y,Z⟩:=V6 (cs:=a.notebook.cells) k;obtain⟨J,K⟩:=Xy a.notebook.cells b c Z (abQ Y) (by omega) (by omega);have m:=aiy a.notebook.cells b c true k f;have o:=Z8 a.notebook.cells b c true;have ea:(⟨a.notebook.cells⟩:au)=a.notebook:=rfl;rw[ea]at J K;unfold mY kL;rw[ZK a j,Rq a j];simp only[zA,J,K];generalize Gj a.notebook.cells b c true=w at *;obtain⟨B,code⟩:=w;simp only at m o ⊢;cases hcode:(code != 0)with
 | true=>exact⟨(a,code),rfl,rfl,j,rfl,G,fun C H f=>⟨I,by show a.tapes.length<=1048576;omega,f⟩⟩
 | false=>
  simp only[aa];obtain⟨T,t1,t2,L⟩:=Qa a.tapes a.notebook B I k m S;have hT:aT B20 (.list (.base .tape) T):=by
   obtain⟨C,p,hCt⟩:∃C,2<=C/\∀t∈a.tapes,dF t<=C:=by
    refine⟨2+(a.tapes.map dF).sum,by omega,?_⟩;have:∀(l:List aB) (t:aB),t∈l->dF t<=(l.map dF).sum:=by
     intro l;induction l with
     | nil=>intro t h;cases h
     | cons u l ih=>
      intro t h;simp only[List.map_cons,List.sum_cons];rcases ba.1 h with rfl | h
      ·omega
      ·have:=ih t h;omega
    intro t ht;have:=this a.tapes t ht;omega
   exact (L C p hCt).1
  have lA:(a.notebook.cells.length:Int)<=1048576:=by omega
  have lB:(B.cells.length:Int)<=1048576:=by omega
  obtain⟨v1,v2⟩:=qV a.notebook B lA lB;have fA:=k;rw[gm]at fA;have fB:=m;rw[gm]at fB;have kA:a.notebook.cells.length<lim:=jk lA;have kB:B.cells.length<lim:=jk lB;have hlen:=aei B.cells a.notebook.cells [];have hmem:∀v,v∈a.notebook.cells.foldl (kG B.cells) []->(a.notebook.cells.find? fun c=>c.id==v).isSome=true/\(B.cells.find? fun c=>c.id==v).isSome=true:=by
   intro v hv;rcases aeh B.cells a.notebook.cells [] v hv with h | ⟨⟨c,f,rfl⟩,h⟩
   ·cases h
   ·exact⟨by rw[List.find?_isSome];exact⟨c,f,by simp⟩,h⟩
  simp only[t1,t2,v1,v2,zA];generalize hids:a.notebook.cells.foldl (kG B.cells) []=ids at *;simp only[List.length_nil,Nat.zero_add]at hlen;have wl:ids.length<4611686018427387904:=by omega
  have step:∀(i:Nat) (v:Int) (l:List aO),ids[i]?=some v->ahx N l ->
    (eF (fun c:aO=>c.cell==v) l 0 = -1)\/∃(n:Nat) (x:aO),eF (fun c:aO=>c.cell==v) l 0=(n:Int)/\l[n]?=some x/\ahx N (l.set n (afu (jI B.cells v) x)):=by
   intro i v l hv h;rcases oN (fun c:aO=>c.cell==v) l 0 with ⟨q,_⟩ | ⟨n,x,q,M,_,_⟩
   ·exact .inl q
   ·exact .inr ⟨n,x,by rw[q,Nat.zero_add],M,ajU h M (JB fB v)⟩
  let E (s:List aO):bM:=bM.mk B a.world T s a.next a.limit a.work;have fin:∀s,ahx N s->Fit B20 (.base .engine) (E s)/\(E s).world=a.world/\jg (E s).entries<=N/\∀C,2<=C->(∀t∈a.tapes,dF t<=C)->Jt 1048576 C (E s).tapes:=fun s O=>by
   refine⟨?_,rfl,O.2,L⟩;rw[jF];exact⟨m,H,hT,O.1,V,W,X⟩
  refine ads (σ:=List aO)
   (fun s i=>((a.notebook.cells,a.world.clock,a.world.seed,a.world.files,a.tapes,a.entries,a.next,a.limit,a.work,[],0,0,[],[],[],0,0,0,B.cells,a.world.clock,a.world.seed,a.world.files,T,s,a.next,a.limit,a.work,B.cells,ids,(i:Int)) :
    (List aj)×Int×Int×(List dh)×(List aB)×(List aO)×Int×Int×Int×(List aj)×Int×Int×(List dh)×(List aB)×(List aO)×Int×Int×Int×(List aj)×Int×Int×(List dh)×(List aB)×(List aO)×Int×Int×Int×(List aj)×(List Int)×Int))
   (fun s i=>((a.notebook.cells,a.world.clock,a.world.seed,a.world.files,a.tapes,a.entries,a.next,a.limit,a.work,[],0,0,[],[],[],0,0,0,a.notebook.cells,a.world.clock,a.world.seed,a.world.files,T,s,a.next,a.limit,a.work,B.cells,ids,(ids.length:Int),(i:Int)) :
    (List aj)×Int×Int×(List dh)×(List aB)×(List aO)×Int×Int×Int×(List aj)×Int×Int×(List dh)×(List aB)×(List aO)×Int×Int×Int×(List aj)×Int×Int×(List dh)×(List aB)×(List aO)×Int×Int×Int×(List aj)×(List Int)×Int×Int))
   ids (fun _ s=>ahx N s) _ (fun i v s hv d=>?_) (fun s d=>?_) a.entries ⟨U,G⟩
  ·obtain⟨P,Q⟩:=hmem v (zG hv);have sl:=dN d.1;have y:=dn hv wl;have z:ids[((i:Int)).toNat]?=some v:=by rw[az];exact hv
   have q1:∀e:bM,e.entries=s->vS e v=some (eF (fun c:aO=>c.cell==v) s 0):=fun e g=>by rw[PZ e v (by rw[g];exact jk sl),g]
   have q2:∀e:bM,e.entries=s->wC e v=some (eF (fun c:aO=>c.cell==v) s 0):=fun e g=>by rw[Rn e v (by rw[g];exact jk sl),g]
   have zsA:=oH (au.mk a.notebook.cells) v kA P;have zsB:=oH (au.mk B.cells) v kB Q;have ziA:=pW (au.mk a.notebook.cells) v kA P;have ziB:=pW (au.mk B.cells) v kB Q;simp only[dec_lt hv,ac,aA,hv,z,zA,q1,q2,zsA,zsB,ziA,ziB,y];rcases step i v s hv d with A | ⟨n,x,A,R,D⟩
   ·rw[A];exact⟨s,rfl,rfl,d⟩
   ·have F:s[((n:Int)).toNat]?=some x:=by rw[az];exact R
    rw[A,show decide ((n:Int)>=0)=true by simp];simp only[ac,aA,R,F,zA,az,bT];cases (x.version==jI a.notebook.cells v)with
    | false=>exact⟨s,rfl,rfl,d⟩
    | true=>exact⟨s.set n (afu (jI B.cells v) x),rfl,rfl,D⟩
  ·simp only[fE,aa];exact⟨(E s,0),rfl,rfl,fin s d⟩
theorem vG(a:bM)(b c:Str)(o:Fit B47 (.base .engine) a)(H:aT B47 (.str b))(I:aT B47 (.str c)):FnExactRenameInEngine a b c=some true:=by
 unfold FnExactRenameInEngine;by_cases f:(b.length:Int)>1048576
 ·rw[al f];rfl
 by_cases n:(c.length:Int)>1048576
 ·rw[ae f,al n];rfl
 rw[ae f,ae n,aa,aa];refine apa (WV a o) _ (by omega) (by omega) fun pa J K L d=>?_
 have h2a:2*a.tapes.length<=lU a.tapes:=by
  rw[Dp];generalize a.tapes=l;induction l with
  | nil=>simp
  | cons x xs ih=>
   simp only[List.map_cons,List.sum_cons,List.length_cons];have:2<=dF x:=by rw[wJ];omega
   omega
 obtain⟨w,p,hi,g,i,q,j⟩:=Il a b c pa (aw _) (by omega) (by omega) (by omega);have k:∀t∈a.tapes,dF t<=20971522:=by
  intro t r;have:∀(l:List aB) (t:aB),t∈l->dF t<=(l.map dF).sum:=by
   intro l;induction l with
   | nil=>intro t h;cases h
   | cons u l ih=>
    intro t h;simp only[List.map_cons,List.sum_cons];rcases ba.1 h with rfl | h
    ·omega
    ·have:=ih t h;omega
  have:=this a.tapes t r;rw[<- Dp]at this;omega
 have s:=aiz (j 20971522 (by omega) k);have oa:=VA (pa.mono ajc);have ow:=VA (g.mono ajc);have fa:=pa;rw[jF]at fa;have fw:=g;rw[jF]at fw;obtain⟨_,v⟩:=Iw (fa.1.mono ajc);obtain⟨_,y⟩:=Iw (fw.1.mono ajc);have na:(jh a:Int)<=300000000:=by
  unfold jh;unfold tC at d;unfold iW;have n1':dG a.notebook<=_:=v;omega
 have nw:(jh w.1:Int)<=23990232555520:=by
  unfold jh;unfold tC at d;unfold iW;rw[i];have n2':dG w.1.notebook<=_:=y;omega
 obtain⟨M,z,_⟩:=Fj a oa 1 (by omega) (by omega);obtain⟨e,A,B,C,D,E,F,G⟩:=Fj w.1 ow 1 (by omega) (by omega);have m:bM.mk e.notebook (dJ.mk w.1.world.clock w.1.world.seed e.world.files) e.tapes e.entries w.1.next w.1.limit w.1.work=e:=by rw[<- C,<- D,<- E,<- F,<- G]
 simp only[Zk a pa,p,hi,Nb a pa,Nb w.1 g,z,A,B,m,zA,aL,aa,
  ae (show ¬(1+(jh a:Nat):Int)<0 by omega),ae (show ¬(1+(jh w.1:Nat):Int)<0 by omega),iZ]
end Go.Proofs.YtapgeemjgckgaaaGreatDoor
/- Functions of the library, as the evaluator's contracts. -/
namespace Go.Abs
open Go.RowKit Go.Sort Go.Proofs Go.Shelf
theorem below_grow(w:World)(k:Nat)(os:Array Obj):Below w.heap.size w (grow (w.drewN k) os):=
 ⟨rfl,rfl,rfl,by simp[grow],fun i hi=>by
  show (w.heap++os)[i]?=_
  rw[Array.getElem?_append_left hi]⟩
theorem J7{B:Nat}{w':World}{S:Nat->Nat->Prop}(s:Str):Dv B w' S true [⟨false,.base .str⟩] s (.string ⟨s.toArray⟩):=
 ⟨[_],rfl,fun _ _=>False,⟨Ow.str (w:=w') (S:=fun _ _=>False) (deep:=true) ⟨s.toArray⟩ _,trivial⟩,fun _ _ h=>h.elim,fun _ _ _ h=>h.elim⟩
theorem agn{B:Nat}{w':World}{S:Nat->Nat->Prop}(n:Int):Dv B w' S true [⟨false,.base .int⟩] n (.int .i64 n):=
 ⟨[_],rfl,fun _ _=>False,⟨.int _ _ _,trivial⟩,fun _ _ h=>h.elim,fun _ _ _ h=>h.elim⟩
theorem P9{B:Nat}{w':World}{S:Nat->Nat->Prop}(b:Bool):Dv B w' S true [⟨false,.base .bool⟩] b (.bool b):=
 ⟨[_],rfl,fun _ _=>False,⟨.bool _ _,trivial⟩,fun _ _ h=>h.elim,fun _ _ _ h=>h.elim⟩
theorem TU{B:Nat}{w':World}{S:Nat->Nat->Prop}(n:Int)(b:Bool):Dv B w' S true [⟨false,.base .int⟩,⟨false,.base .bool⟩] (n,b) (.tuple #[.int .i64 n,.bool b]):=
 ⟨[.int .i64 n,.bool b],rfl,fun _ _=>False,⟨⟨.int _ _ _,trivial⟩,⟨.bool _ _,trivial⟩⟩,fun _ _ h=>h.elim,fun _ _ _ h=>h.elim⟩
theorem lY{w:World}{S:Nat->Nat->Prop}{s:Str}{u:Value}(h:Rep w S (.str s) u):u=.string ⟨s.toArray⟩:=by
 generalize hd:D.str s=d at h;cases h<;>cases hd
 rfl
theorem vV{w:World}{S:Nat->Nat->Prop}{k:IntKind}{n:Int}{u:Value}(h:Rep w S (.int k n) u):u=.int k n:=by
 generalize hd:D.int k n=d at h;cases h<;>cases hd
 rfl
theorem adF {P : Program} {ρ : Ren} (L : LaysM.n171 P ρ) (htab : ∀ w, amb w -> Go.Lib.TabIs P w "internal/strconv.uint64pow10" .u64 Go.Lib.pow10Tab) :
  Sound P { fid:=ρ.f 171,ps:=[⟨false,.base .int⟩],rs:=[⟨false,.base .str⟩],ex:=true,fn:=fun x=>Eg x }:=by
 intro w S args x y h ha hr hS;rcases args with _ | ⟨u,_ | ⟨u2,r⟩⟩
 ·exact hr.elim
 ·have hu:=vV (show Rep w S (.int .i64 x) u from hr.1);subst hu;have h:Eg x=some y:=h;unfold Eg at h;split at h
  case isFalse=>cases h
  rename_i hx;cases h
  refine (Any.strconv_Itoa L x hx.1 hx.2 w (htab w ha)).mono ?_;rintro e w' ⟨rfl,k,os,rfl⟩;exact⟨_,rfl,below_grow w k os,J7 _⟩
 ·exact hr.elim
theorem Zu{P:Program}{ρ:Ren}(L:Lays.n146 P ρ)(p:(P.info? (ρ.t 9)).map (fun i=>(i.zero,i.size,i.bytes))=some (some (.string ByteArray.empty),1,16))(hmax:∀w,amb w->∃m,w.cell? ⟨(ρ.g 1),0,none⟩=some (.int .i64 m)) :
  Sound P { fid:=ρ.f 146,ps:=[⟨false,.base .str⟩,⟨false,.base .str⟩],rs:=[⟨false,.list (.base .str)⟩],ex:=true,fn:=fun x=>kK x.1 x.2 }:=by
 intro w S args x y h E a M;rcases args with _ | ⟨u,_ | ⟨F,_ | ⟨N,r⟩⟩⟩
 ·exact a.elim
 ·exact a.2.elim
 ·have G:=lY (show Rep w S (.str x.1) u from a.1.1);have q:=lY (show Rep w S (.str x.2) F from a.2.1);subst G;subst q;have h:kK x.1 x.2=some y:=h;unfold kK at h;split at h
  case isFalse=>cases h
  rename_i v;obtain⟨m,H⟩:=hmax w E;have B:(⟨x.1.toArray⟩:ByteArray).size=x.1.length:=by show x.1.toArray.size=_;simp
  have I:(⟨x.2.toArray⟩:ByteArray).size=x.2.length:=by show x.2.toArray.size=_;simp
  have b:1<=(⟨x.2.toArray⟩:ByteArray).size:=by rw[I];exact v.2
  have o:=Lib.splitB_all ⟨x.2.toArray⟩ b 0 _ ⟨x.1.toArray⟩ rfl;have k:=Lib.countB_le ⟨x.2.toArray⟩ b (⟨x.1.toArray⟩:ByteArray).size ⟨x.1.toArray⟩ (aw _);have hd:=Lib.splitB_data ⟨x.2.toArray⟩ 0 (Lib.countB ⟨x.1.toArray⟩ ⟨x.2.toArray⟩) ⟨x.1.toArray⟩;have C:(Lib.splitB ⟨x.2.toArray⟩ 0 (Lib.countB ⟨x.1.toArray⟩ ⟨x.2.toArray⟩) ⟨x.1.toArray⟩).map (·.data.toList)=y:=by
   cases h
   rw[hd];rfl
  refine (Any.strings_Split L p ⟨x.1.toArray⟩ ⟨x.2.toArray⟩ m w (by rw[B];exact v.1) H b).mono ?_;generalize Lib.splitB ⟨x.2.toArray⟩ 0 (Lib.countB ⟨x.1.toArray⟩ ⟨x.2.toArray⟩) ⟨x.1.toArray⟩=bs at o C;generalize Lib.countB ⟨x.1.toArray⟩ ⟨x.2.toArray⟩=n at o k;subst C;rintro e w' ⟨rfl,rfl⟩;have z:(w.alloc (.cells (bs.map Value.string).toArray (ρ.t 9))).heap.size=w.heap.size+1:=Array.size_push _;refine⟨_,rfl,(Below.refl _ _).alloc (aw _) _,[_],rfl,fun i c=>i=0/\c=w.heap.size,⟨?_,trivial⟩,fun i c J=>by rw[J.2,z];omega,fun i i' c b K=>b.1.trans K.1.symm⟩
  ·have D:(bs.map (·.data.toList)).length=n+1:=by rw[List.length_map,o]
   have key:=Ow.list (w:=w.alloc (.cells (bs.map Value.string).toArray (ρ.t 9))) (S:=fun _ _=>False) (deep:=true) (.base .str) (bs.map (·.data.toList)) w.heap.size (n+1) (bs.map Value.string).toArray (ρ.t 9) (fun i _=>.string (bs[i]!)) (fun _ _ _=>False) (fun c=>0=0/\c=w.heap.size)
    (Array.getElem?_push_size) (by rw[D];exact aw _) (by rw[B]at k;have:=v.1;unfold maxLen;omega) (by show (bs.map Value.string).toArray.size=(n+1)*1;simp[o]) ⟨rfl,rfl⟩
    (fun i s j d l hd=>?_) (fun i s j d l hd=>?_) (fun _ _ _ h=>h.elim) (fun _ _ _ _ _ h=>h.elim)
   ·rw[D]at key;exact key
   ·cases j with
    | succ j=>simp[Ty.cells,Base.cells]at hd
    | zero=>
     have e:i*(Ty.base .str).size+0=i:=by show i*1+0=i;omega
     have hi:i<bs.length:=by
      have:=(zC.1 l).1;simpa using this
     rw[e];simp[hi]
   ·cases j with
    | succ j=>simp[Ty.cells,Base.cells]at hd
    | zero=>
     simp only[Ty.cells,Base.cells,List.getElem?_cons_zero,zD]at hd;subst hd;have hi:i<bs.length:=by
      have:=(zC.1 l).1;simpa using this
     have A:bs[i].data.toList=s:=by
      rw[List.getElem?_map,zF hi]at l;simpa using l
     rw[getElem!_pos bs i hi,<- A];exact Ow.str _ _
 ·exact a.2.elim
theorem NG{P:Program}{ρ:Ren}(L:Lays.n99 P ρ) :
  Sound P { fid:=ρ.f 99,ps:=[⟨false,.base .str⟩,⟨false,.base .str⟩],rs:=[⟨false,.base .bool⟩],ex:=true,fn:=fun x=>jl x.1 x.2 }:=by
 intro w S args x y h g a i;rcases args with _ | ⟨u,_ | ⟨c,_ | ⟨j,r⟩⟩⟩
 ·exact a.elim
 ·exact a.2.elim
 ·have d:=lY (show Rep w S (.str x.1) u from a.1.1);have b:=lY (show Rep w S (.str x.2) c from a.2.1);subst d;subst b;have h:some (Go.Lib.hasPrefix x.1 x.2)=some y:=h;cases h
  refine (Any.strings_HasPrefix L ⟨x.1.toArray⟩ ⟨x.2.toArray⟩ w).mono ?_;rintro e w' ⟨rfl,rfl⟩;exact⟨_,rfl,Below.refl _ _,P9 _⟩
 ·exact a.2.elim
theorem Nv{P:Program}{ρ:Ren}(L:Lays.n137 P ρ) :
  Sound P { fid:=ρ.f 137,ps:=[⟨false,.base .str⟩,⟨false,.base .u8⟩],rs:=[⟨false,.base .int⟩],ex:=true,fn:=fun x=>eu x.1 x.2 }:=by
 intro w S args x y h g a i;rcases args with _ | ⟨u,_ | ⟨c,_ | ⟨j,r⟩⟩⟩
 ·exact a.elim
 ·exact a.2.elim
 ·have d:=lY (show Rep w S (.str x.1) u from a.1.1);have b:=vV (show Rep w S (.int .u8 x.2) c from a.2.1);subst d;subst b;have h:some (Go.Lib.indexByte x.1 (Int.toNat x.2).toUInt8)=some y:=h;cases h
  refine (Any.strings_IndexByte L ⟨x.1.toArray⟩ x.2 w).mono ?_;rintro e w' ⟨rfl,rfl⟩;exact⟨_,rfl,Below.refl _ _,agn _⟩
 ·exact a.2.elim
theorem VE(xs:List Str):(xs.map fun s=>(⟨s.toArray⟩:ByteArray)).map (·.data.toList)=xs:=by
 induction xs with
 | nil=>rfl
 | cons x r ih=>simpa using ih
theorem adE{P:Program}{ρ:Ren}(L:Lays.n156 P ρ)(X:Builder.Extra P ρ) :
  Sound P { fid:=ρ.f 156,ps:=[⟨false,.list (.base .str)⟩,⟨false,.base .str⟩],rs:=[⟨false,.base .str⟩],ex:=true,fn:=fun x=>Ef x.1 x.2 }:=by
 intro w S args x y h I g p;rcases args with _ | ⟨u,_ | ⟨A,_ | ⟨J,r⟩⟩⟩
 ·exact g.elim
 ·exact g.2.elim
 ·have l:=lY (show Rep w S (.str x.2) A from g.2.1);subst l;have i:Rep w S (.list (.base .str) x.1) u:=g.1.1;obtain⟨xs,sep⟩:=x;have i:Rep w S (.list (.base .str) xs) u:=i;have h:Ef xs sep=some y:=h;unfold Ef at h;obtain⟨_,B,h⟩:=zB.1 h;obtain⟨_,C,h⟩:=zB.1 h;cases h
  have K:=jb B;have M:=jb C;have none':∀(a:Option Addr) (c:Nat),xs=[]->Calls P (ρ.f 156) #[.slice a 0 c,.string ⟨sep.toArray⟩] w fun e w'=>∃v,e=.returned v/\Below w.heap.size w w'/\Dv w.heap.size w' S true [⟨false,.base .str⟩] (Go.Lib.join xs sep) v:=by
   rintro a c rfl;refine (Any.strings_Join_none L X a c ⟨sep.toArray⟩ w).mono ?_;rintro e w' ⟨rfl,rfl⟩;exact⟨_,rfl,Below.refl _ _,J7 _⟩
  generalize hd:D.list (.base .str) xs=d at i;cases i with
  | int=>cases hd
  | bool=>cases hd
  | str=>cases hd
  | nil=>cases hd;exact none' _ _ rfl
  | emp=>cases hd;exact none' _ _ rfl
  | list t xs' b off cap vs hcap E m=>
   cases hd
   by_cases n:xs=[]
   ·subst n;exact none' _ _ rfl
   have hlen:(xs.map fun s=>(⟨s.toArray⟩:ByteArray)).length=xs.length:=by simp
   have hcell:∀(j:Nat) (z:ByteArray),(xs.map fun s=>(⟨s.toArray⟩:ByteArray))[j]?=some z->w.cell? ⟨b,off+j,none⟩=some (.string z)/\b<w.heap.size:=by
    intro j z k;rw[List.getElem?_map,Option.map_eq_some_iff]at k;obtain⟨s,o,rfl⟩:=k;have q:=E j s 0 (.str s) o rfl;have F:=lY (m j s 0 (.str s) o rfl);rw[F]at q;have e:off+(j*(Ty.base .str).size+0)=off+j:=by show off+(j*1+0)=_;omega
    rw[e]at q;exact⟨q.1,p _ _ q.2⟩
   have G:b<w.heap.size:=by
    obtain⟨s,r,rfl⟩:=List.exists_cons_of_ne_nil n;exact (hcell 0 _ rfl).2
   have:=Any.strings_Join L X b off cap (xs.map fun s=>(⟨s.toArray⟩:ByteArray)) ⟨sep.toArray⟩ w (fun j z k=>(hcell j z k).1) G (by rw[hlen];omega) (by rw[hlen];exact hcap)
    (by rw[VE];show (Go.Lib.join xs sep).length<=_;omega)
   rw[hlen,VE]at this;refine this.mono ?_;rintro e w' ⟨rfl,H⟩;exact⟨_,rfl,H,J7 _⟩
 ·exact g.2.elim
theorem aoC{w:World}{S:Nat->Nat->Prop}{deep:Bool}{s:Str}{u:Value}{fp:Nat->Prop}(h:Ow w S deep (.str s) u fp):u=.string ⟨s.toArray⟩:=by
 generalize hd:D.str s=d at h;cases h with
 | int=>cases hd
 | bool=>cases hd
 | str v=>cases hd;rfl
 | nil=>cases hd
 | ro d v fp _ a=>subst hd;exact lY a
 | list=>cases hd
set_option maxHeartbeats 1000000 in
theorem JM{P:Program}{ρ:Ren}(L:Lays.n192 P ρ)(w:World)(S:Nat->Nat->Prop)(deep:Bool)(u:Value)(xs ys:List Str)(fp:Nat->Prop)(h:iV xs=some ys)
  (N:OwT w S deep true (.base .str) xs u fp) (A:∀c,fp c->c<w.heap.size) (X:∀b o,S b o->b<w.heap.size) :
  Calls P (ρ.f 192) #[u] w fun e w'=>e=.returned (.tuple #[])/\Off (fun c=>fp c/\∀o,¬S c o) w w'/\OwT w' S deep true (.base .str) ys u fp:=by
 unfold iV at h;obtain⟨_,O,h⟩:=zB.1 h;have Y:=jb O;have h:=(aR h).symm;rcases N with ⟨rfl,Q⟩ | ⟨b,cap,arr,E',vs,fps,rfl,B,hcap,hmax,r,g,J,R,Z,hdis,C⟩
 ·subst Q;refine (Any.sort_Strings_none L none 0 w).mono ?_;rintro e w' ⟨rfl,rfl⟩;refine⟨rfl,⟨rfl,rfl,rfl,aw _,fun c J _=>rfl⟩,.inl ⟨rfl,?_⟩⟩;rw[h];simp
 have t:∀o,¬S b o:=fun o v=>by cases (C o v).1
 have hblt:b<w.heap.size:=A b g;have K:arr.size=cap:=by rw[r];exact Nat.mul_one _
 have D:∀(i:Nat) (s:Str),xs[i]?=some s->arr[i]?=some (.string ⟨s.toArray⟩):=by
  intro i s a;have q:=J i s 0 (.str s) a rfl;have T:=R i s 0 (.str s) a rfl;have e:i*(Ty.base .str).size+0=i:=by show i*1+0=i;omega
  rw[e]at q;have U:vs i 0=.string ⟨s.toArray⟩:=aoC T;rw[q,U]
 have V:Holds encStr w b 0 xs.toArray:=by
  intro j M;have E:j<xs.length:=by simpa using M
  have e:w.cell? ⟨b,0+j,none⟩=arr[j]?:=by simp[World.cell?,B]
  refine⟨?_,?_⟩
  ·rw[e,D j _ (zF E)];rw[getElem!_pos _ j M];simp[encStr]
  ·unfold World.frozen?;simp only[B];simp
 refine (Any.sort_Strings L b 0 cap xs w V hblt (by omega)).mono ?_;rintro e w' ⟨rfl,n,os,rfl⟩;have k:ys=xs.mergeSort fun x y=>decide (x<=y):=h
 have z:ys.length=xs.length:=by rw[k];exact List.length_mergeSort _
 have hheap:∀c,c<w.heap.size->c≠b->(grow (putRow encStr (Sort.ahead w n) b 0 (xs.mergeSort fun x y=>decide (x<=y)).toArray) os).heap[c]?=w.heap[c]?:=by
  intro c l F;show ((putRow encStr (Sort.ahead w n) b 0 _).heap++os)[c]?=_
  rw[Array.getElem?_append_left (by rw[size_putRow];exact l)];show (w.heap.modify b _)[c]?=_
  rw[Array.getElem?_modify,if_neg (Ne.symm F)]
 have hheapb:(grow (putRow encStr (Sort.ahead w n) b 0 (xs.mergeSort fun x y=>decide (x<=y)).toArray) os).heap[b]?=some (.cells (putCells encStr 0 (xs.mergeSort fun x y=>decide (x<=y)).toArray arr) E' (0,0)):=by
  show ((putRow encStr (Sort.ahead w n) b 0 _).heap++os)[b]?=_
  rw[Array.getElem?_append_left (by rw[size_putRow];exact hblt)];show (w.heap.modify b _)[b]?=_
  rw[Array.getElem?_modify,if_pos rfl,B];rfl
 have hsize:w.heap.size<=(grow (putRow encStr (Sort.ahead w n) b 0 (xs.mergeSort fun x y=>decide (x<=y)).toArray) os).heap.size:=by
  show _<=((putRow encStr (Sort.ahead w n) b 0 _).heap++os).size
  rw[Array.size_append,size_putRow];exact Nat.le_add_right _ _
 have m:(grow (putRow encStr (Sort.ahead w n) b 0 (xs.mergeSort fun x y=>decide (x<=y)).toArray) os).os=w.os:=rfl;have p:(grow (putRow encStr (Sort.ahead w n) b 0 (xs.mergeSort fun x y=>decide (x<=y)).toArray) os).tape=w.tape:=rfl;have hout:(grow (putRow encStr (Sort.ahead w n) b 0 (xs.mergeSort fun x y=>decide (x<=y)).toArray) os).output=w.output:=rfl;rw[<- k]at hheap hheapb hsize m p hout;have G:grow (putRow encStr (Sort.ahead w n) b 0 (List.mergeSort xs fun x y=>decide (x<=y)).toArray) os=grow (putRow encStr (Sort.ahead w n) b 0 ys.toArray) os:=by rw[k]
 rw[G];generalize grow (putRow encStr (Sort.ahead w n) b 0 ys.toArray) os=w' at hheap hheapb hsize m p hout;have hget:∀(i:Nat) (s:Str),ys[i]?=some s->(putCells encStr 0 ys.toArray arr)[i]?=some (.string ⟨s.toArray⟩):=by
  intro i s a;have hi:i<ys.length:=(zC.1 a).1;have H:i<arr.size:=by
   have W:i<ys.length:=hi;omega
  unfold putCells;rw[Array.getElem?_mapIdx,Array.getElem?_eq_getElem H,Option.map_some,if_pos ⟨Nat.zero_le _,by simpa using hi⟩,Nat.sub_zero];rw[getElem!_pos _ i (by simpa using hi)];have:ys[i]=s:=(zC.1 a).2;simp only[List.getElem_toArray,this];try rfl
 refine⟨rfl,⟨m,p,hout,hsize,fun c l I=>hheap c l fun e=>I ⟨e▸g,fun o v=>t o (e▸v)⟩⟩,.inr ⟨b,cap,putCells encStr 0 ys.toArray arr,E',fun i _=>.string ⟨(ys[i]!).toArray⟩,fun _ _ _=>False,?_,hheapb,?_,hmax,?_,g,?_,?_,fun _ _ _ h=>h.elim,fun _ _ _ _ _ h=>h.elim,fun o v=>absurd v (t o)⟩⟩
 ·rw[z]
 ·rw[z];exact hcap
 ·show (putCells encStr 0 _ arr).size=_
  unfold putCells;rw[Array.size_mapIdx];exact r
 ·intro i s j d a hd;cases j with
  | succ j=>simp[Ty.cells,Base.cells]at hd
  | zero=>
   have e:i*(Ty.base .str).size+0=i:=by show i*1+0=i;omega
   rw[e,hget i s a];have hi:=(zC.1 a);show _=some (Value.string ⟨(ys[i]!).toArray⟩)
   rw[getElem!_pos ys i hi.1,hi.2]
 ·intro i s j d a hd;cases j with
  | succ j=>simp[Ty.cells,Base.cells]at hd
  | zero=>
   simp only[Ty.cells,Base.cells,List.getElem?_cons_zero,zD]at hd;subst hd;have hi:=(zC.1 a);show Ow _ _ _ _ (Value.string ⟨(ys[i]!).toArray⟩) _
   rw[getElem!_pos ys i hi.1,hi.2];exact Ow.str ⟨List.toArray s⟩ _
theorem H7{P:Program}{ρ:Ren}(L:Lays.n192 P ρ):Ls P { fid:=ρ.f 192,t:=.base .str,fn:=iV }:=
 fun w S deep u xs ys fp h _ b a c=>JM L w S deep u xs ys fp h b a c
end Go.Abs
