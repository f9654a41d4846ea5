import Derived.Test.YtapgeemjgckgaaaGreatDoorS4
set_option linter.unusedVariables false
/- A region whose order is open: the evaluator's account of it, and that it writes its own slots only. -/
namespace Go.Abs
open Go.RowKit
def Kept(ds:List Nat)(a0 a:Act):Prop:=a.tmps.size=a0.tmps.size/\∀i,i∉ds->a.tmps[i]?=a0.tmps[i]?
theorem Kept.put{ds:List Nat}{a0 a:Act}(h:Kept ds a0 a){dst:Option Nat}(hd:∀d,dst=some d->d∈ds)(v:Value):Kept ds a0 (a.put dst v):=by
 cases dst with
 | none=>exact h
 | some d=>
  refine⟨by simp[Act.put,h.1],fun i hi=>?_⟩;have b:d≠i:=fun e=>hi (e▸hd d rfl)
  show (a.tmps.setIfInBounds d v)[i]?=_
  rw[Array.getElem?_setIfInBounds,if_neg b];exact h.2 i hi
def ajj(ds:List Nat)(a0:Act)(Q:Exit->Act->World->Prop):Exit->Act->World->Prop:=fun e a w=>Q e a w/\(e=.normal->Kept ds a0 a)
theorem zX{Q:Exit->Act->World->Prop}{ds:List Nat}{a0:Act}(h:LetsOut Q):LetsOut (ajj ds a0 Q):=by
 obtain⟨a,w,h⟩:=h;exact⟨a,w,h,fun e=>(by cases e)⟩
theorem akU{P:Program}{o:Oper}{a:Act}{w:World}{K K':Act->World->Prop}{Q:Exit->Act->World->Prop}{ds:List Nat}{a0:Act}(hd:∀d,o.dst=some d->d∈ds)(h:Kept ds a0 a)
  (f:∀a w,K a w->Kept ds a0 a->K' a w) (hh:o.wp P a w K Q):o.wp P a w K' (ajj ds a0 Q):=by
 have b:∀ch,Exit.panic ch=.normal->Kept ds a0 a:=fun _ e=>(by cases e)
 have g:∀d,Kept ds a0 ({ a with defers:=d::a.defers }.put o.dst undef):=fun d=>Kept.put (a:={ a with defers:=d::a.defers }) h hd _
 unfold Oper.wp at *;generalize (execOp a.eval o).run P w=r at *;cases r with
 | ok n w'=>
  cases n<;>simp only[Oper.upon]at hh ⊢<;>
   first
    | exact f _ _ hh (h.put hd _)
    | exact f _ _ hh (g _)
    | exact Calls.mono hh (fun e w'' c=>by cases e<;>first | exact f _ _ c (h.put hd _) | exact⟨c,b _⟩ | exact zX c)
    | exact Rows.mono hh (fun _ _ c=>f _ _ c (h.put hd _))
 | halt x w'=>cases x<;>simp only[Oper.upon]at hh ⊢<;>first | exact⟨hh,b _⟩ | exact zX hh | exact hh
theorem yV{P:Program}{md:Region.Mode}{ops:Array Oper}{Q:Exit->Act->World->Prop}{ds:List Nat}{a0:Act}(hd:∀(i:Nat) (o:Oper) d,ops[i]?=some o->o.dst=some d->d∈ds) :
  ∀(fuel:Nat) (listed:Array Bool) (a:Act) (w:World),Kept ds a0 a->wpAny P md ops Q fuel listed a w->wpAny P md ops (ajj ds a0 Q) fuel listed a w
 | 0,listed,a,w,h,hh=>⟨hh.1,hh.2,fun _=>h⟩
 | fuel+1,listed,a,w,h,hh=>by
  refine⟨fun e=>⟨hh.1 e,fun _=>h⟩,fun i hi=>?_⟩;have:=hh.2 i hi;unfold wpOp at this ⊢;cases b:ops[i]? with
  | none=>rw[b]at this;exact yV hd fuel _ a w h this
  | some o=>
   rw[b]at this;simp only at this ⊢;split
   ·rename_i c;rw[if_pos c]at this;exact this.imp (akU (hd i o · b) h fun a w f g=>yV hd fuel _ a w g f) fun q=>⟨q.1,zX q.2⟩
   ·rename_i c;rw[if_neg c]at this;exact yV hd fuel _ _ w (h.put (hd i o · b) _) this
theorem VU{P:Program}{w0:Bs}{E:Env}{ops:Array Oper}{Q:Exit->Act->World->Prop}(p:Ba P E w0)(q:P.follows .mixedOrders=true){id:Nat}{ρ:Type}{k:St->Option ρ}{r:ρ}{S:St}{a:Act}{w:World}{ds:List Nat}
  (c:(ops.toList.all fun o=>match o.dst with | some d=>ds.contains d | none=>true)=true) (hv:agy E ops id S k=some r) (h:∃G,Inv w0 G S a w)
  (s:∀S' a' w' G',k S'=some r->Inv w0 G' S' a' w'->Kept ds a a'->Q .normal a' w'):(Code.region id ops true).wp P Q a w:=by
 have hd:∀(i:Nat) (o:Oper) d,ops[i]?=some o->o.dst=some d->d∈ds:=fun i o d t f=>by
  have:=List.all_eq_true.1 c o (by rw[Array.mem_toList_iff];exact Array.mem_of_getElem? t);simp only[f]at this;simpa using this
 obtain⟨G,h⟩:=h;unfold agy at hv;obtain⟨u,m,j,b⟩:=Qp hv;simp only[List.append_nil]at b;split at b
 case isFalse=>cases b
 rename_i n;rw[zI]at n;obtain⟨y,v⟩:=uq (aiI E id) h;refine wp_mono (wp_region_any q (yV (a0:=a) hd _ _ _ _ ⟨rfl,fun _ _=>rfl⟩ (abA (Q:=fun e a' w'=>e=.normal/\∃G',Inv w0 G' m a' w') p (g:=u.reverse) (by rw[List.reverse_reverse];exact j) n v fun a' w' G' l=>⟨rfl,G',l⟩))) ?_;rintro e a' w' ⟨⟨rfl,G',l⟩,x⟩;exact s m a' w' G' b l (x rfl)
theorem VN(a':Act):∀(ds:List Nat) (a0:Act),(ds.foldl (fun acc d=>acc.put (some d) (a'.tmps.getD d undef)) a0).defers=a0.defers/\(ds.foldl (fun acc d=>acc.put (some d) (a'.tmps.getD d undef)) a0).tmps.size=a0.tmps.size /\
  ∀i,i<a0.tmps.size->(ds.foldl (fun acc d=>acc.put (some d) (a'.tmps.getD d undef)) a0).tmps[i]?=if i∈ds then some (a'.tmps.getD i undef)else a0.tmps[i]?
 | [],a0=>⟨rfl,rfl,fun i _=>by simp⟩
 | d::ds,a0=>by
  obtain⟨e,f,g⟩:=VN a' ds (a0.put (some d) (a'.tmps.getD d undef));have c:(a0.put (some d) (a'.tmps.getD d undef)).tmps.size=a0.tmps.size:=by simp[Act.put]
  refine⟨e,f.trans c,fun i hi=>?_⟩;rw[List.foldl_cons,g i (by rw[c];exact hi)];by_cases b:i∈ds
  ·rw[if_pos b,if_pos (aq _ b)]
  ·rw[if_neg b];show (a0.tmps.setIfInBounds d _)[i]?=_
   rw[Array.getElem?_setIfInBounds];by_cases a:d=i
   ·subst a;rw[if_pos rfl,if_pos hi,if_pos ar]
   ·rw[if_neg a,if_neg (by simp[b,Ne.symm a])]
theorem Kept.eq{ds:List Nat}{a0 a':Act}(h:Kept ds a0 a')(hd:a'.defers=a0.defers):a'=ds.foldl (fun acc d=>acc.put (some d) (a'.tmps.getD d undef)) a0:=by
 obtain⟨f,g,j⟩:=VN a' ds a0;generalize m:ds.foldl (fun acc d=>acc.put (some d) (a'.tmps.getD d undef)) a0=b at f g j;cases a' with
 | mk t' d'=>
  cases b with
  | mk tb db=>
   have k:d'=db:=hd.trans f.symm;have l:t'=tb:=by
    apply Array.ext_getElem?;intro i;by_cases hi:i<a0.tmps.size
    ·have a:i<t'.size:=by rw[show t'.size=a0.tmps.size from h.1];exact hi
     have c:=j i hi;simp only at c;rw[c];by_cases e:i∈ds
     ·rw[if_pos e,Array.getElem?_eq_getElem a,Array.getD_eq_getD_getElem?,Array.getElem?_eq_getElem a];rfl
     ·rw[if_neg e];exact h.2 i e
    ·rw[Array.getElem?_eq_none (by rw[show t'.size=a0.tmps.size from h.1];omega),Array.getElem?_eq_none (by rw[show tb.size=a0.tmps.size from g];omega)]
   rw[k,l]
theorem ahu{w:World}{S0:Nat->Nat->Prop}(g:∀b o,S0 b o->b<w.heap.size){a:Act}(hd:a.defers=[]) :
  ∃G,G.S=S0/\Inv ⟨w,S0,fun _=>False,none⟩ G { tmps:=List.replicate a.tmps.size .undef,boxes:=List.replicate a.tmps.size none,owns:=List.replicate a.tmps.size [] } a w:=by
 let G:Gh:={ bk:=fun _=>0,ov:=fun _ _=>undef,ow:=fun _=>none,S:=S0,lk:=fun _=>False,lb:=fun _=>False };have d:∀i,({ tmps:=List.replicate a.tmps.size .undef,boxes:=List.replicate a.tmps.size none,owns:=List.replicate a.tmps.size [] }:St).fP i=none:=by
  intro i;show (List.replicate _ (none:Option (List C))).getD i none=none
  rw[zE,List.getElem?_replicate];split<;>rfl
 have e:∀i,({ tmps:=List.replicate a.tmps.size .undef,boxes:=List.replicate a.tmps.size none,owns:=List.replicate a.tmps.size [] }:St).aJ i=[]:=by
  intro i;show (List.replicate _ ([]:List O)).getD i []=[]
  rw[zE,List.getElem?_replicate];split<;>rfl
 refine⟨G,rfl,⟨pR.refl _ _ _,hd,?_,?_,?_,?_,(fun b x h=>(by cases h)),(fun b o f=>⟨g b o f,fun i hi=>(by cases hi)⟩),?_,?_,(fun k l=>l.elim),(fun i hi=>hi.elim),(fun b o f _=>f),(fun b m=>by cases m)⟩⟩
 ·simp
 ·simp
 ·simp
 ·intro i v hv;show jc G w ((List.replicate _ AV.undef).getD i .undef) v
  rw[zE,List.getElem?_replicate];split<;>trivial
 ·intro i cs c;rw[d]at c;cases c
 ·intro k j;rw[e];trivial
def WW(i:Nat)(S:St):Option (List Str):=match S.gZ i with
 | .v (.one (.own k j))=>match bC (S.aJ k) j with
  | .own (.base .str) xs _ _=>some xs
  | _=>none
 | _=>none
theorem O1{w:World}{S0:Nat->Nat->Prop}{G:Gh}{S:St}{a:Act}{w':World}{i:Nat}{xs:List Str}(h:Inv ⟨w,S0,fun _=>False,none⟩ G S a w')(c:WW i S=some xs)(hi:i<a.tmps.size) :
  Below w.heap.size w w'/\∃S':Nat->Nat->Prop,Rep w' S' (.list (.base .str) xs) (a.tmps.getD i undef)/\∀b o,S' b o->(S0 b o\/w.heap.size<=b)/\b<w'.heap.size:=by
 unfold WW at c;split at c
 case h_2=>cases c
 rename_i k j n;split at c
 case h_2=>cases c
 rename_i xs' deep m hown;cases c
 have g:=h.tmps i (a.tmps.getD i undef) (by rw[Array.getD_eq_getD_getElem?,Array.getElem?_eq_getElem hi];rfl);rw[n]at g;refine⟨h.below.NU fun _=>id,fun b o=>G.S b o\/AK G S [(k,j)] b o,?_,?_⟩
 ·have:=h.Ir hown [(k,j)] (by simp);rw[<- g.2.1]at this;exact this
 ·rintro b o (l | ⟨k',j',t,p,deep2,q,r,hown2,d,_⟩)
  ·refine⟨?_,(h.sok b o l).1⟩;rcases Nat.lt_or_ge b w.heap.size with e | f
   ·exact .inl (h.sfr b o l e)
   ·exact .inr f
  ·have:=h.nM d;exact⟨.inr this.1,this.2⟩
end Go.Abs
