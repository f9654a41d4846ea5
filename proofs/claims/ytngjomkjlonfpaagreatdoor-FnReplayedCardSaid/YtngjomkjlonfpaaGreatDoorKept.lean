import Derived.Test.YtngjomkjlonfpaaGreatDoorS4
set_option linter.unusedVariables false
/- A region whose order is open: the evaluator's account of it, and that it writes its own slots only. -/
namespace Go.Abs
open Go.RowKit
def Kept(ds:List Nat)(a0 a:Act):Prop:=a.tmps.size=a0.tmps.size/\∀i,i∉ds->a.tmps[i]?=a0.tmps[i]?
theorem Kept.put{ds:List Nat}{a0 a:Act}(h:Kept ds a0 a){dst:Option Nat}(c:∀d,dst=some d->d∈ds)(v:Value):Kept ds a0 (a.put dst v):=by
 cases dst with
 | none=>exact h
 | some d=>
  refine⟨by simp[Act.put,h.1],fun i hi=>?_⟩;have b:d≠i:=fun e=>hi (e▸c d rfl)
  show (a.tmps.setIfInBounds d v)[i]?=_
  rw[Array.getElem?_setIfInBounds,if_neg b];exact h.2 i hi
def ajp(ds:List Nat)(a0:Act)(Q:Exit->Act->World->Prop):Exit->Act->World->Prop:=fun e a w=>Q e a w/\(e=.normal->Kept ds a0 a)
theorem Ag{Q:Exit->Act->World->Prop}{ds:List Nat}{a0:Act}(h:LetsOut Q):LetsOut (ajp ds a0 Q):=by
 obtain⟨a,w,h⟩:=h;exact⟨a,w,h,fun e=>(by cases e)⟩
theorem ald{P:Program}{o:Oper}{a:Act}{w:World}{K K':Act->World->Prop}{Q:Exit->Act->World->Prop}{ds:List Nat}{a0:Act}(f:∀d,o.dst=some d->d∈ds)(h:Kept ds a0 a)
  (g:∀a w,K a w->Kept ds a0 a->K' a w) (hh:o.wp P a w K Q):o.wp P a w K' (ajp ds a0 Q):=by
 have b:∀ch,Exit.panic ch=.normal->Kept ds a0 a:=fun _ e=>(by cases e)
 have i:∀d,Kept ds a0 ({ a with defers:=d::a.defers }.put o.dst undef):=fun d=>Kept.put (a:={ a with defers:=d::a.defers }) h f _
 unfold Oper.wp at *;generalize (execOp a.eval o).run P w=r at *;cases r with
 | ok n w'=>
  cases n<;>simp only[Oper.upon]at hh ⊢<;>
   first
    | exact g _ _ hh (h.put f _)
    | exact g _ _ hh (i _)
    | exact Calls.mono hh (fun e w'' c=>by cases e<;>first | exact g _ _ c (h.put f _) | exact⟨c,b _⟩ | exact Ag c)
    | exact Rows.mono hh (fun _ _ c=>g _ _ c (h.put f _))
 | halt x w'=>cases x<;>simp only[Oper.upon]at hh ⊢<;>first | exact⟨hh,b _⟩ | exact Ag hh | exact hh
theorem zq{P:Program}{md:Region.Mode}{ops:Array Oper}{Q:Exit->Act->World->Prop}{ds:List Nat}{a0:Act}(b:∀(i:Nat) (o:Oper) d,ops[i]?=some o->o.dst=some d->d∈ds) :
  ∀(fuel:Nat) (listed:Array Bool) (a:Act) (w:World),Kept ds a0 a->wpAny P md ops Q fuel listed a w->wpAny P md ops (ajp ds a0 Q) fuel listed a w
 | 0,listed,a,w,h,hh=>⟨hh.1,hh.2,fun _=>h⟩
 | fuel+1,listed,a,w,h,hh=>by
  refine⟨fun e=>⟨hh.1 e,fun _=>h⟩,fun i hi=>?_⟩;have:=hh.2 i hi;unfold wpOp at this ⊢;cases c:ops[i]? with
  | none=>rw[c]at this;exact zq b fuel _ a w h this
  | some o=>
   rw[c]at this;simp only at this ⊢;split
   ·rename_i f;rw[if_pos f]at this;exact this.imp (ald (b i o · c) h fun a w g j=>zq b fuel _ a w j g) fun q=>⟨q.1,Ag q.2⟩
   ·rename_i f;rw[if_neg f]at this;exact zq b fuel _ _ w (h.put (b i o · c) _) this
theorem WM{P:Program}{w0:Bs}{E:Env}{ops:Array Oper}{Q:Exit->Act->World->Prop}(p:BF P E w0)(q:P.follows .mixedOrders=true){id:Nat}{ρ:Type}{k:St->Option ρ}{r:ρ}{S:St}{a:Act}{w:World}{ds:List Nat}
  (c:(ops.toList.all fun o=>match o.dst with | some d=>ds.contains d | none=>true)=true) (hv:agY E ops id S k=some r) (h:∃G,Inv w0 G S a w)
  (s:∀S' a' w' G',k S'=some r->Inv w0 G' S' a' w'->Kept ds a a'->Q .normal a' w'):(Code.region id ops true).wp P Q a w:=by
 have t:∀(i:Nat) (o:Oper) d,ops[i]?=some o->o.dst=some d->d∈ds:=fun i o d u f=>by
  have:=List.all_eq_true.1 c o (by rw[Array.mem_toList_iff];exact Array.mem_of_getElem? u);simp only[f]at this;simpa using this
 obtain⟨G,h⟩:=h;unfold agY at hv;obtain⟨v,m,j,b⟩:=QV hv;simp only[List.append_nil]at b;split at b
 case isFalse=>cases b
 rename_i n;rw[zI]at n;obtain⟨y,h2⟩:=vG (aiP E id) h;refine wp_mono (wp_region_any q (zq (a0:=a) t _ _ _ _ ⟨rfl,fun _ _=>rfl⟩ (abT (Q:=fun e a' w'=>e=.normal/\∃G',Inv w0 G' m a' w') p (g:=v.reverse) (by rw[List.reverse_reverse];exact j) n h2 fun a' w' G' l=>⟨rfl,G',l⟩))) ?_;rintro e a' w' ⟨⟨rfl,G',l⟩,x⟩;exact s m a' w' G' b l (x rfl)
theorem WG(a':Act):∀(ds:List Nat) (a0:Act),(ds.foldl (fun acc d=>acc.put (some d) (a'.tmps.getD d undef)) a0).defers=a0.defers/\(ds.foldl (fun acc d=>acc.put (some d) (a'.tmps.getD d undef)) a0).tmps.size=a0.tmps.size /\
  ∀i,i<a0.tmps.size->(ds.foldl (fun acc d=>acc.put (some d) (a'.tmps.getD d undef)) a0).tmps[i]?=if i∈ds then some (a'.tmps.getD i undef)else a0.tmps[i]?
 | [],a0=>⟨rfl,rfl,fun i _=>by simp⟩
 | d::ds,a0=>by
  obtain⟨h1,h2,e⟩:=WG a' ds (a0.put (some d) (a'.tmps.getD d undef));have c:(a0.put (some d) (a'.tmps.getD d undef)).tmps.size=a0.tmps.size:=by simp[Act.put]
  refine⟨h1,h2.trans c,fun i hi=>?_⟩;rw[List.foldl_cons,e i (by rw[c];exact hi)];by_cases b:i∈ds
  ·rw[if_pos b,if_pos (ar _ b)]
  ·rw[if_neg b];show (a0.tmps.setIfInBounds d _)[i]?=_
   rw[Array.getElem?_setIfInBounds];by_cases a:d=i
   ·subst a;rw[if_pos rfl,if_pos hi,if_pos aw]
   ·rw[if_neg a,if_neg (by simp[b,Ne.symm a])]
theorem Kept.eq{ds:List Nat}{a0 a':Act}(h:Kept ds a0 a')(g:a'.defers=a0.defers):a'=ds.foldl (fun acc d=>acc.put (some d) (a'.tmps.getD d undef)) a0:=by
 obtain⟨h1,h2,f⟩:=WG a' ds a0;generalize l:ds.foldl (fun acc d=>acc.put (some d) (a'.tmps.getD d undef)) a0=b at h1 h2 f;cases a' with
 | mk t' d'=>
  cases b with
  | mk tb db=>
   have j:d'=db:=g.trans h1.symm;have k:t'=tb:=by
    apply Array.ext_getElem?;intro i;by_cases hi:i<a0.tmps.size
    ·have a:i<t'.size:=by rw[show t'.size=a0.tmps.size from h.1];exact hi
     have c:=f i hi;simp only at c;rw[c];by_cases e:i∈ds
     ·rw[if_pos e,Array.getElem?_eq_getElem a,Array.getD_eq_getD_getElem?,Array.getElem?_eq_getElem a];rfl
     ·rw[if_neg e];exact h.2 i e
    ·rw[Array.getElem?_eq_none (by rw[show t'.size=a0.tmps.size from h.1];omega),Array.getElem?_eq_none (by rw[show tb.size=a0.tmps.size from h2];omega)]
   rw[j,k]
theorem ahL{w:World}{S0:Nat->Nat->Prop}(g:∀b o,S0 b o->b<w.heap.size){a:Act}(h:a.defers=[]) :
  ∃G,G.S=S0/\Inv ⟨w,S0,fun _=>False,none⟩ G { tmps:=List.replicate a.tmps.size .undef,boxes:=List.replicate a.tmps.size none,owns:=List.replicate a.tmps.size [] } a w:=by
 let G:Gh:={ bk:=fun _=>0,ov:=fun _ _=>undef,ow:=fun _=>none,S:=S0,lk:=fun _=>False,lb:=fun _=>False };have d:∀i,({ tmps:=List.replicate a.tmps.size .undef,boxes:=List.replicate a.tmps.size none,owns:=List.replicate a.tmps.size [] }:St).gY i=none:=by
  intro i;show (List.replicate _ (none:Option (List C))).getD i none=none
  rw[zE,List.getElem?_replicate];split<;>rfl
 have e:∀i,({ tmps:=List.replicate a.tmps.size .undef,boxes:=List.replicate a.tmps.size none,owns:=List.replicate a.tmps.size [] }:St).aI i=[]:=by
  intro i;show (List.replicate _ ([]:List O)).getD i []=[]
  rw[zE,List.getElem?_replicate];split<;>rfl
 refine⟨G,rfl,⟨sN.refl _ _ _,h,?_,?_,?_,?_,(fun b x l=>(by cases l)),(fun b o f=>⟨g b o f,fun i hi=>(by cases hi)⟩),?_,?_,(fun k m=>m.elim),(fun i hi=>hi.elim),(fun b o f _=>f),(fun b n=>by cases n)⟩⟩
 ·simp
 ·simp
 ·simp
 ·intro i v hv;show jV G w ((List.replicate _ AV.undef).getD i .undef) v
  rw[zE,List.getElem?_replicate];split<;>trivial
 ·intro i cs c;rw[d]at c;cases c
 ·intro k j;rw[e];trivial
def Xz(i:Nat)(S:St):Option (List Str):=match S.jm i with
 | .v (.one (.own k j))=>match bC (S.aI k) j with
  | .own (.base .str) xs _ _=>some xs
  | _=>none
 | _=>none
theorem PE{w:World}{S0:Nat->Nat->Prop}{G:Gh}{S:St}{a:Act}{w':World}{i:Nat}{xs:List Str}(h:Inv ⟨w,S0,fun _=>False,none⟩ G S a w')(c:Xz i S=some xs)(hi:i<a.tmps.size) :
  Below w.heap.size w w'/\∃S':Nat->Nat->Prop,Rep w' S' (.list (.base .str) xs) (a.tmps.getD i undef)/\∀b o,S' b o->(S0 b o\/w.heap.size<=b)/\b<w'.heap.size:=by
 unfold Xz at c;split at c
 case h_2=>cases c
 rename_i k j n;split at c
 case h_2=>cases c
 rename_i xs' deep m hown;cases c
 have g:=h.tmps i (a.tmps.getD i undef) (by rw[Array.getD_eq_getD_getElem?,Array.getElem?_eq_getElem hi];rfl);rw[n]at g;refine⟨h.below.OT fun _=>id,fun b o=>G.S b o\/AK G S [(k,j)] b o,?_,?_⟩
 ·have:=h.IY hown [(k,j)] (by simp);rw[<- g.2.1]at this;exact this
 ·rintro b o (l | ⟨k',j',t,p,deep2,q,r,hown2,d,_⟩)
  ·refine⟨?_,(h.sok b o l).1⟩;rcases Nat.lt_or_ge b w.heap.size with e | f
   ·exact .inl (h.sfr b o l e)
   ·exact .inr f
  ·have:=h.nR d;exact⟨.inr this.1,this.2⟩
end Go.Abs
