import Derived.Test.YtjbajpfonnnfoaaGreatDoorS4
set_option linter.unusedVariables false
/- A region whose order is open: the evaluator's account of it, and that it writes its own slots only. -/
namespace Go.Abs
open Go.RowKit
def Kept(ds:List Nat)(a0 a:Act):Prop:=a.tmps.size=a0.tmps.size/\∀i,i∉ds->a.tmps[i]?=a0.tmps[i]?
theorem Kept.put{ds:List Nat}{a0 a:Act}(h:Kept ds a0 a){dst:Option Nat}(c:∀d,dst=some d->d∈ds)(v:Value):Kept ds a0 (a.put dst v):=by
 cases dst with
 | none=>exact h
 | some d=>
  refine⟨by simp[Act.put,h.1],λi hi=>?_⟩;have b:d≠i:=λe=>hi (e▸c d rfl)
  show (a.tmps.setIfInBounds d v)[i]?=_
  rw[Array.getElem?_setIfInBounds,if_neg b];exact h.2 i hi
def afA(ds:List Nat)(a0:Act)(Q:Exit->Act->World->Prop):Exit->Act->World->Prop:=λe a w=>Q e a w/\(e=.normal->Kept ds a0 a)
theorem yD{Q:Exit->Act->World->Prop}{ds:List Nat}{a0:Act}(h:LetsOut Q):LetsOut (afA ds a0 Q):=by
 obtain⟨a,w,h⟩:=h;exact⟨a,w,h,λe=>(by cases e)⟩
theorem ahr{P:Program}{o:Oper}{a:Act}{w:World}{K K':Act->World->Prop}{Q:Exit->Act->World->Prop}{ds:List Nat}{a0:Act}(f:∀d,o.dst=some d->d∈ds)(h:Kept ds a0 a)
  (g:∀a w,K a w->Kept ds a0 a->K' a w) (hh:o.wp P a w K Q):o.wp P a w K' (afA ds a0 Q):=by
 have b:∀ch,Exit.panic ch=.normal->Kept ds a0 a:=λ_ e=>(by cases e)
 have i:∀d,Kept ds a0 ({ a with defers:=d::a.defers }.put o.dst undef):=λd=>Kept.put (a:={ a with defers:=d::a.defers }) h f _
 unfold Oper.wp at *;generalize (execOp a.eval o).run P w=r at *;cases r with
 | ok n w'=>
  cases n<;>simp only[Oper.upon]at hh ⊢<;>
   first
    | exact g _ _ hh (h.put f _)
    | exact g _ _ hh (i _)
    | exact Calls.mono hh (λe w'' c=>by cases e<;>first | exact g _ _ c (h.put f _) | exact⟨c,b _⟩ | exact yD c)
    | exact Rows.mono hh (λ_ _ c=>g _ _ c (h.put f _))
 | halt x w'=>cases x<;>simp only[Oper.upon]at hh ⊢<;>first | exact⟨hh,b _⟩ | exact yD hh | exact hh
theorem xJ{P:Program}{md:Region.Mode}{ops:Array Oper}{Q:Exit->Act->World->Prop}{ds:List Nat}{a0:Act}(b:∀(i:Nat) (o:Oper) d,ops[i]?=some o->o.dst=some d->d∈ds) :
  ∀(fuel:Nat) (listed:Array Bool) (a:Act) (w:World),Kept ds a0 a->wpAny P md ops Q fuel listed a w->wpAny P md ops (afA ds a0 Q) fuel listed a w
 | 0,listed,a,w,h,hh=>⟨hh.1,hh.2,λ_=>h⟩
 | fuel+1,listed,a,w,h,hh=>by
  refine⟨λe=>⟨hh.1 e,λ_=>h⟩,λi hi=>?_⟩;have:=hh.2 i hi;unfold wpOp at this ⊢;cases c:ops[i]? with
  | none=>rw[c]at this;exact xJ b fuel _ a w h this
  | some o=>
   rw[c]at this;simp only at this ⊢;split
   ·rename_i f;rw[if_pos f]at this;exact this.imp (ahr (b i o · c) h λa w g hk=>xJ b fuel _ a w hk g) λq=>⟨q.1,yD q.2⟩
   ·rename_i f;rw[if_neg f]at this;exact xJ b fuel _ _ w (h.put (b i o · c) _) this
theorem SS{P:Program}{w0:Bs}{E:Env}{ops:Array Oper}{Q:Exit->Act->World->Prop}(n:oP P E w0)(p:P.follows .mixedOrders=true){id:Nat}{ρ:Type}{k:St->Option ρ}{r:ρ}{S:St}{a:Act}{w:World}{ds:List Nat}
  (c:(ops.toList.all λo=>match o.dst with | some d=>ds.contains d | none=>true)=true) (hv:acK E ops id S k=some r) (h:∃G,Inv w0 G S a w)
  (q:∀S' a' w' G',k S'=some r->Inv w0 G' S' a' w'->Kept ds a a'->Q .normal a' w'):(Code.region id ops true).wp P Q a w:=by
 have s:∀(i:Nat) (o:Oper) d,ops[i]?=some o->o.dst=some d->d∈ds:=λi o d t f=>by
  have:=List.all_eq_true.1 c o (by rw[Array.mem_toList_iff];exact Array.mem_of_getElem? t);simp only[f]at this;simpa using this
 obtain⟨G,h⟩:=h;unfold acK at hv;obtain⟨u,m,j,b⟩:=NK hv;simp only[amA]at b;split at b
 case isFalse=>cases b
 rename_i hc;rw[zI]at hc;obtain⟨x,v⟩:=rU (aeL E id) h;refine wp_mono (wp_region_any p (xJ (a0:=a) s _ _ _ _ ⟨rfl,λ_ _=>rfl⟩ (Yj (Q:=λe a' w'=>e=.normal/\∃G',Inv w0 G' m a' w') n (g:=u.reverse) (by rw[List.reverse_reverse];exact j) hc v λa' w' G' l=>⟨rfl,G',l⟩))) ?_;rintro e a' w' ⟨⟨rfl,G',l⟩,hk⟩;exact q m a' w' G' b l (hk rfl)
theorem SB(a':Act):∀(ds:List Nat) (a0:Act),(ds.foldl (λacc d=>acc.put (some d) (a'.tmps.getD d undef)) a0).defers=a0.defers/\(ds.foldl (λacc d=>acc.put (some d) (a'.tmps.getD d undef)) a0).tmps.size=a0.tmps.size /\
  ∀i,i<a0.tmps.size->(ds.foldl (λacc d=>acc.put (some d) (a'.tmps.getD d undef)) a0).tmps[i]?=if i∈ds then some (a'.tmps.getD i undef)else a0.tmps[i]?
 | [],a0=>⟨rfl,rfl,λi _=>by simp⟩
 | d::ds,a0=>by
  obtain⟨e,f,g⟩:=SB a' ds (a0.put (some d) (a'.tmps.getD d undef));have c:(a0.put (some d) (a'.tmps.getD d undef)).tmps.size=a0.tmps.size:=by simp[Act.put]
  refine⟨e,f.trans c,λi hi=>?_⟩;rw[List.foldl_cons,g i (by rw[c];exact hi)];by_cases b:i∈ds
  ·rw[if_pos b,if_pos (ar _ b)]
  ·rw[if_neg b];show (a0.tmps.setIfInBounds d _)[i]?=_
   rw[Array.getElem?_setIfInBounds];by_cases a:d=i
   ·subst a;rw[if_pos rfl,if_pos hi,if_pos aw]
   ·rw[if_neg a,if_neg (by simp[b,Ne.symm a])]
theorem Kept.eq{ds:List Nat}{a0 a':Act}(h:Kept ds a0 a')(k:a'.defers=a0.defers):a'=ds.foldl (λacc d=>acc.put (some d) (a'.tmps.getD d undef)) a0:=by
 obtain⟨f,g,j⟩:=SB a' ds a0;generalize n:ds.foldl (λacc d=>acc.put (some d) (a'.tmps.getD d undef)) a0=b at f g j;cases a' with
 | mk t' d'=>
  cases b with
  | mk tb db=>
   have l:d'=db:=k.trans f.symm;have m:t'=tb:=by
    apply Array.ext_getElem?;intro i;by_cases hi:i<a0.tmps.size
    ·have a:i<t'.size:=by rw[show t'.size=a0.tmps.size from h.1];exact hi
     have c:=j i hi;simp only at c;rw[c];by_cases e:i∈ds
     ·rw[if_pos e,Array.getElem?_eq_getElem a,Array.getD_eq_getD_getElem?,Array.getElem?_eq_getElem a];rfl
     ·rw[if_neg e];exact h.2 i e
    ·rw[Array.getElem?_eq_none (by rw[show t'.size=a0.tmps.size from h.1];omega),Array.getElem?_eq_none (by rw[show tb.size=a0.tmps.size from g];omega)]
   rw[l,m]
theorem adq{w:World}{S0:Nat->Nat->Prop}(g:∀b o,S0 b o->b<w.heap.size){a:Act}(h:a.defers=[]) :
  ∃G,G.S=S0/\Inv ⟨w,S0,λ_=>False,none⟩ G { tmps:=List.replicate a.tmps.size .undef,boxes:=List.replicate a.tmps.size none,owns:=List.replicate a.tmps.size [] } a w:=by
 let G:Gh:={ bk:=λ_=>0,ov:=λ_ _=>undef,ow:=λ_=>none,S:=S0,lk:=λ_=>False,lb:=λ_=>False };have e:∀i,({ tmps:=List.replicate a.tmps.size .undef,boxes:=List.replicate a.tmps.size none,owns:=List.replicate a.tmps.size [] }:St).fK i=none:=by
  intro i;show (List.replicate _ (none:Option (List C))).getD i none=none
  rw[zE,List.getElem?_replicate];split<;>rfl
 have f:∀i,({ tmps:=List.replicate a.tmps.size .undef,boxes:=List.replicate a.tmps.size none,owns:=List.replicate a.tmps.size [] }:St).aQ i=[]:=by
  intro i;show (List.replicate _ ([]:List O)).getD i []=[]
  rw[zE,List.getElem?_replicate];split<;>rfl
 refine⟨G,rfl,⟨jJ.refl _ _ _,h,?_,?_,?_,?_,(λb x l=>(by cases l)),(λb o c=>⟨g b o c,λi hi=>(by cases hi)⟩),?_,?_,(λk hk=>hk.elim),(λi hi=>hi.elim),(λb o c _=>.inl c),(λb o c=>⟨c,rfl⟩),(λb y m=>by cases m)⟩⟩
 ·simp
 ·simp
 ·simp
 ·intro i v hv;show ja G w ((List.replicate _ AV.undef).getD i .undef) v
  rw[zE,List.getElem?_replicate];split<;>trivial
 ·intro i cs d;rw[e]at d;cases d
 ·intro k j;rw[f];trivial
def TR(i:Nat)(S:St):Option (List Str):=match S.je i with
 | .v (.one (.own k j))=>match bC (S.aQ k) j with
  | .own (.base .str) xs _ _=>some xs
  | _=>none
 | _=>none
theorem LV{w:World}{S0:Nat->Nat->Prop}{G:Gh}{S:St}{a:Act}{w':World}{i:Nat}{xs:List Str}(h:Inv ⟨w,S0,λ_=>False,none⟩ G S a w')(c:TR i S=some xs)(hi:i<a.tmps.size) :
  Below w.heap.size w w'/\∃S':Nat->Nat->Prop,Rep w' S' (.list (.base .str) xs) (a.tmps.getD i undef)/\∀b o,S' b o->(S0 b o\/w.heap.size<=b)/\b<w'.heap.size:=by
 unfold TR at c;split at c
 case h_2=>cases c
 rename_i k j n;split at c
 case h_2=>cases c
 rename_i xs' deep m hown;cases c
 have g:=h.tmps i (a.tmps.getD i undef) (by rw[Array.getD_eq_getD_getElem?,Array.getElem?_eq_getElem hi];rfl);rw[n]at g;refine⟨h.below.KA λ_=>id,λb o=>G.S b o\/AK G S [(k,j)] b o,?_,?_⟩
 ·have:=h.KN hown [(k,j)] (by simp);rw[<- g.2.1]at this;exact this
 ·rintro b o (l | ⟨k',j',t,p,deep2,r,s,hown2,d,_⟩)
  ·refine⟨?_,(h.sok b o l).1⟩;rcases Nat.lt_or_ge b w.heap.size with e | f
   ·exact .inl ((h.sfr b o l e).resolve_right λq=>q.1)
   ·exact .inr f
  ·have:=h.kY d;exact⟨.inr (Bs.nw0 this.1),this.2⟩
