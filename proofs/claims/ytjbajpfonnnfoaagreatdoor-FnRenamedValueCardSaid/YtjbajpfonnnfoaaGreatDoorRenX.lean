import Derived.Test.YtjbajpfonnnfoaaGreatDoorDrE
import Derived.Test.YtjbajpfonnnfoaaGreatDoorS3
import Derived.Test.YtjbajpfonnnfoaaGreatDoorLink1
import Derived.Shelf.Strconv.Itoa3
import Derived.Shelf.Strings.OnBuilder
import Derived.Shelf.Strings.Prefix
import Derived.Shelf.Strings.Split
import Derived.Shelf.Small.Strs
import Derived.Shelf.Sort.Plain
import Derived.Shelf.Slices.In.SortNone2
import Derived.Test.YtjbajpfonnnfoaaGreatDoorProg
import Derived.Shelf.Strconv.ErrVarAll
import Derived.Shelf.SlSortFuncK.WholeK
import Derived.Ground.GgsProg
import Derived.KernelRfl
import Derived.Shelf.SlSortFuncK.SWK
import Derived.Shelf.GgSortFunc.InsertionK
import Derived.Deep.LoopGhost
import Derived.Shelf.SlSortFuncK.HeapSortK
set_option linter.unusedSimpArgs false
set_option linter.unusedVariables false
/- Plain laws: an expression with a free name replaced by one that occurs nowhere. -/
namespace Go.Proofs.YtjbajpfonnnfoaaGreatDoor
open Go.Abs Go.Proofs
theorem YH{x e:ak}(h:x∈e.args):wzE x+1<=wzE e:=by
 obtain⟨k,n,t,a⟩:=e;have key:∀l:List ak,x∈l->wzE x<=wzL l:=λl=>by
  induction l with
  | nil=>intro h;cases h
  | cons y r ih=>
   intro h;show wzE x<=wzE y+wzL r
   rcases bh.1 h with rfl | h
   ·omega
   ·have:=ih h;omega
 have:=key a h;show wzE x+1<=(if OkT t then 1 else 18446744073709551616)+wzL a
 split<;>omega
theorem aaG{n:Nat}{bi:Bool}{c t:Str}{bound:List Str}(f:t≠c)(b:bound.contains c=false)(g:bound.length<=1048576):∀(xs:List ak) (i:Nat),
  (∀x,x∈xs->∀bd:List Str,bd.length<=bound.length+1->bd.contains c=false->∃es,jA n x bd=some es/\es.length<=wtE x/\∀p,p∈es->p.2.contains c=false) ->
  ∃es,dV (jA n) bi t bound i xs=some es/\es.length<=wtL xs/\∀p,p∈es->p.2.contains c=false
 | [],i,_=>⟨[],rfl,aD _,λp hp=>by cases hp⟩
 | x::r,i,d=>by
  have e:(bound++[t]).contains c=false:=by
   cases a:(bound++[t]).contains c with
   | false=>rfl
   | true=>
    have a:c∈bound++[t]:=by simpa using a
    rcases List.mem_append.1 a with a | a
    ·have:bound.contains c=true:=by simpa using a
     rw[b]at this;cases this
    ·exact absurd (List.mem_singleton.1 a).symm f
  obtain⟨es,h,o,j⟩:∃es,(if (bi&&decide (0<i))=true then (gd (bound.length+1)).bind λ_=>jA n x (bound++[t])else jA n x bound)=some es/\es.length<=wtE x/\∀p,p∈es->p.2.contains c=false:=by
   rw[bI (by omega),zA];split
   ·exact d x aw _ (by simp) e
   ·exact d x aw _ (by omega) b
  obtain⟨fs,k,q,l⟩:=aaG f b g r (i+1) λy m=>d y (ar _ m)
  refine⟨es++fs,?_,by rw[a8];show _<=wtE x+wtL r;omega,λp hp=>?_⟩
  ·show (if (bi&&decide (0<i))=true then (gd (bound.length+1)).bind λ_=>jA n x (bound++[t])else jA n x bound).bind (λu=>(dV (jA n) bi t bound (i+1) r).bind λv=>some (u++v))=_
   rw[h,zA,k];rfl
  ·rcases List.mem_append.1 hp with hp | hp
   ·exact j p hp
   ·exact l p hp
theorem aaF:∀(n:Nat) (e:ak) (bound:List Str),siz e<n->wzE e+bound.length<=1048576->bound.contains [122,122]=false->∃es,jA n e bound=some es/\es.length<=wtE e/\∀p,p∈es->p.2.contains [122,122]=false
 | 0,e,_,h,_,_=>absurd h (aml _)
 | n+1,e,bound,i,j,a=>by
  have k:=uQ (e:=e);have l:=Q8 e;have m:=EF e;have c:=ED (e:=e) (by omega);obtain⟨es,d,o,f⟩:=aaG (n:=n) (bi:=decide (e.kind=7)||decide (e.kind=9)) c.2 a (by omega) e.args 0 (λx b bd g hc=>aaF n x bd (by have:=ng b;omega) (by have:=YH b;omega) hc);show ∃fs,((gd bound.length).bind λ_=>(gd e.args.length).bind λ_=>if e.kind=3/\bound.contains e.text=false then some [(e.text,bound)]else dV (jA n) (decide (e.kind=7)||decide (e.kind=9)) e.text bound 0 e.args)=some fs/\_
  rw[bI (by omega),zA,bI (by omega),zA];split
  ·exact⟨_,rfl,Tv e,λp hp=>by rw[List.mem_singleton.1 hp];exact a⟩
  ·exact⟨es,d,by omega,f⟩
theorem aas(e:ak)(b:Str)(a:wzE e<=1048576):kM e b [122,122]=some false:=by
 obtain⟨es,c,f,d⟩:=aaF (siz e+1) e [] (Nat.lt_succ_self _) (by simpa using a) rfl;have g:=Q8 e;unfold kM;rw[c,zA,bI (by omega),zA];congr 1;rw[List.any_eq_false];intro p hp;rw[d p hp];simp
def yw(b c:Str)(k:Int)(t:Str):Str:=if ((k==3)&&(t==b))=true then c else t
def xB(b:Str)(k:Int)(t:Str):Bool:=((k==7)||(k==9))&&(t==b)
mutual
def rnE(b c:Str):ak->ak
 | ⟨k,n,t,a⟩=>⟨k,n,yw b c k t,rnL b c (xB b k t) 0 a⟩
def rnL(b c:Str)(bi:Bool):Nat->List ak->List ak
 | _,[]=>[]
 | i,x::r=>(if (bi&&decide (0<i))=true then x else rnE b c x)::rnL b c bi (i+1) r
end
theorem xW(b c:Str)(e:ak):rnE b c e=⟨e.kind,e.n,yw b c e.kind e.text,rnL b c (xB b e.kind e.text) 0 e.args⟩:=by cases e;rfl
theorem Nr(b c:Str)(bi:Bool):∀(xs ys:List ak) (i:Nat),rnL b c bi i (xs++ys)=rnL b c bi i xs++rnL b c bi (i+xs.length) ys
 | [],ys,i=>rfl
 | x::r,ys,i=>by
  show _::rnL b c bi (i+1) (r++ys)=_::(rnL b c bi (i+1) r++_)
  rw[Nr b c bi r ys (i+1)];have:i+1+r.length=i+(x::r).length:=by simp;omega
  rw[this]
theorem aey(b c:Str)(bi:Bool){xs:List ak}{i:Nat}{x:ak}(h:xs[i]?=some x):rnL b c bi 0 (xs.take (i+1))=rnL b c bi 0 (xs.take i)++[if (bi&&decide (0<i))=true then x else rnE b c x]:=by
 obtain⟨hi,rfl⟩:=zC.1 h;rw[List.take_succ_eq_append_getElem hi,Nr];have:0+(xs.take i).length=i:=by rw[bc];omega
 rw[this];rfl
theorem KH(b c:Str)(bi:Bool):∀(xs:List ak) (i:Nat),(rnL b c bi i xs).length=xs.length
 | [],_=>rfl
 | x::r,i=>congrArg (· + 1) (KH b c bi r (i+1))
theorem aaY(b c:Str)(bi:Bool){x:ak}:∀(xs:List ak) (i j:Nat),xs[j]?=some x->(rnL b c bi i xs)[j]?=some (if (bi&&decide (0<i+j))=true then x else rnE b c x)
 | [],_,_,h=>by simp at h
 | y::r,i,0,h=>by cases h;rfl
 | y::r,i,j+1,h=>by
  have:=aaY b c bi r (i+1) j (by simpa using h);rw[show i+(j+1)=i+1+j by omega];exact this
theorem aaX(b c:Str)(bi:Bool){y:ak}:∀(xs:List ak) (i:Nat),y∈rnL b c bi i xs->∃x,x∈xs/\(y=x\/y=rnE b c x)
 | [],_,h=>by cases h
 | x::r,i,h=>by
  rcases bh.1 h with h | h
  ·refine⟨x,aw,?_⟩;rw[h];split
   ·exact .inl rfl
   ·exact .inr rfl
  ·obtain⟨z,a,d⟩:=aaX b c bi r (i+1) h;exact⟨z,ar _ a,d⟩
theorem Zt(b c:Str){e:ak}{i:Nat}(hi:i<e.args.length):arg (rnE b c e) i=if (xB b e.kind e.text&&decide (0<i))=true then arg e i else rnE b c (arg e i):=by
 rw[xW];unfold arg;have h:=aaY b c (xB b e.kind e.text) e.args 0 i (zF hi);rw[zE,zE,zF hi];show ((rnL b c (xB b e.kind e.text) 0 e.args)[i]?).getD _=_
 rw[h,amw];rfl
theorem abl{X ρ:Type}{p:Option (X⊕ρ)}{s:X}{k:X->Option ρ}(h:p=some (.inl s)):jL p k=k s:=by rw[h];rfl
theorem pos1(i:Nat):decide ((i:Int)>0)=decide (0<i):=by
 by_cases h:0<i
 ·rw[aq h,aq (by omega)]
 ·rw[ae h,ae (by omega)]
theorem Yp:∀(n:Nat) (e:ak),siz e<n->wtE e<=1048576->sO n e=some e
 | 0,e,h,_=>absurd h (aml _)
 | n+1,e,d,f=>by
  have ih:=Yp n;have g:=uQ (e:=e);show Ep (sO n) e=_
  unfold Ep;refine run_eq (nJ (λ(out:List ak) (i:Nat)=>((0,0,[],[],e.kind,e.n,e.text,out,e.args,(e.args.length:Int),(i:Int)):Int×Int×Str×(List ak)×Int×Int×Str×(List ak)×(List ak)×Int×Int)) e.args (λi out=>out=e.args.take i) (λr=>r=e) (λi x out a b=>.inl ⟨out++[x],?_,?_⟩) (λout b=>⟨e,?_,rfl⟩) [] rfl)
  ·have c:=zG a;have j:=uS c;have hi:=(zC.1 a).1;have hol:out.length<=i:=by rw[b,bc];omega
   simp only[vM a,ac,aP,a,zA,bV,ih x (by have:=ng c;omega) (by omega),sV a (by omega)];rw[bI (by simp;omega)];rfl
  ·obtain⟨hi,rfl⟩:=zC.1 a;rw[List.take_succ_eq_append_getElem hi,b]
  ·rw[b,List.take_length];simp only[qN,aa];cases e;rfl
theorem ak3(e:ak)(a:wtE e<=1048576):I7 e=some e:=Yp _ e (Nat.lt_succ_self _) a
theorem aew(b c:Str):∀(n:Nat) (e:ak),siz e<n->wtE e<=1048576->wQ n e b c=some (rnE b c e)
 | 0,e,h,_=>absurd h (aml _)
 | n+1,e,o,p=>by
  have ih:=aew b c n;have q:=uQ (e:=e);show IU (wQ n) e b c=_
  unfold IU;rw[abl (s:=(b,c,e.kind,e.n,e.text,e.args,0,0,[],[],e.kind,e.n,yw b c e.kind e.text,[])) (by unfold yw;cases (e.kind==3)<;>cases (e.text==b)<;>rfl)]
  try dsimp only
  rw[abl (s:=(b,c,e.kind,e.n,e.text,e.args,0,0,[],[],e.kind,e.n,yw b c e.kind e.text,[],xB b e.kind e.text)) (by unfold xB;cases k:(e.kind==7)<;>cases l:(e.kind==9)<;>simp only[k,l,ac,aa,amy,Bool.false_and,Bool.or_true,Bool.or_false,Bool.true_or,Bool.false_or])]
  try dsimp only
  rw[xW];generalize xB b e.kind e.text=bi;generalize yw b c e.kind e.text=nt;refine run_eq (nJ (λ(out:List ak) (i:Nat)=>((b,c,0,0,[],[],e.kind,e.n,nt,out,bi,e.args,(e.args.length:Int),(i:Int)):Str×Str×Int×Int×Str×(List ak)×Int×Int×Str×(List ak)×Bool×(List ak)×Int×Int)) e.args (λi out=>out=rnL b c bi 0 (e.args.take i)) (λr=>r=ak.mk e.kind e.n nt (rnL b c bi 0 e.args)) (λi x out a d=>.inl ⟨out++[if (bi&&decide (0<i))=true then x else rnE b c x],?_,?_⟩) (λout d=>⟨_,?_,rfl⟩) [] rfl)
  ·have g:=zG a;have t:=uS g;have hi:=(zC.1 a).1;have u:=ng g;have hol:out.length<=i:=by rw[d,KH,bc];omega
   have f:∀y:ak,gd (out.length+[y].length)=some ():=λy=>bI (by simp;omega)
   have j:=ih x (by omega) (by omega);have m:=ak3 x (by omega);have ex:ak.mk x.kind x.n x.text x.args=x:=by cases x;rfl
   simp only[vM a,ac,aP,a,zA];cases bi with
   | false=>simp only[aa,Vk,ex,j,f,bV,zA,sV a (by omega),Bool.false_and,aM,if_false]
   | true=>
    simp only[ac,Vk,ex,pos1];cases decide (0<i)with
    | true=>simp only[ac,m,f,bV,zA,sV a (by omega),amy,if_true]
    | false=>simp only[aa,j,f,bV,zA,sV a (by omega),amy,aM,if_false]
  ·rw[aey b c bi a,d]
  ·rw[d,List.take_length];simp only[qN,aa]
mutual
theorem Zu(b:Str){c:Str}(hc:c.length<=120):∀e:ak,wtE (rnE b c e)<=wtE e
 | ⟨k,n,t,a⟩=>by
  have d:=aex b hc a (xB b k t) 0;show (if (yw b c k t).length<=120 then 1 else 18446744073709551616)+wtL (rnL b c (xB b k t) 0 a)<=(if t.length<=120 then 1 else 18446744073709551616)+wtL a
  have f:(if (yw b c k t).length<=120 then 1 else 18446744073709551616)<=(if t.length<=120 then 1 else 18446744073709551616):=by
   unfold yw;split
   ·split<;>omega
   ·exact aD _
  omega
theorem aex(b:Str){c:Str}(hc:c.length<=120):∀(xs:List ak) (bi:Bool) (i:Nat),wtL (rnL b c bi i xs)<=wtL xs
 | [],_,_=>aD _
 | x::r,bi,i=>by
  have a:=Zu b hc x;have d:=aex b hc r bi (i+1);show wtE (if (bi&&decide (0<i))=true then x else rnE b c x)+wtL (rnL b c bi (i+1) r)<=wtE x+wtL r
  split<;>omega
end
theorem BI:∀(d:Nat) (e:ak) (σ:Str->Str->Prop),ShX d e->wzE e<=1048576->(∀s,s≠[122,122]->σ s s)->VY σ e e
 | 0,e,_,c,_,_=>by cases c
 | d+1,e,σ,c,g,hσ=>by
  have j:=(ED g).2;have b:∀ {i},i<e.args.length->wzE (arg e i)<=1048576:=λhi=>by have:=YH (dw hi);omega
  cases c with
  | mk d _ k0 k9 num tx tl al op two three cl f=>
  refine .mk σ e e rfl rfl rfl (λ_=>hσ _ j) (λ_ _ _=>rfl) (λ_ _ _ i hi=>BI d _ σ (f _ (dw hi)) (b hi) hσ) (λh=>BI d _ σ (f _ (dw (by have:=two h;omega))) (b (by have:=two h;omega)) hσ) λh=>BI d _ _ (f _ (dw (by have:=two h;omega))) (b (by have:=two h;omega)) λs k=>?_
  by_cases a:s=e.text
  ·exact .inl ⟨a,a⟩
  ·exact .inr ⟨a,a,hσ s k⟩
theorem Fv{b:Str}(j:b≠[122,122]):∀(d:Nat) (e:ak) (σ:Str->Str->Prop),ShX d e->wzE e<=1048576->σ b [122,122]->(∀s,s≠b->s≠[122,122]->σ s s)->VY σ e (rnE b [122,122] e)
 | 0,e,_,p,_,_,_=>by cases p
 | d+1,e,σ,p,u,m,l=>by
  have r:=(ED u).2;have c:∀ {i},i<e.args.length->wzE (arg e i)<=1048576:=λhi=>by have:=YH (dw hi);omega
  have t:e.kind≠3->(rnE b [122,122] e).text=e.text:=λh=>by
   have h:(e.kind==3)=false:=by simpa using h
   rw[xW];show yw b _ e.kind e.text=_;unfold yw;rw[h];rfl
  cases p with
  | mk d _ k0 k9 num tx tl al op two three cl n=>
  refine .mk σ e _ (by rw[xW]) (by rw[xW]) (by rw[xW];exact KH _ _ _ _ _) (λo=>?_) (λo _ _=>t o) (λo v k9 i hi=>?_) (λh=>?_) λh=>?_
  ·have w:(rnE b [122,122] e).text=yw b [122,122] e.kind e.text:=by rw[xW]
   rw[w,o];unfold yw;by_cases g:e.text=b
   ·rw[g];simpa using m
   ·have k:(e.text==b)=false:=by simpa using g
    rw[k];exact l _ g r
  ·have x:(e.kind==7)=false:=by simpa using v
   have y:(e.kind==9)=false:=by simpa using k9
   have bb:xB b e.kind e.text=false:=by unfold xB;rw[x,y];rfl
   rw[Zt b _ hi,bb];exact Fv j d _ σ (n _ (dw hi)) (c hi) m l
  ·have hi:0<e.args.length:=by have:=two h;omega
   rw[Zt b _ hi,show decide (0<0)=false from rfl,Bool.and_false];exact Fv j d _ σ (n _ (dw hi)) (c hi) m l
  ·have hi:1<e.args.length:=by have:=two h;omega
   have hk:((e.kind==7)||(e.kind==9))=true:=by rcases h with h | h<;>rw[h]<;>rfl
   rw[Zt b _ hi,show decide (0<1)=true from rfl,Bool.and_true,t (by omega)];by_cases g:e.text=b
   ·have bb:xB b e.kind e.text=true:=by unfold xB;rw[hk,g];simp
    rw[bb,if_pos rfl,g];refine BI d _ _ (n _ (dw hi)) (c hi) λs q=>?_
    by_cases a:s=b
    ·exact .inl ⟨a,a⟩
    ·exact .inr ⟨a,a,l s a q⟩
   ·have k:(e.text==b)=false:=by simpa using g
    have bb:xB b e.kind e.text=false:=by unfold xB;rw[k];simp
    rw[bb,if_neg (by decide)];refine Fv j d _ _ (n _ (dw hi)) (c hi) (.inr ⟨λh=>g h.symm,λh=>r h.symm,m⟩) λs a q=>?_
    by_cases f:s=e.text
    ·exact .inl ⟨f,f⟩
    ·exact .inr ⟨f,f,l s a q⟩
mutual
def nsE:ak->Int
 | ⟨_,_,_,a⟩=>w64 (nsL 0 a+1)
def nsL:Int->List ak->Int
 | s,[]=>s
 | s,x::r=>nsL (if nsE x>s then nsE x else s) r
end
theorem akM(e:ak):nsE e=w64 (nsL 0 e.args+1):=by cases e;rfl
theorem NV:∀(xs ys:List ak) (s:Int),nsL s (xs++ys)=nsL (nsL s xs) ys
 | [],_,_=>rfl
 | x::r,ys,s=>NV r ys _
theorem aff:∀(n:Nat) (e:ak),siz e<n->wtE e<=1048576->iw n e=some (nsE e)
 | 0,e,h,_=>absurd h (aml _)
 | n+1,e,d,hf=>by
  have ih:=aff n;have f:=uQ (e:=e);show kG (iw n) e=_
  unfold kG;refine run_eq (nJ (λ(s:Int) (i:Nat)=>((e.kind,e.n,e.text,e.args,s,(i:Int)):Int×Int×Str×(List ak)×Int×Int)) e.args (λi s=>s=nsL 0 (e.args.take i)) (λr=>r=nsE e) (λi x s a b=>.inl ⟨if nsE x>s then nsE x else s,?_,?_⟩) (λs b=>⟨_,?_,rfl⟩) 0 rfl)
  ·have c:=zG a;simp only[vM a,ac,aP,a,zA,bV,ih x (by have:=ng c;omega) (by have:=uS c;omega),Hz,sV a (by omega)]
  ·obtain⟨hi,rfl⟩:=zC.1 a;rw[List.take_succ_eq_append_getElem hi,NV,b];rfl
  ·rw[b,List.take_length];simp only[qN,aa,akM]
mutual
theorem afh(b c:Str):∀e:ak,nsE (rnE b c e)=nsE e
 | ⟨k,n,t,a⟩=>by
  show w64 (nsL 0 (rnL b c (xB b k t) 0 a)+1)=w64 (nsL 0 a+1)
  rw[afg b c a]
theorem afg(b c:Str):∀(xs:List ak) (bi:Bool) (i:Nat) (s:Int),nsL s (rnL b c bi i xs)=nsL s xs
 | [],_,_,_=>rfl
 | x::r,bi,i,s=>by
  have h:=afh b c x;show nsL (if nsE (if (bi&&decide (0<i))=true then x else rnE b c x)>s then nsE (if (bi&&decide (0<i))=true then x else rnE b c x)else s) (rnL b c bi (i+1) r)=nsL (if nsE x>s then nsE x else s) r
  have a:nsE (if (bi&&decide (0<i))=true then x else rnE b c x)=nsE x:=by split<;>first | rfl | exact h
  rw[a,afg b c r (bi) (i+1)]
end
inductive aaB:ak->Prop
 | mk (e:ak) (h:gG e=some true) (hs:∀x,x∈e.args->aaB x):aaB e
theorem abD:∀(n:Nat) (e:ak),siz e<n->wtE e<=1048576->∃v,lM n e=some v/\(v=true↔aaB e)
 | 0,e,h,_=>absurd h (aml _)
 | n+1,e,p,l=>by
  have ih:=abD n;have q:=uQ (e:=e);show ∃v,rJ (lM n) e=some v/\_
  unfold rJ;refine nJ (λ(_:Unit) (i:Nat)=>((e.kind,e.n,e.text,e.args,(i:Int)):Int×Int×Str×(List ak)×Int)) e.args (λi _=>∀j x,e.args[j]?=some x->j<i->aaB x) _ (λi x s a d=>?_) (λs d=>?_) () (λj x _ b=>absurd b (aml _))
  ·have f:=zG a;obtain⟨v,c,m⟩:=ih x (by have:=ng f;omega) (by have:=uS f;omega);simp only[vM a,ac,aP,a,zA,bV,c,sV a (by omega)];cases v with
   | false=>exact .inr ⟨false,rfl,λh=>(by cases h),λh=>by cases h with | mk _ _ o=>exact m.2 (o x f)⟩
   | true=>
    refine .inl ⟨(),rfl,λj y g b=>?_⟩;by_cases k:j=i
    ·subst k;rw[a]at g;cases g
     exact m.1 rfl
    ·exact d j y g (by omega)
  ·obtain⟨v,c,_⟩:=abf e (oh e l).1 (oh e l).2;have eta:ak.mk e.kind e.n e.text e.args=e:=by cases e;rfl
   refine⟨v,by simp only[qN,aa,eta,c,zA],λhv=>.mk e (by rw[c,hv]) λx a=>?_,λh=>by cases h with | mk _ h _=>rw[c]at h;exact a7 h⟩;obtain⟨j,b⟩:=List.mem_iff_getElem?.1 a;exact d j x b (zC.1 b).1
theorem afj(e:ak){a:List ak}(h:a.length=e.args.length):gG ⟨e.kind,e.n,e.text,a⟩=gG e:=by
 unfold gG;simp only[h]
theorem node3(e:ak)(h:e.kind=3):gG e=bif ((e.args.length:Int)==0)then bif (e.n==0)then (bP e.text).bind λa=>some a else some false else some false:=by
 unfold gG;rw[h];rfl
theorem ahz{b c:Str}(f:bP b=some true)(hc:bP c=some true)(e:ak):gG (rnE b c e)=gG e:=by
 rw[xW];have d:=KH b c (xB b e.kind e.text) e.args 0;by_cases h:e.kind=3/\e.text=b
 ·have q:=node3 ⟨e.kind,e.n,yw b c e.kind e.text,rnL b c (xB b e.kind e.text) 0 e.args⟩ h.1;have a:yw b c e.kind e.text=c:=by unfold yw;rw[h.1,h.2];simp
  rw[q,node3 e h.1];show (bif (((rnL b c (xB b e.kind e.text) 0 e.args).length:Int)==0)then bif (e.n==0)then (bP (yw b c e.kind e.text)).bind λg=>some g else some false else some false)=_
  rw[d,a,h.2,f,hc]
 ·have a:yw b c e.kind e.text=e.text:=by
   unfold yw;rw[if_neg];intro hh;rw[zI,beq_iff_eq,beq_iff_eq]at hh;exact h hh
  rw[a];exact afj e d
theorem aio{b c:Str}(f:bP b=some true)(hc:bP c=some true){e:ak}(h:aaB e):aaB (rnE b c e):=by
 induction h with
 | mk e h g ih=>
  refine .mk _ (by rw[ahz f hc,h]) λy a=>?_
  rw[xW]at a;obtain⟨x,d,a⟩:=aaX _ _ _ _ _ a;rcases a with rfl | rfl
  ·exact g _ d
  ·exact ih x d
theorem V6(e:ak)(b:wtE e<=1048576):dF e=some true↔wtE e<=40/\nsE e<=8/\aaB e:=by
 obtain⟨r,c,g,i⟩:=Vh _ e 40 (Nat.lt_succ_self _) b (by omega) (by omega);have c:Fe e 40=some r:=c;have j:xM e=some (nsE e):=aff _ e (Nat.lt_succ_self _) b;obtain⟨v,d,f⟩:=abD _ e (Nat.lt_succ_self _) b;have d:Ff e=some v:=d;unfold dF;simp only[bV,c,j,d,zA];by_cases h:wtE e<=40
 ·have:=g (by omega);rw[aq (show r>=0 by omega)];by_cases a:nsE e<=8
  ·rw[aq a];exact⟨λhv=>⟨h,a,f.1 (a7 hv)⟩,λhh=>by show some v=some true;rw[f.2 hh.2.2]⟩
  ·rw[ae a];exact⟨λhv=>(by cases hv),λhh=>absurd hh.2.1 a⟩
 ·have:=i (by omega);rw[ae (show ¬r>=0 by omega)];exact⟨λhv=>(by cases hv),λhh=>absurd hh.1 h⟩
theorem adB{b c:Str}(a:c.length<=120)(d:bP b=some true)(hc:bP c=some true){e:ak}(f:wtE e<=1048576)(h:dF e=some true):dF (rnE b c e)=some true:=by
 have j:=Zu b a e;obtain⟨k,g,i⟩:=(V6 e f).1 h;exact (V6 _ (by omega)).2 ⟨by omega,by rw[afh];exact g,aio d hc i⟩
def rnB(x:au):au:=bif x.name==[97]then au.mk [122,122] x.value else x
theorem aaZ(x:au):(rnB x).value=x.value:=by
 unfold rnB;cases x.name==[97]<;>rfl
def azR(s s':Str):Prop:=(s=[97]/\s'=[122,122])\/(s≠[97]/\s≠[122,122]/\s'=s)
theorem aez{x:au}(e:x.name≠[122,122]){s s':Str}(h:azR s s'):((rnB x).name==s')=(x.name==s):=by
 unfold rnB;cases a:x.name==[97]with
 | true=>
  have a:x.name=[97]:=by simpa using a
  show (([122,122]:Str)==s')=_
  rw[a];rcases h with ⟨rfl,rfl⟩ | ⟨c,d,rfl⟩
  ·rfl
  ·have b:(([122,122]:Str)==s')=false:=by simpa using Ne.symm d
   have f:(([97]:Str)==s')=false:=by simpa using Ne.symm c
   rw[b,f]
 | false=>
  show (x.name==s')=_
  rcases h with ⟨rfl,rfl⟩ | ⟨c,d,rfl⟩
  ·have b:(x.name==([122,122]:Str))=false:=by simpa using e
   rw[b,a]
  ·rfl
theorem Xu{c:List au}(a:∀x,x∈c->x.name≠[122,122]){s s':Str}(h:azR s s'):∀n,nI (c.map rnB) s' n=nI c s n
 | 0=>rfl
 | n+1=>by
  unfold nI;rw[amh];cases d:c[n]? with
  | none=>rfl
  | some b=>
   show (bif (rnB b).name==s' then (rnB b).value else nI (c.map rnB) s' n)=bif b.name==s then b.value else nI c s n
   rw[aez (a b (zG d)) h,aaZ,Xu a h n]
theorem ad7{c:List au}(a:∀x,x∈c->x.name≠[122,122]):PU azR c (c.map rnB):=λs s' h=>by
 unfold y7;rw[amv];exact Xu a h _
theorem afl(s:Str)(a:s.length<=34359738368)(b:(mX 0 s&&(decide (1<=(s.length:Int))&&decide ((s.length:Int)<=8)))=true)(c:qc s=some false):bP s=some true:=by
 rw[<- pq s a];unfold dK;rw[Eo s a,b,zA,c];rfl
theorem afm:bP [97]=some true:=afl _ (by simp) (by decide) rfl
theorem afk:bP [122,122]=some true:=afl _ (by simp) (by decide) rfl
theorem Ed(a:List Int)(G:cu B47 (.list (.base .u8) a)):FnRenamedValue a=some true:=by
 refine agt G λH=>?_
 obtain⟨⟨e,c,t,w,x,y⟩,I,j⟩:=Kt a H;have J:wzE e<=10300:=j.e;have T:wtE e<=10300:=amq (Q8 e) J;have k:VX c:=j.s;have l:abG t:=j.t;have U:w.files.length<=3:=j.w;obtain⟨P,V,hc⟩:=aa6 c λb d=>(k.2 b d).2
 have K:=k.1;have m:ScD P 40 c:=⟨by omega,hc⟩;obtain⟨v,D,p,q⟩:=Q9 e (by omega);have hTp:agA P t:=⟨by have:=l.1;omega,λr E=>⟨aeE (l.2 r E).1,D7 (λo u=>by cases u) (l.2 r E).2.1⟩⟩;have hcap:kM e [97] [122,122]=some false:=aas e _ (by omega);have A:OE e [97] [122,122]=some (rnE [97] [122,122] e):=aew _ _ _ e (Nat.lt_succ_self _) (by omega);have na:dK [97]=some true:=(pq _ (by simp)).trans afm;have nz:dK [122,122]=some true:=(pq _ (by simp)).trans afk;have hren:uD e [97] [122,122]=some (bif v then (rnE [97] [122,122] e,true)else (ak.mk 0 0 [] [],false)):=by
  unfold uD;simp only[bV,D,na,nz,hcap,A,zA];cases v<;>rfl
 simp only[I,bV,hren,p,zA];cases v with
 | false=>rfl
 | true=>
 simp only[ac,aR,aa];have L:wtE (rnE [97] [122,122] e)<=wtE e:=Zu _ (by simp) e;obtain⟨v',w1,w2,f⟩:=Q9 (rnE [97] [122,122] e) (by omega);have B:v'=true:=by
  have:=adB (by simp) afm afk (by omega) p;rw[w2]at this;exact a7 this
 subst B;have g:ScD P 40 (c.map rnB):=⟨by rw[amv];omega,λb d=>by
  obtain⟨z,M,rfl⟩:=List.mem_map.1 d;rw[aaZ];exact hc z M⟩
 obtain⟨o,_,o2,N,u,_⟩:=JE (by omega) (a:=x) (b:=y) D p q m hTp (w:=w) (by omega);obtain⟨o',F,_,_,C,_⟩:=JE (by omega) (a:=x) (b:=y) w1 w2 f g hTp (w:=w) (by omega);have hsame:o'=o:=by
  rw[C rfl,u rfl];unfold evO;rw[agU (q rfl) (f rfl) (c:=c) (c':=c.map rnB) (σ:=azR) (Fv (by decide) 40 e azR (q rfl) (by omega) (.inl ⟨rfl,rfl⟩) λs O Q=>.inr ⟨O,Q,rfl⟩) (ad7 λb d=>(k.2 b d).1) t w x y]
 subst hsame;generalize rnE [97] [122,122] e=e' at F;refine run_eq (nJ (λ(s:List au) (i:Nat)=>((e.kind,e.n,e.text,e.args,c,t,w.clock,w.seed,w.files,x,y,e'.kind,e'.n,e'.text,e'.args,s,(i:Int)) :
  Int×Int×Str×(List ak)×(List au)×(List aG)×Int×Int×(List fJ)×Int×Int×Int×Int×Str×(List ak)×(List au)×Int)) c
  (λi s=>s=(c.take i).map rnB) (λr=>r=true) (λi b s d h=>.inl ⟨s++[rnB b],?_,?_⟩) (λs h=>⟨true,?_,rfl⟩) [] rfl)
 ·have hi:=(zC.1 d).1;have R:s.length<=i:=by rw[h,amv,bc];omega
  have S:∀z:au,gd (s.length+[z].length)=some ():=λz=>bI (by simp;omega)
  simp only[vM d,ac,aP,d,zA,aC,UN,S,sV d (by omega)];unfold rnB;cases b.name==[97]<;>rfl
 ·obtain⟨hi,rfl⟩:=zC.1 d;rw[List.take_succ_eq_append_getElem hi,List.map_append,h];rfl
 ·rw[List.take_length]at h;subst h;have ee:ak.mk e.kind e.n e.text e.args=e:=by cases e;rfl
  have ee':ak.mk e'.kind e'.n e'.text e'.args=e':=by cases e';rfl
  have ew:bT.mk w.clock w.seed w.files=w:=rfl;simp only[qN,aa,ee,ee',ew,F,o2,aeG,Ue N,zA]
end Go.Proofs.YtjbajpfonnnfoaaGreatDoor
/- Functions of the library, as the evaluator's contracts. -/
namespace Go.Abs
open Go.RowKit Go.Sort Go.Proofs Go.Shelf
theorem Zv{B:Nat}{w':World}{S:Nat->Nat->Prop}(b:Bool):Tq B w' S true [⟨false,.base .bool⟩] b (.bool b):=
 ⟨[_],rfl,λ_ _=>False,⟨.bool _ _,trivial⟩,λ_ _ h=>h.elim,λ_ _ _ h=>h.elim⟩
theorem xY{w:World}{S:Nat->Nat->Prop}{s:Str}{u:Value}(h:Rep w S (.str s) u):u=.string ⟨s.toArray⟩:=by
 generalize a:D.str s=d at h;cases h<;>cases a
 rfl
theorem oV{w:World}{S:Nat->Nat->Prop}{k:IntKind}{n:Int}{u:Value}(h:Rep w S (.int k n) u):u=.int k n:=by
 generalize a:D.int k n=d at h;cases h<;>cases a
 rfl
theorem aeD{w:World}{S:Nat->Nat->Prop}{b:Bool}{u:Value}(h:Rep w S (.bool b) u):u=.bool b:=by
 generalize a:D.bool b=d at h;cases h<;>cases a
 rfl
theorem Wi{P:Program}{ρ:Ren}(L:Lays.n146 P ρ)(p:(P.info? (ρ.t 9)).map (λi=>(i.zero,i.size,i.bytes))=some (some (.string ByteArray.empty),1,16))(hmax:∀w,amb w->∃m,w.cell? ⟨(ρ.g 1),0,none⟩=some (.int .i64 m)) :
  Sound P { fid:=ρ.f 146,ps:=[⟨false,.base .str⟩,⟨false,.base .str⟩],rs:=[⟨false,.list (.base .str)⟩],ex:=true,fn:=λx=>wO x.1 x.2 }:=by
 intro w S args x y h E b K;rcases args with _ | ⟨u,_ | ⟨F,_ | ⟨M,r⟩⟩⟩
 ·exact b.elim
 ·exact b.2.elim
 ·have G:=xY (show Rep w S (.str x.1) u from b.1.1);have q:=xY (show Rep w S (.str x.2) F from b.2.1);subst G;subst q;have h:wO x.1 x.2=some y:=h;unfold wO at h;split at h
  case isFalse=>cases h
  rename_i v;obtain⟨m,H⟩:=hmax w E;have B:(⟨x.1.toArray⟩:ByteArray).size=x.1.length:=by show x.1.toArray.size=_;simp
  have I:(⟨x.2.toArray⟩:ByteArray).size=x.2.length:=by show x.2.toArray.size=_;simp
  have k:1<=(⟨x.2.toArray⟩:ByteArray).size:=by rw[I];exact v.2
  have hk:=Lib.splitB_all ⟨x.2.toArray⟩ k 0 _ ⟨x.1.toArray⟩ rfl;have l:=Lib.countB_le ⟨x.2.toArray⟩ k (⟨x.1.toArray⟩:ByteArray).size ⟨x.1.toArray⟩ (aD _);have a:=Lib.splitB_data ⟨x.2.toArray⟩ 0 (Lib.countB ⟨x.1.toArray⟩ ⟨x.2.toArray⟩) ⟨x.1.toArray⟩;have C:(Lib.splitB ⟨x.2.toArray⟩ 0 (Lib.countB ⟨x.1.toArray⟩ ⟨x.2.toArray⟩) ⟨x.1.toArray⟩).map (·.data.toList)=y:=by
   cases h
   rw[a];rfl
  refine (Any.strings_Split L p ⟨x.1.toArray⟩ ⟨x.2.toArray⟩ m w (by rw[B];exact v.1) H k).mono ?_;generalize Lib.splitB ⟨x.2.toArray⟩ 0 (Lib.countB ⟨x.1.toArray⟩ ⟨x.2.toArray⟩) ⟨x.1.toArray⟩=bs at hk C;generalize Lib.countB ⟨x.1.toArray⟩ ⟨x.2.toArray⟩=n at hk l;subst C;rintro e w' ⟨rfl,rfl⟩;have z:(w.alloc (.cells (bs.map Value.string).toArray (ρ.t 9))).heap.size=w.heap.size+1:=Array.size_push _;refine⟨_,rfl,(Below.refl _ _).alloc (aD _) _,[_],rfl,λi c=>i=0/\c=w.heap.size,⟨?_,trivial⟩,λi c hc=>by rw[hc.2,z];omega,λi i' c k J=>k.1.trans J.1.symm⟩
  ·have D:(bs.map (·.data.toList)).length=n+1:=by rw[amv,hk]
   have key:=Ow.list (w:=w.alloc (.cells (bs.map Value.string).toArray (ρ.t 9))) (S:=λ_ _=>False) (deep:=true) (.base .str) (bs.map (·.data.toList)) w.heap.size (n+1) (bs.map Value.string).toArray (ρ.t 9) (λi _=>.string (bs[i]!)) (λ_ _ _=>False) (λc=>0=0/\c=w.heap.size)
    (Array.getElem?_push_size) (by rw[D];exact aD _) (by rw[B]at l;have:=v.1;unfold maxLen;omega) (by show (bs.map Value.string).toArray.size=(n+1)*1;simp[hk]) ⟨rfl,rfl⟩
    (λi s j d o a=>?_) (λi s j d o a=>?_) (λ_ _ _ h=>h.elim) (λ_ _ _ _ _ h=>h.elim)
   ·rw[D]at key;exact key
   ·cases j with
    | succ j=>simp[Ty.cells,Base.cells]at a
    | zero=>
     have e:i*(Ty.base .str).size+0=i:=by show i*1+0=i;omega
     have hi:i<bs.length:=by
      have:=(zC.1 o).1;simpa using this
     rw[e];simp[hi]
   ·cases j with
    | succ j=>simp[Ty.cells,Base.cells]at a
    | zero=>
     simp only[Ty.cells,Base.cells,List.getElem?_cons_zero,zD]at a;subst a;have hi:i<bs.length:=by
      have:=(zC.1 o).1;simpa using this
     have A:bs[i].data.toList=s:=by
      rw[amh,zF hi]at o;simpa using o
     rw[getElem!_pos bs i hi,<- A];exact Ow.str _ _
 ·exact b.2.elim
end Go.Abs
/- Functions of the library, by this program's numbers. -/
namespace Go.Proofs.YtjbajpfonnnfoaaGreatDoor
open Go.Proofs Go.Shelf Go.RowKit Go.Lib Go.Sort
def l6r:Go.Shelf.Ren:=⟨λ| 6=>222 | 10=>228 | 11=>229 | 12=>230 | 13=>231 | 14=>232 | 24=>246 | 25=>247 | 26=>248 | 27=>249 | 28=>250 | 29=>251 | 30=>252 | 31=>253 | 32=>254 | 33=>255 | 34=>269 | 35=>270 | 36=>271 | 37=>272 | 38=>273 | 39=>285 | n=>n,λ| 20=>20 | 26=>189 | 35=>195 | 0=>0 | 37=>197 | 3=>3 | 41=>145 | 44=>203 | 49=>211 | 51=>213 | 4=>4 | 54=>216 | 53=>215 | 58=>178 | 5=>5 | 9=>9 | 60=>231 | 64=>235 | 66=>240 | 67=>241 | 17=>17 | 32=>192 | 33=>193 | 82=>264 | 12=>12 | 75=>257 | 76=>258 | 77=>259 | 78=>260 | 79=>261 | 80=>262 | n=>n,λn=>n⟩
theorem l6:LaysGg.n6 Tryz.prog l6r where
 mixed:=by kernel_rfl
 f6:=Tryz.func222.trans (congrArg some (by kernel_rfl))
 f10:=Tryz.func228.trans (congrArg some (by kernel_rfl))
 f11:=Tryz.func229.trans (congrArg some (by kernel_rfl))
 f12:=Tryz.func230.trans (congrArg some (by kernel_rfl))
 f13:=Tryz.func231.trans (congrArg some (by kernel_rfl))
 f14:=Tryz.func232.trans (congrArg some (by kernel_rfl))
 f24:=Tryz.func246.trans (congrArg some (by kernel_rfl))
 f25:=Tryz.func247.trans (congrArg some (by kernel_rfl))
 f26:=Tryz.func248.trans (congrArg some (by kernel_rfl))
 f27:=Tryz.func249.trans (congrArg some (by kernel_rfl))
 f28:=Tryz.func250.trans (congrArg some (by kernel_rfl))
 f29:=Tryz.func251.trans (congrArg some (by kernel_rfl))
 f30:=Tryz.func252.trans (congrArg some (by kernel_rfl))
 f31:=Tryz.func253.trans (congrArg some (by kernel_rfl))
 f32:=Tryz.func254.trans (congrArg some (by kernel_rfl))
 f33:=Tryz.func255.trans (congrArg some (by kernel_rfl))
 f34:=Tryz.func269.trans (congrArg some (by kernel_rfl))
 f35:=Tryz.func270.trans (congrArg some (by kernel_rfl))
 f36:=Tryz.func271.trans (congrArg some (by kernel_rfl))
 f37:=Tryz.func272.trans (congrArg some (by kernel_rfl))
 f38:=Tryz.func273.trans (congrArg some (by kernel_rfl))
 f39:=Tryz.func285.trans (congrArg some (by kernel_rfl))
 t0:=Tryz.underlying0
 a0:=Tryz.isAgg0
 z0:=Tryz.sizeOf0
 v0:=Tryz.zeroValue0
 i0:=by kernel_rfl
 t3:=Tryz.underlying3
 a3:=Tryz.isAgg3
 z3:=Tryz.sizeOf3
 v3:=Tryz.zeroValue3
 i3:=by kernel_rfl
 t4:=Tryz.underlying4
 a4:=Tryz.isAgg4
 z4:=Tryz.sizeOf4
 v4:=Tryz.zeroValue4
 i4:=by kernel_rfl
 t5:=Tryz.underlying5
 a5:=Tryz.isAgg5
 z5:=Tryz.sizeOf5
 v5:=Tryz.zeroValue5
 i5:=by kernel_rfl
 t9:=Tryz.underlying9
 a9:=Tryz.isAgg9
 z9:=Tryz.sizeOf9
 v9:=Tryz.zeroValue9
 i9:=by kernel_rfl
 t12:=Tryz.underlying12
 a12:=Tryz.isAgg12
 z12:=Tryz.sizeOf12
 v12:=Tryz.zeroValue12
 i12:=by kernel_rfl
 t17:=Tryz.underlying17
 a17:=Tryz.isAgg17
 z17:=Tryz.sizeOf17
 v17:=Tryz.zeroValue17
 i17:=by kernel_rfl
 t20:=Tryz.underlying20
 a20:=Tryz.isAgg20
 z20:=Tryz.sizeOf20
 v20:=Tryz.zeroValue20
 i20:=by kernel_rfl
 t26:=Tryz.underlying189
 a26:=Tryz.isAgg189
 z26:=Tryz.sizeOf189
 v26:=Tryz.zeroValue189
 i26:=by kernel_rfl
 t32:=Tryz.underlying192
 a32:=Tryz.isAgg192
 z32:=Tryz.sizeOf192
 v32:=Tryz.zeroValue192
 i32:=by kernel_rfl
 t33:=Tryz.underlying193
 a33:=Tryz.isAgg193
 z33:=Tryz.sizeOf193
 v33:=Tryz.zeroValue193
 i33:=by kernel_rfl
 t35:=Tryz.underlying195
 a35:=Tryz.isAgg195
 z35:=Tryz.sizeOf195
 v35:=Tryz.zeroValue195
 i35:=by kernel_rfl
 t37:=Tryz.underlying197
 a37:=Tryz.isAgg197
 z37:=Tryz.sizeOf197
 v37:=Tryz.zeroValue197
 i37:=by kernel_rfl
 t41:=Tryz.underlying145
 a41:=Tryz.isAgg145
 z41:=Tryz.sizeOf145
 v41:=Tryz.zeroValue145
 i41:=by kernel_rfl
 t44:=Tryz.underlying203
 a44:=Tryz.isAgg203
 z44:=Tryz.sizeOf203
 v44:=Tryz.zeroValue203
 i44:=by kernel_rfl
 t49:=Tryz.underlying211
 a49:=Tryz.isAgg211
 z49:=Tryz.sizeOf211
 v49:=Tryz.zeroValue211
 i49:=by kernel_rfl
 t51:=Tryz.underlying213
 a51:=Tryz.isAgg213
 z51:=Tryz.sizeOf213
 v51:=Tryz.zeroValue213
 i51:=by kernel_rfl
 t53:=Tryz.underlying215
 a53:=Tryz.isAgg215
 z53:=Tryz.sizeOf215
 v53:=Tryz.zeroValue215
 i53:=by kernel_rfl
 t54:=Tryz.underlying216
 a54:=Tryz.isAgg216
 z54:=Tryz.sizeOf216
 v54:=Tryz.zeroValue216
 i54:=by kernel_rfl
 t58:=Tryz.underlying178
 a58:=Tryz.isAgg178
 z58:=Tryz.sizeOf178
 v58:=Tryz.zeroValue178
 i58:=by kernel_rfl
 t60:=Tryz.underlying231
 a60:=Tryz.isAgg231
 z60:=Tryz.sizeOf231
 v60:=Tryz.zeroValue231
 i60:=by kernel_rfl
 t64:=Tryz.underlying235
 a64:=Tryz.isAgg235
 z64:=Tryz.sizeOf235
 v64:=Tryz.zeroValue235
 i64:=by kernel_rfl
 t66:=Tryz.underlying240
 a66:=Tryz.isAgg240
 z66:=Tryz.sizeOf240
 v66:=Tryz.zeroValue240
 i66:=by kernel_rfl
 t67:=Tryz.underlying241
 a67:=Tryz.isAgg241
 z67:=Tryz.sizeOf241
 v67:=Tryz.zeroValue241
 i67:=by kernel_rfl
 t75:=Tryz.underlying257
 a75:=Tryz.isAgg257
 z75:=Tryz.sizeOf257
 v75:=Tryz.zeroValue257
 i75:=by kernel_rfl
 t76:=Tryz.underlying258
 a76:=Tryz.isAgg258
 z76:=Tryz.sizeOf258
 v76:=Tryz.zeroValue258
 i76:=by kernel_rfl
 t77:=Tryz.underlying259
 a77:=Tryz.isAgg259
 z77:=Tryz.sizeOf259
 v77:=Tryz.zeroValue259
 i77:=by kernel_rfl
 t78:=Tryz.underlying260
 a78:=Tryz.isAgg260
 z78:=Tryz.sizeOf260
 v78:=Tryz.zeroValue260
 i78:=by kernel_rfl
 t79:=Tryz.underlying261
 a79:=Tryz.isAgg261
 z79:=Tryz.sizeOf261
 v79:=Tryz.zeroValue261
 i79:=by kernel_rfl
 t80:=Tryz.underlying262
 a80:=Tryz.isAgg262
 z80:=Tryz.sizeOf262
 v80:=Tryz.zeroValue262
 i80:=by kernel_rfl
 t82:=Tryz.underlying264
 a82:=Tryz.isAgg264
 z82:=Tryz.sizeOf264
 v82:=Tryz.zeroValue264
 i82:=by kernel_rfl
def afw:Go.Shelf.Ren:=⟨λ| 146=>221 | 221=>227 | 268=>234 | 138=>235 | 143=>236 | 195=>265 | 197=>266 | 218=>267 | 219=>268 | 260=>280 | 217=>281 | 225=>282 | 224=>283 | 267=>284 | 266=>287 | 314=>288 | n=>n,λ| 9=>9 | 31=>35 | 3=>3 | 4=>4 | 0=>0 | 105=>228 | 21=>21 | 5=>5 | 46=>145 | 119=>245 | 139=>248 | 138=>247 | 146=>249 | 51=>211 | n=>n,λ| 1=>0 | 3=>1 | 4=>2 | n=>n⟩
theorem l146:Lays.n146 Tryz.prog afw where
 mixed:=by kernel_rfl
 f138:=Tryz.func235.trans (congrArg some (by kernel_rfl))
 f143:=Tryz.func236.trans (congrArg some (by kernel_rfl))
 f146:=Tryz.func221.trans (congrArg some (by kernel_rfl))
 f195:=Tryz.func265.trans (congrArg some (by kernel_rfl))
 f197:=Tryz.func266.trans (congrArg some (by kernel_rfl))
 f217:=Tryz.func281.trans (congrArg some (by kernel_rfl))
 f218:=Tryz.func267.trans (congrArg some (by kernel_rfl))
 f219:=Tryz.func268.trans (congrArg some (by kernel_rfl))
 f221:=Tryz.func227.trans (congrArg some (by kernel_rfl))
 f224:=Tryz.func283.trans (congrArg some (by kernel_rfl))
 f225:=Tryz.func282.trans (congrArg some (by kernel_rfl))
 f260:=Tryz.func280.trans (congrArg some (by kernel_rfl))
 f266:=Tryz.func287.trans (congrArg some (by kernel_rfl))
 f267:=Tryz.func284.trans (congrArg some (by kernel_rfl))
 f268:=Tryz.func234.trans (congrArg some (by kernel_rfl))
 f314:=Tryz.func288.trans (congrArg some (by kernel_rfl))
 t0:=Tryz.underlying0
 a0:=Tryz.isAgg0
 z0:=Tryz.sizeOf0
 v0:=Tryz.zeroValue0
 t3:=Tryz.underlying3
 a3:=Tryz.isAgg3
 z3:=Tryz.sizeOf3
 v3:=Tryz.zeroValue3
 t4:=Tryz.underlying4
 a4:=Tryz.isAgg4
 z4:=Tryz.sizeOf4
 v4:=Tryz.zeroValue4
 t5:=Tryz.underlying5
 a5:=Tryz.isAgg5
 z5:=Tryz.sizeOf5
 v5:=Tryz.zeroValue5
 t9:=Tryz.underlying9
 a9:=Tryz.isAgg9
 z9:=Tryz.sizeOf9
 v9:=Tryz.zeroValue9
 t21:=Tryz.underlying21
 a21:=Tryz.isAgg21
 z21:=Tryz.sizeOf21
 v21:=Tryz.zeroValue21
 t31:=Tryz.underlying35
 a31:=Tryz.isAgg35
 z31:=Tryz.sizeOf35
 v31:=Tryz.zeroValue35
 t46:=Tryz.underlying145
 a46:=Tryz.isAgg145
 z46:=Tryz.sizeOf145
 v46:=Tryz.zeroValue145
 t51:=Tryz.underlying211
 a51:=Tryz.isAgg211
 z51:=Tryz.sizeOf211
 v51:=Tryz.zeroValue211
 t105:=Tryz.underlying228
 a105:=Tryz.isAgg228
 z105:=Tryz.sizeOf228
 v105:=Tryz.zeroValue228
 t119:=Tryz.underlying245
 a119:=Tryz.isAgg245
 z119:=Tryz.sizeOf245
 t138:=Tryz.underlying247
 a138:=Tryz.isAgg247
 z138:=Tryz.sizeOf247
 v138:=Tryz.zeroValue247
 t139:=Tryz.underlying248
 a139:=Tryz.isAgg248
 z139:=Tryz.sizeOf248
 v139:=Tryz.zeroValue248
 t146:=Tryz.underlying249
 a146:=Tryz.isAgg249
 z146:=Tryz.sizeOf249
 v146:=Tryz.zeroValue249
 g1:=by kernel_rfl
 g3:=by kernel_rfl
 g4:=by kernel_rfl
def alL:Go.Shelf.Ren:=⟨λ| 191=>204 | 189=>224 | 125=>231 | 257=>233 | 128=>246 | 129=>247 | 294=>256 | 295=>257 | 296=>258 | 297=>259 | 298=>260 | 299=>261 | 216=>262 | 300=>263 | 301=>264 | 328=>274 | 329=>275 | 330=>276 | 331=>277 | 332=>278 | 215=>279 | 343=>286 | n=>n,λ| 28=>101 | 0=>0 | 3=>3 | 46=>145 | 51=>211 | 53=>213 | 4=>4 | 183=>223 | 182=>222 | 131=>178 | 5=>5 | 9=>9 | 218=>237 | 222=>235 | 228=>243 | 229=>241 | n=>n,λn=>n⟩
theorem l191:Lays.n191 Tryz.prog alL where
 mixed:=by kernel_rfl
 f125:=Tryz.func231.trans (congrArg some (by kernel_rfl))
 f128:=Tryz.func246.trans (congrArg some (by kernel_rfl))
 f129:=Tryz.func247.trans (congrArg some (by kernel_rfl))
 f189:=Tryz.func224.trans (congrArg some (by kernel_rfl))
 f191:=Tryz.func204.trans (congrArg some (by kernel_rfl))
 f215:=Tryz.func279.trans (congrArg some (by kernel_rfl))
 f216:=Tryz.func262.trans (congrArg some (by kernel_rfl))
 f257:=Tryz.func233.trans (congrArg some (by kernel_rfl))
 f294:=Tryz.func256.trans (congrArg some (by kernel_rfl))
 f295:=Tryz.func257.trans (congrArg some (by kernel_rfl))
 f296:=Tryz.func258.trans (congrArg some (by kernel_rfl))
 f297:=Tryz.func259.trans (congrArg some (by kernel_rfl))
 f298:=Tryz.func260.trans (congrArg some (by kernel_rfl))
 f299:=Tryz.func261.trans (congrArg some (by kernel_rfl))
 f300:=Tryz.func263.trans (congrArg some (by kernel_rfl))
 f301:=Tryz.func264.trans (congrArg some (by kernel_rfl))
 f328:=Tryz.func274.trans (congrArg some (by kernel_rfl))
 f329:=Tryz.func275.trans (congrArg some (by kernel_rfl))
 f330:=Tryz.func276.trans (congrArg some (by kernel_rfl))
 f331:=Tryz.func277.trans (congrArg some (by kernel_rfl))
 f332:=Tryz.func278.trans (congrArg some (by kernel_rfl))
 f343:=Tryz.func286.trans (congrArg some (by kernel_rfl))
 t0:=Tryz.underlying0
 a0:=Tryz.isAgg0
 z0:=Tryz.sizeOf0
 v0:=Tryz.zeroValue0
 t3:=Tryz.underlying3
 a3:=Tryz.isAgg3
 z3:=Tryz.sizeOf3
 v3:=Tryz.zeroValue3
 t4:=Tryz.underlying4
 a4:=Tryz.isAgg4
 z4:=Tryz.sizeOf4
 v4:=Tryz.zeroValue4
 t5:=Tryz.underlying5
 a5:=Tryz.isAgg5
 z5:=Tryz.sizeOf5
 v5:=Tryz.zeroValue5
 t9:=Tryz.underlying9
 a9:=Tryz.isAgg9
 z9:=Tryz.sizeOf9
 v9:=Tryz.zeroValue9
 t28:=Tryz.underlying101
 a28:=Tryz.isAgg101
 z28:=Tryz.sizeOf101
 v28:=Tryz.zeroValue101
 t46:=Tryz.underlying145
 a46:=Tryz.isAgg145
 z46:=Tryz.sizeOf145
 v46:=Tryz.zeroValue145
 t51:=Tryz.underlying211
 a51:=Tryz.isAgg211
 z51:=Tryz.sizeOf211
 v51:=Tryz.zeroValue211
 t53:=Tryz.underlying213
 a53:=Tryz.isAgg213
 z53:=Tryz.sizeOf213
 v53:=Tryz.zeroValue213
 t131:=Tryz.underlying178
 a131:=Tryz.isAgg178
 z131:=Tryz.sizeOf178
 v131:=Tryz.zeroValue178
 t182:=Tryz.underlying222
 a182:=Tryz.isAgg222
 z182:=Tryz.sizeOf222
 v182:=Tryz.zeroValue222
 t183:=Tryz.underlying223
 a183:=Tryz.isAgg223
 z183:=Tryz.sizeOf223
 v183:=Tryz.zeroValue223
 t218:=Tryz.underlying237
 a218:=Tryz.isAgg237
 z218:=Tryz.sizeOf237
 v218:=Tryz.zeroValue237
 t222:=Tryz.underlying235
 a222:=Tryz.isAgg235
 z222:=Tryz.sizeOf235
 v222:=Tryz.zeroValue235
 t228:=Tryz.underlying243
 a228:=Tryz.isAgg243
 z228:=Tryz.sizeOf243
 v228:=Tryz.zeroValue243
 t229:=Tryz.underlying241
 a229:=Tryz.isAgg241
 z229:=Tryz.sizeOf241
 v229:=Tryz.zeroValue241
end Go.Proofs.YtjbajpfonnnfoaaGreatDoor
/- A library sort at elements of k cells, with a 'less' that may lay boxes of its own: blocks of the base world, insertion. -/
namespace Go.Proofs
open Go.Shelf Go.RowKit Go.Lib Go.Sort
variable {P:Program} {ρ:Ren} {α:Type} [Inhabited α] {enc:α->List Value} {k:Nat} {w0 w1 W W':World} {blk off:Nat} {dk dj:Array α}
theorem SWK.comp(h:SWK enc k w0 blk off dk W)(hblk:blk<w0.heap.size)(a:SWK enc k W blk off dj W')(b:dj.size=dk.size):SWK enc k w0 blk off dj W':=by
 obtain⟨n,os,rfl⟩:=a;exact h.on hblk n dj os b
theorem SWK.cellAt(h:SWK enc k w0 blk off dk W){b o:Nat}(c:b≠blk)(a:b<w0.heap.size):W.cell? ⟨b,o,none⟩=w0.cell? ⟨b,o,none⟩:=by
 obtain⟨n,os,rfl⟩:=h;unfold sortWorldK;rw[cell?_grow _ _ _ (by rw[size_putRowK];exact a),cell?_putRowK_other enc k _ blk off dk _ c];rfl
def jr(P:Program)(g:Nat)(lb:Array Value)(enc:α->List Value)(k:Nat)(lt:α->α->Bool)(blk off size:Nat)(w:World):Prop:=
 ∀(m:Nat) (os:Array Obj) (dk:Array α),dk.size=size->∀i j:Nat,i<size->j<size ->
  Calls P g (#[.int .i64 i,.int .i64 j]++lb) (sortWorldK enc k w blk off m dk os) λe w'=>e=.returned (.bool (lt dk[i]! dk[j]!))/\SWK enc k (sortWorldK enc k w blk off m dk os) blk off dk w'
theorem SWK.lays{g:Nat}{lb:Array Value}{lt:α->α->Bool}{size:Nat}(h:SWK enc k w0 blk off dk W)(a:jr P g lb enc k lt blk off size w0)(b:dk.size=size)(i j:Nat)(hi:i<size)(c:j<size) :
  Calls P g (#[.int .i64 i,.int .i64 j]++lb) W λe w'=>e=.returned (.bool (lt dk[i]! dk[j]!))/\SWK enc k W blk off dk w':=by
 obtain⟨n,os,rfl⟩:=h;exact a n os dk b i j hi c
theorem SWK.afu{g:Nat}{lb:Array Value}{lt:α->α->Bool}{size:Nat}(h:SWK enc k w0 blk off dk W)(c:jr P g lb enc k lt blk off size w0)(hblk:blk<w0.heap.size)(d:dk.size=size):jr P g lb enc k lt blk off size W:=by
 intro m os dj b i j hi a;obtain⟨n',os',e⟩:=h.on hblk m dj os (b.trans d.symm);rw[e];exact c n' os' dj b i j hi a
theorem jr.grow{g:Nat}{lb:Array Value}{lt:α->α->Bool}{size:Nat}(h:jr P g lb enc k lt blk off size w0)(hblk:blk<w0.heap.size)(a:Array Obj):jr P g lb enc k lt blk off size (Sort.grow w0 a):=λm os dk b i j hi c=>by
 have e:sortWorldK enc k (Sort.grow w0 a) blk off m dk os=sortWorldK enc k w0 blk off m dk (a++os):=by
  unfold sortWorldK;rw[ahead_grow,putRowK_grow enc k (Sort.ahead w0 m) _ blk off _ hblk,grow_grow]
 rw[e];exact h m _ dk b i j hi c
set_option maxHeartbeats 8000000 in
set_option maxRecDepth 100000 in
theorem Qu(L:LaysGg.n26 P ρ)(hk:∀x,(enc x).length=k)(lt:α->α->Bool)(g:Nat)(lb:Array Value)(sf:Nat)(sb:Array Value)(a b:Nat)(d:Array α)
  (eg:∀args w,(callFunc g args).run P w=.ok (.enter g args) w) (hless:jr P g lb enc k lt blk off d.size W) (hswap:SwapSwapsK P sf sb enc k blk off d.size)
  (y:HoldsK enc k W blk off d) (hblk:blk<W.heap.size) (E:a<=b) (U:b<=d.size) (F:d.size<4611686018427387904) :
  Calls P (ρ.f 26) #[.agg #[.func (.func g) #[] lb,.func (.func sf) #[] sb],.int .i64 a,.int .i64 b] W λe w'=>e=.returned (.tuple #[])/\SWK enc k W blk off (Sort.insertionSort lt d a b) w':=by
 have mixed:=L.mixed;have t0:=L.t0;have a0:=L.a0;have z0:=L.z0;have v0:=L.v0;have t3:=L.t3;have a3:=L.a3;have z3:=L.z3;have v3:=L.v3;have t4:=L.t4;have a4:=L.a4;have z4:=L.z4;have v4:=L.v4;have t26:=L.t26;have a26:=L.a26;have z26:=L.z26;have v26:=L.v26;have t37:=L.t37;have a37:=L.a37;have z37:=L.z37;have v37:=L.v37;have t44:=L.t44;have a44:=L.a44;have z44:=L.z44;have v44:=L.v44;have G:=run_underlying L.t44;have n:blk<(W.alloc (.cells #[.func (.func g) #[] lb,.func (.func sf) #[] sb] (ρ.t 44))).heap.size:=by rw[alloc_eq_grow,size_grow];omega
 have q:HoldsK enc k (W.alloc (.cells #[.func (.func g) #[] lb,.func (.func sf) #[] sb] (ρ.t 44))) blk off d:=by rw[alloc_eq_grow];exact holdsK_grow enc k W _ blk off d hblk y
 have r:jr P g lb enc k lt blk off d.size (W.alloc (.cells #[.func (.func g) #[] lb,.func (.func sf) #[] sb] (ρ.t 44))):=by rw[alloc_eq_grow];exact hless.grow hblk _
 have cell0:∀(dj:Array α) (wr:World),SWK enc k (W.alloc (.cells #[.func (.func g) #[] lb,.func (.func sf) #[] sb] (ρ.t 44))) blk off dj wr->wr.cell? ⟨W.heap.size,0,none⟩=some (.func (.func g) #[] lb):=λdj wr h=>by
  rw[h.cellAt (b:=W.heap.size) (by omega) (by rw[alloc_eq_grow,size_grow];simp)];simp
 have cell1:∀(dj:Array α) (wr:World),SWK enc k (W.alloc (.cells #[.func (.func g) #[] lb,.func (.func sf) #[] sb] (ρ.t 44))) blk off dj wr->wr.cell? ⟨W.heap.size,1,none⟩=some (.func (.func sf) #[] sb):=λdj wr h=>by
  rw[h.cellAt (b:=W.heap.size) (by omega) (by rw[alloc_eq_grow,size_grow];simp)];simp
 have less:∀(dj:Array α) (wr:World) (i j:Nat),SWK enc k (W.alloc (.cells #[.func (.func g) #[] lb,.func (.func sf) #[] sb] (ρ.t 44))) blk off dj wr->dj.size=d.size->i<d.size->j<d.size ->
   Calls P g (#[.int .i64 i,.int .i64 j]++lb) wr λe w'=>e=.returned (.bool (lt dj[i]! dj[j]!))/\SWK enc k (W.alloc (.cells #[.func (.func g) #[] lb,.func (.func sf) #[] sb] (ρ.t 44))) blk off dj w':=λdj wr i j h H hi I=>by
  refine (h.lays r H i j hi I).mono ?_;rintro e w' ⟨rfl,J⟩;exact⟨rfl,h.comp n J rfl⟩
 have K:Hid _:=cell0;have M:Hid _:=cell1;have LE:Hid _:=less;have SWp:Hid _:=hswap;have N:Hid (HoldsK enc k W blk off d):=y;have B:Hid (HoldsK enc k (W.alloc (.cells #[.func (.func g) #[] lb,.func (.func sf) #[] sb] (ρ.t 44))) blk off d):=q;clear cell0 cell1 less hless r hswap y q;go_enter L.f26,BodyGg.n26_ntmps ρ
 go_wp2
 go_loopw [6] (λvi wr=>∃(i:Nat) (dk:Array α),vi=.int .i64 i/\a<i/\i<=b+1/\dk.size=d.size/\SWK enc k (W.alloc (.cells #[.func (.func g) #[] lb,.func (.func sf) #[] sb] (ρ.t 44))) blk off dk wr /\
   insOuter lt a b i dk=insOuter lt a b (a+1) d) (λvi _=>b+1-(intOf vi).toNat)
 case atStart=>exact⟨a+1,d,by congr 1,by omega,by omega,rfl,SWK.start B.out,rfl⟩
 case round=>
  obtain⟨i,dk,rfl,O,Q,s,u,C⟩:=hrel
  have HO:Hid (insOuter lt a b i dk=insOuter lt a b (a+1) d):=C
  have HW:Hid (SWK enc k (W.alloc (.cells #[.func (.func g) #[] lb,.func (.func sf) #[] sb] (ρ.t 44))) blk off dk wr):=u
  clear C u
  by_cases o:i<b
  ·go_wp2
   go_loopw [7] (λvj z=>∃(j:Nat) (dj:Array α),vj=.int .i64 j/\a<=j/\j<=i/\dj.size=d.size/\SWK enc k (W.alloc (.cells #[.func (.func g) #[] lb,.func (.func sf) #[] sb] (ρ.t 44))) blk off dj z /\
     insInner lt a j dj=insInner lt a i dk) (λvj _=>(intOf vj).toNat)
   case atStart=>exact⟨i,dk,rfl,by omega,aD _,s,HW.out,rfl⟩
   case round=>
    obtain⟨j,dj,rfl,R,S,l,p,D⟩:=hrel
    have c0:=K.out dj _ p
    have HW2:Hid _:=p
    have HI:Hid (insInner lt a j dj=insInner lt a i dk):=D
    clear p D
    by_cases A:a<j
    ·have v:=LE.out dj _ j (j-1) HW2.out l (by omega) (by omega);rw[show (((j-1:Nat):Int))=(j:Int)-1 by omega]at v;cases m:lt dj[j]! dj[j-1]! with
     | true=>
      rw[m]at v;go_wp2_with (go_at_fn g;refine v.mono ?_;rintro e w' ⟨rfl,c⟩;have c1:=M.out dj _ c;have T:=SWp.out _ dj (c.holds n B.out l) l j (j-1) (by omega) (by omega);rw[show (((j-1:Nat):Int))=(j:Int)-1 by omega]at T;have HWn:Hid _:=c;clear c)
      go_roundw
      case rel=>
       refine⟨j-1,swp dj j (j-1),by congr 1;omega,by omega,by omega,by rw[size_swp];exact l,SWK.swap HWn.out hk n j (j-1) (by omega) (by omega),?_⟩
       rw[<- HI.out,insInner_go lt a j dj A m]
      case measure=>simp[intOf];omega
     | false=>
      rw[m]at v;go_wp2_with (go_at_fn g;refine v.mono ?_;rintro e w' ⟨rfl,c⟩;have HWn:Hid _:=c;clear c)
      go_roundw
      case rel=>exact⟨i+1,dj,by congr 1,by omega,by omega,l,HWn.out,by rw[<- HO.out,insOuter_go _ _ _ _ _ o,<- HI.out,insInner_stop _ _ _ _ (Or.inr m)]⟩
      case measure=>simp[intOf];omega
    ·go_wp2
     go_roundw
     case rel=>exact⟨i+1,dj,by congr 1,by omega,by omega,l,HW2.out,by rw[<- HO.out,insOuter_go _ _ _ _ _ o,<- HI.out,insInner_stop _ _ _ _ (Or.inl (by omega))]⟩
     case measure=>simp[intOf];omega
  ·go_wp2
   go_end0
   exact⟨rfl,by unfold Sort.insertionSort;rw[<- HO.out,insOuter_stop _ _ _ _ _ o];exact SWK.comp (SWK.alloc (SWK.start N.out) _) hblk HW.out s⟩
end Go.Proofs
/- Heaps, at elements of k cells, with a 'less' that may lay boxes of its own. -/
namespace Go.Proofs
open Go.Shelf Go.RowKit Go.Lib Go.Sort
variable {P:Program} {ρ:Ren} {α:Type} [Inhabited α] {enc:α->List Value} {k:Nat} {w0 w1 W W':World} {blk off:Nat} {dk dj d:Array α} {lt:α->α->Bool} {g sf:Nat} {lb sb:Array Value} {T:TypeId}
structure kF(P:Program)(enc:α->List Value)(k:Nat)(lt:α->α->Bool)(g:Nat)(lb:Array Value)(sf:Nat)(sb:Array Value)(blk off:Nat)(d:Array α)(W:World):Prop where
 hk:∀x,(enc x).length=k
 eg:∀args w,(callFunc g args).run P w=.ok (.enter g args) w
 less:jr P g lb enc k lt blk off d.size W
 swap:SwapSwapsK P sf sb enc k blk off d.size
 H:HoldsK enc k W blk off d
 b:blk<W.heap.size
 sz:d.size<4611686018427387904
theorem kF.on(h:kF P enc k lt g lb sf sb blk off d W)(c:SWK enc k W blk off dj w1)(a:dj.size=d.size):kF P enc k lt g lb sf sb blk off dj w1:=
 ⟨h.hk,h.eg,by rw[a];exact c.afu h.less h.b a,by rw[a];exact h.swap,c.holds h.b h.H a,c.lt h.b,by rw[a];exact h.sz⟩
abbrev iK(g:Nat)(lb:Array Value)(sf:Nat)(sb:Array Value)(T:TypeId):Obj:=.cells #[.func (.func g) #[] lb,.func (.func sf) #[] sb] T
theorem kF.box(h:kF P enc k lt g lb sf sb blk off d W)(T:TypeId):kF P enc k lt g lb sf sb blk off d (W.alloc (iK g lb sf sb T)):=h.on (SWK.alloc (SWK.start h.H) _) rfl
structure Dt(P:Program)(enc:α->List Value)(k:Nat)(lt:α->α->Bool)(g:Nat)(lb:Array Value)(sf:Nat)(sb:Array Value)(blk off:Nat)(T:TypeId)(n:Nat)(W:World):Prop where
 c0:∀(dj:Array α) (wr:World),SWK enc k (W.alloc (iK g lb sf sb T)) blk off dj wr->wr.cell? ⟨W.heap.size,0,none⟩=some (.func (.func g) #[] lb)
 c1:∀(dj:Array α) (wr:World),SWK enc k (W.alloc (iK g lb sf sb T)) blk off dj wr->wr.cell? ⟨W.heap.size,1,none⟩=some (.func (.func sf) #[] sb)
 less:∀(dj:Array α) (wr:World) (i j:Nat),SWK enc k (W.alloc (iK g lb sf sb T)) blk off dj wr->dj.size=n->i<n->j<n->Calls P g (#[.int .i64 i,.int .i64 j]++lb) wr λe w'=>e=.returned (.bool (lt dj[i]! dj[j]!))/\SWK enc k (W.alloc (iK g lb sf sb T)) blk off dj w'
 swap:∀(dj:Array α) (wr:World) (i j:Nat),SWK enc k (W.alloc (iK g lb sf sb T)) blk off dj wr->dj.size=n->i<n->j<n->∃w',(callFunc sf (#[.int .i64 i,.int .i64 j]++sb)).run P wr=.ok (.value (.tuple #[])) w'/\SWK enc k (W.alloc (iK g lb sf sb T)) blk off (swp dj i j) w'
 fin:∀(dj:Array α) (wr:World),SWK enc k (W.alloc (iK g lb sf sb T)) blk off dj wr->dj.size=n->SWK enc k W blk off dj wr
 at':∀(dj:Array α) (wr:World),SWK enc k (W.alloc (iK g lb sf sb T)) blk off dj wr->dj.size=n->kF P enc k lt g lb sf sb blk off dj wr
 comp:∀(dj di:Array α) (wr wr':World),SWK enc k (W.alloc (iK g lb sf sb T)) blk off dj wr->SWK enc k wr blk off di wr'->di.size=dj.size->SWK enc k (W.alloc (iK g lb sf sb T)) blk off di wr'
theorem kF.dt(h:kF P enc k lt g lb sf sb blk off d W)(T:TypeId):Dt P enc k lt g lb sf sb blk off T d.size W:=by
 have f:=h.box T;have n:=h.b;refine⟨λdj wr a=>?_,λdj wr a=>?_,λdj wr i j a c hi m=>?_,λdj wr i j a c hi m=>?_,λdj wr a c=>SWK.comp (SWK.alloc (SWK.start h.H) _) h.b a c,λdj wr a c=>f.on a c,λdj di wr wr' a l o=>SWK.comp a f.b l o⟩
 ·rw[a.cellAt (b:=W.heap.size) (by omega) (by rw[alloc_eq_grow,size_grow];simp)];simp
 ·rw[a.cellAt (b:=W.heap.size) (by omega) (by rw[alloc_eq_grow,size_grow];simp)];simp
 ·refine (a.lays f.less c i j hi m).mono ?_;rintro e w' ⟨rfl,l⟩;exact⟨rfl,a.comp f.b l rfl⟩
 ·exact⟨_,h.swap wr dj (a.holds f.b f.H c) c i j hi m,SWK.swap a h.hk f.b i j (by omega) (by omega)⟩
set_option maxHeartbeats 4000000 in
set_option maxRecDepth 1000000 in
theorem UR(L:LaysGg.n34 P ρ)(lo hi first:Nat)(h:kF P enc k lt g lb sf sb blk off d W)(r:lo<=hi)(A:first+hi<=d.size) :
  Calls P (ρ.f 34) #[.agg #[.func (.func g) #[] lb,.func (.func sf) #[] sb],.int .i64 lo,.int .i64 hi,.int .i64 first] W λe w'=>e=.returned (.tuple #[])/\SWK enc k W blk off (siftDown lt hi first lo d) w':=by
 have mixed:=L.mixed;have t0:=L.t0;have a0:=L.a0;have z0:=L.z0;have v0:=L.v0;have t3:=L.t3;have a3:=L.a3;have z3:=L.z3;have v3:=L.v3;have t4:=L.t4;have a4:=L.a4;have z4:=L.z4;have v4:=L.v4;have t26:=L.t26;have a26:=L.a26;have z26:=L.z26;have v26:=L.v26;have t37:=L.t37;have a37:=L.a37;have z37:=L.z37;have v37:=L.v37;have t44:=L.t44;have a44:=L.a44;have z44:=L.z44;have v44:=L.v44;have s:=run_underlying L.t44;have eg:=h.eg;have u:=h.sz;have D:=h.dt (ρ.t 44);have v:Hid (SWK enc k (W.alloc (iK g lb sf sb (ρ.t 44))) blk off d (W.alloc (iK g lb sf sb (ρ.t 44)))):=SWK.start (h.box _).H;have HD:Hid _:=D;clear D h;go_enter L.f34,BodyGg.n34_ntmps ρ
 go_wp2
 go_loopg [8] (hi-lo) (λkx w wr=>∃(root:Nat) (dk:Array α),w=.int .i64 root/\root<=hi/\hi-root<=kx/\dk.size=d.size/\Hid (SWK enc k (W.alloc (iK g lb sf sb (ρ.t 44))) blk off dk wr)/\Hid (siftDown lt hi first root dk=siftDown lt hi first lo d))
 case atStart=>exact⟨lo,d,rfl,r,aD _,rfl,v,rfl⟩
 case round=>
  obtain⟨root,dk,rfl,B,x,c,HW,HE⟩:=hrel
  have c0:=HD.out.c0 dk _ HW.out
  by_cases y:hi<=2*root+1
  ·have h0z:(hi:Int)<=2*(root:Int)+1:=by omega
   go_wp2
   go_end0
   refine⟨rfl,?_⟩;rw[<- HE.out,sd_end lt dk y];exact HD.out.fin dk _ HW.out c
  have h0z:¬((hi:Int)<=2*(root:Int)+1):=by omega
  have n:((first+(2*root+1):Nat):Int)=(first:Int)+(2*(root:Int)+1):=by omega
  have z:((first+(2*root+2):Nat):Int)=(first:Int)+(2*(root:Int)+1)+1:=by omega
  have e2':((first+(2*root+2):Nat):Int)=(first:Int)+(2*(root:Int)+1+1):=by omega
  have m:((first+root:Nat):Int)=(first:Int)+(root:Int):=by omega
  by_cases q:2*root+2<hi
  ·have h1z:2*(root:Int)+1+1<(hi:Int):=by omega
   have i:=HD.out.less dk _ (first+(2*root+1)) (first+(2*root+2)) HW.out c (by omega) (by omega);rw[n,z]at i;cases o:lt dk[first+(2*root+1)]! dk[first+(2*root+2)]! with
   | true=>
    rw[o]at i;cases l:lt dk[first+root]! dk[first+(2*root+2)]! with
    | true=>
     go_wp2_with (go_at_fn g;first
      | (refine i.mono ?_;rintro e w' ⟨rfl,a⟩;have c0':=HD.out.c0 dk _ a;have b:=HD.out.less dk _ (first+root) (first+(2*root+2)) a c (by omega) (by omega);rw[l,e2',m]at b;clear a i)
      | (refine b.mono ?_;rintro e w'' ⟨rfl,a⟩;have c1':=HD.out.c1 dk _ a;obtain⟨w3,p,j⟩:=HD.out.swap dk _ (first+root) (first+(2*root+2)) a c (by omega) (by omega);rw[e2',m]at p;have HW3:Hid _:=j;clear a j))
     go_roundg (hi-(2*root+2))
     case measure=>omega
     case rel=>exact⟨2*root+2,swp dk (first+root) (first+(2*root+2)),by go_num,by omega,aD _,by rw[size_swp];exact c,HW3,(show Hid _ from by rw[<- HE.out,sd_right_go lt dk q o l];exact rfl)⟩
    | false=>
     go_wp2_with (go_at_fn g;first
      | (refine i.mono ?_;rintro e w' ⟨rfl,a⟩;have c0':=HD.out.c0 dk _ a;have b:=HD.out.less dk _ (first+root) (first+(2*root+2)) a c (by omega) (by omega);rw[l,e2',m]at b;clear a i)
      | (refine b.mono ?_;rintro e w'' ⟨rfl,a⟩;have HW3:Hid _:=a;clear a))
     (try simp only[Exit.inBlock,Exit.then]);refine bodyPost_ret (results_none rfl _ _ _) rfl ?_;refine⟨rfl,?_⟩;rw[<- HE.out,sd_right_stop lt dk q o l];exact HD.out.fin dk _ HW3.out c
   | false=>
    rw[o]at i;cases l:lt dk[first+root]! dk[first+(2*root+1)]! with
    | true=>
     go_wp2_with (go_at_fn g;first
      | (refine i.mono ?_;rintro e w' ⟨rfl,a⟩;have c0':=HD.out.c0 dk _ a;have b:=HD.out.less dk _ (first+root) (first+(2*root+1)) a c (by omega) (by omega);rw[l,n,m]at b;clear a i)
      | (refine b.mono ?_;rintro e w'' ⟨rfl,a⟩;have c1':=HD.out.c1 dk _ a;obtain⟨w3,p,j⟩:=HD.out.swap dk _ (first+root) (first+(2*root+1)) a c (by omega) (by omega);rw[n,m]at p;have HW3:Hid _:=j;clear a j))
     go_roundg (hi-(2*root+1))
     case measure=>omega
     case rel=>exact⟨2*root+1,swp dk (first+root) (first+(2*root+1)),by go_num,by omega,aD _,by rw[size_swp];exact c,HW3,(show Hid _ from by rw[<- HE.out,sd_left_go lt dk (by omega) (λ_=>o) l];exact rfl)⟩
    | false=>
     go_wp2_with (go_at_fn g;first
      | (refine i.mono ?_;rintro e w' ⟨rfl,a⟩;have c0':=HD.out.c0 dk _ a;have b:=HD.out.less dk _ (first+root) (first+(2*root+1)) a c (by omega) (by omega);rw[l,n,m]at b;clear a i)
      | (refine b.mono ?_;rintro e w'' ⟨rfl,a⟩;have HW3:Hid _:=a;clear a))
     (try simp only[Exit.inBlock,Exit.then]);refine bodyPost_ret (results_none rfl _ _ _) rfl ?_;refine⟨rfl,?_⟩;rw[<- HE.out,sd_left_stop lt dk (by omega) (λ_=>o) l];exact HD.out.fin dk _ HW3.out c
  ·have h1z:¬(2*(root:Int)+1+1<(hi:Int)):=by omega
   have b:=HD.out.less dk _ (first+root) (first+(2*root+1)) HW.out c (by omega) (by omega);rw[n,m]at b;cases l:lt dk[first+root]! dk[first+(2*root+1)]! with
   | true=>
    rw[l]at b;go_wp2_with (go_at_fn g;refine b.mono ?_;rintro e w'' ⟨rfl,a⟩;have c1':=HD.out.c1 dk _ a;obtain⟨w3,p,j⟩:=HD.out.swap dk _ (first+root) (first+(2*root+1)) a c (by omega) (by omega);rw[n,m]at p;have HW3:Hid _:=j;clear a j)
    go_roundg (hi-(2*root+1))
    case measure=>omega
    case rel=>exact⟨2*root+1,swp dk (first+root) (first+(2*root+1)),by go_num,by omega,aD _,by rw[size_swp];exact c,HW3,(show Hid _ from by rw[<- HE.out,sd_left_go lt dk (by omega) (λh=>absurd h q) l];exact rfl)⟩
   | false=>
    rw[l]at b;go_wp2_with (go_at_fn g;refine b.mono ?_;rintro e w'' ⟨rfl,a⟩;have HW3:Hid _:=a;clear a)
    (try simp only[Exit.inBlock,Exit.then]);refine bodyPost_ret (results_none rfl _ _ _) rfl ?_;refine⟨rfl,?_⟩;rw[<- HE.out,sd_left_stop lt dk (by omega) (λh=>absurd h q) l];exact HD.out.fin dk _ HW3.out c
