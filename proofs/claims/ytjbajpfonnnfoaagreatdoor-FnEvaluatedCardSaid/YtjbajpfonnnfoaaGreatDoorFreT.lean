import Derived.Test.YtjbajpfonnnfoaaGreatDoorNode0
import Derived.Test.YtjbajpfonnnfoaaGreatDoorPlain1
import Derived.Test.YtjbajpfonnnfoaaGreatDoorDrE
import Derived.Test.YtjbajpfonnnfoaaGreatDoorS3
import Derived.Test.YtjbajpfonnnfoaaGreatDoorLink1
import Derived.Shelf.Strconv.Itoa3
import Derived.Shelf.Strings.OnBuilder
import Derived.Shelf.Strings.Prefix
import Derived.Shelf.Strings.Split
import Derived.Shelf.Small.Strs
import Derived.Shelf.Sort.Plain
import Derived.Shelf.Slices.In.SortNone2
import Derived.Test.YtjbajpfonnnfoaaGreatDoorProg
import Derived.Shelf.Strconv.ErrVarAll
import Derived.Shelf.SlSortFuncK.WholeK
import Derived.Ground.GgsProg
import Derived.KernelRfl
import Derived.Shelf.SlSortFuncK.SWK
import Derived.Shelf.GgSortFunc.InsertionK
import Derived.Deep.LoopGhost
import Derived.Shelf.SlSortFuncK.HeapSortK
set_option linter.unusedSimpArgs false
set_option linter.unusedVariables false
/- Plain laws: the free names of an expression, as the other side finds them; an expression goes together with itself by its free names. -/
namespace Go.Proofs.YtjbajpfonnnfoaaGreatDoor
open Go.Abs Go.Proofs
mutual
def frE:au->List Str->List Str
 | ⟨k,_,t,a⟩,bound=>if ((k==3)&&!(bound.contains t))=true then [t]else frL a ((k==7)||(k==9)) t bound 0
def frL:List au->Bool->Str->List Str->Nat->List Str
 | [],_,_,_,_=>[]
 | x::r,bi,t,bound,i=>(if (bi&&decide (0<i))=true then frE x (bound++[t])else frE x bound)++frL r bi t bound (i+1)
end
theorem Vs(e:au)(bound:List Str):frE e bound=if ((e.kind==3)&&!(bound.contains e.text))=true then [e.text]else frL e.args ((e.kind==7)||(e.kind==9)) e.text bound 0:=by cases e;rfl
def frP(bi:Bool)(t:Str)(bound:List Str)(i:Nat)(x:au):List Str:=if (bi&&decide (0<i))=true then frE x (bound++[t])else frE x bound
theorem OO(bi:Bool)(t:Str)(bound:List Str):∀(xs ys:List au) (i:Nat),frL (xs++ys) bi t bound i=frL xs bi t bound i++frL ys bi t bound (i+xs.length)
 | [],ys,i=>rfl
 | x::r,ys,i=>by
  show frP bi t bound i x++frL (r++ys) bi t bound (i+1)=(frP bi t bound i x++frL r bi t bound (i+1))++_
  rw[OO bi t bound r ys (i+1),a7];have:i+1+r.length=i+(x::r).length:=by simp;omega
  rw[this]
theorem afc(bi:Bool)(t:Str)(bound:List Str){xs:List au}{i:Nat}{x:au}(h:xs[i]?=some x):frL (xs.take (i+1)) bi t bound 0=frL (xs.take i) bi t bound 0++frP bi t bound i x:=by
 obtain⟨a,rfl⟩:=zC.1 h;rw[List.take_succ_eq_append_getElem a,OO];have:0+(xs.take i).length=i:=by rw[a8];omega
 rw[this];show _++(frP bi t bound i _++[])=_
 rw[List.append_nil]
theorem aaX(bi:Bool)(t:Str)(bound:List Str){s:Str}{x:au}:∀(xs:List au) (i j:Nat),xs[j]?=some x->s∈frP bi t bound (i+j) x->s∈frL xs bi t bound i
 | [],_,_,h,_=>by simp at h
 | y::r,i,0,h,a=>by
  cases h
  exact List.mem_append_left _ a
 | y::r,i,j+1,h,a=>List.mem_append_right _ (aaX bi t bound r (i+1) j (by simpa using h) (by rw[show i+1+j=i+(j+1) by omega];exact a))
mutual
theorem FW:∀(e:au) (bound:List Str),(frE e bound).length<=wtE e
 | ⟨k,n,t,a⟩,bound=>by
  have h:=Vr a ((k==7)||(k==9)) t bound 0;have b:1+wtL a<=wtE ⟨k,n,t,a⟩:=AQ ⟨k,n,t,a⟩;rw[Vs];split
  ·simp;exact SL _
  ·show (frL a ((k==7)||(k==9)) t bound 0).length<=_
   omega
theorem Vr:∀(xs:List au) (bi:Bool) (t:Str) (bound:List Str) (i:Nat),(frL xs bi t bound i).length<=wtL xs
 | [],_,_,_,_=>ar _
 | x::r,bi,t,bound,i=>by
  have a:=FW x bound;have b:=FW x (bound++[t]);have c:=Vr r bi t bound (i+1);show ((if (bi&&decide (0<i))=true then frE x (bound++[t])else frE x bound)++frL r bi t bound (i+1)).length<=wtE x+wtL r
  rw[a6];split<;>omega
end
theorem pos0(i:Nat):decide ((i:Int)>0)=decide (0<i):=by
 by_cases h:0<i
 ·rw[ae h,ae (by omega)]
 ·rw[ac h,ac (by omega)]
theorem XI:∀(n:Nat) (e:au) (bound:List Str),siz e<n->wtE e+bound.length<=1048576->nZ n e bound=some (frE e bound)
 | 0,e,_,h,_=>absurd h (Nat.not_lt_zero _)
 | n+1,e,bound,t,u=>by
  have ih:=XI n;have v:=GN (e:=e);have hloop:aO (mD (nZ n)) (bound,e.kind,e.n,e.text,e.args,[],0)=some (frL e.args ((e.kind==7)||(e.kind==9)) e.text bound 0):=by
   have key:=pX (g:=mD (nZ n)) (λ(s:List Str) (i:Nat)=>((bound,e.kind,e.n,e.text,e.args,s,(i:Int)):(List Str)×Int×Int×Str×(List au)×(List Str)×Int)) e.args (λi s=>s=frL (e.args.take i) ((e.kind==7)||(e.kind==9)) e.text bound 0) (λr=>r=frL e.args ((e.kind==7)||(e.kind==9)) e.text bound 0) (λi x s a b=>.inl ?_) (λs b=>?_) [] rfl
   ·obtain⟨r,h,rfl⟩:=key;exact h
   ·have c:=zG a;have w:=CX c;have y:=KW a;have z:=tN e.args (i+1);have A:=AQ e;have d:=Vr (e.args.take i) ((e.kind==7)||(e.kind==9)) e.text bound 0;have B:=yZ c;have f:=ih x bound (by omega) (by omega);have j:=ih x (([]++bound)++([e.text]:List Str)) (by omega) (by simp;omega);have C:=FW x bound;have D:=FW x (bound++[e.text]);refine⟨s++frP ((e.kind==7)||(e.kind==9)) e.text bound i x,?_,by rw[afc _ _ _ a,b]⟩;have k:s.length<=wtL (e.args.take i):=by rw[b];exact d
    have l:gd (s.length+(frE x bound).length)=some ():=bK (by omega);have m:gd (s.length+(frE x (([]++bound)++([e.text]:List Str))).length)=some ():=bK (by rw[List.nil_append];omega);have o:gd (0+bound.length)=some ():=bK (by omega);have p:gd (([]++bound).length+([e.text]:List Str).length)=some ():=bK (by simp;omega);simp only[mD,yE a,ab,aQ,a,zA,dA,f,j,l,m,o,p,yD a (by omega),pos0];unfold frP;cases (e.kind==7)<;>cases (e.kind==9)<;>cases decide (0<i)<;>rfl
   ·refine⟨_,by simp only[mD,uI,aa];rfl,by rw[b,List.take_length]⟩
  show Hq (nZ n) e bound=_
  unfold Hq;rw[hloop,Bc _ _ (by omega),Vs];have q:gd (0+([e.text]:List Str).length)=some ():=bK (by simp);cases (e.kind==3)<;>cases bound.contains e.text<;>simp only[ab,aa,aL,Bool.not_false,Bool.and_true,Bool.and_false,Bool.true_and,Bool.false_and,aE,if_true,if_false,zA,q]<;>rfl
theorem agY{X ρ σ:Type}{g:X->Option (X⊕ρ)}{x:X}{pk:σ->ρ}{Q:σ->Prop}(h:∃r,aO g x=some r/\∃s,r=pk s/\Q s):∃s,aO g x=some (pk s)/\Q s:=by
 obtain⟨_,e,s,rfl,h⟩:=h;exact⟨s,e,h⟩
theorem LQ(xs:List Str)(t:xs.length<=1048576):∃ys,xw xs=some ys/\ys.length<=xs.length/\∀b,b∈xs->b∈ys:=by
 unfold xw;refine pX (λ(out:List Str) (i:Nat)=>((xs,out,(i:Int)):(List Str)×(List Str)×Int)) xs (λi out=>out.length<=i/\∀b,b∈xs.take i->b∈out) (λ(ys:List Str)=>ys.length<=xs.length/\∀b,b∈xs->b∈ys) (λi x out e j=>.inl ?_) (λout j=>?_) [] ⟨ar _,by simp⟩
 ·obtain⟨u,q⟩:=j;have o:=(zC.1 e).1;have f:idx xs (i:Int)=some x:=by rw[aQ,e]
  have r:xs.take (i+1)=xs.take i++[x]:=by
   obtain⟨o,rfl⟩:=zC.1 e;rw[List.take_succ_eq_append_getElem o]
  have cut:∀a:Nat,a<=out.length->cutAt out (a:Int)=some a:=λa h=>by
   unfold cutAt;rw[if_pos ⟨by omega,by omega⟩];simp
  have fin:∀out':List Str,out'.length<=i+1->(x∈out'/\∀b,b∈out->b∈out')->out'.length<=i+1/\∀b,b∈xs.take (i+1)->b∈out':=λout' k h=>⟨k,λb c=>by
   rw[r]at c;rcases List.mem_append.1 c with c | c
   ·exact h.2 b (q b c)
   ·rw[List.mem_singleton.1 c];exact h.1⟩
  have put:∀a:Nat,a<=out.length->((out.take a++[x])++([]++out.drop a)).length<=i+1/\∀b,b∈xs.take (i+1)->b∈(out.take a++[x])++([]++out.drop a):=λa p=>fin _ (by simp;omega) ⟨by simp,λb c=>by
   have c:b∈out.take a++out.drop a:=by rw[List.take_append_drop];exact c
   simp only[List.mem_append,List.nil_append]at c ⊢;rcases c with c | c
   ·exact .inl (.inl c)
   ·exact .inr c⟩
  have gs:∀a:Nat,a<=out.length->gd (0+(out.drop a).length)=some ()/\gd ((out.take a).length+([x]:List Str).length)=some ()/\gd ((out.take a++([x]:List Str)).length+([]++out.drop a).length)=some ():=λa p=>⟨bK (by simp;omega),bK (by simp;omega),bK (by simp;omega)⟩
  simp only[yE e,ab];refine agY (pk:=λout':List Str=>(Sum.inl (xs,out',((i+1:Nat):Int)):((List Str)×(List Str)×Int)⊕List Str)) (pX (λ(_:Unit) (a:Nat)=>((xs,out,(i:Int),(a:Int)):(List Str)×(List Str)×Int×Int)) out (λ_ _=>True) _ (λa y s g _=>?_) (λs _=>?_) () trivial)
  ·have p:=(zC.1 g).1;obtain⟨l,m,n⟩:=gs a (by omega);simp only[yE g,ab,aQ,g,f,zA,aw,cut a (by omega),l,m,n,yD e (by omega),yD g (by omega)];cases Op.bytesLess y x with
   | true=>exact .inl ⟨(),rfl,trivial⟩
   | false=>
    simp only[aa];cases d:(y==x)with
    | true=>
     have d:y=x:=by simpa using d
     exact .inr ⟨_,rfl,out,rfl,fin out (by omega) ⟨by rw[<- d];exact zG g,λb c=>c⟩⟩
    | false=>exact .inr ⟨_,rfl,_,rfl,put a (by omega)⟩
  ·obtain⟨l,m,n⟩:=gs out.length (by omega);simp only[uI,aa,f,zA,cut out.length (by omega),l,m,n,yD e (by omega)];exact⟨_,rfl,_,rfl,put out.length (by omega)⟩
 ·rw[List.take_length]at j;exact⟨out,by simp only[uI,aa],j⟩
theorem QB(e:au)(f:wtE e<=20000):∃ys,xH e=some ys/\ys.length<=20000/\∀b,b∈frE e []->b∈ys:=by
 have a:MI e []=some (frE e []):=XI _ e [] (by omega) (by simp;omega);have g:=FW e [];obtain⟨ys,c,h,d⟩:=LQ (frE e []) (by omega);refine⟨ys,?_,by omega,d⟩;unfold xH;rw[dA,a,zA,c];rfl
theorem Bg:∀(d:Nat) (e:au) (bound:List Str) (σ:Str->Str->Prop),ShX d e->(∀s,s∈bound\/s∈frE e bound->σ s s)->Yr σ e e
 | 0,e,_,_,g,_=>by cases g
 | d+1,e,bound,σ,g,hσ=>by
  cases g with
  | mk d _ k0 k9 num tx tl al op two three cl j=>
  have sub:∀i,i<e.args.length->e.kind≠3->∀s,s∈frP ((e.kind==7)||(e.kind==9)) e.text bound i (arg e i)->s∈frE e bound:=λi f c s h=>by
   have k:(e.kind==3)=false:=by simpa using c
   rw[Vs,k];exact aaX _ _ _ e.args 0 i (x:=arg e i) (by unfold arg;rw[zE,zF f];rfl) (by rw[Nat.zero_add];exact h)
  have bi:e.kind=7\/e.kind=9->((e.kind==7)||(e.kind==9))=true:=λh=>by rcases h with h | h<;>rw[h]<;>rfl
  refine .mk σ e e rfl rfl rfl (λc=>hσ _ ?_) (λ_ _ _=>rfl) (λc l k9 i f=>Bg d _ bound σ (j _ (dJ f)) λs h=>hσ s ?_) (λh=>Bg d _ bound σ (j _ (dJ (by have:=two h;omega))) λs a=>hσ s ?_) λh=>Bg d _ (bound++[e.text]) _ (j _ (dJ (by have:=two h;omega))) λs a=>?_
  ·cases hc:bound.contains e.text with
   | true=>exact .inl (by simpa using hc)
   | false=>exact .inr (by rw[Vs,c,hc];simp)
  ·have m:(e.kind==7)=false:=by simpa using l
   have n:(e.kind==9)=false:=by simpa using k9
   exact h.imp id λh=>sub i f c s (by unfold frP;rw[m,n];exact h)
  ·exact a.imp id λa=>sub 0 (by have:=two h;omega) (by omega) s (by unfold frP;rw[bi h];exact a)
  ·by_cases b:s=e.text
   ·exact .inl ⟨b,b⟩
   ·refine .inr ⟨b,b,hσ s ?_⟩;rcases a with a | a
    ·rcases List.mem_append.1 a with a | a
     ·exact .inl a
     ·exact absurd (List.mem_singleton.1 a) b
    ·exact .inr (sub 1 (by have:=two h;omega) (by omega) s (by unfold frP;rw[bi h];exact a))
def ScV(c:List ak):Prop:=∀b,b∈c->vld b.value=true
def TV(t:List aG):Prop:=∀r,r∈t->vld r.result=true
theorem Sm{P:List aj}{vs:List af}(a:(vs.length:Int)<=1048576)(h:∀x,x∈vs->VOk P x):vld (gX vs)=true:=by
 obtain⟨v,c,b,d,h⟩:=Yd vs a h;have:gX vs=v:=by unfold gX;rw[b];rfl
 rw[this];exact h
theorem aj3{P:List aj}(o:Int){a b:af}(c:VOk P a)(d:VOk P b):vld (opV o a b)=true:=by
 obtain⟨v,f,e,g,h⟩:=ahT o a b c d;have:opV o a b=v:=by unfold opV;rw[e];rfl
 rw[this];exact h
theorem afw{P:List aj}(b:P.length<=1048576){t:Str}{vs:List af}(h:∀x,x∈vs->VOk P x)(a:CQ t=false):vld (Sj t vs)=true:=by
 obtain⟨v,d,c,e,h⟩:=aa1 b t vs h (by rw[Ah];unfold CQ at a;rw[a]);have:Sj t vs=v:=by unfold Sj;rw[c];rfl
 rw[this];exact h
theorem ad4:∀(t:List aG) (r:aG) (i:Nat) {v:af},TV t->fQ (λ_ (x:aG)=>bif smB x r then some x.result else none) i t=some v->vld v=true
 | [],_,_,_,_,h=>by cases h
 | x::t,r,i,v,a,h=>by
  unfold fQ at h;cases b:smB x r with
  | true=>
   rw[b]at h;have h:some x.result=some v:=h;cases h
   exact a x aq
  | false=>
   rw[b]at h;exact ad4 t r (i+1) (λy c=>a y (ao _ c)) h
theorem VA{P:List aj}{k:Nat}{m:aA}(h:MOk P k m)(a:TV m.tape)(r:aG):vld (Ci m r)=true:=by
 unfold Ci;cases b:rdE m.tape (qF m r)with
 | none=>
  obtain⟨v,d,c,e,h⟩:=RV (P:=P) m.w m.cell m.version (qF m r) h.wl;have:resV m.w m.cell m.version (qF m r)=v:=by unfold resV;rw[c];rfl
  show vld (resV m.w m.cell m.version (qF m r))=true
  rw[this];exact h
 | some v=>exact ad4 m.tape _ 0 a b
theorem Xg{c:List ak}(h:ScV c)(s:Str):∀n,vld (pW c s n)=true
 | 0=>(bD (P:=[]) (by omega) (by omega)).2
 | n+1=>by
  unfold pW;cases a:c[n]? with
  | none=>exact (bD (P:=[]) (by omega) (by omega)).2
  | some b=>
   show vld (bif b.name==s then b.value else pW c s n)=true
   cases b.name==s with
   | true=>exact h b (zG a)
   | false=>exact Xg h s n
theorem ScV.bind{c:List ak}(h:ScV c)(s:Str){v:af}(d:vld v=true):ScV (c++[ak.mk s v]):=λb a=>by
 rcases List.mem_append.1 a with a | a
 ·exact h b a
 ·rw[List.mem_singleton.1 a];exact d
def Vd(P:List aj)(k:Nat)(t:List aG)(p:aA×af):Prop:=(MOk P k p.1/\p.1.tape=t/\VOk P p.2)/\(p.1.over=false->vld p.2=true)
theorem ZX{α:Type}{P:List aj}{k:Nat}{t:List aG}{f:aA->α->aA×af}:∀(xs:List α) (m:aA),(∀m x,x∈xs->MOk P k m->m.tape=t->Vd P k t (f m x))->MOk P k m->m.tape=t ->
  (MOk P k (evL f m xs).1/\(evL f m xs).1.tape=t/\∀v,v∈(evL f m xs).2->VOk P v)/\((evL f m xs).1.over=false->(evL f m xs).2.length=xs.length/\∀v,v∈(evL f m xs).2->vld v=true)
 | [],m,_,c,d=>⟨⟨c,d,λv a=>by cases a⟩,λ_=>⟨rfl,λv a=>by cases a⟩⟩
 | x::r,m,h,c,d=>by
  obtain⟨⟨e,g,l⟩,n⟩:=h m x aq c d;unfold evL;cases b:(f m x).1.over with
  | true=>exact⟨⟨e,g,λv a=>by cases a⟩,λh=>by have h:(f m x).1.over=false:=h;rw[b]at h;cases h⟩
  | false=>
   obtain⟨⟨o,p,q⟩,i⟩:=ZX r (f m x).1 (λm y s=>h m y (ao _ s)) e g;refine⟨⟨o,p,λv a=>?_⟩,λj=>⟨by simp[(i j).1],λv a=>?_⟩⟩
   ·rcases ba.1 a with rfl | a
    ·exact l
    ·exact q v a
   ·rcases ba.1 a with rfl | a
    ·exact n b
    ·exact (i j).2 v a
theorem Vx{p:aA×List af}{f:List af->af}(h:(fin p f).1.over=false):p.1.over=false/\(fin p f).2=f p.2:=by
 rw[nN]at h;refine⟨h,?_⟩;unfold fin;rw[h];rfl
theorem Tt{p:aA×af}{k:aA->af->aA×af}(h:(thn p k).1.over=false):p.1.over=false/\thn p k=k p.1 p.2:=by
 unfold thn at h ⊢;cases a:p.1.over with
 | true=>rw[a]at h;have h:p.1.over=false:=h;rw[a]at h;cases h
 | false=>exact⟨rfl,rfl⟩
theorem afx{P:List aj}(i:P.length<=1048576){k:Nat}(t:Str)(p:aA×List af)(b:MOk P k p.1)(c:TV p.1.tape)(j:∀v,v∈p.2->VOk P v)(l:p.1.over=false->∀v,v∈p.2->vld v=true)(o:∀v,v∈p.2->VOk P v) :
  (nV t p).1.over=false->vld (nV t p).2=true:=by
 have e:=(bD (P:=P) (n:=4) (by omega) (by omega)).2;unfold nV;cases f:p.1.over with
 | true=>intro h;have h:p.1.over=false:=h;rw[f]at h;cases h
 | false=>
  intro _;simp only[aa];cases m:!CQ t with
  | true=>exact afw i j (by simpa using m)
  | false=>
   simp only[aa];cases t==[99,108,111,99,107]with
   | true=>exact VA b c _
   | false=>
    simp only[aa];cases g:(p.2.getD 0 zV).kind==6 with
    | true=>
     have d:p.2≠[]:=λh=>by rw[h]at g;cases g
     obtain⟨x,r,a⟩:=List.exists_cons_of_ne_nil d;show vld (p.2.getD 0 zV)=true
     rw[a];exact l f x (by rw[a];exact aq)
    | false=>
     simp only[aa];cases t==[99,104,97,110,99,101]with
     | true=>
      simp only[ab];cases (p.2.getD 0 zV).kind==1 with
      | true=>exact VA b c _
      | false=>exact e
     | false=>
      simp only[aa];cases (p.2.getD 0 zV).kind==2 with
      | true=>exact VA b c _
      | false=>exact e
theorem afg{P:List aj}(F:P.length<=1048576){t:List aG}(G:TV t):∀(d:Nat) (e:au) (m:aA) (c:List ak) (k:Nat),ShX d e->ScD P d c->ScV c->MOk P k m->m.tape=t->Vd P k t (ev m e c)
 | 0,e,_,_,_,r,_,_,_,_=>by cases r
 | d+1,e,m,c,k,r,hc,l,M,D=>by
  have R:=ajA F _ e (d+1) m c k (Nat.lt_succ_self _) r hc M;refine⟨⟨R.m,(IW (d+1) e m c r).t.trans D,R.v⟩,λj=>?_⟩;clear R;rw[RN m e c r]at j ⊢;cases r with
  | mk d _ k0 k9 num tx tl al op two three cl N=>
  have sub:∀i,i<e.args.length->∀(m:aA) (c:List ak) (k:Nat),ScD P d c->ScV c->MOk P k m->m.tape=t->Vd P k t (ev m (arg e i) c):=λi O m c k=>afg F G d _ m c k (N _ (dJ O))
  unfold evB at j ⊢;cases y:(m.over||(m.steps==200))with
  | true=>rw[y]at j;cases j
  | false=>
  rw[y]at j;obtain⟨V,o2⟩:=Bool.or_eq_false_iff.1 y;have s:=aap M V o2;have o:(tick m).tape=t:=D;have all:=ZX (f:=λm x=>ev m x c) e.args (tick m) (λm x r a b=>afg F G d x m c (k+1) (N x r) hc.le l a b) s o;simp only[aa]at j ⊢;by_cases H:e.kind=1
  ·rw[H];exact (iO (P:=P) (num H)).2
  by_cases I:e.kind=2
  ·rw[I];exact (Ti (P:=P) (tx I)).2
  by_cases Q:e.kind=3
  ·rw[Q];exact Xg l _ _
  by_cases S:e.kind=4
  ·rw[S]at j ⊢;simp only[show ((4:Int)==1)=false from rfl,show ((4:Int)==2)=false from rfl,show ((4:Int)==3)=false from rfl,beq_self_eq_true,aa,ab]at j ⊢;obtain⟨u,w⟩:=Vx j;rw[w];exact Sm (by rw[(all.2 u).1];omega) all.1.2.2
  by_cases T:e.kind=5
  ·rw[T]at j ⊢;simp only[show ((5:Int)==1)=false from rfl,show ((5:Int)==2)=false from rfl,show ((5:Int)==3)=false from rfl,show ((5:Int)==4)=false from rfl,beq_self_eq_true,aa,ab]at j ⊢;exact afx F e.text _ all.1.1 (by rw[all.1.2.1];exact G) all.1.2.2 (λh=>(all.2 h).2) all.1.2.2 j
  by_cases J:e.kind=7
  ·have U:=two (.inl J);rw[J]at j ⊢;simp only[show ((7:Int)==1)=false from rfl,show ((7:Int)==2)=false from rfl,show ((7:Int)==3)=false from rfl,show ((7:Int)==4)=false from rfl,show ((7:Int)==5)=false from rfl,beq_self_eq_true,aa,ab]at j ⊢;obtain⟨u,w⟩:=Tt j;rw[w]at j ⊢;obtain⟨⟨z,A,C⟩,E⟩:=sub 0 (by omega) (tick m) c (k+1) hc.le l s o;exact (sub 1 (by omega) _ _ (k+1) (hc.bind _ C) (l.bind _ (E u)) z A).2 j
  by_cases K:e.kind=8
  ·have l3:=three K;rw[K]at j ⊢;simp only[show ((8:Int)==1)=false from rfl,show ((8:Int)==2)=false from rfl,show ((8:Int)==3)=false from rfl,show ((8:Int)==4)=false from rfl,show ((8:Int)==5)=false from rfl,show ((8:Int)==7)=false from rfl,beq_self_eq_true,aa,ab]at j ⊢;obtain⟨u,w⟩:=Tt j;rw[w]at j ⊢;obtain⟨⟨z,A,C⟩,E⟩:=sub 0 (by omega) (tick m) c (k+1) hc.le l s o;revert j;cases (ev (tick m) (arg e 0) c).2.kind==6 with
   | true=>exactλ_=>E u
   | false=>
    cases Em (ev (tick m) (arg e 0) c).2 with
    | true=>exact (sub 1 (by omega) _ _ (k+1) hc.le l z A).2
    | false=>exact (sub 2 (by omega) _ _ (k+1) hc.le l z A).2
  by_cases k9':e.kind=9
  ·have U:=two (.inr k9');rw[k9']at j ⊢;simp only[show ((9:Int)==1)=false from rfl,show ((9:Int)==2)=false from rfl,show ((9:Int)==3)=false from rfl,show ((9:Int)==4)=false from rfl,show ((9:Int)==5)=false from rfl,show ((9:Int)==7)=false from rfl,show ((9:Int)==8)=false from rfl,beq_self_eq_true,aa,ab]at j ⊢;obtain⟨u,w⟩:=Tt j;rw[w]at j ⊢;obtain⟨⟨z,A,C⟩,E⟩:=sub 0 (by omega) (tick m) c (k+1) hc.le l s o;have B:=E u;generalize ev (tick m) (arg e 0) c=p at j z A C B ⊢;revert j;cases p.2.kind==6 with
   | true=>exactλ_=>B
   | false=>
    cases W:p.2.kind != 3 with
    | true=>exactλ_=>(bD (P:=P) (n:=4) (by omega) (by omega)).2
    | false=>
     intro j;simp only[aa]at j ⊢;obtain⟨X,Y⟩:=Vx j;have L:∀x,x∈p.2.list->vld x=true:=λx r=>by
      obtain⟨z1,Z,_⟩:=kD B (by simpa using W);exact ((rq _).1 Z x r).2
     have q:=ZX (f:=λm x=>ev m (arg e 1) (c++[ak.mk e.text x])) p.2.list p.1 (λm x r a b=>sub 1 (by omega) m _ (k+1) (hc.bind _ (C.mem r)) (l.bind _ (L x r)) a b) z A;rw[Y];exact Sm (by rw[(q.2 X).1];exact bT (dK.1 C.fit).2.2.2.2.1) q.1.2.2
  have b1:(e.kind==1)=false:=by simpa using H
  have b2:(e.kind==2)=false:=by simpa using I
  have b3:(e.kind==3)=false:=by simpa using Q
  have b4:(e.kind==4)=false:=by simpa using S
  have b5:(e.kind==5)=false:=by simpa using T
  have b7:(e.kind==7)=false:=by simpa using J
  have b8:(e.kind==8)=false:=by simpa using K
  have b9:(e.kind==9)=false:=by simpa using k9'
  simp only[b1,b2,b3,b4,b5,b7,b8,b9,aa]at j ⊢;obtain⟨u,w⟩:=Vx j;rw[w];have U:(evL (λm x=>ev m x c) (tick m) e.args).2.length=2:=by rw[(all.2 u).1];exact op (by omega)
  have g:∀i,i<2->VOk P ((evL (λm x=>ev m x c) (tick m) e.args).2.getD i zV):=λi O=>all.1.2.2 _ (by rw[zE,zF (by omega)];exact List.getElem_mem _)
  exact aj3 _ (g 0 (by omega)) (g 1 (by omega))
theorem ZQ(xs:List Str)(s:Str)(b:xs.length<=1048576):FU xs s=some (xs.contains s):=by
 unfold FU;rw[Jg xs s (by omega),zA];have hp:=Ii s xs 0;congr 1;cases hc:xs.contains s with
 | false=>exact ac (by have:=hp.2 hc;omega)
 | true=>
  have a:¬posOf s 0 xs<0:=λhh=>by rw[hp.1 hh]at hc;cases hc
  exact ae (by omega)
theorem JP(a:List Int)(ha:bZ B47 (.list (.base .u8) a)):FnEvaluated a=some true:=by
 refine afG ha λhl=>?_
 obtain⟨⟨e,c,t,w,x,y⟩,e1,H⟩:=J4 a hl;have hE:wtE e<=10300:=Nat.le_trans (aah e) H.e;have X:VK c:=H.s;have I:abb t:=H.t;have hW:w.files.length<=3:=H.w;obtain⟨P,hP,hc⟩:=aaG c λb k=>(X.2 b k).2
 have hcl:=X.1;have B:ScD P 40 c:=⟨by omega,hc⟩;obtain⟨v,Y,M,p⟩:=abk e (by omega);have hTp:afN P t:=⟨by have:=I.1;omega,λr q=>⟨ad2 (I.2 r q).1,DL (λo ho=>by cases ho) (I.2 r q).2.1⟩⟩;obtain⟨o,o1,o2,J,C,N⟩:=Jt (by omega) (a:=x) (b:=y) Y M p B hTp (w:=w) (by omega);have hO2:=J.s2;obtain⟨fr,f1,f2,f3⟩:=QB e (by omega);have O:decide (o.steps>200)=false:=ac (by omega);have hval:ScV c->vld o.value=true:=λQ=>by
  cases v with
  | false=>rw[N rfl];exact (bD (P:=P) (n:=4) (by omega) (by omega)).2
  | true=>
   rw[C rfl];have K:MOk P 0 (aA.mk t w x y [] 0 false):=⟨hTp,by show (w.files.length:Int)<=1048576;omega,(λr q=>by cases q),by show (0:Int)<=200;decide,(λh=>by cases h),by show (0:Int)+0<=0;decide⟩;have Z:=(afg (by omega) (t:=t) (λr q=>(I.2 r q).2.2) 40 e (aA.mk t w x y [] 0 false) c 0 (p rfl) B Q K rfl).2;show vld (bif (ev0 e c t w x y).1.over then dI 6 else (ev0 e c t w x y).2)=true
   cases R:(ev0 e c t w x y).1.over with
   | true=>exact (bD (P:=P) (n:=6) (by omega) (by omega)).2
   | false=>exact Z R
 simp only[e1,dA,WG,o1,o2,f1,Ez J,O,aL,aa,zA];refine run_eq (pX (λ(s:List ak×Bool) (i:Nat)=>((e.kind,e.n,e.text,e.args,c,t,w.clock,w.seed,w.files,x,y,o.value.kind,o.value.n,o.value.step,o.value.text,o.value.list,o.value.columns,o.value.rows,o.reads,o.steps,fr,s.1,s.2,(i:Int)) :
  Int×Int×Str×(List au)×(List ak)×(List aG)×Int×Int×(List fP)×Int×Int×Int×Int×Int×Str×(List af)×(List Str)×(List aB)×(List aG)×Int×(List Str)×(List ak)×Bool×Int)) c
  (λi s=>(s.1.length<=i/\∀b,b∈s.1->b∈c)/\(∀z,z∈fr->nD s.1 z=nD (c.take i) z)/\(s.2=true->ScV (c.take i))) (λr=>r=true) (λi b s k S=>.inl ?_) (λs S=>?_) ([],true) ⟨⟨ar _,λb h=>by cases h⟩,λz _=>rfl,λ_ b h=>by cases h⟩)
 ·obtain⟨⟨u,L⟩,D,A⟩:=S;obtain⟨out,good⟩:=s;have hi:=(zC.1 k).1;have K:=zG k;have ht:c.take (i+1)=c.take i++[b]:=by
   obtain⟨hi,rfl⟩:=zC.1 k;rw[List.take_succ_eq_append_getElem hi]
  have hg:gd (out.length+[b].length)=some ():=bK (by have:out.length<=i:=u;simp;omega);have l:vld b.value=true->ScV (c.take i)->ScV (c.take (i+1)):=λE T z j=>by
   rw[ht]at j;rcases List.mem_append.1 j with j | j
   ·exact T z j
   ·rw[List.mem_singleton.1 j];exact E
  have hlook:∀z,nD (c.take (i+1)) z=bif b.name==z then b.value else nD (c.take i) z:=λz=>by rw[ht];exact xY _ _ _ _
  have E:∀g':Bool,(g'=true->ScV (c.take (i+1)))->(out++[b]).length<=i+1/\(∀d,d∈out++[b]->d∈c):=λ_ _=>⟨by have:out.length<=i:=u;simp;omega,λd F=>by
   rcases List.mem_append.1 F with F | F
   ·exact L d F
   ·rw[List.mem_singleton.1 F];exact K⟩
  have take:∀g':Bool,(g'=true->ScV (c.take (i+1)))->((out++[b]).length<=i+1/\∀d,d∈out++[b]->d∈c)/\(∀z,z∈fr->nD (out++[b]) z=nD (c.take (i+1)) z)/\(g'=true->ScV (c.take (i+1))):=λg' f=>⟨E g' f,λz j=>by
   rw[hlook];exact (xY out b.name z b.value).trans (by rw[D z j]),f⟩
  have skip:fr.contains b.name=false->∀g':Bool,(g'=true->ScV (c.take (i+1)))->(out.length<=i+1/\∀d,d∈out->d∈c)/\(∀z,z∈fr->nD out z=nD (c.take (i+1)) z)/\(g'=true->ScV (c.take (i+1))):=λhn g' f=>⟨⟨by have:out.length<=i:=u;omega,L⟩,λz j=>by
   have U:(b.name==z)=false:=by
    cases V:b.name==z with
    | false=>rfl
    | true=>
     have V:b.name=z:=by simpa using V
     have G:fr.contains b.name=true:=by rw[V];simpa using j
     rw[hn]at G;cases G
   rw[hlook,U];exact D z j,f⟩
  simp only[yE k,ab,aQ,k,zA,aC,UA,J8 _ (hc b K).fit,ZQ fr b.name (by omega),hg,yD k (by omega)];have Z:∀g:Bool,(g=true->ScV (c.take i))->g=true->vld b.value=true->ScV (c.take (i+1)):=λg E T h3=>l h3 (E T)
  cases good with
  | true=>
   cases m:fr.contains b.name with
   | true=>exact⟨(out++[b],vld b.value),rfl,take _ λh=>l h (A rfl)⟩
   | false=>exact⟨(out,vld b.value),rfl,skip m _ λh=>l h (A rfl)⟩
  | false=>
   cases m:fr.contains b.name with
   | true=>exact⟨(out++[b],false),rfl,take _ λh=>by cases h⟩
   | false=>exact⟨(out,false),rfl,skip m _ λh=>by cases h⟩
 ·obtain⟨⟨u,L⟩,D,A⟩:=S;obtain⟨out,good⟩:=s;rw[List.take_length]at D A;have u:out.length<=c.length:=u;have ee:au.mk e.kind e.n e.text e.args=e:=by cases e;rfl
  have ew:bV.mk w.clock w.seed w.files=w:=rfl;have eo:=akY o;have evv:=gvk o.value;have hgood:∀g:Bool,(g=true->ScV c)->(bif (!g)then some true else (iC o.value).bind λr=>some r)=some true:=λg f=>by
   cases g with
   | false=>rfl
   | true=>rw[J8 _ J.v.fit,hval (f rfl)];rfl
  refine⟨true,?_,rfl⟩;simp only[uI,aa,ee,ew,eo,evv,M,zA];cases v with
  | false=>
   simp only[aa];rw[hgood good A];rfl
  | true=>
   have W:ScD P 40 out:=⟨by omega,λb k=>hc b (L b k)⟩;obtain⟨o',p1,_,hO',q1,_⟩:=Jt (by omega) (a:=x) (b:=y) Y M p W hTp (w:=w) (by omega);have hsame:o'=o:=by
    rw[q1 rfl,C rfl];unfold evO;rw[af9 (p rfl) (p rfl) (c:=c) (c':=out) (σ:=λs s'=>s=s'/\s∈fr) (Bg 40 e [] _ (p rfl) λs h=>⟨rfl,f3 s (h.resolve_left (by simp))⟩) (λs s' h=>by rw[<- h.1];exact D s h.2) t w x y]
   subst hsame;simp only[ab,p1,WG,Ez J,zA,aL,aa];rw[hgood good A];rfl
end Go.Proofs.YtjbajpfonnnfoaaGreatDoor
/- Functions of the library, as the evaluator's contracts. -/
namespace Go.Abs
open Go.RowKit Go.Sort Go.Proofs Go.Shelf
theorem Uz{w:World}{S:Nat->Nat->Prop}{s:Str}{u:Value}(h:Rep w S (.str s) u):u=.string ⟨s.toArray⟩:=by
 generalize a:D.str s=d at h;cases h<;>cases a
 rfl
theorem Bf{w:World}{S:Nat->Nat->Prop}{k:IntKind}{n:Int}{u:Value}(h:Rep w S (.int k n) u):u=.int k n:=by
 generalize a:D.int k n=d at h;cases h<;>cases a
 rfl
theorem ad1{w:World}{S:Nat->Nat->Prop}{b:Bool}{u:Value}(h:Rep w S (.bool b) u):u=.bool b:=by
 generalize a:D.bool b=d at h;cases h<;>cases a
 rfl
theorem VR{P:Program}{ρ:Ren}(L:Lays.n146 P ρ)(q:(P.info? (ρ.t 9)).map (λi=>(i.zero,i.size,i.bytes))=some (some (.string ByteArray.empty),1,16))(hmax:∀w,amb w->∃m,w.cell? ⟨(ρ.g 1),0,none⟩=some (.int .i64 m)) :
  Sound P { fid:=ρ.f 146,ps:=[⟨false,.base .str⟩,⟨false,.base .str⟩],rs:=[⟨false,.list (.base .str)⟩],ex:=true,fn:=λx=>wE x.1 x.2 }:=by
 intro w S args x y h F b M;rcases args with _ | ⟨u,_ | ⟨G,_ | ⟨N,r⟩⟩⟩
 ·exact b.elim
 ·exact b.2.elim
 ·have H:=Uz (show Rep w S (.str x.1) u from b.1.1);have v:=Uz (show Rep w S (.str x.2) G from b.2.1);subst H;subst v;have h:wE x.1 x.2=some y:=h;unfold wE at h;split at h
  case isFalse=>cases h
  rename_i z;obtain⟨m,I⟩:=hmax w F;have C:(⟨x.1.toArray⟩:ByteArray).size=x.1.length:=by show x.1.toArray.size=_;simp
  have J:(⟨x.2.toArray⟩:ByteArray).size=x.2.length:=by show x.2.toArray.size=_;simp
  have k:1<=(⟨x.2.toArray⟩:ByteArray).size:=by rw[J];exact z.2
  have hk:=Lib.splitB_all ⟨x.2.toArray⟩ k 0 _ ⟨x.1.toArray⟩ rfl;have l:=Lib.countB_le ⟨x.2.toArray⟩ k (⟨x.1.toArray⟩:ByteArray).size ⟨x.1.toArray⟩ (ar _);have a:=Lib.splitB_data ⟨x.2.toArray⟩ 0 (Lib.countB ⟨x.1.toArray⟩ ⟨x.2.toArray⟩) ⟨x.1.toArray⟩;have D:(Lib.splitB ⟨x.2.toArray⟩ 0 (Lib.countB ⟨x.1.toArray⟩ ⟨x.2.toArray⟩) ⟨x.1.toArray⟩).map (·.data.toList)=y:=by
   cases h
   rw[a];rfl
  refine (Any.strings_Split L q ⟨x.1.toArray⟩ ⟨x.2.toArray⟩ m w (by rw[C];exact z.1) I k).mono ?_;generalize Lib.splitB ⟨x.2.toArray⟩ 0 (Lib.countB ⟨x.1.toArray⟩ ⟨x.2.toArray⟩) ⟨x.1.toArray⟩=bs at hk D;generalize Lib.countB ⟨x.1.toArray⟩ ⟨x.2.toArray⟩=n at hk l;subst D;rintro e w' ⟨rfl,rfl⟩;have A:(w.alloc (.cells (bs.map Value.string).toArray (ρ.t 9))).heap.size=w.heap.size+1:=Array.size_push _;refine⟨_,rfl,(Below.refl _ _).alloc (ar _) _,[_],rfl,λi c=>i=0/\c=w.heap.size,⟨?_,trivial⟩,λi c hc=>by rw[hc.2,A];omega,λi i' c k K=>k.1.trans K.1.symm⟩
  ·have E:(bs.map (·.data.toList)).length=n+1:=by rw[List.length_map,hk]
   have key:=Ow.list (w:=w.alloc (.cells (bs.map Value.string).toArray (ρ.t 9))) (S:=λ_ _=>False) (deep:=true) (.base .str) (bs.map (·.data.toList)) w.heap.size (n+1) (bs.map Value.string).toArray (ρ.t 9) (λi _=>.string (bs[i]!)) (λ_ _ _=>False) (λc=>0=0/\c=w.heap.size)
    (Array.getElem?_push_size) (by rw[E];exact ar _) (by rw[C]at l;have:=z.1;unfold maxLen;omega) (by show (bs.map Value.string).toArray.size=(n+1)*1;simp[hk]) ⟨rfl,rfl⟩
    (λi s j d o a=>?_) (λi s j d o a=>?_) (λ_ _ _ h=>h.elim) (λ_ _ _ _ _ h=>h.elim)
   ·rw[E]at key;exact key
   ·cases j with
    | succ j=>simp[Ty.cells,Base.cells]at a
    | zero=>
     have e:i*(Ty.base .str).size+0=i:=by show i*1+0=i;omega
     have p:i<bs.length:=by
      have:=(zC.1 o).1;simpa using this
     rw[e];simp[p]
   ·cases j with
    | succ j=>simp[Ty.cells,Base.cells]at a
    | zero=>
     simp only[Ty.cells,Base.cells,List.getElem?_cons_zero,zD]at a;subst a;have p:i<bs.length:=by
      have:=(zC.1 o).1;simpa using this
     have B:bs[i].data.toList=s:=by
      rw[List.getElem?_map,zF p]at o;simpa using o
     rw[getElem!_pos bs i p,<- B];exact Ow.str _ _
 ·exact b.2.elim
end Go.Abs
/- Functions of the library, by this program's numbers. -/
namespace Go.Proofs.YtjbajpfonnnfoaaGreatDoor
open Go.Proofs Go.Shelf Go.RowKit Go.Lib Go.Sort
def l6r:Go.Shelf.Ren:=⟨λ| 6=>222 | 10=>228 | 11=>229 | 12=>230 | 13=>231 | 14=>232 | 24=>246 | 25=>247 | 26=>248 | 27=>249 | 28=>250 | 29=>251 | 30=>252 | 31=>253 | 32=>254 | 33=>255 | 34=>269 | 35=>270 | 36=>271 | 37=>272 | 38=>273 | 39=>285 | n=>n,λ| 20=>20 | 26=>189 | 35=>195 | 0=>0 | 37=>197 | 3=>3 | 41=>145 | 44=>203 | 49=>211 | 51=>213 | 4=>4 | 54=>216 | 53=>215 | 58=>178 | 5=>5 | 9=>9 | 60=>231 | 64=>235 | 66=>240 | 67=>241 | 17=>17 | 32=>192 | 33=>193 | 82=>264 | 12=>12 | 75=>257 | 76=>258 | 77=>259 | 78=>260 | 79=>261 | 80=>262 | n=>n,λn=>n⟩
theorem l6:LaysGg.n6 Tryz.prog l6r where
 mixed:=by kernel_rfl
 f6:=Tryz.func222.trans (congrArg some (by kernel_rfl))
 f10:=Tryz.func228.trans (congrArg some (by kernel_rfl))
 f11:=Tryz.func229.trans (congrArg some (by kernel_rfl))
 f12:=Tryz.func230.trans (congrArg some (by kernel_rfl))
 f13:=Tryz.func231.trans (congrArg some (by kernel_rfl))
 f14:=Tryz.func232.trans (congrArg some (by kernel_rfl))
 f24:=Tryz.func246.trans (congrArg some (by kernel_rfl))
 f25:=Tryz.func247.trans (congrArg some (by kernel_rfl))
 f26:=Tryz.func248.trans (congrArg some (by kernel_rfl))
 f27:=Tryz.func249.trans (congrArg some (by kernel_rfl))
 f28:=Tryz.func250.trans (congrArg some (by kernel_rfl))
 f29:=Tryz.func251.trans (congrArg some (by kernel_rfl))
 f30:=Tryz.func252.trans (congrArg some (by kernel_rfl))
 f31:=Tryz.func253.trans (congrArg some (by kernel_rfl))
 f32:=Tryz.func254.trans (congrArg some (by kernel_rfl))
 f33:=Tryz.func255.trans (congrArg some (by kernel_rfl))
 f34:=Tryz.func269.trans (congrArg some (by kernel_rfl))
 f35:=Tryz.func270.trans (congrArg some (by kernel_rfl))
 f36:=Tryz.func271.trans (congrArg some (by kernel_rfl))
 f37:=Tryz.func272.trans (congrArg some (by kernel_rfl))
 f38:=Tryz.func273.trans (congrArg some (by kernel_rfl))
 f39:=Tryz.func285.trans (congrArg some (by kernel_rfl))
 t0:=Tryz.underlying0
 a0:=Tryz.isAgg0
 z0:=Tryz.sizeOf0
 v0:=Tryz.zeroValue0
 i0:=by kernel_rfl
 t3:=Tryz.underlying3
 a3:=Tryz.isAgg3
 z3:=Tryz.sizeOf3
 v3:=Tryz.zeroValue3
 i3:=by kernel_rfl
 t4:=Tryz.underlying4
 a4:=Tryz.isAgg4
 z4:=Tryz.sizeOf4
 v4:=Tryz.zeroValue4
 i4:=by kernel_rfl
 t5:=Tryz.underlying5
 a5:=Tryz.isAgg5
 z5:=Tryz.sizeOf5
 v5:=Tryz.zeroValue5
 i5:=by kernel_rfl
 t9:=Tryz.underlying9
 a9:=Tryz.isAgg9
 z9:=Tryz.sizeOf9
 v9:=Tryz.zeroValue9
 i9:=by kernel_rfl
 t12:=Tryz.underlying12
 a12:=Tryz.isAgg12
 z12:=Tryz.sizeOf12
 v12:=Tryz.zeroValue12
 i12:=by kernel_rfl
 t17:=Tryz.underlying17
 a17:=Tryz.isAgg17
 z17:=Tryz.sizeOf17
 v17:=Tryz.zeroValue17
 i17:=by kernel_rfl
 t20:=Tryz.underlying20
 a20:=Tryz.isAgg20
 z20:=Tryz.sizeOf20
 v20:=Tryz.zeroValue20
 i20:=by kernel_rfl
 t26:=Tryz.underlying189
 a26:=Tryz.isAgg189
 z26:=Tryz.sizeOf189
 v26:=Tryz.zeroValue189
 i26:=by kernel_rfl
 t32:=Tryz.underlying192
 a32:=Tryz.isAgg192
 z32:=Tryz.sizeOf192
 v32:=Tryz.zeroValue192
 i32:=by kernel_rfl
 t33:=Tryz.underlying193
 a33:=Tryz.isAgg193
 z33:=Tryz.sizeOf193
 v33:=Tryz.zeroValue193
 i33:=by kernel_rfl
 t35:=Tryz.underlying195
 a35:=Tryz.isAgg195
 z35:=Tryz.sizeOf195
 v35:=Tryz.zeroValue195
 i35:=by kernel_rfl
 t37:=Tryz.underlying197
 a37:=Tryz.isAgg197
 z37:=Tryz.sizeOf197
 v37:=Tryz.zeroValue197
 i37:=by kernel_rfl
 t41:=Tryz.underlying145
 a41:=Tryz.isAgg145
 z41:=Tryz.sizeOf145
 v41:=Tryz.zeroValue145
 i41:=by kernel_rfl
 t44:=Tryz.underlying203
 a44:=Tryz.isAgg203
 z44:=Tryz.sizeOf203
 v44:=Tryz.zeroValue203
 i44:=by kernel_rfl
 t49:=Tryz.underlying211
 a49:=Tryz.isAgg211
 z49:=Tryz.sizeOf211
 v49:=Tryz.zeroValue211
 i49:=by kernel_rfl
 t51:=Tryz.underlying213
 a51:=Tryz.isAgg213
 z51:=Tryz.sizeOf213
 v51:=Tryz.zeroValue213
 i51:=by kernel_rfl
 t53:=Tryz.underlying215
 a53:=Tryz.isAgg215
 z53:=Tryz.sizeOf215
 v53:=Tryz.zeroValue215
 i53:=by kernel_rfl
 t54:=Tryz.underlying216
 a54:=Tryz.isAgg216
 z54:=Tryz.sizeOf216
 v54:=Tryz.zeroValue216
 i54:=by kernel_rfl
 t58:=Tryz.underlying178
 a58:=Tryz.isAgg178
 z58:=Tryz.sizeOf178
 v58:=Tryz.zeroValue178
 i58:=by kernel_rfl
 t60:=Tryz.underlying231
 a60:=Tryz.isAgg231
 z60:=Tryz.sizeOf231
 v60:=Tryz.zeroValue231
 i60:=by kernel_rfl
 t64:=Tryz.underlying235
 a64:=Tryz.isAgg235
 z64:=Tryz.sizeOf235
 v64:=Tryz.zeroValue235
 i64:=by kernel_rfl
 t66:=Tryz.underlying240
 a66:=Tryz.isAgg240
 z66:=Tryz.sizeOf240
 v66:=Tryz.zeroValue240
 i66:=by kernel_rfl
 t67:=Tryz.underlying241
 a67:=Tryz.isAgg241
 z67:=Tryz.sizeOf241
 v67:=Tryz.zeroValue241
 i67:=by kernel_rfl
 t75:=Tryz.underlying257
 a75:=Tryz.isAgg257
 z75:=Tryz.sizeOf257
 v75:=Tryz.zeroValue257
 i75:=by kernel_rfl
 t76:=Tryz.underlying258
 a76:=Tryz.isAgg258
 z76:=Tryz.sizeOf258
 v76:=Tryz.zeroValue258
 i76:=by kernel_rfl
 t77:=Tryz.underlying259
 a77:=Tryz.isAgg259
 z77:=Tryz.sizeOf259
 v77:=Tryz.zeroValue259
 i77:=by kernel_rfl
 t78:=Tryz.underlying260
 a78:=Tryz.isAgg260
 z78:=Tryz.sizeOf260
 v78:=Tryz.zeroValue260
 i78:=by kernel_rfl
 t79:=Tryz.underlying261
 a79:=Tryz.isAgg261
 z79:=Tryz.sizeOf261
 v79:=Tryz.zeroValue261
 i79:=by kernel_rfl
 t80:=Tryz.underlying262
 a80:=Tryz.isAgg262
 z80:=Tryz.sizeOf262
 v80:=Tryz.zeroValue262
 i80:=by kernel_rfl
 t82:=Tryz.underlying264
 a82:=Tryz.isAgg264
 z82:=Tryz.sizeOf264
 v82:=Tryz.zeroValue264
 i82:=by kernel_rfl
def aeM:Go.Shelf.Ren:=⟨λ| 146=>221 | 221=>227 | 268=>234 | 138=>235 | 143=>236 | 195=>265 | 197=>266 | 218=>267 | 219=>268 | 260=>280 | 217=>281 | 225=>282 | 224=>283 | 267=>284 | 266=>287 | 314=>288 | n=>n,λ| 9=>9 | 31=>35 | 3=>3 | 4=>4 | 0=>0 | 105=>228 | 21=>21 | 5=>5 | 46=>145 | 119=>245 | 139=>248 | 138=>247 | 146=>249 | 51=>211 | n=>n,λ| 1=>0 | 3=>1 | 4=>2 | n=>n⟩
theorem l146:Lays.n146 Tryz.prog aeM where
 mixed:=by kernel_rfl
 f138:=Tryz.func235.trans (congrArg some (by kernel_rfl))
 f143:=Tryz.func236.trans (congrArg some (by kernel_rfl))
 f146:=Tryz.func221.trans (congrArg some (by kernel_rfl))
 f195:=Tryz.func265.trans (congrArg some (by kernel_rfl))
 f197:=Tryz.func266.trans (congrArg some (by kernel_rfl))
 f217:=Tryz.func281.trans (congrArg some (by kernel_rfl))
 f218:=Tryz.func267.trans (congrArg some (by kernel_rfl))
 f219:=Tryz.func268.trans (congrArg some (by kernel_rfl))
 f221:=Tryz.func227.trans (congrArg some (by kernel_rfl))
 f224:=Tryz.func283.trans (congrArg some (by kernel_rfl))
 f225:=Tryz.func282.trans (congrArg some (by kernel_rfl))
 f260:=Tryz.func280.trans (congrArg some (by kernel_rfl))
 f266:=Tryz.func287.trans (congrArg some (by kernel_rfl))
 f267:=Tryz.func284.trans (congrArg some (by kernel_rfl))
 f268:=Tryz.func234.trans (congrArg some (by kernel_rfl))
 f314:=Tryz.func288.trans (congrArg some (by kernel_rfl))
 t0:=Tryz.underlying0
 a0:=Tryz.isAgg0
 z0:=Tryz.sizeOf0
 v0:=Tryz.zeroValue0
 t3:=Tryz.underlying3
 a3:=Tryz.isAgg3
 z3:=Tryz.sizeOf3
 v3:=Tryz.zeroValue3
 t4:=Tryz.underlying4
 a4:=Tryz.isAgg4
 z4:=Tryz.sizeOf4
 v4:=Tryz.zeroValue4
 t5:=Tryz.underlying5
 a5:=Tryz.isAgg5
 z5:=Tryz.sizeOf5
 v5:=Tryz.zeroValue5
 t9:=Tryz.underlying9
 a9:=Tryz.isAgg9
 z9:=Tryz.sizeOf9
 v9:=Tryz.zeroValue9
 t21:=Tryz.underlying21
 a21:=Tryz.isAgg21
 z21:=Tryz.sizeOf21
 v21:=Tryz.zeroValue21
 t31:=Tryz.underlying35
 a31:=Tryz.isAgg35
 z31:=Tryz.sizeOf35
 v31:=Tryz.zeroValue35
 t46:=Tryz.underlying145
 a46:=Tryz.isAgg145
 z46:=Tryz.sizeOf145
 v46:=Tryz.zeroValue145
 t51:=Tryz.underlying211
 a51:=Tryz.isAgg211
 z51:=Tryz.sizeOf211
 v51:=Tryz.zeroValue211
 t105:=Tryz.underlying228
 a105:=Tryz.isAgg228
 z105:=Tryz.sizeOf228
 v105:=Tryz.zeroValue228
 t119:=Tryz.underlying245
 a119:=Tryz.isAgg245
 z119:=Tryz.sizeOf245
 t138:=Tryz.underlying247
 a138:=Tryz.isAgg247
 z138:=Tryz.sizeOf247
 v138:=Tryz.zeroValue247
 t139:=Tryz.underlying248
 a139:=Tryz.isAgg248
 z139:=Tryz.sizeOf248
 v139:=Tryz.zeroValue248
 t146:=Tryz.underlying249
 a146:=Tryz.isAgg249
 z146:=Tryz.sizeOf249
 v146:=Tryz.zeroValue249
 g1:=by kernel_rfl
 g3:=by kernel_rfl
 g4:=by kernel_rfl
def ak0:Go.Shelf.Ren:=⟨λ| 191=>204 | 189=>224 | 125=>231 | 257=>233 | 128=>246 | 129=>247 | 294=>256 | 295=>257 | 296=>258 | 297=>259 | 298=>260 | 299=>261 | 216=>262 | 300=>263 | 301=>264 | 328=>274 | 329=>275 | 330=>276 | 331=>277 | 332=>278 | 215=>279 | 343=>286 | n=>n,λ| 28=>101 | 0=>0 | 3=>3 | 46=>145 | 51=>211 | 53=>213 | 4=>4 | 183=>223 | 182=>222 | 131=>178 | 5=>5 | 9=>9 | 218=>237 | 222=>235 | 228=>243 | 229=>241 | n=>n,λn=>n⟩
theorem l191:Lays.n191 Tryz.prog ak0 where
 mixed:=by kernel_rfl
 f125:=Tryz.func231.trans (congrArg some (by kernel_rfl))
 f128:=Tryz.func246.trans (congrArg some (by kernel_rfl))
 f129:=Tryz.func247.trans (congrArg some (by kernel_rfl))
 f189:=Tryz.func224.trans (congrArg some (by kernel_rfl))
 f191:=Tryz.func204.trans (congrArg some (by kernel_rfl))
 f215:=Tryz.func279.trans (congrArg some (by kernel_rfl))
 f216:=Tryz.func262.trans (congrArg some (by kernel_rfl))
 f257:=Tryz.func233.trans (congrArg some (by kernel_rfl))
 f294:=Tryz.func256.trans (congrArg some (by kernel_rfl))
 f295:=Tryz.func257.trans (congrArg some (by kernel_rfl))
 f296:=Tryz.func258.trans (congrArg some (by kernel_rfl))
 f297:=Tryz.func259.trans (congrArg some (by kernel_rfl))
 f298:=Tryz.func260.trans (congrArg some (by kernel_rfl))
 f299:=Tryz.func261.trans (congrArg some (by kernel_rfl))
 f300:=Tryz.func263.trans (congrArg some (by kernel_rfl))
 f301:=Tryz.func264.trans (congrArg some (by kernel_rfl))
 f328:=Tryz.func274.trans (congrArg some (by kernel_rfl))
 f329:=Tryz.func275.trans (congrArg some (by kernel_rfl))
 f330:=Tryz.func276.trans (congrArg some (by kernel_rfl))
 f331:=Tryz.func277.trans (congrArg some (by kernel_rfl))
 f332:=Tryz.func278.trans (congrArg some (by kernel_rfl))
 f343:=Tryz.func286.trans (congrArg some (by kernel_rfl))
 t0:=Tryz.underlying0
 a0:=Tryz.isAgg0
 z0:=Tryz.sizeOf0
 v0:=Tryz.zeroValue0
 t3:=Tryz.underlying3
 a3:=Tryz.isAgg3
 z3:=Tryz.sizeOf3
 v3:=Tryz.zeroValue3
 t4:=Tryz.underlying4
 a4:=Tryz.isAgg4
 z4:=Tryz.sizeOf4
 v4:=Tryz.zeroValue4
 t5:=Tryz.underlying5
 a5:=Tryz.isAgg5
 z5:=Tryz.sizeOf5
 v5:=Tryz.zeroValue5
 t9:=Tryz.underlying9
 a9:=Tryz.isAgg9
 z9:=Tryz.sizeOf9
 v9:=Tryz.zeroValue9
 t28:=Tryz.underlying101
 a28:=Tryz.isAgg101
 z28:=Tryz.sizeOf101
 v28:=Tryz.zeroValue101
 t46:=Tryz.underlying145
 a46:=Tryz.isAgg145
 z46:=Tryz.sizeOf145
 v46:=Tryz.zeroValue145
 t51:=Tryz.underlying211
 a51:=Tryz.isAgg211
 z51:=Tryz.sizeOf211
 v51:=Tryz.zeroValue211
 t53:=Tryz.underlying213
 a53:=Tryz.isAgg213
 z53:=Tryz.sizeOf213
 v53:=Tryz.zeroValue213
 t131:=Tryz.underlying178
 a131:=Tryz.isAgg178
 z131:=Tryz.sizeOf178
 v131:=Tryz.zeroValue178
 t182:=Tryz.underlying222
 a182:=Tryz.isAgg222
 z182:=Tryz.sizeOf222
 v182:=Tryz.zeroValue222
 t183:=Tryz.underlying223
 a183:=Tryz.isAgg223
 z183:=Tryz.sizeOf223
 v183:=Tryz.zeroValue223
 t218:=Tryz.underlying237
 a218:=Tryz.isAgg237
 z218:=Tryz.sizeOf237
 v218:=Tryz.zeroValue237
 t222:=Tryz.underlying235
 a222:=Tryz.isAgg235
 z222:=Tryz.sizeOf235
 v222:=Tryz.zeroValue235
 t228:=Tryz.underlying243
 a228:=Tryz.isAgg243
 z228:=Tryz.sizeOf243
 v228:=Tryz.zeroValue243
 t229:=Tryz.underlying241
 a229:=Tryz.isAgg241
 z229:=Tryz.sizeOf241
 v229:=Tryz.zeroValue241
end Go.Proofs.YtjbajpfonnnfoaaGreatDoor
/- A library sort at elements of k cells, with a 'less' that may lay boxes of its own: blocks of the base world, insertion. -/
namespace Go.Proofs
open Go.Shelf Go.RowKit Go.Lib Go.Sort
variable {P:Program} {ρ:Ren} {α:Type} [Inhabited α] {enc:α->List Value} {k:Nat} {w0 w1 W W':World} {blk off:Nat} {dk dj:Array α}
theorem SWK.comp(h:SWK enc k w0 blk off dk W)(hblk:blk<w0.heap.size)(a:SWK enc k W blk off dj W')(b:dj.size=dk.size):SWK enc k w0 blk off dj W':=by
 obtain⟨n,os,rfl⟩:=a;exact h.on hblk n dj os b
theorem SWK.cellAt(h:SWK enc k w0 blk off dk W){b o:Nat}(c:b≠blk)(a:b<w0.heap.size):W.cell? ⟨b,o,none⟩=w0.cell? ⟨b,o,none⟩:=by
 obtain⟨n,os,rfl⟩:=h;unfold sortWorldK;rw[cell?_grow _ _ _ (by rw[size_putRowK];exact a),cell?_putRowK_other enc k _ blk off dk _ c];rfl
def jq(P:Program)(g:Nat)(lb:Array Value)(enc:α->List Value)(k:Nat)(lt:α->α->Bool)(blk off size:Nat)(w:World):Prop:=
 ∀(m:Nat) (os:Array Obj) (dk:Array α),dk.size=size->∀i j:Nat,i<size->j<size ->
  Calls P g (#[.int .i64 i,.int .i64 j]++lb) (sortWorldK enc k w blk off m dk os) λe w'=>e=.returned (.bool (lt dk[i]! dk[j]!))/\SWK enc k (sortWorldK enc k w blk off m dk os) blk off dk w'
theorem SWK.lays{g:Nat}{lb:Array Value}{lt:α->α->Bool}{size:Nat}(h:SWK enc k w0 blk off dk W)(a:jq P g lb enc k lt blk off size w0)(b:dk.size=size)(i j:Nat)(c:i<size)(d:j<size) :
  Calls P g (#[.int .i64 i,.int .i64 j]++lb) W λe w'=>e=.returned (.bool (lt dk[i]! dk[j]!))/\SWK enc k W blk off dk w':=by
 obtain⟨n,os,rfl⟩:=h;exact a n os dk b i j c d
theorem SWK.aeK{g:Nat}{lb:Array Value}{lt:α->α->Bool}{size:Nat}(h:SWK enc k w0 blk off dk W)(c:jq P g lb enc k lt blk off size w0)(hblk:blk<w0.heap.size)(d:dk.size=size):jq P g lb enc k lt blk off size W:=by
 intro m os dj b i j f a;obtain⟨n',os',e⟩:=h.on hblk m dj os (b.trans d.symm);rw[e];exact c n' os' dj b i j f a
theorem jq.grow{g:Nat}{lb:Array Value}{lt:α->α->Bool}{size:Nat}(h:jq P g lb enc k lt blk off size w0)(hblk:blk<w0.heap.size)(a:Array Obj):jq P g lb enc k lt blk off size (Sort.grow w0 a):=λm os dk b i j c d=>by
 have e:sortWorldK enc k (Sort.grow w0 a) blk off m dk os=sortWorldK enc k w0 blk off m dk (a++os):=by
  unfold sortWorldK;rw[ahead_grow,putRowK_grow enc k (Sort.ahead w0 m) _ blk off _ hblk,grow_grow]
 rw[e];exact h m _ dk b i j c d
set_option maxHeartbeats 8000000 in
set_option maxRecDepth 100000 in
theorem Qd(L:LaysGg.n26 P ρ)(hk:∀x,(enc x).length=k)(lt:α->α->Bool)(g:Nat)(lb:Array Value)(sf:Nat)(sb:Array Value)(a b:Nat)(d:Array α)
  (eg:∀args w,(callFunc g args).run P w=.ok (.enter g args) w) (hless:jq P g lb enc k lt blk off d.size W) (hswap:SwapSwapsK P sf sb enc k blk off d.size)
  (y:HoldsK enc k W blk off d) (hblk:blk<W.heap.size) (E:a<=b) (V:b<=d.size) (F:d.size<4611686018427387904) :
  Calls P (ρ.f 26) #[.agg #[.func (.func g) #[] lb,.func (.func sf) #[] sb],.int .i64 a,.int .i64 b] W λe w'=>e=.returned (.tuple #[])/\SWK enc k W blk off (Sort.insertionSort lt d a b) w':=by
 have mixed:=L.mixed;have t0:=L.t0;have a0:=L.a0;have z0:=L.z0;have v0:=L.v0;have t3:=L.t3;have a3:=L.a3;have z3:=L.z3;have v3:=L.v3;have t4:=L.t4;have a4:=L.a4;have z4:=L.z4;have v4:=L.v4;have t26:=L.t26;have a26:=L.a26;have z26:=L.z26;have v26:=L.v26;have t37:=L.t37;have a37:=L.a37;have z37:=L.z37;have v37:=L.v37;have t44:=L.t44;have a44:=L.a44;have z44:=L.z44;have v44:=L.v44;have G:=run_underlying L.t44;have n:blk<(W.alloc (.cells #[.func (.func g) #[] lb,.func (.func sf) #[] sb] (ρ.t 44))).heap.size:=by rw[alloc_eq_grow,size_grow];omega
 have q:HoldsK enc k (W.alloc (.cells #[.func (.func g) #[] lb,.func (.func sf) #[] sb] (ρ.t 44))) blk off d:=by rw[alloc_eq_grow];exact holdsK_grow enc k W _ blk off d hblk y
 have r:jq P g lb enc k lt blk off d.size (W.alloc (.cells #[.func (.func g) #[] lb,.func (.func sf) #[] sb] (ρ.t 44))):=by rw[alloc_eq_grow];exact hless.grow hblk _
 have cell0:∀(dj:Array α) (wr:World),SWK enc k (W.alloc (.cells #[.func (.func g) #[] lb,.func (.func sf) #[] sb] (ρ.t 44))) blk off dj wr->wr.cell? ⟨W.heap.size,0,none⟩=some (.func (.func g) #[] lb):=λdj wr h=>by
  rw[h.cellAt (b:=W.heap.size) (by omega) (by rw[alloc_eq_grow,size_grow];simp)];simp
 have cell1:∀(dj:Array α) (wr:World),SWK enc k (W.alloc (.cells #[.func (.func g) #[] lb,.func (.func sf) #[] sb] (ρ.t 44))) blk off dj wr->wr.cell? ⟨W.heap.size,1,none⟩=some (.func (.func sf) #[] sb):=λdj wr h=>by
  rw[h.cellAt (b:=W.heap.size) (by omega) (by rw[alloc_eq_grow,size_grow];simp)];simp
 have less:∀(dj:Array α) (wr:World) (i j:Nat),SWK enc k (W.alloc (.cells #[.func (.func g) #[] lb,.func (.func sf) #[] sb] (ρ.t 44))) blk off dj wr->dj.size=d.size->i<d.size->j<d.size ->
   Calls P g (#[.int .i64 i,.int .i64 j]++lb) wr λe w'=>e=.returned (.bool (lt dj[i]! dj[j]!))/\SWK enc k (W.alloc (.cells #[.func (.func g) #[] lb,.func (.func sf) #[] sb] (ρ.t 44))) blk off dj w':=λdj wr i j h H I J=>by
  refine (h.lays r H i j I J).mono ?_;rintro e w' ⟨rfl,K⟩;exact⟨rfl,h.comp n K rfl⟩
 have M:Hid _:=cell0;have N:Hid _:=cell1;have LE:Hid _:=less;have SWp:Hid _:=hswap;have O:Hid (HoldsK enc k W blk off d):=y;have B:Hid (HoldsK enc k (W.alloc (.cells #[.func (.func g) #[] lb,.func (.func sf) #[] sb] (ρ.t 44))) blk off d):=q;clear cell0 cell1 less hless r hswap y q;go_enter L.f26,BodyGg.n26_ntmps ρ
 go_wp2
 go_loopw [6] (λvi wr=>∃(i:Nat) (dk:Array α),vi=.int .i64 i/\a<i/\i<=b+1/\dk.size=d.size/\SWK enc k (W.alloc (.cells #[.func (.func g) #[] lb,.func (.func sf) #[] sb] (ρ.t 44))) blk off dk wr /\
   insOuter lt a b i dk=insOuter lt a b (a+1) d) (λvi _=>b+1-(intOf vi).toNat)
 case atStart=>exact⟨a+1,d,by congr 1,by omega,by omega,rfl,SWK.start B.out,rfl⟩
 case round=>
  obtain⟨i,dk,rfl,Q,R,s,u,C⟩:=hrel
  have HO:Hid (insOuter lt a b i dk=insOuter lt a b (a+1) d):=C
  have HW:Hid (SWK enc k (W.alloc (.cells #[.func (.func g) #[] lb,.func (.func sf) #[] sb] (ρ.t 44))) blk off dk wr):=u
  clear C u
  by_cases o:i<b
  ·go_wp2
   go_loopw [7] (λvj z=>∃(j:Nat) (dj:Array α),vj=.int .i64 j/\a<=j/\j<=i/\dj.size=d.size/\SWK enc k (W.alloc (.cells #[.func (.func g) #[] lb,.func (.func sf) #[] sb] (ρ.t 44))) blk off dj z /\
     insInner lt a j dj=insInner lt a i dk) (λvj _=>(intOf vj).toNat)
   case atStart=>exact⟨i,dk,rfl,by omega,ar _,s,HW.out,rfl⟩
   case round=>
    obtain⟨j,dj,rfl,S,T,l,p,D⟩:=hrel
    have c0:=M.out dj _ p
    have HW2:Hid _:=p
    have HI:Hid (insInner lt a j dj=insInner lt a i dk):=D
    clear p D
    by_cases A:a<j
    ·have v:=LE.out dj _ j (j-1) HW2.out l (by omega) (by omega);rw[show (((j-1:Nat):Int))=(j:Int)-1 by omega]at v;cases m:lt dj[j]! dj[j-1]! with
     | true=>
      rw[m]at v;go_wp2_with (go_at_fn g;refine v.mono ?_;rintro e w' ⟨rfl,c⟩;have c1:=N.out dj _ c;have U:=SWp.out _ dj (c.holds n B.out l) l j (j-1) (by omega) (by omega);rw[show (((j-1:Nat):Int))=(j:Int)-1 by omega]at U;have HWn:Hid _:=c;clear c)
      go_roundw
      case rel=>
       refine⟨j-1,swp dj j (j-1),by congr 1;omega,by omega,by omega,by rw[size_swp];exact l,SWK.swap HWn.out hk n j (j-1) (by omega) (by omega),?_⟩
       rw[<- HI.out,insInner_go lt a j dj A m]
      case measure=>simp[intOf];omega
     | false=>
      rw[m]at v;go_wp2_with (go_at_fn g;refine v.mono ?_;rintro e w' ⟨rfl,c⟩;have HWn:Hid _:=c;clear c)
      go_roundw
      case rel=>exact⟨i+1,dj,by congr 1,by omega,by omega,l,HWn.out,by rw[<- HO.out,insOuter_go _ _ _ _ _ o,<- HI.out,insInner_stop _ _ _ _ (Or.inr m)]⟩
      case measure=>simp[intOf];omega
    ·go_wp2
     go_roundw
     case rel=>exact⟨i+1,dj,by congr 1,by omega,by omega,l,HW2.out,by rw[<- HO.out,insOuter_go _ _ _ _ _ o,<- HI.out,insInner_stop _ _ _ _ (Or.inl (by omega))]⟩
     case measure=>simp[intOf];omega
  ·go_wp2
   go_end0
   exact⟨rfl,by unfold Sort.insertionSort;rw[<- HO.out,insOuter_stop _ _ _ _ _ o];exact SWK.comp (SWK.alloc (SWK.start O.out) _) hblk HW.out s⟩
end Go.Proofs
/- Heaps, at elements of k cells, with a 'less' that may lay boxes of its own. -/
namespace Go.Proofs
open Go.Shelf Go.RowKit Go.Lib Go.Sort
variable {P:Program} {ρ:Ren} {α:Type} [Inhabited α] {enc:α->List Value} {k:Nat} {w0 w1 W W':World} {blk off:Nat} {dk dj d:Array α} {lt:α->α->Bool} {g sf:Nat} {lb sb:Array Value} {T:TypeId}
structure kC(P:Program)(enc:α->List Value)(k:Nat)(lt:α->α->Bool)(g:Nat)(lb:Array Value)(sf:Nat)(sb:Array Value)(blk off:Nat)(d:Array α)(W:World):Prop where
 hk:∀x,(enc x).length=k
 eg:∀args w,(callFunc g args).run P w=.ok (.enter g args) w
 less:jq P g lb enc k lt blk off d.size W
 swap:SwapSwapsK P sf sb enc k blk off d.size
 H:HoldsK enc k W blk off d
 b:blk<W.heap.size
 sz:d.size<4611686018427387904
theorem kC.on(h:kC P enc k lt g lb sf sb blk off d W)(c:SWK enc k W blk off dj w1)(a:dj.size=d.size):kC P enc k lt g lb sf sb blk off dj w1:=
 ⟨h.hk,h.eg,by rw[a];exact c.aeK h.less h.b a,by rw[a];exact h.swap,c.holds h.b h.H a,c.lt h.b,by rw[a];exact h.sz⟩
abbrev iQ(g:Nat)(lb:Array Value)(sf:Nat)(sb:Array Value)(T:TypeId):Obj:=.cells #[.func (.func g) #[] lb,.func (.func sf) #[] sb] T
theorem kC.box(h:kC P enc k lt g lb sf sb blk off d W)(T:TypeId):kC P enc k lt g lb sf sb blk off d (W.alloc (iQ g lb sf sb T)):=h.on (SWK.alloc (SWK.start h.H) _) rfl
structure Dt(P:Program)(enc:α->List Value)(k:Nat)(lt:α->α->Bool)(g:Nat)(lb:Array Value)(sf:Nat)(sb:Array Value)(blk off:Nat)(T:TypeId)(n:Nat)(W:World):Prop where
 c0:∀(dj:Array α) (wr:World),SWK enc k (W.alloc (iQ g lb sf sb T)) blk off dj wr->wr.cell? ⟨W.heap.size,0,none⟩=some (.func (.func g) #[] lb)
 c1:∀(dj:Array α) (wr:World),SWK enc k (W.alloc (iQ g lb sf sb T)) blk off dj wr->wr.cell? ⟨W.heap.size,1,none⟩=some (.func (.func sf) #[] sb)
 less:∀(dj:Array α) (wr:World) (i j:Nat),SWK enc k (W.alloc (iQ g lb sf sb T)) blk off dj wr->dj.size=n->i<n->j<n->Calls P g (#[.int .i64 i,.int .i64 j]++lb) wr λe w'=>e=.returned (.bool (lt dj[i]! dj[j]!))/\SWK enc k (W.alloc (iQ g lb sf sb T)) blk off dj w'
 swap:∀(dj:Array α) (wr:World) (i j:Nat),SWK enc k (W.alloc (iQ g lb sf sb T)) blk off dj wr->dj.size=n->i<n->j<n->∃w',(callFunc sf (#[.int .i64 i,.int .i64 j]++sb)).run P wr=.ok (.value (.tuple #[])) w'/\SWK enc k (W.alloc (iQ g lb sf sb T)) blk off (swp dj i j) w'
 fin:∀(dj:Array α) (wr:World),SWK enc k (W.alloc (iQ g lb sf sb T)) blk off dj wr->dj.size=n->SWK enc k W blk off dj wr
 at':∀(dj:Array α) (wr:World),SWK enc k (W.alloc (iQ g lb sf sb T)) blk off dj wr->dj.size=n->kC P enc k lt g lb sf sb blk off dj wr
 comp:∀(dj di:Array α) (wr wr':World),SWK enc k (W.alloc (iQ g lb sf sb T)) blk off dj wr->SWK enc k wr blk off di wr'->di.size=dj.size->SWK enc k (W.alloc (iQ g lb sf sb T)) blk off di wr'
theorem kC.dt(h:kC P enc k lt g lb sf sb blk off d W)(T:TypeId):Dt P enc k lt g lb sf sb blk off T d.size W:=by
 have f:=h.box T;have o:=h.b;refine⟨λdj wr a=>?_,λdj wr a=>?_,λdj wr i j a c m n=>?_,λdj wr i j a c m n=>?_,λdj wr a c=>SWK.comp (SWK.alloc (SWK.start h.H) _) h.b a c,λdj wr a c=>f.on a c,λdj di wr wr' a l p=>SWK.comp a f.b l p⟩
 ·rw[a.cellAt (b:=W.heap.size) (by omega) (by rw[alloc_eq_grow,size_grow];simp)];simp
 ·rw[a.cellAt (b:=W.heap.size) (by omega) (by rw[alloc_eq_grow,size_grow];simp)];simp
 ·refine (a.lays f.less c i j m n).mono ?_;rintro e w' ⟨rfl,l⟩;exact⟨rfl,a.comp f.b l rfl⟩
 ·exact⟨_,h.swap wr dj (a.holds f.b f.H c) c i j m n,SWK.swap a h.hk f.b i j (by omega) (by omega)⟩
set_option maxHeartbeats 4000000 in
set_option maxRecDepth 1000000 in
theorem UD(L:LaysGg.n34 P ρ)(lo j first:Nat)(h:kC P enc k lt g lb sf sb blk off d W)(s:lo<=j)(B:first+j<=d.size) :
  Calls P (ρ.f 34) #[.agg #[.func (.func g) #[] lb,.func (.func sf) #[] sb],.int .i64 lo,.int .i64 j,.int .i64 first] W λe w'=>e=.returned (.tuple #[])/\SWK enc k W blk off (siftDown lt j first lo d) w':=by
 have mixed:=L.mixed;have t0:=L.t0;have a0:=L.a0;have z0:=L.z0;have v0:=L.v0;have t3:=L.t3;have a3:=L.a3;have z3:=L.z3;have v3:=L.v3;have t4:=L.t4;have a4:=L.a4;have z4:=L.z4;have v4:=L.v4;have t26:=L.t26;have a26:=L.a26;have z26:=L.z26;have v26:=L.v26;have t37:=L.t37;have a37:=L.a37;have z37:=L.z37;have v37:=L.v37;have t44:=L.t44;have a44:=L.a44;have z44:=L.z44;have v44:=L.v44;have u:=run_underlying L.t44;have eg:=h.eg;have v:=h.sz;have D:=h.dt (ρ.t 44);have w:Hid (SWK enc k (W.alloc (iQ g lb sf sb (ρ.t 44))) blk off d (W.alloc (iQ g lb sf sb (ρ.t 44)))):=SWK.start (h.box _).H;have HD:Hid _:=D;clear D h;go_enter L.f34,BodyGg.n34_ntmps ρ
 go_wp2
 go_loopg [8] (j-lo) (λkx x wr=>∃(root:Nat) (dk:Array α),x=.int .i64 root/\root<=j/\j-root<=kx/\dk.size=d.size/\Hid (SWK enc k (W.alloc (iQ g lb sf sb (ρ.t 44))) blk off dk wr)/\Hid (siftDown lt j first root dk=siftDown lt j first lo d))
 case atStart=>exact⟨lo,d,rfl,s,ar _,rfl,w,rfl⟩
 case round=>
  obtain⟨root,dk,rfl,C,y,c,HW,HE⟩:=hrel
  have c0:=HD.out.c0 dk _ HW.out
  by_cases z:j<=2*root+1
  ·have h0z:(j:Int)<=2*(root:Int)+1:=by omega
   go_wp2
   go_end0
   refine⟨rfl,?_⟩;rw[<- HE.out,sd_end lt dk z];exact HD.out.fin dk _ HW.out c
  have h0z:¬((j:Int)<=2*(root:Int)+1):=by omega
  have o:((first+(2*root+1):Nat):Int)=(first:Int)+(2*(root:Int)+1):=by omega
  have A:((first+(2*root+2):Nat):Int)=(first:Int)+(2*(root:Int)+1)+1:=by omega
  have e2':((first+(2*root+2):Nat):Int)=(first:Int)+(2*(root:Int)+1+1):=by omega
  have n:((first+root:Nat):Int)=(first:Int)+(root:Int):=by omega
  by_cases r:2*root+2<j
  ·have h1z:2*(root:Int)+1+1<(j:Int):=by omega
   have i:=HD.out.less dk _ (first+(2*root+1)) (first+(2*root+2)) HW.out c (by omega) (by omega);rw[o,A]at i;cases p:lt dk[first+(2*root+1)]! dk[first+(2*root+2)]! with
   | true=>
    rw[p]at i;cases m:lt dk[first+root]! dk[first+(2*root+2)]! with
    | true=>
     go_wp2_with (go_at_fn g;first
      | (refine i.mono ?_;rintro e w' ⟨rfl,a⟩;have c0':=HD.out.c0 dk _ a;have b:=HD.out.less dk _ (first+root) (first+(2*root+2)) a c (by omega) (by omega);rw[m,e2',n]at b;clear a i)
      | (refine b.mono ?_;rintro e w'' ⟨rfl,a⟩;have c1':=HD.out.c1 dk _ a;obtain⟨w3,q,l⟩:=HD.out.swap dk _ (first+root) (first+(2*root+2)) a c (by omega) (by omega);rw[e2',n]at q;have HW3:Hid _:=l;clear a l))
     go_roundg (j-(2*root+2))
     case measure=>omega
     case rel=>exact⟨2*root+2,swp dk (first+root) (first+(2*root+2)),by go_num,by omega,ar _,by rw[size_swp];exact c,HW3,(show Hid _ from by rw[<- HE.out,sd_right_go lt dk r p m];exact rfl)⟩
    | false=>
     go_wp2_with (go_at_fn g;first
      | (refine i.mono ?_;rintro e w' ⟨rfl,a⟩;have c0':=HD.out.c0 dk _ a;have b:=HD.out.less dk _ (first+root) (first+(2*root+2)) a c (by omega) (by omega);rw[m,e2',n]at b;clear a i)
      | (refine b.mono ?_;rintro e w'' ⟨rfl,a⟩;have HW3:Hid _:=a;clear a))
     (try simp only[Exit.inBlock,Exit.then]);refine bodyPost_ret (results_none rfl _ _ _) rfl ?_;refine⟨rfl,?_⟩;rw[<- HE.out,sd_right_stop lt dk r p m];exact HD.out.fin dk _ HW3.out c
   | false=>
    rw[p]at i;cases m:lt dk[first+root]! dk[first+(2*root+1)]! with
    | true=>
     go_wp2_with (go_at_fn g;first
      | (refine i.mono ?_;rintro e w' ⟨rfl,a⟩;have c0':=HD.out.c0 dk _ a;have b:=HD.out.less dk _ (first+root) (first+(2*root+1)) a c (by omega) (by omega);rw[m,o,n]at b;clear a i)
      | (refine b.mono ?_;rintro e w'' ⟨rfl,a⟩;have c1':=HD.out.c1 dk _ a;obtain⟨w3,q,l⟩:=HD.out.swap dk _ (first+root) (first+(2*root+1)) a c (by omega) (by omega);rw[o,n]at q;have HW3:Hid _:=l;clear a l))
     go_roundg (j-(2*root+1))
     case measure=>omega
     case rel=>exact⟨2*root+1,swp dk (first+root) (first+(2*root+1)),by go_num,by omega,ar _,by rw[size_swp];exact c,HW3,(show Hid _ from by rw[<- HE.out,sd_left_go lt dk (by omega) (λ_=>p) m];exact rfl)⟩
    | false=>
     go_wp2_with (go_at_fn g;first
      | (refine i.mono ?_;rintro e w' ⟨rfl,a⟩;have c0':=HD.out.c0 dk _ a;have b:=HD.out.less dk _ (first+root) (first+(2*root+1)) a c (by omega) (by omega);rw[m,o,n]at b;clear a i)
      | (refine b.mono ?_;rintro e w'' ⟨rfl,a⟩;have HW3:Hid _:=a;clear a))
     (try simp only[Exit.inBlock,Exit.then]);refine bodyPost_ret (results_none rfl _ _ _) rfl ?_;refine⟨rfl,?_⟩;rw[<- HE.out,sd_left_stop lt dk (by omega) (λ_=>p) m];exact HD.out.fin dk _ HW3.out c
  ·have h1z:¬(2*(root:Int)+1+1<(j:Int)):=by omega
   have b:=HD.out.less dk _ (first+root) (first+(2*root+1)) HW.out c (by omega) (by omega);rw[o,n]at b;cases m:lt dk[first+root]! dk[first+(2*root+1)]! with
   | true=>
    rw[m]at b;go_wp2_with (go_at_fn g;refine b.mono ?_;rintro e w'' ⟨rfl,a⟩;have c1':=HD.out.c1 dk _ a;obtain⟨w3,q,l⟩:=HD.out.swap dk _ (first+root) (first+(2*root+1)) a c (by omega) (by omega);rw[o,n]at q;have HW3:Hid _:=l;clear a l)
    go_roundg (j-(2*root+1))
    case measure=>omega
    case rel=>exact⟨2*root+1,swp dk (first+root) (first+(2*root+1)),by go_num,by omega,ar _,by rw[size_swp];exact c,HW3,(show Hid _ from by rw[<- HE.out,sd_left_go lt dk (by omega) (λh=>absurd h r) m];exact rfl)⟩
   | false=>
    rw[m]at b;go_wp2_with (go_at_fn g;refine b.mono ?_;rintro e w'' ⟨rfl,a⟩;have HW3:Hid _:=a;clear a)
    (try simp only[Exit.inBlock,Exit.then]);refine bodyPost_ret (results_none rfl _ _ _) rfl ?_;refine⟨rfl,?_⟩;rw[<- HE.out,sd_left_stop lt dk (by omega) (λh=>absurd h r) m];exact HD.out.fin dk _ HW3.out c
