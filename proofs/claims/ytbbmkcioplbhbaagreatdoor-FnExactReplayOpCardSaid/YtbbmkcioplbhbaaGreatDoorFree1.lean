import Derived.Test.YtbbmkcioplbhbaaGreatDoorForm1
import Derived.Test.YtbbmkcioplbhbaaGreatDoorPlain1
import Derived.Sort.Walk0
set_option linter.unusedSimpArgs false
set_option linter.unusedVariables false
/- Plain laws: free names, captured names, sorted names: alike on both sides. -/
namespace Go.Proofs.YtbbmkcioplbhbaaGreatDoor
noncomputable section
open Go.Abs Go.Proofs
mutual
def evE:af->List Str->List (Str×List Str)
 | ⟨k,_,t,a⟩,bound=>if ((k==3)&&!(bound.contains t))=true then [(t,bound)]else evL a ((k==7)||(k==9)) t bound 0
def evL:List af->Bool->Str->List Str->Nat->List (Str×List Str)
 | [],_,_,_,_=>[]
 | x::r,bi,t,bound,i=>(if (bi&&decide (0<i))=true then evE x (bound++[t])else evE x bound)++evL r bi t bound (i+1)
end
theorem Y0(e:af)(bound:List Str):evE e bound=if ((e.kind==3)&&!(bound.contains e.text))=true then [(e.text,bound)]else evL e.args ((e.kind==7)||(e.kind==9)) e.text bound 0:=by cases e;rfl
def evP(bi:Bool)(t:Str)(bound:List Str)(i:Nat)(x:af):List (Str×List Str):=if (bi&&decide (0<i))=true then evE x (bound++[t])else evE x bound
theorem G5(bi:Bool)(t:Str)(bound:List Str):∀(xs ys:List af) (i:Nat),evL (xs++ys) bi t bound i=evL xs bi t bound i++evL ys bi t bound (i+xs.length)
 | [],ys,i=>rfl
 | x::r,ys,i=>by
  show evP bi t bound i x++evL (r++ys) bi t bound (i+1)=(evP bi t bound i x++evL r bi t bound (i+1))++_
  rw[G5 bi t bound r ys (i+1),a7];have:i+1+r.length=i+(x::r).length:=by simp;omega
  rw[this]
theorem abD(bi:Bool)(t:Str)(bound:List Str){xs:List af}{i:Nat}{x:af}(h:xs[i]?=some x):evL (xs.take (i+1)) bi t bound 0=evL (xs.take i) bi t bound 0++evP bi t bound i x:=by
 obtain⟨hi,rfl⟩:=zC.1 h;rw[List.take_succ_eq_append_getElem hi,G5];have:0+(xs.take i).length=i:=by rw[a8];omega
 rw[this];show _++(evP bi t bound i _++[])=_
 rw[List.append_nil]
theorem ahb(bi:Bool)(t:Str)(bound:List Str)(xs:List af)(i:Nat):evL xs bi t bound 0=evL (xs.take i) bi t bound 0++evL (xs.drop i) bi t bound (0+(xs.take i).length):=by
 rw[<- G5,List.take_append_drop]
mutual
theorem EJ:∀(e:af) (bound:List Str),(evE e bound).length<=wtE e
 | ⟨k,n,t,a⟩,bound=>by
  have h:=YZ a ((k==7)||(k==9)) t bound 0;have h2:=DJ ⟨k,n,t,a⟩;rw[Y0];split
  ·simp;exact aeD _
  ·show (evL a ((k==7)||(k==9)) t bound 0).length<=_
   have h2:1+wtL a<=wtE ⟨k,n,t,a⟩:=h2;omega
theorem YZ:∀(xs:List af) (bi:Bool) (t:Str) (bound:List Str) (i:Nat),(evL xs bi t bound i).length<=wtL xs
 | [],_,_,_,_=>aw _
 | x::r,bi,t,bound,i=>by
  have h1:=EJ x bound;have h2:=EJ x (bound++[t]);have a:=YZ r bi t bound (i+1);show ((if (bi&&decide (0<i))=true then evE x (bound++[t])else evE x bound)++evL r bi t bound (i+1)).length<=wtE x+wtL r
  rw[a6];split<;>omega
end
theorem LH(n:Nat)(bi:Bool)(t:Str)(bound:List Str):∀(xs:List af) (i:Nat),(∀x,x∈xs->∀bd:List Str,bd.length<=bound.length+1->jG n x bd=some (evE x bd))->bound.length<=1048576->dK (jG n) bi t bound i xs=some (evL xs bi t bound i)
 | [],i,_,_=>rfl
 | x::r,i,a,b=>by
  have h1:=a x (by simp) bound (by omega);have h2:=a x (by simp) (bound++[t]) (by simp);have c:=LH n bi t bound r (i+1) (fun y d=>a y (aq _ d)) b;show (if (bi&&decide (0<i))=true then (gd (bound.length+1)).bind fun _=>jG n x (bound++[t])else jG n x bound).bind (fun u=>(dK (jG n) bi t bound (i+1) r).bind fun v=>some (u++v))=some ((if (bi&&decide (0<i))=true then evE x (bound++[t])else evE x bound)++evL r bi t bound (i+1))
  rw[gdp (by omega),zA,h1,h2,c];cases (bi&&decide (0<i))<;>rfl
theorem FP:∀(n:Nat) (e:af) (bound:List Str),siz e<n->wtE e+bound.length<=1048576->jG n e bound=some (evE e bound)
 | 0,e,_,h,_=>absurd h (Nat.not_lt_zero _)
 | n+1,e,bound,d,f=>by
  have g:=tN (e:=e);have b:=LH n (decide (e.kind=7)||decide (e.kind=9)) e.text bound e.args 0 (fun x a bd c=>FP n x bd (by have:=fH a;omega) (by have:=ru a;omega)) (by omega);show ((gd bound.length).bind fun _=>(gd e.args.length).bind fun _=>if e.kind=3/\bound.contains e.text=false then some [(e.text,bound)]else dK (jG n) (decide (e.kind=7)||decide (e.kind=9)) e.text bound 0 e.args)=_
  rw[gdp (by omega),zA,gdp (by omega),zA,b,Y0];by_cases h:e.kind=3
  ·cases i:bound.contains e.text with
   | true=>
    rw[if_neg (fun hh=>by simp at hh),if_neg (by simp)];rfl
   | false=>
    rw[if_pos ⟨h,rfl⟩,if_pos (by simp[h])]
  ·rw[if_neg (fun hh=>h hh.1),if_neg (by simp[h])];rfl
abbrev apj:=(List Str)×Int×Int×Str×(List af)×(List Str)×Int
abbrev apk:=Str×Str×(List Str)×Int×Int×Str×(List af)×Int
def KY(rec:af->List Str->Option (List Str)):apj->Option (apj⊕List Str):=(fun (a:(List Str)×Int×Int×Str×(List af)×(List Str)×Int)=>
      bif (decide (a.2.2.2.2.2.2<(a.2.2.2.2.1.length:Int)))then
       bif (a.2.1==7)then
        bif (decide (a.2.2.2.2.2.2>0))then
         (gd (0+a.1.length)).bind fun _=>
         (gd (([]++a.1).length+([a.2.2.2.1]:List Str).length)).bind fun _=>
         (idx a.2.2.2.2.1 a.2.2.2.2.2.2).bind fun h=>
         (rec (aj h) (([]++a.1)++([a.2.2.2.1]:List Str))).bind fun e=>
         (gd (a.2.2.2.2.2.1.length+e.length)).bind fun _=>
         some (.inl (a.1,a.2.1,a.2.2.1,a.2.2.2.1,a.2.2.2.2.1,a.2.2.2.2.2.1++e,w64 (a.2.2.2.2.2.2+1)))
        else
         (idx a.2.2.2.2.1 a.2.2.2.2.2.2).bind fun i=>
         (rec (aj i) a.1).bind fun f=>
         (gd (a.2.2.2.2.2.1.length+f.length)).bind fun _=>
         some (.inl (a.1,a.2.1,a.2.2.1,a.2.2.2.1,a.2.2.2.2.1,a.2.2.2.2.2.1++f,w64 (a.2.2.2.2.2.2+1)))
       else
       bif (a.2.1==9)then
        bif (decide (a.2.2.2.2.2.2>0))then
         (gd (0+a.1.length)).bind fun _=>
         (gd (([]++a.1).length+([a.2.2.2.1]:List Str).length)).bind fun _=>
         (idx a.2.2.2.2.1 a.2.2.2.2.2.2).bind fun j=>
         (rec (aj j) (([]++a.1)++([a.2.2.2.1]:List Str))).bind fun g=>
         (gd (a.2.2.2.2.2.1.length+g.length)).bind fun _=>
         some (.inl (a.1,a.2.1,a.2.2.1,a.2.2.2.1,a.2.2.2.2.1,a.2.2.2.2.2.1++g,w64 (a.2.2.2.2.2.2+1)))
        else
         (idx a.2.2.2.2.1 a.2.2.2.2.2.2).bind fun k=>
         (rec (aj k) a.1).bind fun b=>
         (gd (a.2.2.2.2.2.1.length+b.length)).bind fun _=>
         some (.inl (a.1,a.2.1,a.2.2.1,a.2.2.2.1,a.2.2.2.2.1,a.2.2.2.2.2.1++b,w64 (a.2.2.2.2.2.2+1)))
       else
        (idx a.2.2.2.2.1 a.2.2.2.2.2.2).bind fun d=>
        (rec (aj d) a.1).bind fun c=>
        (gd (a.2.2.2.2.2.1.length+c.length)).bind fun _=>
        some (.inl (a.1,a.2.1,a.2.2.1,a.2.2.2.1,a.2.2.2.2.1,a.2.2.2.2.2.1++c,w64 (a.2.2.2.2.2.2+1)))
      else
       some (.inr (a.2.2.2.2.2.1))
  )
def uU(rec:af->Str->Str->List Str->Option Bool):apk->Option (apk⊕Bool):=(fun (a:Str×Str×(List Str)×Int×Int×Str×(List af)×Int)=>
      bif (decide (a.2.2.2.2.2.2.2<(a.2.2.2.2.2.2.1.length:Int)))then
       bif (a.2.2.2.1==7)then
        bif (decide (a.2.2.2.2.2.2.2>0))then
         (gd (0+a.2.2.1.length)).bind fun _=>
         (gd (([]++a.2.2.1).length+([a.2.2.2.2.2.1]:List Str).length)).bind fun _=>
         (idx a.2.2.2.2.2.2.1 a.2.2.2.2.2.2.2).bind fun f=>
         (rec (aj f) a.1 a.2.1 (([]++a.2.2.1)++([a.2.2.2.2.2.1]:List Str))).bind fun g=>
         bif g then
          some (.inr (true))
         else
          some (.inl (a.1,a.2.1,a.2.2.1,a.2.2.2.1,a.2.2.2.2.1,a.2.2.2.2.2.1,a.2.2.2.2.2.2.1,w64 (a.2.2.2.2.2.2.2+1)))
        else
         (idx a.2.2.2.2.2.2.1 a.2.2.2.2.2.2.2).bind fun h=>
         (rec (aj h) a.1 a.2.1 a.2.2.1).bind fun i=>
         bif i then
          some (.inr (true))
         else
          some (.inl (a.1,a.2.1,a.2.2.1,a.2.2.2.1,a.2.2.2.2.1,a.2.2.2.2.2.1,a.2.2.2.2.2.2.1,w64 (a.2.2.2.2.2.2.2+1)))
       else
       bif (a.2.2.2.1==9)then
        bif (decide (a.2.2.2.2.2.2.2>0))then
         (gd (0+a.2.2.1.length)).bind fun _=>
         (gd (([]++a.2.2.1).length+([a.2.2.2.2.2.1]:List Str).length)).bind fun _=>
         (idx a.2.2.2.2.2.2.1 a.2.2.2.2.2.2.2).bind fun j=>
         (rec (aj j) a.1 a.2.1 (([]++a.2.2.1)++([a.2.2.2.2.2.1]:List Str))).bind fun k=>
         bif k then
          some (.inr (true))
         else
          some (.inl (a.1,a.2.1,a.2.2.1,a.2.2.2.1,a.2.2.2.2.1,a.2.2.2.2.2.1,a.2.2.2.2.2.2.1,w64 (a.2.2.2.2.2.2.2+1)))
        else
         (idx a.2.2.2.2.2.2.1 a.2.2.2.2.2.2.2).bind fun b=>
         (rec (aj b) a.1 a.2.1 a.2.2.1).bind fun c=>
         bif c then
          some (.inr (true))
         else
          some (.inl (a.1,a.2.1,a.2.2.1,a.2.2.2.1,a.2.2.2.2.1,a.2.2.2.2.2.1,a.2.2.2.2.2.2.1,w64 (a.2.2.2.2.2.2.2+1)))
       else
        (idx a.2.2.2.2.2.2.1 a.2.2.2.2.2.2.2).bind fun d=>
        (rec (aj d) a.1 a.2.1 a.2.2.1).bind fun e=>
        bif e then
         some (.inr (true))
        else
         some (.inl (a.1,a.2.1,a.2.2.1,a.2.2.2.1,a.2.2.2.2.1,a.2.2.2.2.2.1,a.2.2.2.2.2.2.1,w64 (a.2.2.2.2.2.2.2+1)))
      else
       some (.inr (false))
  )
theorem agm(rec)(a:af)(b:List Str):JS rec a b=bif (a.kind==3)then ((kR b a.text).bind fun c=>bif (!c)then ((gd (0+([a.text]:List Str).length)).bind fun _=>some ([]++([a.text]:List Str)))else au (KY rec) (b,a.kind,a.n,a.text,a.args,[],0))else au (KY rec) (b,a.kind,a.n,a.text,a.args,[],0):=rfl
theorem aaj(rec)(a:af)(b c:Str)(d:List Str):BL rec a b c d=bif (a.kind==3)then ((kR d a.text).bind fun e=>bif (!e)then (bif (a.text==b)then ((kR d c).bind fun f=>some f)else some false)else au (uU rec) (b,c,d,a.kind,a.n,a.text,a.args,0))else au (uU rec) (b,c,d,a.kind,a.n,a.text,a.args,0):=rfl
theorem afr:∀(n:Nat) (e:af) (bound:List Str),siz e<n->wtE e+bound.length<=1048576->pI n e bound=some ((evE e bound).map (·.1))
 | 0,e,_,h,_=>absurd h (Nat.not_lt_zero _)
 | n+1,e,bound,t,u=>by
  have ih:=afr n;have v:=tN (e:=e);have hloop:au (KY (pI n)) (bound,e.kind,e.n,e.text,e.args,[],0)=some ((evL e.args ((e.kind==7)||(e.kind==9)) e.text bound 0).map (·.1)):=by
   have key:=dH (g:=KY (pI n)) (fun (s:List Str) (i:Nat)=>((bound,e.kind,e.n,e.text,e.args,s,(i:Int)):apj)) e.args (fun i s=>s=(evL (e.args.take i) ((e.kind==7)||(e.kind==9)) e.text bound 0).map (·.1)) (fun r=>r=(evL e.args ((e.kind==7)||(e.kind==9)) e.text bound 0).map (·.1)) (fun i x s a b=>.inl ?_) (fun s b=>?_) [] rfl
   ·obtain⟨r,h,rfl⟩:=key;exact h
   ·have c:=zG a;have h1:=ru c;have h2:=OC a;have w:=vC e.args (i+1);have y:=DJ e;have d:=YZ (e.args.take i) ((e.kind==7)||(e.kind==9)) e.text bound 0;have z:=fH c;have f:=ih x bound (by omega) (by omega);have j:=ih x (([]++bound)++([e.text]:List Str)) (by omega) (by simp;omega);have A:=EJ x bound;have B:=EJ x (bound++[e.text]);refine⟨s++(evP ((e.kind==7)||(e.kind==9)) e.text bound i x).map (·.1),?_,by rw[abD _ _ _ a,List.map_append,b]⟩;have k:s.length<=wtL (e.args.take i):=by rw[b,List.length_map];exact d
    have l:gd (s.length+((evE x bound).map (·.1)).length)=some ():=gdp (by rw[List.length_map];omega);have m:gd (s.length+((evE x (([]++bound)++([e.text]:List Str))).map (·.1)).length)=some ():=gdp (by rw[List.length_map,List.nil_append];omega);have o:gd (0+bound.length)=some ():=gdp (by omega);have p:gd (([]++bound).length+([e.text]:List Str).length)=some ():=gdp (by simp;omega);simp only[KY,bY a,ac,aA,a,zA,aS,f,j,l,m,o,p,cZ a (by omega),XV];unfold evP;cases (e.kind==7)<;>cases (e.kind==9)<;>cases decide (0<i)<;>rfl
   ·refine⟨_,by simp only[KY,bJ,aa];rfl,by rw[b,List.take_length]⟩
  show JS (pI n) e bound=_
  rw[agm,hloop,nZ _ _ (by omega),Y0];have q:gd (0+([e.text]:List Str).length)=some ():=gdp (by simp);cases (e.kind==3)<;>cases bound.contains e.text<;>simp only[ac,aa,aL,Bool.not_false,Bool.and_true,Bool.and_false,Bool.true_and,Bool.false_and,aE,if_true,if_false,zA,q]<;>rfl
def ab3(b c:Str)(p:Str×List Str):Bool:=p.1==b&&p.2.contains c
theorem Wq(b c:Str):∀(n:Nat) (e:af) (bound:List Str),siz e<n->wtE e+bound.length<=1048576->jZ n e b c bound=some ((evE e bound).any (ab3 b c))
 | 0,e,_,h,_=>absurd h (Nat.not_lt_zero _)
 | n+1,e,bound,q,t=>by
  have ih:=Wq b c n;have u:=tN (e:=e);have hloop:au (uU (jZ n)) (b,c,bound,e.kind,e.n,e.text,e.args,0)=some ((evL e.args ((e.kind==7)||(e.kind==9)) e.text bound 0).any (ab3 b c)):=by
   have key:=dH (g:=uU (jZ n)) (fun (s:Unit) (i:Nat)=>((b,c,bound,e.kind,e.n,e.text,e.args,(i:Int)):apk)) e.args (fun i s=>(evL (e.args.take i) ((e.kind==7)||(e.kind==9)) e.text bound 0).any (ab3 b c)=false) (fun r=>r=(evL e.args ((e.kind==7)||(e.kind==9)) e.text bound 0).any (ab3 b c)) (fun i x s a d=>?_) (fun s d=>?_) () rfl
   ·obtain⟨r,h,rfl⟩:=key;exact h
   ·have j:=zG a;have h1:=ru j;have v:=fH j;have l:=ih x bound (by omega) (by omega);have m:=ih x (([]++bound)++([e.text]:List Str)) (by omega) (by simp;omega);have o:gd (0+bound.length)=some ():=gdp (by omega);have p:gd (([]++bound).length+([e.text]:List Str).length)=some ():=gdp (by simp;omega);have step:uU (jZ n) (b,c,bound,e.kind,e.n,e.text,e.args,(i:Int))=bif (evP ((e.kind==7)||(e.kind==9)) e.text bound i x).any (ab3 b c)then some (.inr true)else some (.inl (b,c,bound,e.kind,e.n,e.text,e.args,((i+1:Nat):Int))):=by
     simp only[uU,bY a,ac,aA,a,zA,aS,l,m,o,p,cZ a (by omega),XV];unfold evP;cases (e.kind==7)<;>cases (e.kind==9)<;>cases decide (0<i)<;>rfl
    have k:=abD ((e.kind==7)||(e.kind==9)) e.text bound a;cases f:(evP ((e.kind==7)||(e.kind==9)) e.text bound i x).any (ab3 b c)with
    | true=>
     refine .inr ⟨true,by rw[step,f];rfl,?_⟩;rw[ahb _ _ _ e.args (i+1),List.any_append,k,List.any_append,f];simp
    | false=>
     refine .inl ⟨(),by rw[step,f];rfl,?_⟩;rw[k,List.any_append,d,f];rfl
   ·refine⟨false,by simp only[uU,bJ,aa],?_⟩;rw[List.take_length]at d;exact d.symm
  show BL (jZ n) e b c bound=_
  rw[aaj,hloop,nZ _ _ (by omega),nZ _ _ (by omega),Y0];cases (e.kind==3)<;>cases bound.contains e.text<;>simp only[ac,aa,aL,Bool.not_false,Bool.and_true,Bool.and_false,Bool.true_and,Bool.false_and,aE,if_true,if_false,zA]
  show (bif (e.text==b)then some (bound.contains c)else some false)=some (((e.text==b)&&bound.contains c)||false)
  cases (e.text==b)<;>cases bound.contains c<;>rfl
theorem Dy(e:af)(b c:Str)(a:wtE e<=1000):∃v,iy e b c=some v/\kX e b c=some v:=by
 have h1:=FP (siz e+1) e [] (Nat.lt_succ_self _) (by simp;omega);have h2:F5 e b c []=some ((evE e []).any (ab3 b c)):=Wq b c _ e [] (by omega) (by simp;omega);have d:=EJ e [];refine⟨(evE e []).any (ab3 b c),?_,?_⟩
 ·unfold iy;rw[h1,zA,gdp (by omega)];rfl
 ·unfold kX;rw[aS,h2];rfl
def lZ(xs:List Str):Prop:=xs.Pairwise (· < ·)
theorem Vu:∀ {xs ys:List Str},lZ xs->lZ ys->(∀b,b∈xs↔b∈ys)->xs=ys
 | [],[],_,_,_=>rfl
 | [],y::r,_,_,h=>absurd ((h y).2 (by simp)) (by simp)
 | x::r,[],_,_,h=>absurd ((h x).1 (by simp)) (by simp)
 | x::r,y::q,j,k,h=>by
  obtain⟨a,f⟩:=List.pairwise_cons.1 j;obtain⟨c,g⟩:=List.pairwise_cons.1 k;have i:x=y:=by
   rcases ba.1 ((h x).1 (by simp))with e | e
   ·exact e
   ·rcases ba.1 ((h y).2 (by simp))with e' | e'
    ·exact e'.symm
    ·exact absurd (List.lt_trans (c x e) (a y e')) (List.lt_irrefl _)
  subst i;rw[Vu f g fun b=>⟨fun d=>?_,fun d=>?_⟩]
  ·rcases ba.1 ((h b).1 (aq _ d))with e | e
   ·subst e;exact absurd (a _ d) (List.lt_irrefl _)
   ·exact e
  ·rcases ba.1 ((h b).2 (aq _ d))with e | e
   ·subst e;exact absurd (c _ d) (List.lt_irrefl _)
   ·exact e
theorem JI{xs:List Str}(h1:xs.Pairwise (fun a b=>decide (a<=b)=true))(h2:xs.Nodup):lZ xs:=by
 induction xs with
 | nil=>exact List.Pairwise.nil
 | cons x r ih=>
  obtain⟨e,f⟩:=List.pairwise_cons.1 h1;obtain⟨g,i⟩:=List.nodup_cons.1 h2;refine List.pairwise_cons.2 ⟨fun y d=>?_,ih f i⟩;have c:x<=y:=of_decide_eq_true (e y d);rcases Decidable.em (x<y)with h | h
  ·exact h
  ·have:x=y:=List.le_antisymm c h;subst this;exact absurd d g
theorem Qo(s:Str):∀(xs:List Str) (i k:Nat),xs[i]?=some s->(posOf s k xs==((k+i:Nat):Int)) = !((xs.take i).contains s)
 | [],i,k,h=>by simp at h
 | x::r,i,k,h=>by
  unfold posOf;cases i with
  | zero=>
   simp at h;subst h;simp
  | succ i=>
   have h:r[i]?=some s:=by simpa using h
   by_cases a:x==s
   ·rw[if_pos a];have e:x=s:=by simpa using a
    subst e;have:((k:Int)==((k+(i+1):Nat):Int))=false:=by simp;omega
    rw[this];simp
   ·rw[if_neg a];have:=Qo s r i (k+1) h;rw[show k+(i+1)=k+1+i by omega,this];have e:¬x=s:=by simpa using a
    have b:¬s=x:=fun h=>e h.symm
    simp[b]
abbrev aey:=(List Str)×(List Str)×(List Str)×Int×Int
def acH:aey->Option (aey⊕List Str):=(fun (a:(List Str)×(List Str)×(List Str)×Int×Int)=>
      bif (decide (a.2.2.2.2<a.2.2.2.1))then
       (idx a.2.2.1 a.2.2.2.2).bind fun b=>
       (jy a.1 b).bind fun c=>
       bif (c==a.2.2.2.2)then
        (gd (a.2.1.length+([b]:List Str).length)).bind fun _=>
        some (.inl (a.1,a.2.1++([b]:List Str),a.2.2.1,a.2.2.2.1,w64 (a.2.2.2.2+1)))
       else
        some (.inl (a.1,a.2.1,a.2.2.1,a.2.2.2.1,w64 (a.2.2.2.2+1)))
      else
       (
        (iZ a.2.1).bind fun d=>
        some (d)
       ).bind fun r=>some (.inr r)
  )
theorem UC(xs:List Str)(r:xs.length<=1048576):∃ys,pW xs=some ys/\lZ ys/\∀b,b∈ys↔b∈xs:=by
 refine dH (g:=acH) (fun (out:List Str) (i:Nat)=>((xs,out,xs,(xs.length:Int),(i:Int)):aey)) xs (fun i out=>out.Nodup/\out.length<=i/\∀b,b∈out↔b∈xs.take i) (fun ys=>lZ ys/\∀b,b∈ys↔b∈xs) (fun i x out d j=>.inl ?_) (fun out j=>?_) [] ⟨List.Pairwise.nil,aw _,by simp⟩
 ·obtain⟨f,o,e⟩:=j;have hi:=(zC.1 d).1;have l:=Qo x xs i 0 d;rw[Nat.zero_add]at l;have m:xs.take (i+1)=xs.take i++[x]:=by
   obtain⟨hi,rfl⟩:=zC.1 d;rw[List.take_succ_eq_append_getElem hi]
  simp only[acH,bY d,ac,aA,d,zA,qU xs x (by omega),l,cZ d (by omega)];cases n:(xs.take i).contains x with
  | true=>
   refine⟨out,by simp only[aL,aa],f,by omega,fun b=>?_⟩;rw[e,m,List.mem_append];refine⟨.inl,fun h=>?_⟩;rcases h with h | h
   ·exact h
   ·rw[List.mem_singleton.1 h];simpa using n
  | false=>
   have k:x∉out:=fun h=>by
    have:=(e x).1 h;have h2:(xs.take i).contains x=true:=by simpa using this
    rw[n]at h2;cases h2
   refine⟨out++[x],?_,?_,by simp;omega,fun b=>?_⟩
   ·simp only[Bool.not_false,ac];rw[gdp (by simp;omega)];rfl
   ·rw[List.nodup_append];refine⟨f,by simp,fun a p b q=>?_⟩;rw[List.mem_singleton.1 q];rintro rfl;exact k p
   ·rw[m,List.mem_append,List.mem_append,e]
 ·obtain⟨f,o,e⟩:=j;rw[List.take_length]at e;refine⟨out.mergeSort fun x y=>decide (x<=y),?_,?_,fun b=>?_⟩
  ·simp only[acH,bJ,aa,iZ];rw[gdp (by omega)];rfl
  ·refine JI (List.pairwise_mergeSort (fun a b c h1 h2=>?_) (fun a b=>?_) out) ((List.mergeSort_perm out _).nodup_iff.2 f)
   ·exact al (List.le_trans (of_decide_eq_true h1) (of_decide_eq_true h2))
   ·rcases List.le_total a b with h | h
    ·rw[al h];rfl
    ·rw[al h];simp
  ·rw[(List.mergeSort_perm out _).mem_iff,e]
def uI(x:Str):List Str->List Str
 | []=>[x]
 | y::r=>if y<x then y::uI x r else if y=x then y::r else x::y::r
theorem Rh(x b:Str):∀(xs:List Str),b∈uI x xs↔b=x\/b∈xs
 | []=>by simp[uI]
 | y::r=>by
  unfold uI;split
  ·rw[ba,Rh x b r,ba];constructor
   ·rintro (h | h | h)
    ·exact .inr (.inl h)
    ·exact .inl h
    ·exact .inr (.inr h)
   ·rintro (h | h | h)
    ·exact .inr (.inl h)
    ·exact .inl h
    ·exact .inr (.inr h)
  ·split
   ·rename_i h;subst h;rw[ba];constructor
    ·exact .inr
    ·rintro (h | h)
     ·exact .inl h
     ·exact h
   ·rw[ba]
theorem aaY(x:Str):∀(xs:List Str),(uI x xs).length<=xs.length+1
 | []=>by simp[uI]
 | y::r=>by
  have:=aaY x r;unfold uI;split
  ·simp;omega
  ·split<;>simp
theorem Na(x:Str):∀(xs:List Str),lZ xs->lZ (uI x xs)
 | [],_=>List.pairwise_cons.2 ⟨by simp,List.Pairwise.nil⟩
 | y::r,h=>by
  obtain⟨h1,h2⟩:=List.pairwise_cons.1 h;unfold uI;split
  ·rename_i c;refine List.pairwise_cons.2 ⟨fun b d=>?_,Na x r h2⟩;rcases (Rh x b r).1 d with e | e
   ·rw[e];exact c
   ·exact h1 b e
  ·rename_i g;split
   ·exact h
   ·rename_i f;have a:x<y:=by
     rcases Decidable.em (x<y)with h | h
     ·exact h
     ·exact absurd (List.le_antisymm h g) f
    refine List.pairwise_cons.2 ⟨fun b d=>?_,h⟩;rcases ba.1 d with e | e
    ·rw[e];exact a
    ·exact List.lt_trans a (h1 b e)
theorem KD(x:Str):∀(a r:List Str),(∀y,y∈a->y<x)->uI x (a++r)=a++uI x r
 | [],r,_=>rfl
 | y::a,r,h=>by
  show (if y<x then y::uI x (a++r)else _)=_
  rw[if_pos (h y (by simp)),KD x a r fun z b=>h z (aq _ b)];rfl
abbrev Zk:=(List Str)×(List Str)×Int
abbrev akq:=(List Str)×(List Str)×Int×Int
def oK:akq->Option (akq⊕(Zk⊕List Str)):=(fun (a:(List Str)×(List Str)×Int×Int)=>
      bif (decide (a.2.2.2<(a.2.1.length:Int)))then
       (idx a.2.1 a.2.2.2).bind fun _=>
       (a.2.1[a.2.2.2.toNat]?).bind fun p=>
       (idx a.1 a.2.2.1).bind fun q=>
       bif (Op.bytesLess p q)then
        some (.inl (a.1,a.2.1,a.2.2.1,w64 (a.2.2.2+1)))
       else
       (
        bif (decide (a.2.2.2<(a.2.1.length:Int)))then
         (idx a.2.1 a.2.2.2).bind fun _=>
         (a.2.1[a.2.2.2.toNat]?).bind fun s=>
         (idx a.1 a.2.2.1).bind fun t=>
         bif (s==t)then
          some (.inl (a.1,a.2.1,w64 (a.2.2.1+1)))
         else
          (cutAt a.2.1 a.2.2.2).bind fun m=>
          (gd (0+(a.2.1.drop m).length)).bind fun _=>
          (cutAt a.2.1 a.2.2.2).bind fun b=>
          (idx a.1 a.2.2.1).bind fun c=>
          (gd ((a.2.1.take b).length+([c]:List Str).length)).bind fun _=>
          (gd (((a.2.1.take b)++([c]:List Str)).length+([]++(a.2.1.drop m)).length)).bind fun _=>
          some (.inl (a.1,((a.2.1.take b)++([c]:List Str))++([]++(a.2.1.drop m)),w64 (a.2.2.1+1)))
        else
         (cutAt a.2.1 a.2.2.2).bind fun d=>
         (gd (0+(a.2.1.drop d).length)).bind fun _=>
         (cutAt a.2.1 a.2.2.2).bind fun e=>
         (idx a.1 a.2.2.1).bind fun f=>
         (gd ((a.2.1.take e).length+([f]:List Str).length)).bind fun _=>
         (gd (((a.2.1.take e)++([f]:List Str)).length+([]++(a.2.1.drop d)).length)).bind fun _=>
         some (.inl (a.1,((a.2.1.take e)++([f]:List Str))++([]++(a.2.1.drop d)),w64 (a.2.2.1+1)))
       ).bind fun r=>some (.inr r)
      else
      (
       bif (decide (a.2.2.2<(a.2.1.length:Int)))then
        (idx a.2.1 a.2.2.2).bind fun _=>
        (a.2.1[a.2.2.2.toNat]?).bind fun n=>
        (idx a.1 a.2.2.1).bind fun o=>
        bif (n==o)then
         some (.inl (a.1,a.2.1,w64 (a.2.2.1+1)))
        else
         (cutAt a.2.1 a.2.2.2).bind fun g=>
         (gd (0+(a.2.1.drop g).length)).bind fun _=>
         (cutAt a.2.1 a.2.2.2).bind fun h=>
         (idx a.1 a.2.2.1).bind fun i=>
         (gd ((a.2.1.take h).length+([i]:List Str).length)).bind fun _=>
         (gd (((a.2.1.take h)++([i]:List Str)).length+([]++(a.2.1.drop g)).length)).bind fun _=>
         some (.inl (a.1,((a.2.1.take h)++([i]:List Str))++([]++(a.2.1.drop g)),w64 (a.2.2.1+1)))
       else
        (cutAt a.2.1 a.2.2.2).bind fun j=>
        (gd (0+(a.2.1.drop j).length)).bind fun _=>
        (cutAt a.2.1 a.2.2.2).bind fun k=>
        (idx a.1 a.2.2.1).bind fun l=>
        (gd ((a.2.1.take k).length+([l]:List Str).length)).bind fun _=>
        (gd (((a.2.1.take k)++([l]:List Str)).length+([]++(a.2.1.drop j)).length)).bind fun _=>
        some (.inl (a.1,((a.2.1.take k)++([l]:List Str))++([]++(a.2.1.drop j)),w64 (a.2.2.1+1)))
      ).bind fun r=>some (.inr r)
  )
def Oh:Zk->Option (Zk⊕List Str):=fun a=>
 bif (decide (a.2.2<(a.1.length:Int)))then
  au oK (a.1,a.2.1,a.2.2,0)
 else
  some (.inr (a.2.1))
theorem TN(xs:List Str):uh xs=au Oh (xs,[],0):=rfl
theorem Wl{α:Type}(xs:List α)(i:Nat)(h:i<=xs.length):cutAt xs (i:Int)=some i:=by
 unfold cutAt;rw[if_pos ⟨by omega,by omega⟩];simp
theorem ajt(xs:List Str)(i:Nat)(x:Str)(g:xs[i]?=some x)(q:xs.length<=1048576)(out:List Str)(r:out.length<=1048576) :
  au oK (xs,out,(i:Int),0)=some (.inl (xs,uI x out,((i+1:Nat):Int))):=by
 have hi:=(zC.1 g).1;have m:idx xs (i:Int)=some x:=by rw[aA,g]
 have n:w64 ((i:Int)+1)=((i+1:Nat):Int):=cZ g (by omega);have key:∀(k at':Nat),out.length=at'+k->(∀y,y∈out.take at'->y<x)->au oK (xs,out,(i:Int),(at':Int))=some (.inl (xs,uI x out,((i+1:Nat):Int))):=by
  intro k;induction k with
  | zero=>
   intro a p b;have e:a=out.length:=by omega
   subst e;rw[List.take_length]at b;have hins:uI x out=out++[x]:=by
    have:=KD x out [] b;rw[List.append_nil]at this;exact this
   have d:oK (xs,out,(i:Int),(out.length:Int))=some (.inr (.inl (xs,uI x out,((i+1:Nat):Int)))):=by
    simp only[oK,bJ,aa,Wl out out.length (aw _),zA,m,n,List.drop_length,List.take_length];rw[gdp (by simp),zA,gdp (by simp;omega),zA,gdp (by simp;omega),zA,zA,hins];simp
   rw[aH,d]
  | succ k ih=>
   intro a p b;have c:a<out.length:=by omega
   have o:=zF c;have hdec:decide ((a:Int)<(out.length:Int))=true:=by simp;omega
   have hsplit:out=out.take a++out[a]::out.drop (a+1):=by
    rw[<- List.drop_eq_getElem_cons c,List.take_append_drop]
   have hins:uI x out=out.take a++uI x (out[a]::out.drop (a+1)):=by
    conv=>lhs;rw[hsplit]
    exact KD x _ _ b
   by_cases j:out[a]<x
   ·have d:oK (xs,out,(i:Int),(a:Int))=some (.inl (xs,out,(i:Int),((a+1:Nat):Int))):=by
     simp only[oK,hdec,ac,aA,o,g,zA,az,Go.Proofs.bytesLess_eq,al j];rw[aT (by omega) (by omega)];rfl
    rw[aH,d];refine ih (a+1) (by omega) fun y h=>?_
    rw[List.take_succ_eq_append_getElem c]at h;rcases List.mem_append.1 h with h | h
    ·exact b y h
    ·rw[List.mem_singleton.1 h];exact j
   ·by_cases l:out[a]=x
    ·have hins2:uI x out=out:=by
      rw[hins];show out.take a++(if out[a]<x then _ else if out[a]=x then out[a]::out.drop (a+1)else _)=out
      rw[if_neg j,if_pos l];exact hsplit.symm
     have d:oK (xs,out,(i:Int),(a:Int))=some (.inr (.inl (xs,uI x out,((i+1:Nat):Int)))):=by
      have f:(out[a]==x)=true:=by simp[l]
      simp only[oK,hdec,ac,aA,o,g,zA,az,Go.Proofs.bytesLess_eq,ae j,aa,f,n,hins2]
     rw[aH,d]
    ·have hins2:uI x out=out.take a++[x]++out.drop a:=by
      rw[hins];show out.take a++(if out[a]<x then _ else if out[a]=x then out[a]::out.drop (a+1)else x::out[a]::out.drop (a+1))=_
      rw[if_neg j,if_neg l,<- List.drop_eq_getElem_cons c];simp
     have d:oK (xs,out,(i:Int),(a:Int))=some (.inr (.inl (xs,uI x out,((i+1:Nat):Int)))):=by
      have f:(out[a]==x)=false:=by simp[l]
      simp only[oK,hdec,ac,aA,o,g,zA,az,Go.Proofs.bytesLess_eq,ae j,aa,f,n,Wl out a (by omega)];rw[gdp (by simp;omega),zA,gdp (by simp;omega),zA,gdp (by simp;omega),zA,zA,hins2];simp
     rw[aH,d]
 exact key out.length 0 (by omega) (by simp)
theorem TM(xs:List Str)(f:xs.length<=1048576):∃ys,uh xs=some ys/\lZ ys/\∀b,b∈ys↔b∈xs:=by
 rw[TN];refine dH (g:=Oh) (fun (out:List Str) (i:Nat)=>((xs,out,(i:Int)):Zk)) xs (fun i out=>lZ out/\out.length<=i/\∀b,b∈out↔b∈xs.take i) (fun ys=>lZ ys/\∀b,b∈ys↔b∈xs) (fun i x out a d=>.inl ?_) (fun out d=>?_) [] ⟨List.Pairwise.nil,aw _,by simp⟩
 ·obtain⟨e,h,c⟩:=d;have hi:=(zC.1 a).1;have j:xs.take (i+1)=xs.take i++[x]:=by
   obtain⟨hi,rfl⟩:=zC.1 a;rw[List.take_succ_eq_append_getElem hi]
  refine⟨uI x out,?_,Na x out e,by have:=aaY x out;omega,fun b=>?_⟩
  ·simp only[Oh,bY a,ac];exact ajt xs i x a f out (by omega)
  ·rw[Rh,c,j,List.mem_append,List.mem_singleton];exact Or.comm
 ·obtain⟨e,h,c⟩:=d;rw[List.take_length]at c;exact⟨out,by simp only[Oh,bJ,aa],e,c⟩
theorem ND(xs:List Str)(a:xs.length<=1048576):∃ys,pW xs=some ys/\uh xs=some ys/\lZ ys/\∀b,b∈ys↔b∈xs:=by
 obtain⟨ys,h1,h2,c⟩:=UC xs a;obtain⟨zs,d,e,f⟩:=TM xs a;have:ys=zs:=Vu h2 e fun b=>by rw[c,f]
 subst this;exact⟨ys,h1,d,h2,c⟩
theorem acE:∀ {xs:List Str} {ys:List Str},lZ xs->(∀b,b∈xs->b∈ys)->xs.length<=ys.length:=by
 intro xs;induction xs with
 | nil=>intro ys _ _;exact Nat.zero_le _
 | cons x r ih=>
  intro ys h c;obtain⟨h1,h2⟩:=List.pairwise_cons.1 h;have d:=c x (by simp);have:=ih (ys:=ys.erase x) h2 fun b f=>by
   have a:b≠x:=fun e=>by subst e;exact List.lt_irrefl _ (h1 b f)
   exact (List.mem_erase_of_ne a).2 (c b (aq _ f))
  rw[List.length_erase_of_mem d]at this;have:=List.length_pos_of_mem d;simp only[List.length_cons];omega
theorem AB(e:af)(h:wtE e<=1000):∃ys,nR e=some ys/\um e=some ys/\lZ ys/\ys.length<=wtE e/\∀b,b∈ys↔b∈(evE e []).map (·.1):=by
 have h1:=FP (siz e+1) e [] (Nat.lt_succ_self _) (by simp;omega);have h2:Pz e []=some ((evE e []).map (·.1)):=afr _ e [] (by omega) (by simp;omega);have i:=EJ e [];obtain⟨ys,d,f,a,c⟩:=ND ((evE e []).map (·.1)) (by rw[List.length_map];omega);refine⟨ys,?_,?_,a,?_,c⟩
 ·unfold nR;rw[h1,zA,gdp (by omega)];exact d
 ·unfold um;rw[aS,h2,zA,f];rfl
 ·have:=acE a fun b g=>(c b).1 g
  rw[List.length_map]at this;omega
theorem LJ(a:Str)(b:a.length<=34359738368)(h:bH a=some true):a.length<=8:=by
 unfold bH at h;rw[GR a b]at h;by_cases c:(a.length:Int)<=8
 ·omega
 ·rw[ae c,Bool.and_false,Bool.and_false]at h;cases h
theorem xC(e:af)(b c:Str)(k:wtE e<=1000)(g:b.length<=34359738368)(d:c.length<=34359738368) :
  ∃(x:af) (v:Bool),kE e b c=some (x,v)/\jX e b c=some (x,v)/\wtE x<=1000:=by
 obtain⟨v0,l,m,n⟩:=vF e (by omega);obtain⟨h,i⟩:=oJ b g;obtain⟨j,f⟩:=oJ c d;have o:bM b=some h:=by rw[<- nY b g,i]
 have p:bM c=some j:=by rw[<- nY c d,f]
 obtain⟨q,r,s⟩:=Dy e b c k;have t:Ro e b c=some (NG b c e):=aeZ b c _ e (by omega) (by omega);have a:wtE ⟨0,0,[],[]⟩<=1000:=by rw[DK];simp[wtL]
 unfold kE jX;simp only[aS,l,m,i,f,o,p,r,s,t,zA];cases v0 with
 | false=>exact⟨_,_,rfl,rfl,a⟩
 | true=>
  obtain⟨hv,hw40⟩:=n rfl;have u:FZ e b c=some (NG b c e):=aeX b c _ e (by omega) (by omega) hv;simp only[u,zA,aL,aa];cases h with
  | false=>exact⟨_,_,rfl,rfl,a⟩
  | true=>
   cases j with
   | false=>exact⟨_,_,rfl,rfl,a⟩
   | true=>
    have w:=LJ c d f;cases q with
    | true=>exact⟨_,_,rfl,rfl,a⟩
    | false=>exact⟨NG b c e,true,rfl,rfl,by have:=ae0 b c (by omega) e;omega⟩
theorem ag4(ys:List Str)(b:Str)(c:ys.length<=34359738368):∃p:Int,jy ys b=some p/\kR ys b=some (!(decide (p<0))):=by
 refine⟨posOf b 0 ys,qU ys b c,?_⟩;rw[nZ ys b c];have h:=pR b ys 0;cases a:ys.contains b with
 | false=>rw[al (h.2 a)];rfl
 | true=>
  have:¬posOf b 0 ys<0:=fun hh=>by rw[h.1 hh]at a;cases a
  rw[ae this];rfl
theorem aeE{α X Y ρ σ:Type}{f:X->Option (X⊕ρ)}{g:Y->Option (Y⊕ρ)}(px:σ->Nat->X)(py:σ->Nat->Y)(xs:List α)(I:Nat->σ->Prop)(R:ρ->Prop)
  (j:∀i x s,xs[i]?=some x->I i s->(∃s',f (px s i)=some (.inl (px s' (i+1)))/\g (py s i)=some (.inl (py s' (i+1)))/\I (i+1) s')\/∃r,f (px s i)=some (.inr r)/\g (py s i)=some (.inr r)/\R r)
  (l:∀s,I xs.length s->∃r,f (px s xs.length)=some (.inr r)/\g (py s xs.length)=some (.inr r)/\R r) (s:σ) (m:I 0 s):∃r,au f (px s 0)=some r/\au g (py s 0)=some r/\R r:=by
 have key:∀(k i:Nat) (s:σ),xs.length=i+k->I i s->∃r,au f (px s i)=some r/\au g (py s i)=some r/\R r:=by
  intro k;induction k with
  | zero=>
   intro i s hi d;have:i=xs.length:=by omega
   subst this;obtain⟨r,a,b,c⟩:=l s d;exact⟨r,by rw[aH,a],by rw[aH,b],c⟩
  | succ k ih=>
   intro i s hi d;have e:i<xs.length:=by omega
   rcases j i _ s (zF e) d with ⟨s',a,b,h⟩ | ⟨r,a,b,c⟩
   ·obtain⟨r,n,o,c⟩:=ih (i+1) s' (by omega) h;exact⟨r,by rw[aH,a];exact n,by rw[aH,b];exact o,c⟩
   ·exact⟨r,by rw[aH,a],by rw[aH,b],c⟩
 exact key xs.length 0 s (by omega) m
end
end Go.Proofs.YtbbmkcioplbhbaaGreatDoor
/- Plain laws: tables out of a text: ParseData alike on both sides. -/
namespace Go.Proofs.YtbbmkcioplbhbaaGreatDoor
noncomputable section
open Go.Abs Go.Proofs
theorem xH{ρ:Type}{x:Option ρ}{v:ρ}(h:∃r,x=some r/\r=v):x=some v:=by
 obtain⟨r,e,rfl⟩:=h;exact e
theorem aoY{ρ σ:Type}{x:Option ρ}{F:σ->ρ}(h:∃r,x=some r/\∃y,r=F y):∃y,x=some (F y):=by
 obtain⟨r,e,y,rfl⟩:=h;exact⟨y,e⟩
def jC{α:Type}(p:Nat->α->Bool):Nat->List α->Bool
 | _,[]=>true
 | i,x::r=>p i x&&jC p (i+1) r
theorem qB{α X ρ:Type}{g:X->Option (X⊕ρ)}(pk:Nat->X)(xs:List α)(p:Nat->α->Bool)(no yes:ρ)
  (c:∀i x,xs[i]?=some x->g (pk i)=bif p i x then some (.inl (pk (i+1)))else some (.inr no))
  (d:g (pk xs.length)=some (.inr yes)):au g (pk 0)=some (bif jC p 0 xs then yes else no):=by
 have key:∀(ys:List α) (i:Nat),xs.drop i=ys->i<=xs.length->au g (pk i)=some (bif jC p i ys then yes else no):=by
  intro ys;induction ys with
  | nil=>
   intro i hd hi;have h2:xs.length<=i:=List.drop_eq_nil_iff.1 hd;have:i=xs.length:=by omega
   subst this;rw[aH,d];rfl
  | cons y r ih=>
   intro i hd hi;have b:xs[i]?=some y:=by
    have:=congrArg (·[0]?) hd;simpa using this
   have a:=(zC.1 b).1;rw[aH,c i y b];show _=some (bif (p i y&&jC p (i+1) r)then yes else no)
   cases p i y with
   | true=>
    simp only[ac,Bool.true_and];refine ih (i+1) ?_ a;have:=congrArg List.tail hd;simpa using this
   | false=>rfl
 exact key xs 0 rfl (Nat.zero_le _)
def zo(p:Str):Option Int:=match mF p (-1000000000) 1000000000 with
 | some (v,true)=>some v
 | _=>none
theorem numI(p:Str)(b:p.length<=1048576):∃v,mF p (-1000000000) 1000000000=some (v,(zo p).isSome)/\(∀u,zo p=some u->v=u):=by
 obtain⟨v,ok,e,_,_⟩:=Nh p (-1000000000) 1000000000 (by omega) (by omega) (by omega);unfold zo;rw[e];cases ok with
 | true=>exact⟨v,rfl,fun u a=>by cases a;rfl⟩
 | false=>exact⟨v,rfl,fun u a=>by cases a⟩
theorem numS(p:Str)(q:p.length<=1048576):∃v ok,jK p=some (v,ok)/\(zo p).isSome=(ok&&(decide (v>=-1000000000)&&decide (v<=1000000000)))/\(∀u,zo p=some u->v=u):=by
 obtain⟨v,ok,e,h1,h2⟩:=Pn p (by omega);obtain⟨w,a,i,j,n⟩:=Nh p (-1000000000) 1000000000 (by omega) (by omega) (by omega);refine⟨v,ok,e,?_,?_⟩
 ·unfold zo;rw[i];cases a with
  | true=>
   obtain⟨b,k,l⟩:=j rfl;cases ok with
   | true=>
    obtain⟨c,d,f⟩:=h1 rfl;have:v=w:=aaT ⟨d,f⟩ (c.trans b.symm) ⟨by omega,by omega⟩;subst this;rw[al k,al l];rfl
   | false=>exact absurd b ((h2 rfl).2 w (by omega) (by omega))
  | false=>
   cases ok with
   | false=>rfl
   | true=>
    obtain⟨c,d,f⟩:=h1 rfl;by_cases h:v>=-1000000000/\v<=1000000000
    ·exact absurd c ((n rfl).2 v h.1 h.2)
    ·have:(decide (v>=-1000000000)&&decide (v<=1000000000))=false:=by
      by_cases m:v>=-1000000000
      ·rw[ae (fun o=>h ⟨m,o⟩),Bool.and_false]
      ·rw[ae m,Bool.false_and]
     rw[this];rfl
 ·intro u g;unfold zo at g;rw[i]at g;cases a with
  | false=>cases g
  | true=>
   cases g
   obtain⟨b,k,l⟩:=j rfl;cases ok with
   | true=>
    obtain⟨c,d,f⟩:=h1 rfl;exact aaT ⟨d,f⟩ (c.trans b.symm) ⟨by omega,by omega⟩
   | false=>exact absurd b ((h2 rfl).2 w (by omega) (by omega))
def numsOf:List Str->Option (List Int)
 | []=>some []
 | p::r=>(zo p).bind fun v=>(numsOf r).map (v :: ·)
theorem wK:∀(a b:List Str),numsOf (a++b)=(numsOf a).bind fun x=>(numsOf b).map (x ++ ·)
 | [],b=>by simp[numsOf]
 | p::r,b=>by
  show (zo p).bind (fun v=>(numsOf (r++b)).map (v :: ·))=((zo p).bind fun v=>(numsOf r).map (v :: ·)).bind fun x=>(numsOf b).map (x ++ ·)
  rw[wK r b];cases zo p with
  | none=>rfl
  | some v=>
   simp only[zA];cases numsOf r with
   | none=>rfl
   | some x=>
    simp only[zA,Option.map_some];cases numsOf b<;>rfl
theorem Gp:∀ {a:List Str} {x:List Int},numsOf a=some x->x.length=a.length
 | [],x,h=>by cases h;rfl
 | p::r,x,h=>by
  have h:(zo p).bind (fun v=>(numsOf r).map (v :: ·))=some x:=h;cases c:zo p with
  | none=>rw[c]at h;cases h
  | some v=>
   rw[c]at h;simp only[zA]at h;cases b:numsOf r with
   | none=>rw[b]at h;cases h
   | some y=>
    rw[b]at h;cases h
    simp[Gp b]
theorem MR{xs:List Str}{i:Nat}{p:Str}(h:xs[i]?=some p)(a:zo p=none):numsOf xs=none:=by
 obtain⟨hi,rfl⟩:=zC.1 h;have e:xs=xs.take i++(xs[i]::xs.drop (i+1)):=by rw[<- List.drop_eq_getElem_cons hi,List.take_append_drop]
 rw[e,wK];have:numsOf (xs[i]::xs.drop (i+1))=none:=by
  show (zo xs[i]).bind _=none
  rw[a];rfl
 rw[this];cases numsOf (xs.take i)<;>rfl
theorem MQ{xs:List Str}{i:Nat}{p:Str}{v:Int}{out:List Int}(h:xs[i]?=some p)(a:numsOf (xs.take i)=some out)(b:zo p=some v):numsOf (xs.take (i+1))=some (out++[v]):=by
 obtain⟨hi,rfl⟩:=zC.1 h;rw[List.take_succ_eq_append_getElem hi,wK,a];show (Option.some out).bind (fun x=>((zo xs[i]).bind fun v=>(numsOf []).map (v :: ·)).map (x ++ ·))=_
 rw[b];rfl
theorem alm(a:Str)(b:Int)(k:a.length<=100000):yu a b=some (match numsOf (Go.Lib.split a [32])with
  | some l=>(l,(l.length:Int)==b)
  | none=>([],false)):=by
 obtain⟨h,g⟩:=ji a [32];unfold yu;rw[show (32:Int)=((32:UInt8).toNat:Int)from rfl,KE a 32 (by omega)];simp only[zA];generalize Go.Lib.split a [32]=ps at h g;refine xH (dH (fun (out:List Int) (i:Nat)=>((b,out,ps,(ps.length:Int),(i:Int)):Int×(List Int)×(List Str)×Int×Int)) ps (fun i out=>numsOf (ps.take i)=some out) _ (fun i p out c d=>?_) (fun out d=>?_) [] rfl)
 ·have hi:=(zC.1 c).1;obtain⟨v,e,hv⟩:=numI p (by have:=g p (zG c);omega);simp only[bY c,ac,aA,c,zA,az,e,cZ c (by omega)];cases f:zo p with
  | none=>exact .inr ⟨_,rfl,by rw[MR c f]⟩
  | some u=>
   have:=hv u f;subst this;have j:=Gp d;rw[a8]at j;refine .inl ⟨out++[v],?_,MQ c d f⟩;rw[gdp (by simp;omega)];rfl
 ·rw[List.take_length]at d;exact⟨_,by simp only[bJ,aa];rfl,by rw[d]⟩
theorem akI(a:Str)(b:Int)(n:a.length<=100000):∃xs,D7 a b=some (match numsOf (Go.Lib.split a [32])with
  | some l=>(l,(l.length:Int)==b)
  | none=>(xs,false)):=by
 obtain⟨k,j⟩:=ji a [32];unfold D7;rw[show (32:Int)=((32:UInt8).toNat:Int)from rfl,JO a 32 (by omega)];simp only[zA];generalize Go.Lib.split a [32]=ps at k j;refine aoY (dH (fun (out:List Int) (i:Nat)=>((b,out,ps,(i:Int)):Int×(List Int)×(List Str)×Int)) ps (fun i out=>numsOf (ps.take i)=some out) (fun r=>∃xs,r=(match numsOf ps with
  | some l=>(l,(l.length:Int)==b)
  | none=>(xs,false))) (fun i p out d g=>?_) (fun out g=>?_) [] rfl)
 ·have hi:=(zC.1 d).1;obtain⟨v,ok,e,c,hv⟩:=numS p (by have:=j p (zG d);omega);have m:=Gp g;rw[a8]at m;have hnum:pG v=some (decide (v>=-1000000000)&&decide (v<=1000000000)):=by
   unfold pG;rw[nX];rfl
  simp only[bY d,ac,aA,d,zA,az,e,hnum,cZ d (by omega)];cases h:zo p with
  | none=>
   rw[h]at c;have c:(ok&&(decide (v>=-1000000000)&&decide (v<=1000000000)))=false:=c.symm;refine .inr ⟨(out,false),?_,out,by rw[MR d h]⟩;cases ok with
   | false=>rfl
   | true=>
    rw[Bool.true_and]at c;rw[c];rfl
  | some u=>
   have:=hv u h;subst this;rw[h]at c;have c:true=(ok&&(decide (v>=-1000000000)&&decide (v<=1000000000))):=c;have f:=c.symm;rw[zI]at f;refine .inl ⟨out++[v],?_,MQ d g h⟩;rw[f.1,f.2,gdp (by simp;omega)];rfl
 ·rw[List.take_length]at g;exact⟨_,by simp only[bJ,aa];rfl,[],by rw[g]⟩
theorem ajZ{α:Type}(a:List α)(k:Nat)(h:k<=a.length):eff.cutL a none (some (k:Int))=some (a.take k):=by
 unfold eff.cutL;simp only[Option.getD_none,Option.getD_some];rw[if_pos]
 ·simp
 ·omega
theorem abU{α:Type}(x:α)(r:List α):eff.cutL (x::r) (some 1) none=some r:=by
 unfold eff.cutL;simp only[Option.getD_none,Option.getD_some];rw[if_pos]
 ·simp
 ·simp;omega
theorem Zi(b:Bool):(bif b then true else false)=b:=by cases b<;>rfl
def V8(xs:List Str):Bool:=jC (fun i x=>!((xs.take i).contains x)) 0 xs
theorem ajA(xs:List Str)(c:xs.length<=1048576):sG xs=some (V8 xs):=by
 unfold sG;refine (qB (fun i=>((xs,xs,(xs.length:Int),(i:Int)):(List Str)×(List Str)×Int×Int)) xs (fun i x=>!((xs.take i).contains x)) false true (fun i x a=>?_) ?_).trans (congrArg some (Zi _))
 ·have b:=Qo x xs i 0 a;rw[Nat.zero_add]at b;simp only[bY a,ac,aA,a,zA,qU xs x (by omega),bne,b,cZ a (by omega)];cases (xs.take i).contains x<;>rfl
 ·simp only[bJ,aa]
theorem ail(xs:List Str)(b:xs.length<=1048576):rV xs=some (V8 xs):=by
 unfold rV;refine (qB (fun i=>((xs,(i:Int)):(List Str)×Int)) xs (fun i x=>!((xs.take i).contains x)) false true (fun i x a=>?_) ?_).trans (congrArg some (Zi _))
 ·have hi:=(zC.1 a).1;simp only[bY a,ac,aA,a,zA,ajZ xs i (by omega),nZ (xs.take i) x (by rw[a8];omega),cZ a (by omega)];cases (xs.take i).contains x<;>rfl
 ·simp only[bJ,aa]
def Du(xs:List Str):Bool:=jC (fun _ x=>fU x) 0 xs&&((decide (1<=(xs.length:Int))&&decide ((xs.length:Int)<=4))&&V8 xs)
theorem abn(xs:List Str)(b:xs.length<=1048576)(c:∀x,x∈xs->x.length<=120):qW xs=some (Du xs):=by
 unfold qW;refine (qB (fun i=>((xs,xs,(xs.length:Int),(i:Int)):(List Str)×(List Str)×Int×Int)) xs (fun _ x=>fU x) false ((decide (1<=(xs.length:Int))&&decide ((xs.length:Int)<=4))&&V8 xs) (fun i x a=>?_) ?_).trans ?_
 ·simp only[bY a,ac,aA,a,zA,En x (c x (zG a)),cZ a (by omega)];cases fU x<;>rfl
 ·simp only[bJ,aa,zN,zA,ajA xs b];cases (decide (1<=(xs.length:Int))&&decide ((xs.length:Int)<=4))<;>rfl
 ·unfold Du;cases jC (fun _ x=>fU x) 0 xs<;>rfl
theorem aai(xs:List Str)(b:xs.length<=1048576)(c:∀x,x∈xs->x.length<=120):ul xs=some (Du xs):=by
 unfold ul;refine (qB (fun i=>((xs,(i:Int)):(List Str)×Int)) xs (fun _ x=>fU x) false ((decide (1<=(xs.length:Int))&&decide ((xs.length:Int)<=4))&&V8 xs) (fun i x a=>?_) ?_).trans ?_
 ·simp only[bY a,ac,aA,a,zA,DX x (c x (zG a)),cZ a (by omega)];cases fU x<;>rfl
 ·simp only[bJ,aa,nX,zA,ail xs b];show _=some (Sum.inr ((decide ((xs.length:Int)>=1)&&decide ((xs.length:Int)<=4))&&V8 xs))
  cases (decide ((xs.length:Int)>=1)&&decide ((xs.length:Int)<=4))<;>rfl
 ·unfold Du;cases jC (fun _ x=>fU x) 0 xs<;>rfl
def inR(n:Int):Bool:=decide (-1000000000<=n)&&decide (n<=1000000000)
theorem ad1(n:Int):Ep n=some (inR n):=by
 unfold Ep;rw[zN];rfl
theorem acM(n:Int):pG n=some (inR n):=by
 unfold pG;rw[nX];rfl
def rowB(w:Int)(r:bD):Bool:=((r.cells.length:Int)==w)&&jC (fun _ n=>inR n) 0 r.cells
def JC(cols:List Str)(rows:List bD):Bool:=Du cols&&(decide ((rows.length:Int)<=12)&&jC (fun _ r=>rowB (cols.length:Int) r) 0 rows)
theorem agW(n step:Int)(text:Str)(cols:List Str)(rows:List bD)(e:cols.length<=1048576)(f:∀x,x∈cols->x.length<=120)(g:∀r,r∈rows->r.orig=[]/\r.cells.length<=1048576) :
  C9 ⟨5,n,step,text,[],cols,rows⟩=some (JC cols rows):=by
 unfold C9 JC;simp only[abn cols e f,zA];cases Du cols with
 | false=>rfl
 | true=>
  simp only[aL,aa,Bool.true_and];by_cases a:(rows.length:Int)>12
  ·rw[al a,ae (by omega)];rfl
  ·rw[ae a,al (by omega)];simp only[aa,Bool.true_and];refine (qB (fun i=>((5,n,step,text,[],cols,rows,rows,(rows.length:Int),(i:Int)):Int×Int×Int×Str×(List aC)×(List Str)×(List bD)×(List bD)×Int×Int)) rows (fun _ r=>rowB (cols.length:Int) r) false true (fun i r b=>?_) ?_).trans (congrArg some (Zi _))
   ·obtain⟨h,k⟩:=g r (zG b);have c:=cZ b (by omega);simp only[bY b,ac,aA,b,zA,h,bne];unfold rowB;cases ((r.cells.length:Int)==(cols.length:Int))with
    | false=>rfl
    | true=>
     simp only[aL,aa,Bool.true_and];refine (qB (fun j=>((5,n,step,text,[],cols,rows,r.cells,[],rows,(rows.length:Int),(i:Int),r.cells,(r.cells.length:Int),(j:Int)):Int×Int×Int×Str×(List aC)×(List Str)×(List bD)×(List Int)×(List bQ)×(List bD)×Int×Int×(List Int)×Int×Int)) r.cells (fun _ m=>inR m) (Sum.inr false) (Sum.inl (5,n,step,text,[],cols,rows,rows,(rows.length:Int),((i+1:Nat):Int))) (fun j m d=>?_) ?_).trans ?_
     ·simp only[bY d,ac,aA,d,zA,ad1,cZ d (by omega)];cases inR m<;>rfl
     ·simp only[bJ,aa];rw[aH];simp only[List.length_nil,Int.ofNat_zero,Int.lt_irrefl,decide_false,aa,c,zA]
     ·cases jC (fun _ m=>inR m) 0 r.cells<;>rfl
   ·simp only[bJ,aa]
theorem aip:rQ []=some true:=by
 unfold rQ;rw[aH];rfl
theorem af5(n step:Int)(text:Str)(cols:List Str)(rows:List bD)(e:cols.length<=1048576)(f:∀x,x∈cols->x.length<=120)(g:∀r,r∈rows->r.orig=[]/\r.cells.length<=1048576) :
  Ib ⟨5,n,step,text,[],cols,rows⟩=some (JC cols rows):=by
 unfold Ib JC;simp only[aai cols e f,zA];cases Du cols with
 | false=>rfl
 | true=>
  simp only[aL,aa,Bool.true_and];by_cases a:(rows.length:Int)>12
  ·rw[al a,ae (by omega)];rfl
  ·rw[ae a,al (by omega)];simp only[aa,Bool.true_and];refine (qB (fun i=>((5,n,step,text,[],cols,rows,(i:Int)):Int×Int×Int×Str×(List aC)×(List Str)×(List bD)×Int)) rows (fun _ r=>rowB (cols.length:Int) r) false true (fun i r b=>?_) ?_).trans (congrArg some (Zi _))
   ·obtain⟨h,k⟩:=g r (zG b);have c:=cZ b (by omega);simp only[bY b,ac,aA,b,zA,h,aip,bne];unfold rowB;cases ((r.cells.length:Int)==(cols.length:Int))with
    | false=>rfl
    | true=>
     simp only[aL,aa,Bool.true_and];refine (qB (fun j=>((5,n,step,text,[],cols,rows,(i:Int),r.cells,[],(j:Int)):Int×Int×Int×Str×(List aC)×(List Str)×(List bD)×Int×(List Int)×(List bQ)×Int)) r.cells (fun _ m=>inR m) (Sum.inr false) (Sum.inl (5,n,step,text,[],cols,rows,((i+1:Nat):Int))) (fun j m d=>?_) ?_).trans ?_
     ·simp only[bY d,ac,aA,d,zA,acM,cZ d (by omega)];cases inR m<;>rfl
     ·simp only[bJ,aa,c]
     ·cases jC (fun _ m=>inR m) 0 r.cells<;>rfl
   ·simp only[bJ,aa]
theorem IU(cols:List Str)(rows:List bD)(a:cols.length<=1048576)(b:∀x,x∈cols->x.length<=120)(c:∀r,r∈rows->r.orig=[]/\r.cells.length<=1048576) :
  qo ⟨5,0,0,[],[],cols,rows⟩=some (JC cols rows):=by
 have h:=agW 0 0 [] cols rows a b c;show jR ⟨5,0,0,[],[],cols,rows⟩=_
 unfold jR;simp only[h,zA];cases ((cols.length:Int)==0)<;>rfl
theorem H8(cols:List Str)(rows:List bD)(a:cols.length<=1048576)(b:∀x,x∈cols->x.length<=120)(c:∀r,r∈rows->r.orig=[]/\r.cells.length<=1048576) :
  ql ⟨5,0,0,[],[],cols,rows⟩=some (JC cols rows):=by
 have h:=af5 0 0 [] cols rows a b c;show jL ⟨5,0,0,[],[],cols,rows⟩=_
 unfold jL;simp only[h,zA];rfl
def rowOf(w:Int)(p:Str):Option bD:=match numsOf (Go.Lib.split p [32])with
 | some l=>if (l.length:Int)==w then some ⟨l,[]⟩else none
 | none=>none
def rowsOf(w:Int):List Str->Option (List bD)
 | []=>some []
 | p::r=>(rowOf w p).bind fun v=>(rowsOf w r).map (v :: ·)
theorem wH(w:Int):∀(a b:List Str),rowsOf w (a++b)=(rowsOf w a).bind fun x=>(rowsOf w b).map (x ++ ·)
 | [],b=>by simp[rowsOf]
 | p::r,b=>by
  show (rowOf w p).bind (fun v=>(rowsOf w (r++b)).map (v :: ·))=((rowOf w p).bind fun v=>(rowsOf w r).map (v :: ·)).bind fun x=>(rowsOf w b).map (x ++ ·)
  rw[wH w r b];cases rowOf w p with
  | none=>rfl
  | some v=>
   simp only[zA];cases rowsOf w r with
   | none=>rfl
   | some x=>
    simp only[zA,Option.map_some];cases rowsOf w b<;>rfl
theorem MH{w:Int}{xs:List Str}{i:Nat}{p:Str}(h:xs[i]?=some p)(a:rowOf w p=none):rowsOf w xs=none:=by
 obtain⟨hi,rfl⟩:=zC.1 h;have e:xs=xs.take i++(xs[i]::xs.drop (i+1)):=by rw[<- List.drop_eq_getElem_cons hi,List.take_append_drop]
 rw[e,wH];have:rowsOf w (xs[i]::xs.drop (i+1))=none:=by
  show (rowOf w xs[i]).bind _=none
  rw[a];rfl
 rw[this];cases rowsOf w (xs.take i)<;>rfl
theorem MG{w:Int}{xs:List Str}{i:Nat}{p:Str}{v:bD}{out:List bD}(h:xs[i]?=some p)(a:rowsOf w (xs.take i)=some out)(b:rowOf w p=some v):rowsOf w (xs.take (i+1))=some (out++[v]):=by
 obtain⟨hi,rfl⟩:=zC.1 h;rw[List.take_succ_eq_append_getElem hi,wH,a];show (Option.some out).bind (fun x=>((rowOf w xs[i]).bind fun v=>(rowsOf w []).map (v :: ·)).map (x ++ ·))=_
 rw[b];rfl
theorem pM{w:Int}:∀ {a:List Str} {x:List bD},rowsOf w a=some x->x.length=a.length/\∀r,r∈x->r.orig=[]/\(r.cells.length:Int)=w
 | [],x,h=>by cases h;exact⟨rfl,fun r c=>by cases c⟩
 | p::r,x,h=>by
  have h:(rowOf w p).bind (fun v=>(rowsOf w r).map (v :: ·))=some x:=h;cases b:rowOf w p with
  | none=>rw[b]at h;cases h
  | some v=>
   rw[b]at h;simp only[zA]at h;cases c:rowsOf w r with
   | none=>rw[c]at h;cases h
   | some y=>
    rw[c]at h;cases h
    obtain⟨h1,h2⟩:=pM c;refine⟨by simp[h1],fun q d=>?_⟩;rcases ba.1 d with rfl | d
    ·unfold rowOf at b;split at b
     ·rename_i l _;split at b
      ·rename_i e;cases b
       exact⟨rfl,by simpa using e⟩
      ·cases b
     ·cases b
    ·exact h2 q d
theorem aeV(w:Int)(p:Str)(a:p.length<=100000):∃l ok,yu p w=some (l,ok)/\((ok=false/\rowOf w p=none)\/(ok=true/\rowOf w p=some ⟨l,[]⟩)):=by
 rw[alm p w a];unfold rowOf;cases numsOf (Go.Lib.split p [32])with
 | none=>exact⟨_,_,rfl,.inl ⟨rfl,rfl⟩⟩
 | some l=>
  refine⟨l,_,rfl,?_⟩;cases h:((l.length:Int)==w)with
  | true=>exact .inr ⟨rfl,by simpa using h⟩
  | false=>exact .inl ⟨rfl,by simpa using h⟩
theorem aeU(w:Int)(p:Str)(a:p.length<=100000):∃l ok,D7 p w=some (l,ok)/\((ok=false/\rowOf w p=none)\/(ok=true/\rowOf w p=some ⟨l,[]⟩)):=by
 obtain⟨xs,e⟩:=akI p w a;rw[e];unfold rowOf;cases numsOf (Go.Lib.split p [32])with
 | none=>exact⟨_,_,rfl,.inl ⟨rfl,rfl⟩⟩
 | some l=>
  refine⟨l,_,rfl,?_⟩;cases h:((l.length:Int)==w)with
  | true=>exact .inr ⟨rfl,by simpa using h⟩
  | false=>exact .inl ⟨rfl,by simpa using h⟩
def dataOf(a:Str)(ps:List Str):aC×Bool:=match rowsOf ((Go.Lib.split a [32]).length:Int) ps with
 | none=>(⟨0,0,0,[],[],[],[]⟩,false)
 | some rows=>if JC (Go.Lib.split a [32]) rows=true then (⟨5,0,0,[],[],Go.Lib.split a [32],rows⟩,true)else (⟨0,0,0,[],[],[],[]⟩,false)
theorem Qp(a:Str):∃b ps,Go.Lib.split a [59,32]=b::ps:=List.exists_cons_of_ne_nil (ah1 a [59,32])
theorem RN(a:Str)(z:a.length<=120){b:Str}{ps:List Str}(c:Go.Lib.split a [59,32]=b::ps):nP a=some (dataOf b ps):=by
 obtain⟨k,g⟩:=ji a [59,32];rw[c]at k g;have A:=g b (by simp);obtain⟨n,m⟩:=ji b [32];unfold nP dataOf;have o:kN a [59,32]=some (b::ps):=by
  unfold kN;rw[if_pos ⟨by omega,by simp⟩,c]
 have q:lD b 32=some (Go.Lib.split b [32]):=KE b 32 (by omega);have s:idx (b::ps) 0=some b:=rfl;have t:(b::ps)[0]?=some b:=rfl;simp only[o,s,t,q,abU,zA];generalize hcols:Go.Lib.split b [32]=cols at n m;refine xH (dH (fun (out:List bD) (i:Nat)=>((0,0,0,[],[],[],[],5,0,0,[],[],cols,out,ps,(ps.length:Int),(i:Int)):Int×Int×Int×Str×(List aC)×(List Str)×(List bD)×Int×Int×Int×Str×(List aC)×(List Str)×(List bD)×(List Str)×Int×Int)) ps (fun i out=>rowsOf (cols.length:Int) (ps.take i)=some out) _ (fun i p out c f=>?_) (fun out f=>?_) [] rfl)
 ·have u:=g p (aq _ (zG c));obtain⟨l,ok,e,d⟩:=aeV (cols.length:Int) p (by omega);have v:=(zC.1 c).1;have h:=(pM f).1;rw[a8]at h;simp only[List.length_cons]at k;simp only[bY c,ac,aA,c,zA,e,cZ c (by omega)];rcases d with ⟨rfl,d⟩ | ⟨rfl,d⟩
  ·exact .inr ⟨_,rfl,by rw[MH c d]⟩
  ·refine .inl ⟨out++[⟨l,[]⟩],?_,MG c f d⟩;rw[gdp (by simp;omega)];rfl
 ·rw[List.take_length]at f;obtain⟨w,j⟩:=pM f;have hv:=IU cols out (by omega) (fun x y=>by have:=m x y;omega) (fun r d=>by have:=j r d;exact⟨this.1,by omega⟩);refine⟨_,?_,rfl⟩;simp only[bJ,aa,hv,zA,f];cases JC cols out<;>rfl
theorem aim(a:Str)(B:a.length<=120){b:Str}{ps:List Str}(c:Go.Lib.split a [59,32]=b::ps):uj a=some (dataOf b ps):=by
 obtain⟨n,g⟩:=ji a [59,32];rw[c]at n g;have C:=g b (by simp);obtain⟨q,o⟩:=ji b [32];unfold uj dataOf;have s:sU a=some (b::ps):=by rw[VA a (by omega),c]
 have t:nJ b 32=some (Go.Lib.split b [32]):=JO b 32 (by omega);have u:idx (b::ps) 0=some b:=rfl;have v:(b::ps)[0]?=some b:=rfl;simp only[s,u,v,t,zA];generalize hcols:Go.Lib.split b [32]=cols at q o;refine xH (dH (fun (out:List bD) (i:Nat)=>((0,0,0,[],[],[],[],b::ps,5,0,0,[],[],cols,out,((i+1:Nat):Int)):Int×Int×Int×Str×(List aC)×(List Str)×(List bD)×(List Str)×Int×Int×Int×Str×(List aC)×(List Str)×(List bD)×Int)) ps (fun i out=>rowsOf (cols.length:Int) (ps.take i)=some out) _ (fun i p out c f=>?_) (fun out f=>?_) [] rfl)
 ·have w:=g p (aq _ (zG c));obtain⟨l,ok,e,d⟩:=aeU (cols.length:Int) p (by omega);have y:=(zC.1 c).1;have h:=(pM f).1;rw[a8]at h;simp only[List.length_cons]at n;have j:decide (((i+1:Nat):Int)<((b::ps).length:Int))=true:=by simp;omega
  have k:(b::ps)[i+1]?=some p:=by simpa using c
  have z:w64 (((i+1:Nat):Int)+1)=((i+1+1:Nat):Int):=by rw[aT (by omega) (by omega)];omega
  simp only[j,ac,aA,k,zA,az,e,z];rcases d with ⟨rfl,d⟩ | ⟨rfl,d⟩
  ·exact .inr ⟨_,rfl,by rw[MH c d]⟩
  ·refine .inl ⟨out++[⟨l,[]⟩],?_,MG c f d⟩;rw[gdp (by simp;omega)];rfl
 ·rw[List.take_length]at f;obtain⟨A,m⟩:=pM f;have hv:=H8 cols out (by omega) (fun x k=>by have:=o x k;omega) (fun r d=>by have:=m r d;exact⟨this.1,by omega⟩);have j:decide (((ps.length+1:Nat):Int)<((b::ps).length:Int))=false:=by simp
  refine⟨_,?_,rfl⟩;simp only[j,aa,hv,zA,f];cases JC cols out<;>rfl
theorem aeo(a:Str)(f:a.length<=120):∃v ok,nP a=some (v,ok)/\uj a=some (v,ok)/\(ok=true->∃cols rows,v=⟨5,0,0,[],[],cols,rows⟩/\JC cols rows=true/\cols.length<=122/\(∀x,x∈cols->x.length<=120)/\rows.length<=122/\∀r,r∈rows->r.orig=[]/\r.cells.length<=122):=by
 obtain⟨b,ps,d⟩:=Qp a;refine⟨(dataOf b ps).1,(dataOf b ps).2,RN a f d,aim a f d,fun h=>?_⟩;obtain⟨g,i⟩:=ji a [59,32];rw[d]at g i;simp only[List.length_cons]at g;have m:=i b (by simp);obtain⟨n,j⟩:=ji b [32];unfold dataOf at h ⊢;cases c:rowsOf ((Go.Lib.split b [32]).length:Int) ps with
 | none=>rw[c]at h;cases h
 | some rows=>
  rw[c]at h;simp only at h ⊢;by_cases e:JC (Go.Lib.split b [32]) rows=true
  ·rw[if_pos e];obtain⟨o,k⟩:=pM c;exact⟨_,rows,rfl,e,by omega,fun x l=>by have:=j x l;omega,by omega,fun r c=>by have:=k r c;exact⟨this.1,by omega⟩⟩
  ·rw[if_neg e]at h;cases h
end
end Go.Proofs.YtbbmkcioplbhbaaGreatDoor
