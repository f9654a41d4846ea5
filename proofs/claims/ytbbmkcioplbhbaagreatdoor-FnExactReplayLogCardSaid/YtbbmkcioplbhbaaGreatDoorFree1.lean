import Derived.Test.YtbbmkcioplbhbaaGreatDoorForm1
import Derived.Test.YtbbmkcioplbhbaaGreatDoorPlain1
import Derived.Sort.Walk0
set_option linter.unusedSimpArgs false
set_option linter.unusedVariables false
/- Plain laws: free names, captured names, sorted names: alike on both sides. -/
namespace Go.Proofs.YtbbmkcioplbhbaaGreatDoor
noncomputable section
open Go.Abs Go.Proofs
mutual
def evE:af->List Str->List (Str×List Str)
 | ⟨k,_,t,a⟩,bound=>if ((k==3)&&!(bound.contains t))=true then [(t,bound)]else evL a ((k==7)||(k==9)) t bound 0
def evL:List af->Bool->Str->List Str->Nat->List (Str×List Str)
 | [],_,_,_,_=>[]
 | x::r,bi,t,bound,i=>(if (bi&&decide (0<i))=true then evE x (bound++[t])else evE x bound)++evL r bi t bound (i+1)
end
theorem Zc(e:af)(bound:List Str):evE e bound=if ((e.kind==3)&&!(bound.contains e.text))=true then [(e.text,bound)]else evL e.args ((e.kind==7)||(e.kind==9)) e.text bound 0:=by cases e;rfl
def evP(bi:Bool)(t:Str)(bound:List Str)(i:Nat)(x:af):List (Str×List Str):=if (bi&&decide (0<i))=true then evE x (bound++[t])else evE x bound
theorem G9(bi:Bool)(t:Str)(bound:List Str):∀(xs ys:List af) (i:Nat),evL (xs++ys) bi t bound i=evL xs bi t bound i++evL ys bi t bound (i+xs.length)
 | [],ys,i=>rfl
 | x::r,ys,i=>by
  show evP bi t bound i x++evL (r++ys) bi t bound (i+1)=(evP bi t bound i x++evL r bi t bound (i+1))++_
  rw[G9 bi t bound r ys (i+1),a8];have:i+1+r.length=i+(x::r).length:=by simp;omega
  rw[this]
theorem abV(bi:Bool)(t:Str)(bound:List Str){xs:List af}{i:Nat}{x:af}(h:xs[i]?=some x):evL (xs.take (i+1)) bi t bound 0=evL (xs.take i) bi t bound 0++evP bi t bound i x:=by
 obtain⟨hi,rfl⟩:=zC.1 h;rw[List.take_succ_eq_append_getElem hi,G9];have:0+(xs.take i).length=i:=by rw[ba];omega
 rw[this];show _++(evP bi t bound i _++[])=_
 rw[List.append_nil]
theorem ahH(bi:Bool)(t:Str)(bound:List Str)(xs:List af)(i:Nat):evL xs bi t bound 0=evL (xs.take i) bi t bound 0++evL (xs.drop i) bi t bound (0+(xs.take i).length):=by
 rw[<- G9,List.take_append_drop]
mutual
theorem EO:∀(e:af) (bound:List Str),(evE e bound).length<=wtE e
 | ⟨k,n,t,a⟩,bound=>by
  have h:=Zb a ((k==7)||(k==9)) t bound 0;have h2:=DT ⟨k,n,t,a⟩;rw[Zc];split
  ·simp;exact ae3 _
  ·show (evL a ((k==7)||(k==9)) t bound 0).length<=_
   have h2:1+wtL a<=wtE ⟨k,n,t,a⟩:=h2;omega
theorem Zb:∀(xs:List af) (bi:Bool) (t:Str) (bound:List Str) (i:Nat),(evL xs bi t bound i).length<=wtL xs
 | [],_,_,_,_=>az _
 | x::r,bi,t,bound,i=>by
  have h1:=EO x bound;have h2:=EO x (bound++[t]);have a:=Zb r bi t bound (i+1);show ((if (bi&&decide (0<i))=true then evE x (bound++[t])else evE x bound)++evL r bi t bound (i+1)).length<=wtE x+wtL r
  rw[a7];split<;>omega
end
theorem LK(n:Nat)(bi:Bool)(t:Str)(bound:List Str):∀(xs:List af) (i:Nat),(∀x,x∈xs->∀bd:List Str,bd.length<=bound.length+1->jK n x bd=some (evE x bd))->bound.length<=1048576->dK (jK n) bi t bound i xs=some (evL xs bi t bound i)
 | [],i,_,_=>rfl
 | x::r,i,a,b=>by
  have h1:=a x (by simp) bound (by omega);have h2:=a x (by simp) (bound++[t]) (by simp);have c:=LK n bi t bound r (i+1) (fun y d=>a y (ar _ d)) b;show (if (bi&&decide (0<i))=true then (gd (bound.length+1)).bind fun _=>jK n x (bound++[t])else jK n x bound).bind (fun u=>(dK (jK n) bi t bound (i+1) r).bind fun v=>some (u++v))=some ((if (bi&&decide (0<i))=true then evE x (bound++[t])else evE x bound)++evL r bi t bound (i+1))
  rw[gdp (by omega),zA,h1,h2,c];cases (bi&&decide (0<i))<;>rfl
theorem FV:∀(n:Nat) (e:af) (bound:List Str),siz e<n->wtE e+bound.length<=1048576->jK n e bound=some (evE e bound)
 | 0,e,_,h,_=>absurd h (Nat.not_lt_zero _)
 | n+1,e,bound,d,f=>by
  have g:=tK (e:=e);have b:=LK n (decide (e.kind=7)||decide (e.kind=9)) e.text bound e.args 0 (fun x a bd c=>FV n x bd (by have:=fF a;omega) (by have:=ru a;omega)) (by omega);show ((gd bound.length).bind fun _=>(gd e.args.length).bind fun _=>if e.kind=3/\bound.contains e.text=false then some [(e.text,bound)]else dK (jK n) (decide (e.kind=7)||decide (e.kind=9)) e.text bound 0 e.args)=_
  rw[gdp (by omega),zA,gdp (by omega),zA,b,Zc];by_cases h:e.kind=3
  ·cases i:bound.contains e.text with
   | true=>
    rw[if_neg (fun hh=>by simp at hh),if_neg (by simp)];rfl
   | false=>
    rw[if_pos ⟨h,rfl⟩,if_pos (by simp[h])]
  ·rw[if_neg (fun hh=>h hh.1),if_neg (by simp[h])];rfl
abbrev aqk:=(List Str)×Int×Int×Str×(List af)×(List Str)×Int
abbrev aql:=Str×Str×(List Str)×Int×Int×Str×(List af)×Int
def La(rec:af->List Str->Option (List Str)):aqk->Option (aqk⊕List Str):=(fun (a:(List Str)×Int×Int×Str×(List af)×(List Str)×Int)=>
      bif (decide (a.2.2.2.2.2.2<(a.2.2.2.2.1.length:Int)))then
       bif (a.2.1==7)then
        bif (decide (a.2.2.2.2.2.2>0))then
         (gd (0+a.1.length)).bind fun _=>
         (gd (([]++a.1).length+([a.2.2.2.1]:List Str).length)).bind fun _=>
         (idx a.2.2.2.2.1 a.2.2.2.2.2.2).bind fun h=>
         (rec (aj h) (([]++a.1)++([a.2.2.2.1]:List Str))).bind fun e=>
         (gd (a.2.2.2.2.2.1.length+e.length)).bind fun _=>
         some (.inl (a.1,a.2.1,a.2.2.1,a.2.2.2.1,a.2.2.2.2.1,a.2.2.2.2.2.1++e,w64 (a.2.2.2.2.2.2+1)))
        else
         (idx a.2.2.2.2.1 a.2.2.2.2.2.2).bind fun i=>
         (rec (aj i) a.1).bind fun f=>
         (gd (a.2.2.2.2.2.1.length+f.length)).bind fun _=>
         some (.inl (a.1,a.2.1,a.2.2.1,a.2.2.2.1,a.2.2.2.2.1,a.2.2.2.2.2.1++f,w64 (a.2.2.2.2.2.2+1)))
       else
       bif (a.2.1==9)then
        bif (decide (a.2.2.2.2.2.2>0))then
         (gd (0+a.1.length)).bind fun _=>
         (gd (([]++a.1).length+([a.2.2.2.1]:List Str).length)).bind fun _=>
         (idx a.2.2.2.2.1 a.2.2.2.2.2.2).bind fun j=>
         (rec (aj j) (([]++a.1)++([a.2.2.2.1]:List Str))).bind fun g=>
         (gd (a.2.2.2.2.2.1.length+g.length)).bind fun _=>
         some (.inl (a.1,a.2.1,a.2.2.1,a.2.2.2.1,a.2.2.2.2.1,a.2.2.2.2.2.1++g,w64 (a.2.2.2.2.2.2+1)))
        else
         (idx a.2.2.2.2.1 a.2.2.2.2.2.2).bind fun k=>
         (rec (aj k) a.1).bind fun b=>
         (gd (a.2.2.2.2.2.1.length+b.length)).bind fun _=>
         some (.inl (a.1,a.2.1,a.2.2.1,a.2.2.2.1,a.2.2.2.2.1,a.2.2.2.2.2.1++b,w64 (a.2.2.2.2.2.2+1)))
       else
        (idx a.2.2.2.2.1 a.2.2.2.2.2.2).bind fun d=>
        (rec (aj d) a.1).bind fun c=>
        (gd (a.2.2.2.2.2.1.length+c.length)).bind fun _=>
        some (.inl (a.1,a.2.1,a.2.2.1,a.2.2.2.1,a.2.2.2.2.1,a.2.2.2.2.2.1++c,w64 (a.2.2.2.2.2.2+1)))
      else
       some (.inr (a.2.2.2.2.2.1))
  )
def uY(rec:af->Str->Str->List Str->Option Bool):aql->Option (aql⊕Bool):=(fun (a:Str×Str×(List Str)×Int×Int×Str×(List af)×Int)=>
      bif (decide (a.2.2.2.2.2.2.2<(a.2.2.2.2.2.2.1.length:Int)))then
       bif (a.2.2.2.1==7)then
        bif (decide (a.2.2.2.2.2.2.2>0))then
         (gd (0+a.2.2.1.length)).bind fun _=>
         (gd (([]++a.2.2.1).length+([a.2.2.2.2.2.1]:List Str).length)).bind fun _=>
         (idx a.2.2.2.2.2.2.1 a.2.2.2.2.2.2.2).bind fun f=>
         (rec (aj f) a.1 a.2.1 (([]++a.2.2.1)++([a.2.2.2.2.2.1]:List Str))).bind fun g=>
         bif g then
          some (.inr (true))
         else
          some (.inl (a.1,a.2.1,a.2.2.1,a.2.2.2.1,a.2.2.2.2.1,a.2.2.2.2.2.1,a.2.2.2.2.2.2.1,w64 (a.2.2.2.2.2.2.2+1)))
        else
         (idx a.2.2.2.2.2.2.1 a.2.2.2.2.2.2.2).bind fun h=>
         (rec (aj h) a.1 a.2.1 a.2.2.1).bind fun i=>
         bif i then
          some (.inr (true))
         else
          some (.inl (a.1,a.2.1,a.2.2.1,a.2.2.2.1,a.2.2.2.2.1,a.2.2.2.2.2.1,a.2.2.2.2.2.2.1,w64 (a.2.2.2.2.2.2.2+1)))
       else
       bif (a.2.2.2.1==9)then
        bif (decide (a.2.2.2.2.2.2.2>0))then
         (gd (0+a.2.2.1.length)).bind fun _=>
         (gd (([]++a.2.2.1).length+([a.2.2.2.2.2.1]:List Str).length)).bind fun _=>
         (idx a.2.2.2.2.2.2.1 a.2.2.2.2.2.2.2).bind fun j=>
         (rec (aj j) a.1 a.2.1 (([]++a.2.2.1)++([a.2.2.2.2.2.1]:List Str))).bind fun k=>
         bif k then
          some (.inr (true))
         else
          some (.inl (a.1,a.2.1,a.2.2.1,a.2.2.2.1,a.2.2.2.2.1,a.2.2.2.2.2.1,a.2.2.2.2.2.2.1,w64 (a.2.2.2.2.2.2.2+1)))
        else
         (idx a.2.2.2.2.2.2.1 a.2.2.2.2.2.2.2).bind fun b=>
         (rec (aj b) a.1 a.2.1 a.2.2.1).bind fun c=>
         bif c then
          some (.inr (true))
         else
          some (.inl (a.1,a.2.1,a.2.2.1,a.2.2.2.1,a.2.2.2.2.1,a.2.2.2.2.2.1,a.2.2.2.2.2.2.1,w64 (a.2.2.2.2.2.2.2+1)))
       else
        (idx a.2.2.2.2.2.2.1 a.2.2.2.2.2.2.2).bind fun d=>
        (rec (aj d) a.1 a.2.1 a.2.2.1).bind fun e=>
        bif e then
         some (.inr (true))
        else
         some (.inl (a.1,a.2.1,a.2.2.1,a.2.2.2.1,a.2.2.2.2.1,a.2.2.2.2.2.1,a.2.2.2.2.2.2.1,w64 (a.2.2.2.2.2.2.2+1)))
      else
       some (.inr (false))
  )
theorem agS(rec)(a:af)(b:List Str):JV rec a b=bif (a.kind==3)then ((kV b a.text).bind fun c=>bif (!c)then ((gd (0+([a.text]:List Str).length)).bind fun _=>some ([]++([a.text]:List Str)))else au (La rec) (b,a.kind,a.n,a.text,a.args,[],0))else au (La rec) (b,a.kind,a.n,a.text,a.args,[],0):=rfl
theorem aax(rec)(a:af)(b c:Str)(d:List Str):BO rec a b c d=bif (a.kind==3)then ((kV d a.text).bind fun e=>bif (!e)then (bif (a.text==b)then ((kV d c).bind fun f=>some f)else some false)else au (uY rec) (b,c,d,a.kind,a.n,a.text,a.args,0))else au (uY rec) (b,c,d,a.kind,a.n,a.text,a.args,0):=rfl
theorem afW:∀(n:Nat) (e:af) (bound:List Str),siz e<n->wtE e+bound.length<=1048576->pJ n e bound=some ((evE e bound).map (·.1))
 | 0,e,_,h,_=>absurd h (Nat.not_lt_zero _)
 | n+1,e,bound,t,u=>by
  have ih:=afW n;have v:=tK (e:=e);have hloop:au (La (pJ n)) (bound,e.kind,e.n,e.text,e.args,[],0)=some ((evL e.args ((e.kind==7)||(e.kind==9)) e.text bound 0).map (·.1)):=by
   have key:=dw (g:=La (pJ n)) (fun (s:List Str) (i:Nat)=>((bound,e.kind,e.n,e.text,e.args,s,(i:Int)):aqk)) e.args (fun i s=>s=(evL (e.args.take i) ((e.kind==7)||(e.kind==9)) e.text bound 0).map (·.1)) (fun r=>r=(evL e.args ((e.kind==7)||(e.kind==9)) e.text bound 0).map (·.1)) (fun i x s a b=>.inl ?_) (fun s b=>?_) [] rfl
   ·obtain⟨r,h,rfl⟩:=key;exact h
   ·have c:=zG a;have h1:=ru c;have h2:=OG a;have w:=vG e.args (i+1);have y:=DT e;have d:=Zb (e.args.take i) ((e.kind==7)||(e.kind==9)) e.text bound 0;have z:=fF c;have f:=ih x bound (by omega) (by omega);have j:=ih x (([]++bound)++([e.text]:List Str)) (by omega) (by simp;omega);have A:=EO x bound;have B:=EO x (bound++[e.text]);refine⟨s++(evP ((e.kind==7)||(e.kind==9)) e.text bound i x).map (·.1),?_,by rw[abV _ _ _ a,List.map_append,b]⟩;have k:s.length<=wtL (e.args.take i):=by rw[b,List.length_map];exact d
    have l:gd (s.length+((evE x bound).map (·.1)).length)=some ():=gdp (by rw[List.length_map];omega);have m:gd (s.length+((evE x (([]++bound)++([e.text]:List Str))).map (·.1)).length)=some ():=gdp (by rw[List.length_map,List.nil_append];omega);have o:gd (0+bound.length)=some ():=gdp (by omega);have p:gd (([]++bound).length+([e.text]:List Str).length)=some ():=gdp (by simp;omega);simp only[La,bZ a,ac,aA,a,zA,aS,f,j,l,m,o,p,bY a (by omega),X8];unfold evP;cases (e.kind==7)<;>cases (e.kind==9)<;>cases decide (0<i)<;>rfl
   ·refine⟨_,by simp only[La,bG,aa];rfl,by rw[b,List.take_length]⟩
  show JV (pJ n) e bound=_
  rw[agS,hloop,nZ _ _ (by omega),Zc];have q:gd (0+([e.text]:List Str).length)=some ():=gdp (by simp);cases (e.kind==3)<;>cases bound.contains e.text<;>simp only[ac,aa,aM,Bool.not_false,Bool.and_true,Bool.and_false,Bool.true_and,Bool.false_and,aL,if_true,if_false,zA,q]<;>rfl
def acr(b c:Str)(p:Str×List Str):Bool:=p.1==b&&p.2.contains c
theorem WC(b c:Str):∀(n:Nat) (e:af) (bound:List Str),siz e<n->wtE e+bound.length<=1048576->kz n e b c bound=some ((evE e bound).any (acr b c))
 | 0,e,_,h,_=>absurd h (Nat.not_lt_zero _)
 | n+1,e,bound,q,t=>by
  have ih:=WC b c n;have u:=tK (e:=e);have hloop:au (uY (kz n)) (b,c,bound,e.kind,e.n,e.text,e.args,0)=some ((evL e.args ((e.kind==7)||(e.kind==9)) e.text bound 0).any (acr b c)):=by
   have key:=dw (g:=uY (kz n)) (fun (s:Unit) (i:Nat)=>((b,c,bound,e.kind,e.n,e.text,e.args,(i:Int)):aql)) e.args (fun i s=>(evL (e.args.take i) ((e.kind==7)||(e.kind==9)) e.text bound 0).any (acr b c)=false) (fun r=>r=(evL e.args ((e.kind==7)||(e.kind==9)) e.text bound 0).any (acr b c)) (fun i x s a d=>?_) (fun s d=>?_) () rfl
   ·obtain⟨r,h,rfl⟩:=key;exact h
   ·have j:=zG a;have h1:=ru j;have v:=fF j;have l:=ih x bound (by omega) (by omega);have m:=ih x (([]++bound)++([e.text]:List Str)) (by omega) (by simp;omega);have o:gd (0+bound.length)=some ():=gdp (by omega);have p:gd (([]++bound).length+([e.text]:List Str).length)=some ():=gdp (by simp;omega);have step:uY (kz n) (b,c,bound,e.kind,e.n,e.text,e.args,(i:Int))=bif (evP ((e.kind==7)||(e.kind==9)) e.text bound i x).any (acr b c)then some (.inr true)else some (.inl (b,c,bound,e.kind,e.n,e.text,e.args,((i+1:Nat):Int))):=by
     simp only[uY,bZ a,ac,aA,a,zA,aS,l,m,o,p,bY a (by omega),X8];unfold evP;cases (e.kind==7)<;>cases (e.kind==9)<;>cases decide (0<i)<;>rfl
    have k:=abV ((e.kind==7)||(e.kind==9)) e.text bound a;cases f:(evP ((e.kind==7)||(e.kind==9)) e.text bound i x).any (acr b c)with
    | true=>
     refine .inr ⟨true,by rw[step,f];rfl,?_⟩;rw[ahH _ _ _ e.args (i+1),List.any_append,k,List.any_append,f];simp
    | false=>
     refine .inl ⟨(),by rw[step,f];rfl,?_⟩;rw[k,List.any_append,d,f];rfl
   ·refine⟨false,by simp only[uY,bG,aa],?_⟩;rw[List.take_length]at d;exact d.symm
  show BO (kz n) e b c bound=_
  rw[aax,hloop,nZ _ _ (by omega),nZ _ _ (by omega),Zc];cases (e.kind==3)<;>cases bound.contains e.text<;>simp only[ac,aa,aM,Bool.not_false,Bool.and_true,Bool.and_false,Bool.true_and,Bool.false_and,aL,if_true,if_false,zA]
  show (bif (e.text==b)then some (bound.contains c)else some false)=some (((e.text==b)&&bound.contains c)||false)
  cases (e.text==b)<;>cases bound.contains c<;>rfl
theorem DJ(e:af)(b c:Str)(a:wtE e<=1000):∃v,iy e b c=some v/\lm e b c=some v:=by
 have h1:=FV (siz e+1) e [] (Nat.lt_succ_self _) (by simp;omega);have h2:F9 e b c []=some ((evE e []).any (acr b c)):=WC b c _ e [] (by omega) (by simp;omega);have d:=EO e [];refine⟨(evE e []).any (acr b c),?_,?_⟩
 ·unfold iy;rw[h1,zA,gdp (by omega)];rfl
 ·unfold lm;rw[aS,h2];rfl
def lY(xs:List Str):Prop:=xs.Pairwise (· < ·)
theorem VA:∀ {xs ys:List Str},lY xs->lY ys->(∀b,b∈xs↔b∈ys)->xs=ys
 | [],[],_,_,_=>rfl
 | [],y::r,_,_,h=>absurd ((h y).2 (by simp)) (by simp)
 | x::r,[],_,_,h=>absurd ((h x).1 (by simp)) (by simp)
 | x::r,y::q,j,k,h=>by
  obtain⟨a,f⟩:=List.pairwise_cons.1 j;obtain⟨c,g⟩:=List.pairwise_cons.1 k;have i:x=y:=by
   rcases bc.1 ((h x).1 (by simp))with e | e
   ·exact e
   ·rcases bc.1 ((h y).2 (by simp))with e' | e'
    ·exact e'.symm
    ·exact absurd (List.lt_trans (c x e) (a y e')) (List.lt_irrefl _)
  subst i;rw[VA f g fun b=>⟨fun d=>?_,fun d=>?_⟩]
  ·rcases bc.1 ((h b).1 (ar _ d))with e | e
   ·subst e;exact absurd (a _ d) (List.lt_irrefl _)
   ·exact e
  ·rcases bc.1 ((h b).2 (ar _ d))with e | e
   ·subst e;exact absurd (c _ d) (List.lt_irrefl _)
   ·exact e
theorem JK{xs:List Str}(h1:xs.Pairwise (fun a b=>decide (a<=b)=true))(h2:xs.Nodup):lY xs:=by
 induction xs with
 | nil=>exact List.Pairwise.nil
 | cons x r ih=>
  obtain⟨e,f⟩:=List.pairwise_cons.1 h1;obtain⟨g,i⟩:=List.nodup_cons.1 h2;refine List.pairwise_cons.2 ⟨fun y d=>?_,ih f i⟩;have c:x<=y:=of_decide_eq_true (e y d);rcases Decidable.em (x<y)with h | h
  ·exact h
  ·have:x=y:=List.le_antisymm c h;subst this;exact absurd d g
theorem Qx(s:Str):∀(xs:List Str) (i k:Nat),xs[i]?=some s->(posOf s k xs==((k+i:Nat):Int)) = !((xs.take i).contains s)
 | [],i,k,h=>by simp at h
 | x::r,i,k,h=>by
  unfold posOf;cases i with
  | zero=>
   simp at h;subst h;simp
  | succ i=>
   have h:r[i]?=some s:=by simpa using h
   by_cases a:x==s
   ·rw[if_pos a];have e:x=s:=by simpa using a
    subst e;have:((k:Int)==((k+(i+1):Nat):Int))=false:=by simp;omega
    rw[this];simp
   ·rw[if_neg a];have:=Qx s r i (k+1) h;rw[show k+(i+1)=k+1+i by omega,this];have e:¬x=s:=by simpa using a
    have b:¬s=x:=fun h=>e h.symm
    simp[b]
abbrev aeY:=(List Str)×(List Str)×(List Str)×Int×Int
def acZ:aeY->Option (aeY⊕List Str):=(fun (a:(List Str)×(List Str)×(List Str)×Int×Int)=>
      bif (decide (a.2.2.2.2<a.2.2.2.1))then
       (idx a.2.2.1 a.2.2.2.2).bind fun b=>
       (jC a.1 b).bind fun c=>
       bif (c==a.2.2.2.2)then
        (gd (a.2.1.length+([b]:List Str).length)).bind fun _=>
        some (.inl (a.1,a.2.1++([b]:List Str),a.2.2.1,a.2.2.2.1,w64 (a.2.2.2.2+1)))
       else
        some (.inl (a.1,a.2.1,a.2.2.1,a.2.2.2.1,w64 (a.2.2.2.2+1)))
      else
       (
        (jc a.2.1).bind fun d=>
        some (d)
       ).bind fun r=>some (.inr r)
  )
theorem UG(xs:List Str)(r:xs.length<=1048576):∃ys,pY xs=some ys/\lY ys/\∀b,b∈ys↔b∈xs:=by
 refine dw (g:=acZ) (fun (out:List Str) (i:Nat)=>((xs,out,xs,(xs.length:Int),(i:Int)):aeY)) xs (fun i out=>out.Nodup/\out.length<=i/\∀b,b∈out↔b∈xs.take i) (fun ys=>lY ys/\∀b,b∈ys↔b∈xs) (fun i x out d j=>.inl ?_) (fun out j=>?_) [] ⟨List.Pairwise.nil,az _,by simp⟩
 ·obtain⟨f,o,e⟩:=j;have hi:=(zC.1 d).1;have l:=Qx x xs i 0 d;rw[Nat.zero_add]at l;have m:xs.take (i+1)=xs.take i++[x]:=by
   obtain⟨hi,rfl⟩:=zC.1 d;rw[List.take_succ_eq_append_getElem hi]
  simp only[acZ,bZ d,ac,aA,d,zA,qW xs x (by omega),l,bY d (by omega)];cases n:(xs.take i).contains x with
  | true=>
   refine⟨out,by simp only[aM,aa],f,by omega,fun b=>?_⟩;rw[e,m,List.mem_append];refine⟨.inl,fun h=>?_⟩;rcases h with h | h
   ·exact h
   ·rw[List.mem_singleton.1 h];simpa using n
  | false=>
   have k:x∉out:=fun h=>by
    have:=(e x).1 h;have h2:(xs.take i).contains x=true:=by simpa using this
    rw[n]at h2;cases h2
   refine⟨out++[x],?_,?_,by simp;omega,fun b=>?_⟩
   ·simp only[Bool.not_false,ac];rw[gdp (by simp;omega)];rfl
   ·rw[List.nodup_append];refine⟨f,by simp,fun a p b q=>?_⟩;rw[List.mem_singleton.1 q];rintro rfl;exact k p
   ·rw[m,List.mem_append,List.mem_append,e]
 ·obtain⟨f,o,e⟩:=j;rw[List.take_length]at e;refine⟨out.mergeSort fun x y=>decide (x<=y),?_,?_,fun b=>?_⟩
  ·simp only[acZ,bG,aa,jc];rw[gdp (by omega)];rfl
  ·refine JK (List.pairwise_mergeSort (fun a b c h1 h2=>?_) (fun a b=>?_) out) ((List.mergeSort_perm out _).nodup_iff.2 f)
   ·exact aq (List.le_trans (of_decide_eq_true h1) (of_decide_eq_true h2))
   ·rcases List.le_total a b with h | h
    ·rw[aq h];rfl
    ·rw[aq h];simp
  ·rw[(List.mergeSort_perm out _).mem_iff,e]
def uJ(x:Str):List Str->List Str
 | []=>[x]
 | y::r=>if y<x then y::uJ x r else if y=x then y::r else x::y::r
theorem Rq(x b:Str):∀(xs:List Str),b∈uJ x xs↔b=x\/b∈xs
 | []=>by simp[uJ]
 | y::r=>by
  unfold uJ;split
  ·rw[bc,Rq x b r,bc];constructor
   ·rintro (h | h | h)
    ·exact .inr (.inl h)
    ·exact .inl h
    ·exact .inr (.inr h)
   ·rintro (h | h | h)
    ·exact .inr (.inl h)
    ·exact .inl h
    ·exact .inr (.inr h)
  ·split
   ·rename_i h;subst h;rw[bc];constructor
    ·exact .inr
    ·rintro (h | h)
     ·exact .inl h
     ·exact h
   ·rw[bc]
theorem abg(x:Str):∀(xs:List Str),(uJ x xs).length<=xs.length+1
 | []=>by simp[uJ]
 | y::r=>by
  have:=abg x r;unfold uJ;split
  ·simp;omega
  ·split<;>simp
theorem Nc(x:Str):∀(xs:List Str),lY xs->lY (uJ x xs)
 | [],_=>List.pairwise_cons.2 ⟨by simp,List.Pairwise.nil⟩
 | y::r,h=>by
  obtain⟨h1,h2⟩:=List.pairwise_cons.1 h;unfold uJ;split
  ·rename_i c;refine List.pairwise_cons.2 ⟨fun b d=>?_,Nc x r h2⟩;rcases (Rq x b r).1 d with e | e
   ·rw[e];exact c
   ·exact h1 b e
  ·rename_i g;split
   ·exact h
   ·rename_i f;have a:x<y:=by
     rcases Decidable.em (x<y)with h | h
     ·exact h
     ·exact absurd (List.le_antisymm h g) f
    refine List.pairwise_cons.2 ⟨fun b d=>?_,h⟩;rcases bc.1 d with e | e
    ·rw[e];exact a
    ·exact List.lt_trans a (h1 b e)
theorem KE(x:Str):∀(a r:List Str),(∀y,y∈a->y<x)->uJ x (a++r)=a++uJ x r
 | [],r,_=>rfl
 | y::a,r,h=>by
  show (if y<x then y::uJ x (a++r)else _)=_
  rw[if_pos (h y (by simp)),KE x a r fun z b=>h z (ar _ b)];rfl
abbrev Zx:=(List Str)×(List Str)×Int
abbrev ak5:=(List Str)×(List Str)×Int×Int
def oL:ak5->Option (ak5⊕(Zx⊕List Str)):=(fun (a:(List Str)×(List Str)×Int×Int)=>
      bif (decide (a.2.2.2<(a.2.1.length:Int)))then
       (idx a.2.1 a.2.2.2).bind fun _=>
       (a.2.1[a.2.2.2.toNat]?).bind fun p=>
       (idx a.1 a.2.2.1).bind fun q=>
       bif (Op.bytesLess p q)then
        some (.inl (a.1,a.2.1,a.2.2.1,w64 (a.2.2.2+1)))
       else
       (
        bif (decide (a.2.2.2<(a.2.1.length:Int)))then
         (idx a.2.1 a.2.2.2).bind fun _=>
         (a.2.1[a.2.2.2.toNat]?).bind fun s=>
         (idx a.1 a.2.2.1).bind fun t=>
         bif (s==t)then
          some (.inl (a.1,a.2.1,w64 (a.2.2.1+1)))
         else
          (cutAt a.2.1 a.2.2.2).bind fun m=>
          (gd (0+(a.2.1.drop m).length)).bind fun _=>
          (cutAt a.2.1 a.2.2.2).bind fun b=>
          (idx a.1 a.2.2.1).bind fun c=>
          (gd ((a.2.1.take b).length+([c]:List Str).length)).bind fun _=>
          (gd (((a.2.1.take b)++([c]:List Str)).length+([]++(a.2.1.drop m)).length)).bind fun _=>
          some (.inl (a.1,((a.2.1.take b)++([c]:List Str))++([]++(a.2.1.drop m)),w64 (a.2.2.1+1)))
        else
         (cutAt a.2.1 a.2.2.2).bind fun d=>
         (gd (0+(a.2.1.drop d).length)).bind fun _=>
         (cutAt a.2.1 a.2.2.2).bind fun e=>
         (idx a.1 a.2.2.1).bind fun f=>
         (gd ((a.2.1.take e).length+([f]:List Str).length)).bind fun _=>
         (gd (((a.2.1.take e)++([f]:List Str)).length+([]++(a.2.1.drop d)).length)).bind fun _=>
         some (.inl (a.1,((a.2.1.take e)++([f]:List Str))++([]++(a.2.1.drop d)),w64 (a.2.2.1+1)))
       ).bind fun r=>some (.inr r)
      else
      (
       bif (decide (a.2.2.2<(a.2.1.length:Int)))then
        (idx a.2.1 a.2.2.2).bind fun _=>
        (a.2.1[a.2.2.2.toNat]?).bind fun n=>
        (idx a.1 a.2.2.1).bind fun o=>
        bif (n==o)then
         some (.inl (a.1,a.2.1,w64 (a.2.2.1+1)))
        else
         (cutAt a.2.1 a.2.2.2).bind fun g=>
         (gd (0+(a.2.1.drop g).length)).bind fun _=>
         (cutAt a.2.1 a.2.2.2).bind fun h=>
         (idx a.1 a.2.2.1).bind fun i=>
         (gd ((a.2.1.take h).length+([i]:List Str).length)).bind fun _=>
         (gd (((a.2.1.take h)++([i]:List Str)).length+([]++(a.2.1.drop g)).length)).bind fun _=>
         some (.inl (a.1,((a.2.1.take h)++([i]:List Str))++([]++(a.2.1.drop g)),w64 (a.2.2.1+1)))
       else
        (cutAt a.2.1 a.2.2.2).bind fun j=>
        (gd (0+(a.2.1.drop j).length)).bind fun _=>
        (cutAt a.2.1 a.2.2.2).bind fun k=>
        (idx a.1 a.2.2.1).bind fun l=>
        (gd ((a.2.1.take k).length+([l]:List Str).length)).bind fun _=>
        (gd (((a.2.1.take k)++([l]:List Str)).length+([]++(a.2.1.drop j)).length)).bind fun _=>
        some (.inl (a.1,((a.2.1.take k)++([l]:List Str))++([]++(a.2.1.drop j)),w64 (a.2.2.1+1)))
      ).bind fun r=>some (.inr r)
  )
def Oj:Zx->Option (Zx⊕List Str):=fun a=>
 bif (decide (a.2.2<(a.1.length:Int)))then
  au oL (a.1,a.2.1,a.2.2,0)
 else
  some (.inr (a.2.1))
theorem TQ(xs:List Str):uh xs=au Oj (xs,[],0):=rfl
theorem Wx{α:Type}(xs:List α)(i:Nat)(h:i<=xs.length):cutAt xs (i:Int)=some i:=by
 unfold cutAt;rw[if_pos ⟨by omega,by omega⟩];simp
theorem aj6(xs:List Str)(i:Nat)(x:Str)(g:xs[i]?=some x)(q:xs.length<=1048576)(out:List Str)(r:out.length<=1048576) :
  au oL (xs,out,(i:Int),0)=some (.inl (xs,uJ x out,((i+1:Nat):Int))):=by
 have hi:=(zC.1 g).1;have m:idx xs (i:Int)=some x:=by rw[aA,g]
 have n:w64 ((i:Int)+1)=((i+1:Nat):Int):=bY g (by omega);have key:∀(k at':Nat),out.length=at'+k->(∀y,y∈out.take at'->y<x)->au oL (xs,out,(i:Int),(at':Int))=some (.inl (xs,uJ x out,((i+1:Nat):Int))):=by
  intro k;induction k with
  | zero=>
   intro a p b;have e:a=out.length:=by omega
   subst e;rw[List.take_length]at b;have hins:uJ x out=out++[x]:=by
    have:=KE x out [] b;rw[List.append_nil]at this;exact this
   have d:oL (xs,out,(i:Int),(out.length:Int))=some (.inr (.inl (xs,uJ x out,((i+1:Nat):Int)))):=by
    simp only[oL,bG,aa,Wx out out.length (az _),zA,m,n,List.drop_length,List.take_length];rw[gdp (by simp),zA,gdp (by simp;omega),zA,gdp (by simp;omega),zA,zA,hins];simp
   rw[aC,d]
  | succ k ih=>
   intro a p b;have c:a<out.length:=by omega
   have o:=zF c;have hdec:decide ((a:Int)<(out.length:Int))=true:=by simp;omega
   have hsplit:out=out.take a++out[a]::out.drop (a+1):=by
    rw[<- List.drop_eq_getElem_cons c,List.take_append_drop]
   have hins:uJ x out=out.take a++uJ x (out[a]::out.drop (a+1)):=by
    conv=>lhs;rw[hsplit]
    exact KE x _ _ b
   by_cases j:out[a]<x
   ·have d:oL (xs,out,(i:Int),(a:Int))=some (.inl (xs,out,(i:Int),((a+1:Nat):Int))):=by
     simp only[oL,hdec,ac,aA,o,g,zA,aD,Go.Proofs.bytesLess_eq,aq j];rw[aT (by omega) (by omega)];rfl
    rw[aC,d];refine ih (a+1) (by omega) fun y h=>?_
    rw[List.take_succ_eq_append_getElem c]at h;rcases List.mem_append.1 h with h | h
    ·exact b y h
    ·rw[List.mem_singleton.1 h];exact j
   ·by_cases l:out[a]=x
    ·have hins2:uJ x out=out:=by
      rw[hins];show out.take a++(if out[a]<x then _ else if out[a]=x then out[a]::out.drop (a+1)else _)=out
      rw[if_neg j,if_pos l];exact hsplit.symm
     have d:oL (xs,out,(i:Int),(a:Int))=some (.inr (.inl (xs,uJ x out,((i+1:Nat):Int)))):=by
      have f:(out[a]==x)=true:=by simp[l]
      simp only[oL,hdec,ac,aA,o,g,zA,aD,Go.Proofs.bytesLess_eq,ae j,aa,f,n,hins2]
     rw[aC,d]
    ·have hins2:uJ x out=out.take a++[x]++out.drop a:=by
      rw[hins];show out.take a++(if out[a]<x then _ else if out[a]=x then out[a]::out.drop (a+1)else x::out[a]::out.drop (a+1))=_
      rw[if_neg j,if_neg l,<- List.drop_eq_getElem_cons c];simp
     have d:oL (xs,out,(i:Int),(a:Int))=some (.inr (.inl (xs,uJ x out,((i+1:Nat):Int)))):=by
      have f:(out[a]==x)=false:=by simp[l]
      simp only[oL,hdec,ac,aA,o,g,zA,aD,Go.Proofs.bytesLess_eq,ae j,aa,f,n,Wx out a (by omega)];rw[gdp (by simp;omega),zA,gdp (by simp;omega),zA,gdp (by simp;omega),zA,zA,hins2];simp
     rw[aC,d]
 exact key out.length 0 (by omega) (by simp)
theorem TP(xs:List Str)(f:xs.length<=1048576):∃ys,uh xs=some ys/\lY ys/\∀b,b∈ys↔b∈xs:=by
 rw[TQ];refine dw (g:=Oj) (fun (out:List Str) (i:Nat)=>((xs,out,(i:Int)):Zx)) xs (fun i out=>lY out/\out.length<=i/\∀b,b∈out↔b∈xs.take i) (fun ys=>lY ys/\∀b,b∈ys↔b∈xs) (fun i x out a d=>.inl ?_) (fun out d=>?_) [] ⟨List.Pairwise.nil,az _,by simp⟩
 ·obtain⟨e,h,c⟩:=d;have hi:=(zC.1 a).1;have j:xs.take (i+1)=xs.take i++[x]:=by
   obtain⟨hi,rfl⟩:=zC.1 a;rw[List.take_succ_eq_append_getElem hi]
  refine⟨uJ x out,?_,Nc x out e,by have:=abg x out;omega,fun b=>?_⟩
  ·simp only[Oj,bZ a,ac];exact aj6 xs i x a f out (by omega)
  ·rw[Rq,c,j,List.mem_append,List.mem_singleton];exact Or.comm
 ·obtain⟨e,h,c⟩:=d;rw[List.take_length]at c;exact⟨out,by simp only[Oj,bG,aa],e,c⟩
theorem NE(xs:List Str)(a:xs.length<=1048576):∃ys,pY xs=some ys/\uh xs=some ys/\lY ys/\∀b,b∈ys↔b∈xs:=by
 obtain⟨ys,h1,h2,c⟩:=UG xs a;obtain⟨zs,d,e,f⟩:=TP xs a;have:ys=zs:=VA h2 e fun b=>by rw[c,f]
 subst this;exact⟨ys,h1,d,h2,c⟩
theorem acW:∀ {xs:List Str} {ys:List Str},lY xs->(∀b,b∈xs->b∈ys)->xs.length<=ys.length:=by
 intro xs;induction xs with
 | nil=>intro ys _ _;exact Nat.zero_le _
 | cons x r ih=>
  intro ys h c;obtain⟨h1,h2⟩:=List.pairwise_cons.1 h;have d:=c x (by simp);have:=ih (ys:=ys.erase x) h2 fun b f=>by
   have a:b≠x:=fun e=>by subst e;exact List.lt_irrefl _ (h1 b f)
   exact (List.mem_erase_of_ne a).2 (c b (ar _ f))
  rw[List.length_erase_of_mem d]at this;have:=List.length_pos_of_mem d;simp only[List.length_cons];omega
theorem AY(e:af)(h:wtE e<=1000):∃ys,nR e=some ys/\um e=some ys/\lY ys/\ys.length<=wtE e/\∀b,b∈ys↔b∈(evE e []).map (·.1):=by
 have h1:=FV (siz e+1) e [] (Nat.lt_succ_self _) (by simp;omega);have h2:PO e []=some ((evE e []).map (·.1)):=afW _ e [] (by omega) (by simp;omega);have i:=EO e [];obtain⟨ys,d,f,a,c⟩:=NE ((evE e []).map (·.1)) (by rw[List.length_map];omega);refine⟨ys,?_,?_,a,?_,c⟩
 ·unfold nR;rw[h1,zA,gdp (by omega)];exact d
 ·unfold um;rw[aS,h2,zA,f];rfl
 ·have:=acW a fun b g=>(c b).1 g
  rw[List.length_map]at this;omega
theorem LP(a:Str)(b:a.length<=34359738368)(h:bI a=some true):a.length<=8:=by
 unfold bI at h;rw[GX a b]at h;by_cases c:(a.length:Int)<=8
 ·omega
 ·rw[ae c,Bool.and_false,Bool.and_false]at h;cases h
theorem xH(e:af)(b c:Str)(k:wtE e<=1000)(g:b.length<=34359738368)(d:c.length<=34359738368) :
  ∃(x:af) (v:Bool),kG e b c=some (x,v)/\jZ e b c=some (x,v)/\wtE x<=1000:=by
 obtain⟨v0,l,m,n⟩:=vH e (by omega);obtain⟨h,i⟩:=oK b g;obtain⟨j,f⟩:=oK c d;have o:bM b=some h:=by rw[<- nY b g,i]
 have p:bM c=some j:=by rw[<- nY c d,f]
 obtain⟨q,r,s⟩:=DJ e b c k;have t:Rz e b c=some (NH b c e):=afu b c _ e (by omega) (by omega);have a:wtE ⟨0,0,[],[]⟩<=1000:=by rw[DU];simp[wtL]
 unfold kG jZ;simp only[aS,l,m,i,f,o,p,r,s,t,zA];cases v0 with
 | false=>exact⟨_,_,rfl,rfl,a⟩
 | true=>
  obtain⟨hv,hw40⟩:=n rfl;have u:F8 e b c=some (NH b c e):=afs b c _ e (by omega) (by omega) hv;simp only[u,zA,aM,aa];cases h with
  | false=>exact⟨_,_,rfl,rfl,a⟩
  | true=>
   cases j with
   | false=>exact⟨_,_,rfl,rfl,a⟩
   | true=>
    have w:=LP c d f;cases q with
    | true=>exact⟨_,_,rfl,rfl,a⟩
    | false=>exact⟨NH b c e,true,rfl,rfl,by have:=afv b c (by omega) e;omega⟩
theorem ahA(ys:List Str)(b:Str)(c:ys.length<=34359738368):∃p:Int,jC ys b=some p/\kV ys b=some (!(decide (p<0))):=by
 refine⟨posOf b 0 ys,qW ys b c,?_⟩;rw[nZ ys b c];have h:=pV b ys 0;cases a:ys.contains b with
 | false=>rw[aq (h.2 a)];rfl
 | true=>
  have:¬posOf b 0 ys<0:=fun hh=>by rw[h.1 hh]at a;cases a
  rw[ae this];rfl
theorem Xb{α X Y ρ σ:Type}{f:X->Option (X⊕ρ)}{g:Y->Option (Y⊕ρ)}(px:σ->Nat->X)(py:σ->Nat->Y)(xs:List α)(I:Nat->σ->Prop)(R:ρ->Prop)
  (j:∀i x s,xs[i]?=some x->I i s->(∃s',f (px s i)=some (.inl (px s' (i+1)))/\g (py s i)=some (.inl (py s' (i+1)))/\I (i+1) s')\/∃r,f (px s i)=some (.inr r)/\g (py s i)=some (.inr r)/\R r)
  (l:∀s,I xs.length s->∃r,f (px s xs.length)=some (.inr r)/\g (py s xs.length)=some (.inr r)/\R r) (s:σ) (m:I 0 s):∃r,au f (px s 0)=some r/\au g (py s 0)=some r/\R r:=by
 have key:∀(k i:Nat) (s:σ),xs.length=i+k->I i s->∃r,au f (px s i)=some r/\au g (py s i)=some r/\R r:=by
  intro k;induction k with
  | zero=>
   intro i s hi d;have:i=xs.length:=by omega
   subst this;obtain⟨r,a,b,c⟩:=l s d;exact⟨r,by rw[aC,a],by rw[aC,b],c⟩
  | succ k ih=>
   intro i s hi d;have e:i<xs.length:=by omega
   rcases j i _ s (zF e) d with ⟨s',a,b,h⟩ | ⟨r,a,b,c⟩
   ·obtain⟨r,n,o,c⟩:=ih (i+1) s' (by omega) h;exact⟨r,by rw[aC,a];exact n,by rw[aC,b];exact o,c⟩
   ·exact⟨r,by rw[aC,a],by rw[aC,b],c⟩
 exact key xs.length 0 s (by omega) m
end
end Go.Proofs.YtbbmkcioplbhbaaGreatDoor
/- Plain laws: tables out of a text: ParseData alike on both sides. -/
namespace Go.Proofs.YtbbmkcioplbhbaaGreatDoor
noncomputable section
open Go.Abs Go.Proofs
theorem uz{ρ:Type}{x:Option ρ}{v:ρ}(h:∃r,x=some r/\r=v):x=some v:=by
 obtain⟨r,e,rfl⟩:=h;exact e
theorem apZ{ρ σ:Type}{x:Option ρ}{F:σ->ρ}(h:∃r,x=some r/\∃y,r=F y):∃y,x=some (F y):=by
 obtain⟨r,e,y,rfl⟩:=h;exact⟨y,e⟩
def jF{α:Type}(p:Nat->α->Bool):Nat->List α->Bool
 | _,[]=>true
 | i,x::r=>p i x&&jF p (i+1) r
theorem qE{α X ρ:Type}{g:X->Option (X⊕ρ)}(pk:Nat->X)(xs:List α)(p:Nat->α->Bool)(no yes:ρ)
  (c:∀i x,xs[i]?=some x->g (pk i)=bif p i x then some (.inl (pk (i+1)))else some (.inr no))
  (d:g (pk xs.length)=some (.inr yes)):au g (pk 0)=some (bif jF p 0 xs then yes else no):=by
 have key:∀(ys:List α) (i:Nat),xs.drop i=ys->i<=xs.length->au g (pk i)=some (bif jF p i ys then yes else no):=by
  intro ys;induction ys with
  | nil=>
   intro i hd hi;have h2:xs.length<=i:=List.drop_eq_nil_iff.1 hd;have:i=xs.length:=by omega
   subst this;rw[aC,d];rfl
  | cons y r ih=>
   intro i hd hi;have b:xs[i]?=some y:=by
    have:=congrArg (·[0]?) hd;simpa using this
   have a:=(zC.1 b).1;rw[aC,c i y b];show _=some (bif (p i y&&jF p (i+1) r)then yes else no)
   cases p i y with
   | true=>
    simp only[ac,Bool.true_and];refine ih (i+1) ?_ a;have:=congrArg List.tail hd;simpa using this
   | false=>rfl
 exact key xs 0 rfl (Nat.zero_le _)
def zx(p:Str):Option Int:=match mF p (-1000000000) 1000000000 with
 | some (v,true)=>some v
 | _=>none
theorem numI(p:Str)(b:p.length<=1048576):∃v,mF p (-1000000000) 1000000000=some (v,(zx p).isSome)/\(∀u,zx p=some u->v=u):=by
 obtain⟨v,ok,e,_,_⟩:=Nk p (-1000000000) 1000000000 (by omega) (by omega) (by omega);unfold zx;rw[e];cases ok with
 | true=>exact⟨v,rfl,fun u a=>by cases a;rfl⟩
 | false=>exact⟨v,rfl,fun u a=>by cases a⟩
theorem numS(p:Str)(q:p.length<=1048576):∃v ok,jP p=some (v,ok)/\(zx p).isSome=(ok&&(decide (v>=-1000000000)&&decide (v<=1000000000)))/\(∀u,zx p=some u->v=u):=by
 obtain⟨v,ok,e,h1,h2⟩:=PD p (by omega);obtain⟨w,a,i,j,n⟩:=Nk p (-1000000000) 1000000000 (by omega) (by omega) (by omega);refine⟨v,ok,e,?_,?_⟩
 ·unfold zx;rw[i];cases a with
  | true=>
   obtain⟨b,k,l⟩:=j rfl;cases ok with
   | true=>
    obtain⟨c,d,f⟩:=h1 rfl;have:v=w:=aa9 ⟨d,f⟩ (c.trans b.symm) ⟨by omega,by omega⟩;subst this;rw[aq k,aq l];rfl
   | false=>exact absurd b ((h2 rfl).2 w (by omega) (by omega))
  | false=>
   cases ok with
   | false=>rfl
   | true=>
    obtain⟨c,d,f⟩:=h1 rfl;by_cases h:v>=-1000000000/\v<=1000000000
    ·exact absurd c ((n rfl).2 v h.1 h.2)
    ·have:(decide (v>=-1000000000)&&decide (v<=1000000000))=false:=by
      by_cases m:v>=-1000000000
      ·rw[ae (fun o=>h ⟨m,o⟩),Bool.and_false]
      ·rw[ae m,Bool.false_and]
     rw[this];rfl
 ·intro u g;unfold zx at g;rw[i]at g;cases a with
  | false=>cases g
  | true=>
   cases g
   obtain⟨b,k,l⟩:=j rfl;cases ok with
   | true=>
    obtain⟨c,d,f⟩:=h1 rfl;exact aa9 ⟨d,f⟩ (c.trans b.symm) ⟨by omega,by omega⟩
   | false=>exact absurd b ((h2 rfl).2 w (by omega) (by omega))
def numsOf:List Str->Option (List Int)
 | []=>some []
 | p::r=>(zx p).bind fun v=>(numsOf r).map (v :: ·)
theorem wM:∀(a b:List Str),numsOf (a++b)=(numsOf a).bind fun x=>(numsOf b).map (x ++ ·)
 | [],b=>by simp[numsOf]
 | p::r,b=>by
  show (zx p).bind (fun v=>(numsOf (r++b)).map (v :: ·))=((zx p).bind fun v=>(numsOf r).map (v :: ·)).bind fun x=>(numsOf b).map (x ++ ·)
  rw[wM r b];cases zx p with
  | none=>rfl
  | some v=>
   simp only[zA];cases numsOf r with
   | none=>rfl
   | some x=>
    simp only[zA,Option.map_some];cases numsOf b<;>rfl
theorem Gu:∀ {a:List Str} {x:List Int},numsOf a=some x->x.length=a.length
 | [],x,h=>by cases h;rfl
 | p::r,x,h=>by
  have h:(zx p).bind (fun v=>(numsOf r).map (v :: ·))=some x:=h;cases c:zx p with
  | none=>rw[c]at h;cases h
  | some v=>
   rw[c]at h;simp only[zA]at h;cases b:numsOf r with
   | none=>rw[b]at h;cases h
   | some y=>
    rw[b]at h;cases h
    simp[Gu b]
theorem MS{xs:List Str}{i:Nat}{p:Str}(h:xs[i]?=some p)(a:zx p=none):numsOf xs=none:=by
 obtain⟨hi,rfl⟩:=zC.1 h;have e:xs=xs.take i++(xs[i]::xs.drop (i+1)):=by rw[<- List.drop_eq_getElem_cons hi,List.take_append_drop]
 rw[e,wM];have:numsOf (xs[i]::xs.drop (i+1))=none:=by
  show (zx xs[i]).bind _=none
  rw[a];rfl
 rw[this];cases numsOf (xs.take i)<;>rfl
theorem MR{xs:List Str}{i:Nat}{p:Str}{v:Int}{out:List Int}(h:xs[i]?=some p)(a:numsOf (xs.take i)=some out)(b:zx p=some v):numsOf (xs.take (i+1))=some (out++[v]):=by
 obtain⟨hi,rfl⟩:=zC.1 h;rw[List.take_succ_eq_append_getElem hi,wM,a];show (Option.some out).bind (fun x=>((zx xs[i]).bind fun v=>(numsOf []).map (v :: ·)).map (x ++ ·))=_
 rw[b];rfl
theorem al8(a:Str)(b:Int)(k:a.length<=100000):yx a b=some (match numsOf (Go.Lib.split a [32])with
  | some l=>(l,(l.length:Int)==b)
  | none=>([],false)):=by
 obtain⟨h,g⟩:=jm a [32];unfold yx;rw[show (32:Int)=((32:UInt8).toNat:Int)from rfl,KF a 32 (by omega)];simp only[zA];generalize Go.Lib.split a [32]=ps at h g;refine uz (dw (fun (out:List Int) (i:Nat)=>((b,out,ps,(ps.length:Int),(i:Int)):Int×(List Int)×(List Str)×Int×Int)) ps (fun i out=>numsOf (ps.take i)=some out) _ (fun i p out c d=>?_) (fun out d=>?_) [] rfl)
 ·have hi:=(zC.1 c).1;obtain⟨v,e,hv⟩:=numI p (by have:=g p (zG c);omega);simp only[bZ c,ac,aA,c,zA,aD,e,bY c (by omega)];cases f:zx p with
  | none=>exact .inr ⟨_,rfl,by rw[MS c f]⟩
  | some u=>
   have:=hv u f;subst this;have j:=Gu d;rw[ba]at j;refine .inl ⟨out++[v],?_,MR c d f⟩;rw[gdp (by simp;omega)];rfl
 ·rw[List.take_length]at d;exact⟨_,by simp only[bG,aa];rfl,by rw[d]⟩
theorem alu(a:Str)(b:Int)(n:a.length<=100000):∃xs,Ed a b=some (match numsOf (Go.Lib.split a [32])with
  | some l=>(l,(l.length:Int)==b)
  | none=>(xs,false)):=by
 obtain⟨k,j⟩:=jm a [32];unfold Ed;rw[show (32:Int)=((32:UInt8).toNat:Int)from rfl,JQ a 32 (by omega)];simp only[zA];generalize Go.Lib.split a [32]=ps at k j;refine apZ (dw (fun (out:List Int) (i:Nat)=>((b,out,ps,(i:Int)):Int×(List Int)×(List Str)×Int)) ps (fun i out=>numsOf (ps.take i)=some out) (fun r=>∃xs,r=(match numsOf ps with
  | some l=>(l,(l.length:Int)==b)
  | none=>(xs,false))) (fun i p out d g=>?_) (fun out g=>?_) [] rfl)
 ·have hi:=(zC.1 d).1;obtain⟨v,ok,e,c,hv⟩:=numS p (by have:=j p (zG d);omega);have m:=Gu g;rw[ba]at m;have hnum:pI v=some (decide (v>=-1000000000)&&decide (v<=1000000000)):=by
   unfold pI;rw[nX];rfl
  simp only[bZ d,ac,aA,d,zA,aD,e,hnum,bY d (by omega)];cases h:zx p with
  | none=>
   rw[h]at c;have c:(ok&&(decide (v>=-1000000000)&&decide (v<=1000000000)))=false:=c.symm;refine .inr ⟨(out,false),?_,out,by rw[MS d h]⟩;cases ok with
   | false=>rfl
   | true=>
    rw[Bool.true_and]at c;rw[c];rfl
  | some u=>
   have:=hv u h;subst this;rw[h]at c;have c:true=(ok&&(decide (v>=-1000000000)&&decide (v<=1000000000))):=c;have f:=c.symm;rw[zI]at f;refine .inl ⟨out++[v],?_,MR d g h⟩;rw[f.1,f.2,gdp (by simp;omega)];rfl
 ·rw[List.take_length]at g;exact⟨_,by simp only[bG,aa];rfl,[],by rw[g]⟩
theorem akG{α:Type}(a:List α)(k:Nat)(h:k<=a.length):eff.cutL a none (some (k:Int))=some (a.take k):=by
 unfold eff.cutL;simp only[Option.getD_none,Option.getD_some];rw[if_pos]
 ·simp
 ·omega
theorem ace{α:Type}(x:α)(r:List α):eff.cutL (x::r) (some 1) none=some r:=by
 unfold eff.cutL;simp only[Option.getD_none,Option.getD_some];rw[if_pos]
 ·simp
 ·simp;omega
theorem Zv(b:Bool):(bif b then true else false)=b:=by cases b<;>rfl
def Wp(xs:List Str):Bool:=jF (fun i x=>!((xs.take i).contains x)) 0 xs
theorem akf(xs:List Str)(c:xs.length<=1048576):sG xs=some (Wp xs):=by
 unfold sG;refine (qE (fun i=>((xs,xs,(xs.length:Int),(i:Int)):(List Str)×(List Str)×Int×Int)) xs (fun i x=>!((xs.take i).contains x)) false true (fun i x a=>?_) ?_).trans (congrArg some (Zv _))
 ·have b:=Qx x xs i 0 a;rw[Nat.zero_add]at b;simp only[bZ a,ac,aA,a,zA,qW xs x (by omega),bne,b,bY a (by omega)];cases (xs.take i).contains x<;>rfl
 ·simp only[bG,aa]
theorem aiV(xs:List Str)(b:xs.length<=1048576):rV xs=some (Wp xs):=by
 unfold rV;refine (qE (fun i=>((xs,(i:Int)):(List Str)×Int)) xs (fun i x=>!((xs.take i).contains x)) false true (fun i x a=>?_) ?_).trans (congrArg some (Zv _))
 ·have hi:=(zC.1 a).1;simp only[bZ a,ac,aA,a,zA,akG xs i (by omega),nZ (xs.take i) x (by rw[ba];omega),bY a (by omega)];cases (xs.take i).contains x<;>rfl
 ·simp only[bG,aa]
def DC(xs:List Str):Bool:=jF (fun _ x=>fQ x) 0 xs&&((decide (1<=(xs.length:Int))&&decide ((xs.length:Int)<=4))&&Wp xs)
theorem abG(xs:List Str)(b:xs.length<=1048576)(c:∀x,x∈xs->x.length<=120):qY xs=some (DC xs):=by
 unfold qY;refine (qE (fun i=>((xs,xs,(xs.length:Int),(i:Int)):(List Str)×(List Str)×Int×Int)) xs (fun _ x=>fQ x) false ((decide (1<=(xs.length:Int))&&decide ((xs.length:Int)<=4))&&Wp xs) (fun i x a=>?_) ?_).trans ?_
 ·simp only[bZ a,ac,aA,a,zA,Ey x (c x (zG a)),bY a (by omega)];cases fQ x<;>rfl
 ·simp only[bG,aa,zS,zA,akf xs b];cases (decide (1<=(xs.length:Int))&&decide ((xs.length:Int)<=4))<;>rfl
 ·unfold DC;cases jF (fun _ x=>fQ x) 0 xs<;>rfl
theorem aaw(xs:List Str)(b:xs.length<=1048576)(c:∀x,x∈xs->x.length<=120):ul xs=some (DC xs):=by
 unfold ul;refine (qE (fun i=>((xs,(i:Int)):(List Str)×Int)) xs (fun _ x=>fQ x) false ((decide (1<=(xs.length:Int))&&decide ((xs.length:Int)<=4))&&Wp xs) (fun i x a=>?_) ?_).trans ?_
 ·simp only[bZ a,ac,aA,a,zA,D7 x (c x (zG a)),bY a (by omega)];cases fQ x<;>rfl
 ·simp only[bG,aa,nX,zA,aiV xs b];show _=some (Sum.inr ((decide ((xs.length:Int)>=1)&&decide ((xs.length:Int)<=4))&&Wp xs))
  cases (decide ((xs.length:Int)>=1)&&decide ((xs.length:Int)<=4))<;>rfl
 ·unfold DC;cases jF (fun _ x=>fQ x) 0 xs<;>rfl
def inR(n:Int):Bool:=decide (-1000000000<=n)&&decide (n<=1000000000)
theorem aen(n:Int):EC n=some (inR n):=by
 unfold EC;rw[zS];rfl
theorem ac5(n:Int):pI n=some (inR n):=by
 unfold pI;rw[nX];rfl
def rowB(w:Int)(r:bD):Bool:=((r.cells.length:Int)==w)&&jF (fun _ n=>inR n) 0 r.cells
def JF(cols:List Str)(rows:List bD):Bool:=DC cols&&(decide ((rows.length:Int)<=12)&&jF (fun _ r=>rowB (cols.length:Int) r) 0 rows)
theorem ahs(n step:Int)(text:Str)(cols:List Str)(rows:List bD)(e:cols.length<=1048576)(f:∀x,x∈cols->x.length<=120)(g:∀r,r∈rows->r.orig=[]/\r.cells.length<=1048576) :
  Dj ⟨5,n,step,text,[],cols,rows⟩=some (JF cols rows):=by
 unfold Dj JF;simp only[abG cols e f,zA];cases DC cols with
 | false=>rfl
 | true=>
  simp only[aM,aa,Bool.true_and];by_cases a:(rows.length:Int)>12
  ·rw[aq a,ae (by omega)];rfl
  ·rw[ae a,aq (by omega)];simp only[aa,Bool.true_and];refine (qE (fun i=>((5,n,step,text,[],cols,rows,rows,(rows.length:Int),(i:Int)):Int×Int×Int×Str×(List aF)×(List Str)×(List bD)×(List bD)×Int×Int)) rows (fun _ r=>rowB (cols.length:Int) r) false true (fun i r b=>?_) ?_).trans (congrArg some (Zv _))
   ·obtain⟨h,k⟩:=g r (zG b);have c:=bY b (by omega);simp only[bZ b,ac,aA,b,zA,h,bne];unfold rowB;cases ((r.cells.length:Int)==(cols.length:Int))with
    | false=>rfl
    | true=>
     simp only[aM,aa,Bool.true_and];refine (qE (fun j=>((5,n,step,text,[],cols,rows,r.cells,[],rows,(rows.length:Int),(i:Int),r.cells,(r.cells.length:Int),(j:Int)):Int×Int×Int×Str×(List aF)×(List Str)×(List bD)×(List Int)×(List bQ)×(List bD)×Int×Int×(List Int)×Int×Int)) r.cells (fun _ m=>inR m) (Sum.inr false) (Sum.inl (5,n,step,text,[],cols,rows,rows,(rows.length:Int),((i+1:Nat):Int))) (fun j m d=>?_) ?_).trans ?_
     ·simp only[bZ d,ac,aA,d,zA,aen,bY d (by omega)];cases inR m<;>rfl
     ·simp only[bG,aa];rw[aC];simp only[List.length_nil,Int.ofNat_zero,Int.lt_irrefl,decide_false,aa,c,zA]
     ·cases jF (fun _ m=>inR m) 0 r.cells<;>rfl
   ·simp only[bG,aa]
theorem aiZ:rQ []=some true:=by
 unfold rQ;rw[aC];rfl
theorem agD(n step:Int)(text:Str)(cols:List Str)(rows:List bD)(e:cols.length<=1048576)(f:∀x,x∈cols->x.length<=120)(g:∀r,r∈rows->r.orig=[]/\r.cells.length<=1048576) :
  Ih ⟨5,n,step,text,[],cols,rows⟩=some (JF cols rows):=by
 unfold Ih JF;simp only[aaw cols e f,zA];cases DC cols with
 | false=>rfl
 | true=>
  simp only[aM,aa,Bool.true_and];by_cases a:(rows.length:Int)>12
  ·rw[aq a,ae (by omega)];rfl
  ·rw[ae a,aq (by omega)];simp only[aa,Bool.true_and];refine (qE (fun i=>((5,n,step,text,[],cols,rows,(i:Int)):Int×Int×Int×Str×(List aF)×(List Str)×(List bD)×Int)) rows (fun _ r=>rowB (cols.length:Int) r) false true (fun i r b=>?_) ?_).trans (congrArg some (Zv _))
   ·obtain⟨h,k⟩:=g r (zG b);have c:=bY b (by omega);simp only[bZ b,ac,aA,b,zA,h,aiZ,bne];unfold rowB;cases ((r.cells.length:Int)==(cols.length:Int))with
    | false=>rfl
    | true=>
     simp only[aM,aa,Bool.true_and];refine (qE (fun j=>((5,n,step,text,[],cols,rows,(i:Int),r.cells,[],(j:Int)):Int×Int×Int×Str×(List aF)×(List Str)×(List bD)×Int×(List Int)×(List bQ)×Int)) r.cells (fun _ m=>inR m) (Sum.inr false) (Sum.inl (5,n,step,text,[],cols,rows,((i+1:Nat):Int))) (fun j m d=>?_) ?_).trans ?_
     ·simp only[bZ d,ac,aA,d,zA,ac5,bY d (by omega)];cases inR m<;>rfl
     ·simp only[bG,aa,c]
     ·cases jF (fun _ m=>inR m) 0 r.cells<;>rfl
   ·simp only[bG,aa]
theorem IZ(cols:List Str)(rows:List bD)(a:cols.length<=1048576)(b:∀x,x∈cols->x.length<=120)(c:∀r,r∈rows->r.orig=[]/\r.cells.length<=1048576) :
  qp ⟨5,0,0,[],[],cols,rows⟩=some (JF cols rows):=by
 have h:=ahs 0 0 [] cols rows a b c;show jU ⟨5,0,0,[],[],cols,rows⟩=_
 unfold jU;simp only[h,zA];cases ((cols.length:Int)==0)<;>rfl
theorem Ib(cols:List Str)(rows:List bD)(a:cols.length<=1048576)(b:∀x,x∈cols->x.length<=120)(c:∀r,r∈rows->r.orig=[]/\r.cells.length<=1048576) :
  qm ⟨5,0,0,[],[],cols,rows⟩=some (JF cols rows):=by
 have h:=agD 0 0 [] cols rows a b c;show jQ ⟨5,0,0,[],[],cols,rows⟩=_
 unfold jQ;simp only[h,zA];rfl
def rowOf(w:Int)(p:Str):Option bD:=match numsOf (Go.Lib.split p [32])with
 | some l=>if (l.length:Int)==w then some ⟨l,[]⟩else none
 | none=>none
def rowsOf(w:Int):List Str->Option (List bD)
 | []=>some []
 | p::r=>(rowOf w p).bind fun v=>(rowsOf w r).map (v :: ·)
theorem wJ(w:Int):∀(a b:List Str),rowsOf w (a++b)=(rowsOf w a).bind fun x=>(rowsOf w b).map (x ++ ·)
 | [],b=>by simp[rowsOf]
 | p::r,b=>by
  show (rowOf w p).bind (fun v=>(rowsOf w (r++b)).map (v :: ·))=((rowOf w p).bind fun v=>(rowsOf w r).map (v :: ·)).bind fun x=>(rowsOf w b).map (x ++ ·)
  rw[wJ w r b];cases rowOf w p with
  | none=>rfl
  | some v=>
   simp only[zA];cases rowsOf w r with
   | none=>rfl
   | some x=>
    simp only[zA,Option.map_some];cases rowsOf w b<;>rfl
theorem MJ{w:Int}{xs:List Str}{i:Nat}{p:Str}(h:xs[i]?=some p)(a:rowOf w p=none):rowsOf w xs=none:=by
 obtain⟨hi,rfl⟩:=zC.1 h;have e:xs=xs.take i++(xs[i]::xs.drop (i+1)):=by rw[<- List.drop_eq_getElem_cons hi,List.take_append_drop]
 rw[e,wJ];have:rowsOf w (xs[i]::xs.drop (i+1))=none:=by
  show (rowOf w xs[i]).bind _=none
  rw[a];rfl
 rw[this];cases rowsOf w (xs.take i)<;>rfl
theorem MI{w:Int}{xs:List Str}{i:Nat}{p:Str}{v:bD}{out:List bD}(h:xs[i]?=some p)(a:rowsOf w (xs.take i)=some out)(b:rowOf w p=some v):rowsOf w (xs.take (i+1))=some (out++[v]):=by
 obtain⟨hi,rfl⟩:=zC.1 h;rw[List.take_succ_eq_append_getElem hi,wJ,a];show (Option.some out).bind (fun x=>((rowOf w xs[i]).bind fun v=>(rowsOf w []).map (v :: ·)).map (x ++ ·))=_
 rw[b];rfl
theorem pR{w:Int}:∀ {a:List Str} {x:List bD},rowsOf w a=some x->x.length=a.length/\∀r,r∈x->r.orig=[]/\(r.cells.length:Int)=w
 | [],x,h=>by cases h;exact⟨rfl,fun r c=>by cases c⟩
 | p::r,x,h=>by
  have h:(rowOf w p).bind (fun v=>(rowsOf w r).map (v :: ·))=some x:=h;cases b:rowOf w p with
  | none=>rw[b]at h;cases h
  | some v=>
   rw[b]at h;simp only[zA]at h;cases c:rowsOf w r with
   | none=>rw[c]at h;cases h
   | some y=>
    rw[c]at h;cases h
    obtain⟨h1,h2⟩:=pR c;refine⟨by simp[h1],fun q d=>?_⟩;rcases bc.1 d with rfl | d
    ·unfold rowOf at b;split at b
     ·rename_i l _;split at b
      ·rename_i e;cases b
       exact⟨rfl,by simpa using e⟩
      ·cases b
     ·cases b
    ·exact h2 q d
theorem afq(w:Int)(p:Str)(a:p.length<=100000):∃l ok,yx p w=some (l,ok)/\((ok=false/\rowOf w p=none)\/(ok=true/\rowOf w p=some ⟨l,[]⟩)):=by
 rw[al8 p w a];unfold rowOf;cases numsOf (Go.Lib.split p [32])with
 | none=>exact⟨_,_,rfl,.inl ⟨rfl,rfl⟩⟩
 | some l=>
  refine⟨l,_,rfl,?_⟩;cases h:((l.length:Int)==w)with
  | true=>exact .inr ⟨rfl,by simpa using h⟩
  | false=>exact .inl ⟨rfl,by simpa using h⟩
theorem afp(w:Int)(p:Str)(a:p.length<=100000):∃l ok,Ed p w=some (l,ok)/\((ok=false/\rowOf w p=none)\/(ok=true/\rowOf w p=some ⟨l,[]⟩)):=by
 obtain⟨xs,e⟩:=alu p w a;rw[e];unfold rowOf;cases numsOf (Go.Lib.split p [32])with
 | none=>exact⟨_,_,rfl,.inl ⟨rfl,rfl⟩⟩
 | some l=>
  refine⟨l,_,rfl,?_⟩;cases h:((l.length:Int)==w)with
  | true=>exact .inr ⟨rfl,by simpa using h⟩
  | false=>exact .inl ⟨rfl,by simpa using h⟩
def dataOf(a:Str)(ps:List Str):aF×Bool:=match rowsOf ((Go.Lib.split a [32]).length:Int) ps with
 | none=>(⟨0,0,0,[],[],[],[]⟩,false)
 | some rows=>if JF (Go.Lib.split a [32]) rows=true then (⟨5,0,0,[],[],Go.Lib.split a [32],rows⟩,true)else (⟨0,0,0,[],[],[],[]⟩,false)
theorem Qy(a:Str):∃b ps,Go.Lib.split a [59,32]=b::ps:=List.exists_cons_of_ne_nil (aiD a [59,32])
theorem RZ(a:Str)(z:a.length<=120){b:Str}{ps:List Str}(c:Go.Lib.split a [59,32]=b::ps):nP a=some (dataOf b ps):=by
 obtain⟨k,g⟩:=jm a [59,32];rw[c]at k g;have A:=g b (by simp);obtain⟨n,m⟩:=jm b [32];unfold nP dataOf;have o:kR a [59,32]=some (b::ps):=by
  unfold kR;rw[if_pos ⟨by omega,by simp⟩,c]
 have q:lH b 32=some (Go.Lib.split b [32]):=KF b 32 (by omega);have s:idx (b::ps) 0=some b:=rfl;have t:(b::ps)[0]?=some b:=rfl;simp only[o,s,t,q,ace,zA];generalize hcols:Go.Lib.split b [32]=cols at n m;refine uz (dw (fun (out:List bD) (i:Nat)=>((0,0,0,[],[],[],[],5,0,0,[],[],cols,out,ps,(ps.length:Int),(i:Int)):Int×Int×Int×Str×(List aF)×(List Str)×(List bD)×Int×Int×Int×Str×(List aF)×(List Str)×(List bD)×(List Str)×Int×Int)) ps (fun i out=>rowsOf (cols.length:Int) (ps.take i)=some out) _ (fun i p out c f=>?_) (fun out f=>?_) [] rfl)
 ·have u:=g p (ar _ (zG c));obtain⟨l,ok,e,d⟩:=afq (cols.length:Int) p (by omega);have v:=(zC.1 c).1;have h:=(pR f).1;rw[ba]at h;simp only[List.length_cons]at k;simp only[bZ c,ac,aA,c,zA,e,bY c (by omega)];rcases d with ⟨rfl,d⟩ | ⟨rfl,d⟩
  ·exact .inr ⟨_,rfl,by rw[MJ c d]⟩
  ·refine .inl ⟨out++[⟨l,[]⟩],?_,MI c f d⟩;rw[gdp (by simp;omega)];rfl
 ·rw[List.take_length]at f;obtain⟨w,j⟩:=pR f;have hv:=IZ cols out (by omega) (fun x y=>by have:=m x y;omega) (fun r d=>by have:=j r d;exact⟨this.1,by omega⟩);refine⟨_,?_,rfl⟩;simp only[bG,aa,hv,zA,f];cases JF cols out<;>rfl
theorem aiW(a:Str)(B:a.length<=120){b:Str}{ps:List Str}(c:Go.Lib.split a [59,32]=b::ps):uj a=some (dataOf b ps):=by
 obtain⟨n,g⟩:=jm a [59,32];rw[c]at n g;have C:=g b (by simp);obtain⟨q,o⟩:=jm b [32];unfold uj dataOf;have s:sS a=some (b::ps):=by rw[VG a (by omega),c]
 have t:nJ b 32=some (Go.Lib.split b [32]):=JQ b 32 (by omega);have u:idx (b::ps) 0=some b:=rfl;have v:(b::ps)[0]?=some b:=rfl;simp only[s,u,v,t,zA];generalize hcols:Go.Lib.split b [32]=cols at q o;refine uz (dw (fun (out:List bD) (i:Nat)=>((0,0,0,[],[],[],[],b::ps,5,0,0,[],[],cols,out,((i+1:Nat):Int)):Int×Int×Int×Str×(List aF)×(List Str)×(List bD)×(List Str)×Int×Int×Int×Str×(List aF)×(List Str)×(List bD)×Int)) ps (fun i out=>rowsOf (cols.length:Int) (ps.take i)=some out) _ (fun i p out c f=>?_) (fun out f=>?_) [] rfl)
 ·have w:=g p (ar _ (zG c));obtain⟨l,ok,e,d⟩:=afp (cols.length:Int) p (by omega);have y:=(zC.1 c).1;have h:=(pR f).1;rw[ba]at h;simp only[List.length_cons]at n;have j:decide (((i+1:Nat):Int)<((b::ps).length:Int))=true:=by simp;omega
  have k:(b::ps)[i+1]?=some p:=by simpa using c
  have z:w64 (((i+1:Nat):Int)+1)=((i+1+1:Nat):Int):=by rw[aT (by omega) (by omega)];omega
  simp only[j,ac,aA,k,zA,aD,e,z];rcases d with ⟨rfl,d⟩ | ⟨rfl,d⟩
  ·exact .inr ⟨_,rfl,by rw[MJ c d]⟩
  ·refine .inl ⟨out++[⟨l,[]⟩],?_,MI c f d⟩;rw[gdp (by simp;omega)];rfl
 ·rw[List.take_length]at f;obtain⟨A,m⟩:=pR f;have hv:=Ib cols out (by omega) (fun x k=>by have:=o x k;omega) (fun r d=>by have:=m r d;exact⟨this.1,by omega⟩);have j:decide (((ps.length+1:Nat):Int)<((b::ps).length:Int))=false:=by simp
  refine⟨_,?_,rfl⟩;simp only[j,aa,hv,zA,f];cases JF cols out<;>rfl
theorem aeP(a:Str)(f:a.length<=120):∃v ok,nP a=some (v,ok)/\uj a=some (v,ok)/\(ok=true->∃cols rows,v=⟨5,0,0,[],[],cols,rows⟩/\JF cols rows=true/\cols.length<=122/\(∀x,x∈cols->x.length<=120)/\rows.length<=122/\∀r,r∈rows->r.orig=[]/\r.cells.length<=122):=by
 obtain⟨b,ps,d⟩:=Qy a;refine⟨(dataOf b ps).1,(dataOf b ps).2,RZ a f d,aiW a f d,fun h=>?_⟩;obtain⟨g,i⟩:=jm a [59,32];rw[d]at g i;simp only[List.length_cons]at g;have m:=i b (by simp);obtain⟨n,j⟩:=jm b [32];unfold dataOf at h ⊢;cases c:rowsOf ((Go.Lib.split b [32]).length:Int) ps with
 | none=>rw[c]at h;cases h
 | some rows=>
  rw[c]at h;simp only at h ⊢;by_cases e:JF (Go.Lib.split b [32]) rows=true
  ·rw[if_pos e];obtain⟨o,k⟩:=pR c;exact⟨_,rows,rfl,e,by omega,fun x l=>by have:=j x l;omega,by omega,fun r c=>by have:=k r c;exact⟨this.1,by omega⟩⟩
  ·rw[if_neg e]at h;cases h
end
end Go.Proofs.YtbbmkcioplbhbaaGreatDoor
