import Derived.Test.YtkebfkahdmddpaaGreatDoorRt3
import Derived.Test.YtkebfkahdmddpaaGreatDoorPlain1
import Derived.Sort.Walk0
set_option linter.unusedSimpArgs false
set_option linter.unusedVariables false
/- Plain laws: free names, captured names, sorted names: alike on both sides. -/
namespace Go.Proofs.YtkebfkahdmddpaaGreatDoor
noncomputable section
open Go.Abs Go.Proofs
mutual
def evE:af->List Str->List (Str×List Str)
 | ⟨k,_,t,a⟩,bound=>if ((k==3)&&!(bound.contains t))=true then [(t,bound)]else evL a ((k==7)||(k==9)) t bound 0
def evL:List af->Bool->Str->List Str->Nat->List (Str×List Str)
 | [],_,_,_,_=>[]
 | x::r,bi,t,bound,i=>(if (bi&&decide (0<i))=true then evE x (bound++[t])else evE x bound)++evL r bi t bound (i+1)
end
theorem AL(e:af)(bound:List Str):evE e bound=if ((e.kind==3)&&!(bound.contains e.text))=true then [(e.text,bound)]else evL e.args ((e.kind==7)||(e.kind==9)) e.text bound 0:=by cases e;rfl
def evP(bi:Bool)(t:Str)(bound:List Str)(i:Nat)(x:af):List (Str×List Str):=if (bi&&decide (0<i))=true then evE x (bound++[t])else evE x bound
theorem Eo(bi:Bool)(t:Str)(bound:List Str):∀(xs ys:List af) (i:Nat),evL (xs++ys) bi t bound i=evL xs bi t bound i++evL ys bi t bound (i+xs.length)
 | [],ys,i=>rfl
 | x::r,ys,i=>by
  show evP bi t bound i x++evL (r++ys) bi t bound (i+1)=(evP bi t bound i x++evL r bi t bound (i+1))++_
  rw[Eo bi t bound r ys (i+1),a8];have:i+1+r.length=i+(x::r).length:=by simp;omega
  rw[this]
theorem XK(bi:Bool)(t:Str)(bound:List Str){xs:List af}{i:Nat}{x:af}(h:xs[i]?=some x):evL (xs.take (i+1)) bi t bound 0=evL (xs.take i) bi t bound 0++evP bi t bound i x:=by
 obtain⟨hi,rfl⟩:=zC.1 h;rw[List.take_succ_eq_append_getElem hi,Eo];have:0+(xs.take i).length=i:=by rw[ba];omega
 rw[this];show _++(evP bi t bound i _++[])=_
 rw[List.append_nil]
theorem acz(bi:Bool)(t:Str)(bound:List Str)(xs:List af)(i:Nat):evL xs bi t bound 0=evL (xs.take i) bi t bound 0++evL (xs.drop i) bi t bound (0+(xs.take i).length):=by
 rw[<- Eo,List.take_append_drop]
mutual
theorem BZ:∀(e:af) (bound:List Str),(evE e bound).length<=wtE e
 | ⟨k,n,t,a⟩,bound=>by
  have h:=Vj a ((k==7)||(k==9)) t bound 0;have b:=Be ⟨k,n,t,a⟩;rw[AL];split
  ·simp;exact ZY _
  ·show (evL a ((k==7)||(k==9)) t bound 0).length<=_
   have b:1+wtL a<=wtE ⟨k,n,t,a⟩:=b;omega
theorem Vj:∀(xs:List af) (bi:Bool) (t:Str) (bound:List Str) (i:Nat),(evL xs bi t bound i).length<=wtL xs
 | [],_,_,_,_=>az _
 | x::r,bi,t,bound,i=>by
  have a:=BZ x bound;have b:=BZ x (bound++[t]);have c:=Vj r bi t bound (i+1);show ((if (bi&&decide (0<i))=true then evE x (bound++[t])else evE x bound)++evL r bi t bound (i+1)).length<=wtE x+wtL r
  rw[a7];split<;>omega
end
theorem Ja(n:Nat)(bi:Bool)(t:Str)(bound:List Str):∀(xs:List af) (i:Nat),(∀x,x∈xs->∀bd:List Str,bd.length<=bound.length+1->jC n x bd=some (evE x bd))->bound.length<=1048576->dH (jC n) bi t bound i xs=some (evL xs bi t bound i)
 | [],i,_,_=>rfl
 | x::r,i,a,b=>by
  have c:=a x (by simp) bound (by omega);have d:=a x (by simp) (bound++[t]) (by simp);have e:=Ja n bi t bound r (i+1) (fun y f=>a y (aq _ f)) b;show (if (bi&&decide (0<i))=true then (gd (bound.length+1)).bind fun _=>jC n x (bound++[t])else jC n x bound).bind (fun u=>(dH (jC n) bi t bound (i+1) r).bind fun v=>some (u++v))=some ((if (bi&&decide (0<i))=true then evE x (bound++[t])else evE x bound)++evL r bi t bound (i+1))
  rw[gdp (by omega),zA,c,d,e];cases (bi&&decide (0<i))<;>rfl
theorem Du:∀(n:Nat) (e:af) (bound:List Str),siz e<n->wtE e+bound.length<=1048576->jC n e bound=some (evE e bound)
 | 0,e,_,h,_=>absurd h (Nat.not_lt_zero _)
 | n+1,e,bound,d,f=>by
  have g:=oJ (e:=e);have b:=Ja n (decide (e.kind=7)||decide (e.kind=9)) e.text bound e.args 0 (fun x a bd c=>Du n x bd (by have:=dI a;omega) (by have:=lT a;omega)) (by omega);show ((gd bound.length).bind fun _=>(gd e.args.length).bind fun _=>if e.kind=3/\bound.contains e.text=false then some [(e.text,bound)]else dH (jC n) (decide (e.kind=7)||decide (e.kind=9)) e.text bound 0 e.args)=_
  rw[gdp (by omega),zA,gdp (by omega),zA,b,AL];by_cases h:e.kind=3
  ·cases i:bound.contains e.text with
   | true=>
    rw[if_neg (fun hh=>by simp at hh),if_neg (by simp)];rfl
   | false=>
    rw[if_pos ⟨h,rfl⟩,if_pos (by simp[h])]
  ·rw[if_neg (fun hh=>h hh.1),if_neg (by simp[h])];rfl
abbrev aiW:=(List Str)×Int×Int×Str×(List af)×(List Str)×Int
abbrev aiX:=Str×Str×(List Str)×Int×Int×Str×(List af)×Int
def IE(rec:af->List Str->Option (List Str)):aiW->Option (aiW⊕List Str):=(fun (a:(List Str)×Int×Int×Str×(List af)×(List Str)×Int)=>
      bif (decide (a.2.2.2.2.2.2<(a.2.2.2.2.1.length:Int)))then
       bif (a.2.1==7)then
        bif (decide (a.2.2.2.2.2.2>0))then
         (gd (0+a.1.length)).bind fun _=>
         (gd (([]++a.1).length+([a.2.2.2.1]:List Str).length)).bind fun _=>
         (idx a.2.2.2.2.1 a.2.2.2.2.2.2).bind fun h=>
         (rec (ah h) (([]++a.1)++([a.2.2.2.1]:List Str))).bind fun e=>
         (gd (a.2.2.2.2.2.1.length+e.length)).bind fun _=>
         some (.inl (a.1,a.2.1,a.2.2.1,a.2.2.2.1,a.2.2.2.2.1,a.2.2.2.2.2.1++e,w64 (a.2.2.2.2.2.2+1)))
        else
         (idx a.2.2.2.2.1 a.2.2.2.2.2.2).bind fun i=>
         (rec (ah i) a.1).bind fun f=>
         (gd (a.2.2.2.2.2.1.length+f.length)).bind fun _=>
         some (.inl (a.1,a.2.1,a.2.2.1,a.2.2.2.1,a.2.2.2.2.1,a.2.2.2.2.2.1++f,w64 (a.2.2.2.2.2.2+1)))
       else
       bif (a.2.1==9)then
        bif (decide (a.2.2.2.2.2.2>0))then
         (gd (0+a.1.length)).bind fun _=>
         (gd (([]++a.1).length+([a.2.2.2.1]:List Str).length)).bind fun _=>
         (idx a.2.2.2.2.1 a.2.2.2.2.2.2).bind fun j=>
         (rec (ah j) (([]++a.1)++([a.2.2.2.1]:List Str))).bind fun g=>
         (gd (a.2.2.2.2.2.1.length+g.length)).bind fun _=>
         some (.inl (a.1,a.2.1,a.2.2.1,a.2.2.2.1,a.2.2.2.2.1,a.2.2.2.2.2.1++g,w64 (a.2.2.2.2.2.2+1)))
        else
         (idx a.2.2.2.2.1 a.2.2.2.2.2.2).bind fun k=>
         (rec (ah k) a.1).bind fun b=>
         (gd (a.2.2.2.2.2.1.length+b.length)).bind fun _=>
         some (.inl (a.1,a.2.1,a.2.2.1,a.2.2.2.1,a.2.2.2.2.1,a.2.2.2.2.2.1++b,w64 (a.2.2.2.2.2.2+1)))
       else
        (idx a.2.2.2.2.1 a.2.2.2.2.2.2).bind fun d=>
        (rec (ah d) a.1).bind fun c=>
        (gd (a.2.2.2.2.2.1.length+c.length)).bind fun _=>
        some (.inl (a.1,a.2.1,a.2.2.1,a.2.2.2.1,a.2.2.2.2.1,a.2.2.2.2.2.1++c,w64 (a.2.2.2.2.2.2+1)))
      else
       some (.inr (a.2.2.2.2.2.1))
  )
def tu(rec:af->Str->Str->List Str->Option Bool):aiX->Option (aiX⊕Bool):=(fun (a:Str×Str×(List Str)×Int×Int×Str×(List af)×Int)=>
      bif (decide (a.2.2.2.2.2.2.2<(a.2.2.2.2.2.2.1.length:Int)))then
       bif (a.2.2.2.1==7)then
        bif (decide (a.2.2.2.2.2.2.2>0))then
         (gd (0+a.2.2.1.length)).bind fun _=>
         (gd (([]++a.2.2.1).length+([a.2.2.2.2.2.1]:List Str).length)).bind fun _=>
         (idx a.2.2.2.2.2.2.1 a.2.2.2.2.2.2.2).bind fun f=>
         (rec (ah f) a.1 a.2.1 (([]++a.2.2.1)++([a.2.2.2.2.2.1]:List Str))).bind fun g=>
         bif g then
          some (.inr (true))
         else
          some (.inl (a.1,a.2.1,a.2.2.1,a.2.2.2.1,a.2.2.2.2.1,a.2.2.2.2.2.1,a.2.2.2.2.2.2.1,w64 (a.2.2.2.2.2.2.2+1)))
        else
         (idx a.2.2.2.2.2.2.1 a.2.2.2.2.2.2.2).bind fun h=>
         (rec (ah h) a.1 a.2.1 a.2.2.1).bind fun i=>
         bif i then
          some (.inr (true))
         else
          some (.inl (a.1,a.2.1,a.2.2.1,a.2.2.2.1,a.2.2.2.2.1,a.2.2.2.2.2.1,a.2.2.2.2.2.2.1,w64 (a.2.2.2.2.2.2.2+1)))
       else
       bif (a.2.2.2.1==9)then
        bif (decide (a.2.2.2.2.2.2.2>0))then
         (gd (0+a.2.2.1.length)).bind fun _=>
         (gd (([]++a.2.2.1).length+([a.2.2.2.2.2.1]:List Str).length)).bind fun _=>
         (idx a.2.2.2.2.2.2.1 a.2.2.2.2.2.2.2).bind fun j=>
         (rec (ah j) a.1 a.2.1 (([]++a.2.2.1)++([a.2.2.2.2.2.1]:List Str))).bind fun k=>
         bif k then
          some (.inr (true))
         else
          some (.inl (a.1,a.2.1,a.2.2.1,a.2.2.2.1,a.2.2.2.2.1,a.2.2.2.2.2.1,a.2.2.2.2.2.2.1,w64 (a.2.2.2.2.2.2.2+1)))
        else
         (idx a.2.2.2.2.2.2.1 a.2.2.2.2.2.2.2).bind fun b=>
         (rec (ah b) a.1 a.2.1 a.2.2.1).bind fun c=>
         bif c then
          some (.inr (true))
         else
          some (.inl (a.1,a.2.1,a.2.2.1,a.2.2.2.1,a.2.2.2.2.1,a.2.2.2.2.2.1,a.2.2.2.2.2.2.1,w64 (a.2.2.2.2.2.2.2+1)))
       else
        (idx a.2.2.2.2.2.2.1 a.2.2.2.2.2.2.2).bind fun d=>
        (rec (ah d) a.1 a.2.1 a.2.2.1).bind fun e=>
        bif e then
         some (.inr (true))
        else
         some (.inl (a.1,a.2.1,a.2.2.1,a.2.2.2.1,a.2.2.2.2.1,a.2.2.2.2.2.1,a.2.2.2.2.2.2.1,w64 (a.2.2.2.2.2.2.2+1)))
      else
       some (.inr (false))
  )
theorem abB(rec)(a:af)(b:List Str):Hu rec a b=bif (a.kind==3)then ((lU b a.text).bind fun c=>bif (!c)then ((gd (0+([a.text]:List Str).length)).bind fun _=>some ([]++([a.text]:List Str)))else ak (IE rec) (b,a.kind,a.n,a.text,a.args,[],0))else ak (IE rec) (b,a.kind,a.n,a.text,a.args,[],0):=rfl
theorem Wu(rec)(a:af)(b c:Str)(d:List Str):zM rec a b c d=bif (a.kind==3)then ((lU d a.text).bind fun e=>bif (!e)then (bif (a.text==b)then ((lU d c).bind fun f=>some f)else some false)else ak (tu rec) (b,c,d,a.kind,a.n,a.text,a.args,0))else ak (tu rec) (b,c,d,a.kind,a.n,a.text,a.args,0):=rfl
theorem aaU:∀(n:Nat) (e:af) (bound:List Str),siz e<n->wtE e+bound.length<=1048576->oQ n e bound=some ((evE e bound).map (·.1))
 | 0,e,_,h,_=>absurd h (Nat.not_lt_zero _)
 | n+1,e,bound,t,u=>by
  have ih:=aaU n;have v:=oJ (e:=e);have hloop:ak (IE (oQ n)) (bound,e.kind,e.n,e.text,e.args,[],0)=some ((evL e.args ((e.kind==7)||(e.kind==9)) e.text bound 0).map (·.1)):=by
   have key:=bU (g:=IE (oQ n)) (fun (s:List Str) (i:Nat)=>((bound,e.kind,e.n,e.text,e.args,s,(i:Int)):aiW)) e.args (fun i s=>s=(evL (e.args.take i) ((e.kind==7)||(e.kind==9)) e.text bound 0).map (·.1)) (fun r=>r=(evL e.args ((e.kind==7)||(e.kind==9)) e.text bound 0).map (·.1)) (fun i x s a b=>.inl ?_) (fun s b=>?_) [] rfl
   ·obtain⟨r,h,rfl⟩:=key;exact h
   ·have c:=zG a;have w:=lT c;have y:=KY a;have z:=tY e.args (i+1);have A:=Be e;have d:=Vj (e.args.take i) ((e.kind==7)||(e.kind==9)) e.text bound 0;have B:=dI c;have f:=ih x bound (by omega) (by omega);have j:=ih x (([]++bound)++([e.text]:List Str)) (by omega) (by simp;omega);have C:=BZ x bound;have D:=BZ x (bound++[e.text]);refine⟨s++(evP ((e.kind==7)||(e.kind==9)) e.text bound i x).map (·.1),?_,by rw[XK _ _ _ a,List.map_append,b]⟩;have k:s.length<=wtL (e.args.take i):=by rw[b,List.length_map];exact d
    have l:gd (s.length+((evE x bound).map (·.1)).length)=some ():=gdp (by rw[List.length_map];omega);have m:gd (s.length+((evE x (([]++bound)++([e.text]:List Str))).map (·.1)).length)=some ():=gdp (by rw[List.length_map,List.nil_append];omega);have o:gd (0+bound.length)=some ():=gdp (by omega);have p:gd (([]++bound).length+([e.text]:List Str).length)=some ():=gdp (by simp;omega);simp only[IE,bW a,ac,au,a,zA,aH,f,j,l,m,o,p,bT a (by omega),Uz];unfold evP;cases (e.kind==7)<;>cases (e.kind==9)<;>cases decide (0<i)<;>rfl
   ·refine⟨_,by simp only[IE,bG,aa];rfl,by rw[b,List.take_length]⟩
  show Hu (oQ n) e bound=_
  rw[abB,hloop,oP _ _ (by omega),AL];have q:gd (0+([e.text]:List Str).length)=some ():=gdp (by simp);cases (e.kind==3)<;>cases bound.contains e.text<;>simp only[ac,aa,aM,Bool.not_false,Bool.and_true,Bool.and_false,Bool.true_and,Bool.false_and,aL,if_true,if_false,zA,q]<;>rfl
def IZ(b c:Str)(p:Str×List Str):Bool:=p.1==b&&p.2.contains c
theorem IY(b c:Str):∀(n:Nat) (e:af) (bound:List Str),siz e<n->wtE e+bound.length<=1048576->jS n e b c bound=some ((evE e bound).any (IZ b c))
 | 0,e,_,h,_=>absurd h (Nat.not_lt_zero _)
 | n+1,e,bound,q,t=>by
  have ih:=IY b c n;have u:=oJ (e:=e);have hloop:ak (tu (jS n)) (b,c,bound,e.kind,e.n,e.text,e.args,0)=some ((evL e.args ((e.kind==7)||(e.kind==9)) e.text bound 0).any (IZ b c)):=by
   have key:=bU (g:=tu (jS n)) (fun (s:Unit) (i:Nat)=>((b,c,bound,e.kind,e.n,e.text,e.args,(i:Int)):aiX)) e.args (fun i s=>(evL (e.args.take i) ((e.kind==7)||(e.kind==9)) e.text bound 0).any (IZ b c)=false) (fun r=>r=(evL e.args ((e.kind==7)||(e.kind==9)) e.text bound 0).any (IZ b c)) (fun i x s a d=>?_) (fun s d=>?_) () rfl
   ·obtain⟨r,h,rfl⟩:=key;exact h
   ·have j:=zG a;have v:=lT j;have w:=dI j;have l:=ih x bound (by omega) (by omega);have m:=ih x (([]++bound)++([e.text]:List Str)) (by omega) (by simp;omega);have o:gd (0+bound.length)=some ():=gdp (by omega);have p:gd (([]++bound).length+([e.text]:List Str).length)=some ():=gdp (by simp;omega);have step:tu (jS n) (b,c,bound,e.kind,e.n,e.text,e.args,(i:Int))=bif (evP ((e.kind==7)||(e.kind==9)) e.text bound i x).any (IZ b c)then some (.inr true)else some (.inl (b,c,bound,e.kind,e.n,e.text,e.args,((i+1:Nat):Int))):=by
     simp only[tu,bW a,ac,au,a,zA,aH,l,m,o,p,bT a (by omega),Uz];unfold evP;cases (e.kind==7)<;>cases (e.kind==9)<;>cases decide (0<i)<;>rfl
    have k:=XK ((e.kind==7)||(e.kind==9)) e.text bound a;cases f:(evP ((e.kind==7)||(e.kind==9)) e.text bound i x).any (IZ b c)with
    | true=>
     refine .inr ⟨true,by rw[step,f];rfl,?_⟩;rw[acz _ _ _ e.args (i+1),List.any_append,k,List.any_append,f];simp
    | false=>
     refine .inl ⟨(),by rw[step,f];rfl,?_⟩;rw[k,List.any_append,d,f];rfl
   ·refine⟨false,by simp only[tu,bG,aa],?_⟩;rw[List.take_length]at d;exact d.symm
  show zM (jS n) e b c bound=_
  rw[Wu,hloop,oP _ _ (by omega),oP _ _ (by omega),AL];cases (e.kind==3)<;>cases bound.contains e.text<;>simp only[ac,aa,aM,Bool.not_false,Bool.and_true,Bool.and_false,Bool.true_and,Bool.false_and,aL,if_true,if_false,zA]
  show (bif (e.text==b)then some (bound.contains c)else some false)=some (((e.text==b)&&bound.contains c)||false)
  cases (e.text==b)<;>cases bound.contains c<;>rfl
theorem AY(e:af)(b c:Str)(f:wtE e<=1000):∃v,jk e b c=some v/\iE e b c=some v:=by
 have a:=Du (siz e+1) e [] (Nat.lt_succ_self _) (by simp;omega);have d:xC e b c []=some ((evE e []).any (IZ b c)):=IY b c _ e [] (by omega) (by simp;omega);have g:=BZ e [];refine⟨(evE e []).any (IZ b c),?_,?_⟩
 ·unfold jk;rw[a,zA,gdp (by omega)];rfl
 ·unfold iE;rw[aH,d];rfl
def lM(xs:List Str):Prop:=xs.Pairwise (· < ·)
theorem QX:∀ {xs ys:List Str},lM xs->lM ys->(∀b,b∈xs↔b∈ys)->xs=ys
 | [],[],_,_,_=>rfl
 | [],y::r,_,_,h=>absurd ((h y).2 (by simp)) (by simp)
 | x::r,[],_,_,h=>absurd ((h x).1 (by simp)) (by simp)
 | x::r,y::q,j,k,h=>by
  obtain⟨a,f⟩:=List.pairwise_cons.1 j;obtain⟨c,g⟩:=List.pairwise_cons.1 k;have i:x=y:=by
   rcases bc.1 ((h x).1 (by simp))with e | e
   ·exact e
   ·rcases bc.1 ((h y).2 (by simp))with e' | e'
    ·exact e'.symm
    ·exact absurd (List.lt_trans (c x e) (a y e')) (List.lt_irrefl _)
  subst i;rw[QX f g fun b=>⟨fun d=>?_,fun d=>?_⟩]
  ·rcases bc.1 ((h b).1 (aq _ d))with e | e
   ·subst e;exact absurd (a _ d) (List.lt_irrefl _)
   ·exact e
  ·rcases bc.1 ((h b).2 (aq _ d))with e | e
   ·subst e;exact absurd (c _ d) (List.lt_irrefl _)
   ·exact e
theorem G9{xs:List Str}(e:xs.Pairwise (fun a b=>decide (a<=b)=true))(f:xs.Nodup):lM xs:=by
 induction xs with
 | nil=>exact List.Pairwise.nil
 | cons x r ih=>
  obtain⟨g,i⟩:=List.pairwise_cons.1 e;obtain⟨j,k⟩:=List.nodup_cons.1 f;refine List.pairwise_cons.2 ⟨fun y d=>?_,ih i k⟩;have c:x<=y:=of_decide_eq_true (g y d);rcases Decidable.em (x<y)with h | h
  ·exact h
  ·have:x=y:=List.le_antisymm c h;subst this;exact absurd d j
theorem Ns(s:Str):∀(xs:List Str) (i k:Nat),xs[i]?=some s->(posOf s k xs==((k+i:Nat):Int)) = !((xs.take i).contains s)
 | [],i,k,h=>by simp at h
 | x::r,i,k,h=>by
  unfold posOf;cases i with
  | zero=>
   simp at h;subst h;simp
  | succ i=>
   have h:r[i]?=some s:=by simpa using h
   by_cases a:x==s
   ·rw[if_pos a];have e:x=s:=by simpa using a
    subst e;have:((k:Int)==((k+(i+1):Nat):Int))=false:=by simp;omega
    rw[this];simp
   ·rw[if_neg a];have:=Ns s r i (k+1) h;rw[show k+(i+1)=k+1+i by omega,this];have e:¬x=s:=by simpa using a
    have b:¬s=x:=fun h=>e h.symm
    simp[b]
abbrev ZV:=(List Str)×(List Str)×(List Str)×Int×Int
def Yq:ZV->Option (ZV⊕List Str):=(fun (a:(List Str)×(List Str)×(List Str)×Int×Int)=>
      bif (decide (a.2.2.2.2<a.2.2.2.1))then
       (idx a.2.2.1 a.2.2.2.2).bind fun b=>
       (mJ a.1 b).bind fun c=>
       bif (c==a.2.2.2.2)then
        (gd (a.2.1.length+([b]:List Str).length)).bind fun _=>
        some (.inl (a.1,a.2.1++([b]:List Str),a.2.2.1,a.2.2.2.1,w64 (a.2.2.2.2+1)))
       else
        some (.inl (a.1,a.2.1,a.2.2.1,a.2.2.2.1,w64 (a.2.2.2.2+1)))
      else
       (
        (iK a.2.1).bind fun d=>
        some (d)
       ).bind fun r=>some (.inr r)
  )
theorem Qi(xs:List Str)(t:xs.length<=1048576):∃ys,pG xs=some ys/\lM ys/\∀b,b∈ys↔b∈xs:=by
 refine bU (g:=Yq) (fun (out:List Str) (i:Nat)=>((xs,out,xs,(xs.length:Int),(i:Int)):ZV)) xs (fun i out=>out.Nodup/\out.length<=i/\∀b,b∈out↔b∈xs.take i) (fun ys=>lM ys/\∀b,b∈ys↔b∈xs) (fun i x out d k=>.inl ?_) (fun out k=>?_) [] ⟨List.Pairwise.nil,az _,by simp⟩
 ·obtain⟨f,p,e⟩:=k;have hi:=(zC.1 d).1;have m:=Ns x xs i 0 d;rw[Nat.zero_add]at m;have n:xs.take (i+1)=xs.take i++[x]:=by
   obtain⟨hi,rfl⟩:=zC.1 d;rw[List.take_succ_eq_append_getElem hi]
  simp only[Yq,bW d,ac,au,d,zA,uK xs x (by omega),m,bT d (by omega)];cases o:(xs.take i).contains x with
  | true=>
   refine⟨out,by simp only[aM,aa],f,by omega,fun b=>?_⟩;rw[e,n,List.mem_append];refine⟨.inl,fun h=>?_⟩;rcases h with h | h
   ·exact h
   ·rw[List.mem_singleton.1 h];simpa using o
  | false=>
   have l:x∉out:=fun h=>by
    have:=(e x).1 h;have j:(xs.take i).contains x=true:=by simpa using this
    rw[o]at j;cases j
   refine⟨out++[x],?_,?_,by simp;omega,fun b=>?_⟩
   ·simp only[Bool.not_false,ac];rw[gdp (by simp;omega)];rfl
   ·rw[List.nodup_append];refine⟨f,by simp,fun a q b r=>?_⟩;rw[List.mem_singleton.1 r];rintro rfl;exact l q
   ·rw[n,List.mem_append,List.mem_append,e]
 ·obtain⟨f,p,e⟩:=k;rw[List.take_length]at e;refine⟨out.mergeSort fun x y=>decide (x<=y),?_,?_,fun b=>?_⟩
  ·simp only[Yq,bG,aa,iK];rw[gdp (by omega)];rfl
  ·refine G9 (List.pairwise_mergeSort (fun a b c s j=>?_) (fun a b=>?_) out) ((List.mergeSort_perm out _).nodup_iff.2 f)
   ·exact al (List.le_trans (of_decide_eq_true s) (of_decide_eq_true j))
   ·rcases List.le_total a b with h | h
    ·rw[al h];rfl
    ·rw[al h];simp
  ·rw[(List.mergeSort_perm out _).mem_iff,e]
def sQ(x:Str):List Str->List Str
 | []=>[x]
 | y::r=>if y<x then y::sQ x r else if y=x then y::r else x::y::r
theorem Oh(x b:Str):∀(xs:List Str),b∈sQ x xs↔b=x\/b∈xs
 | []=>by simp[sQ]
 | y::r=>by
  unfold sQ;split
  ·rw[bc,Oh x b r,bc];constructor
   ·rintro (h | h | h)
    ·exact .inr (.inl h)
    ·exact .inl h
    ·exact .inr (.inr h)
   ·rintro (h | h | h)
    ·exact .inr (.inl h)
    ·exact .inl h
    ·exact .inr (.inr h)
  ·split
   ·rename_i h;subst h;rw[bc];constructor
    ·exact .inr
    ·rintro (h | h)
     ·exact .inl h
     ·exact h
   ·rw[bc]
theorem Xk(x:Str):∀(xs:List Str),(sQ x xs).length<=xs.length+1
 | []=>by simp[sQ]
 | y::r=>by
  have:=Xk x r;unfold sQ;split
  ·simp;omega
  ·split<;>simp
theorem JD(x:Str):∀(xs:List Str),lM xs->lM (sQ x xs)
 | [],_=>List.pairwise_cons.2 ⟨by simp,List.Pairwise.nil⟩
 | y::r,h=>by
  obtain⟨g,i⟩:=List.pairwise_cons.1 h;unfold sQ;split
  ·rename_i c;refine List.pairwise_cons.2 ⟨fun b d=>?_,JD x r i⟩;rcases (Oh x b r).1 d with e | e
   ·rw[e];exact c
   ·exact g b e
  ·rename_i j;split
   ·exact h
   ·rename_i f;have a:x<y:=by
     rcases Decidable.em (x<y)with h | h
     ·exact h
     ·exact absurd (List.le_antisymm h j) f
    refine List.pairwise_cons.2 ⟨fun b d=>?_,h⟩;rcases bc.1 d with e | e
    ·rw[e];exact a
    ·exact List.lt_trans a (g b e)
theorem Il(x:Str):∀(a r:List Str),(∀y,y∈a->y<x)->sQ x (a++r)=a++sQ x r
 | [],r,_=>rfl
 | y::a,r,h=>by
  show (if y<x then y::sQ x (a++r)else _)=_
  rw[if_pos (h y (by simp)),Il x a r fun z b=>h z (aq _ b)];rfl
abbrev Vs:=(List Str)×(List Str)×Int
abbrev afk:=(List Str)×(List Str)×Int×Int
def nZ:afk->Option (afk⊕(Vs⊕List Str)):=(fun (a:(List Str)×(List Str)×Int×Int)=>
      bif (decide (a.2.2.2<(a.2.1.length:Int)))then
       (idx a.2.1 a.2.2.2).bind fun _=>
       (a.2.1[a.2.2.2.toNat]?).bind fun p=>
       (idx a.1 a.2.2.1).bind fun q=>
       bif (Op.bytesLess p q)then
        some (.inl (a.1,a.2.1,a.2.2.1,w64 (a.2.2.2+1)))
       else
       (
        bif (decide (a.2.2.2<(a.2.1.length:Int)))then
         (idx a.2.1 a.2.2.2).bind fun _=>
         (a.2.1[a.2.2.2.toNat]?).bind fun s=>
         (idx a.1 a.2.2.1).bind fun t=>
         bif (s==t)then
          some (.inl (a.1,a.2.1,w64 (a.2.2.1+1)))
         else
          (cutAt a.2.1 a.2.2.2).bind fun m=>
          (gd (0+(a.2.1.drop m).length)).bind fun _=>
          (cutAt a.2.1 a.2.2.2).bind fun b=>
          (idx a.1 a.2.2.1).bind fun c=>
          (gd ((a.2.1.take b).length+([c]:List Str).length)).bind fun _=>
          (gd (((a.2.1.take b)++([c]:List Str)).length+([]++(a.2.1.drop m)).length)).bind fun _=>
          some (.inl (a.1,((a.2.1.take b)++([c]:List Str))++([]++(a.2.1.drop m)),w64 (a.2.2.1+1)))
        else
         (cutAt a.2.1 a.2.2.2).bind fun d=>
         (gd (0+(a.2.1.drop d).length)).bind fun _=>
         (cutAt a.2.1 a.2.2.2).bind fun e=>
         (idx a.1 a.2.2.1).bind fun f=>
         (gd ((a.2.1.take e).length+([f]:List Str).length)).bind fun _=>
         (gd (((a.2.1.take e)++([f]:List Str)).length+([]++(a.2.1.drop d)).length)).bind fun _=>
         some (.inl (a.1,((a.2.1.take e)++([f]:List Str))++([]++(a.2.1.drop d)),w64 (a.2.2.1+1)))
       ).bind fun r=>some (.inr r)
      else
      (
       bif (decide (a.2.2.2<(a.2.1.length:Int)))then
        (idx a.2.1 a.2.2.2).bind fun _=>
        (a.2.1[a.2.2.2.toNat]?).bind fun n=>
        (idx a.1 a.2.2.1).bind fun o=>
        bif (n==o)then
         some (.inl (a.1,a.2.1,w64 (a.2.2.1+1)))
        else
         (cutAt a.2.1 a.2.2.2).bind fun g=>
         (gd (0+(a.2.1.drop g).length)).bind fun _=>
         (cutAt a.2.1 a.2.2.2).bind fun h=>
         (idx a.1 a.2.2.1).bind fun i=>
         (gd ((a.2.1.take h).length+([i]:List Str).length)).bind fun _=>
         (gd (((a.2.1.take h)++([i]:List Str)).length+([]++(a.2.1.drop g)).length)).bind fun _=>
         some (.inl (a.1,((a.2.1.take h)++([i]:List Str))++([]++(a.2.1.drop g)),w64 (a.2.2.1+1)))
       else
        (cutAt a.2.1 a.2.2.2).bind fun j=>
        (gd (0+(a.2.1.drop j).length)).bind fun _=>
        (cutAt a.2.1 a.2.2.2).bind fun k=>
        (idx a.1 a.2.2.1).bind fun l=>
        (gd ((a.2.1.take k).length+([l]:List Str).length)).bind fun _=>
        (gd (((a.2.1.take k)++([l]:List Str)).length+([]++(a.2.1.drop j)).length)).bind fun _=>
        some (.inl (a.1,((a.2.1.take k)++([l]:List Str))++([]++(a.2.1.drop j)),w64 (a.2.2.1+1)))
      ).bind fun r=>some (.inr r)
  )
def KE:Vs->Option (Vs⊕List Str):=fun a=>
 bif (decide (a.2.2<(a.1.length:Int)))then
  ak nZ (a.1,a.2.1,a.2.2,0)
 else
  some (.inr (a.2.1))
theorem Po(xs:List Str):rZ xs=ak KE (xs,[],0):=rfl
theorem SK{α:Type}(xs:List α)(i:Nat)(h:i<=xs.length):cutAt xs (i:Int)=some i:=by
 unfold cutAt;rw[if_pos ⟨by omega,by omega⟩];simp
theorem aeu(xs:List Str)(i:Nat)(x:Str)(g:xs[i]?=some x)(q:xs.length<=1048576)(out:List Str)(r:out.length<=1048576) :
  ak nZ (xs,out,(i:Int),0)=some (.inl (xs,sQ x out,((i+1:Nat):Int))):=by
 have hi:=(zC.1 g).1;have m:idx xs (i:Int)=some x:=by rw[au,g]
 have n:w64 ((i:Int)+1)=((i+1:Nat):Int):=bT g (by omega);have key:∀(k at':Nat),out.length=at'+k->(∀y,y∈out.take at'->y<x)->ak nZ (xs,out,(i:Int),(at':Int))=some (.inl (xs,sQ x out,((i+1:Nat):Int))):=by
  intro k;induction k with
  | zero=>
   intro a p b;have e:a=out.length:=by omega
   subst e;rw[List.take_length]at b;have hins:sQ x out=out++[x]:=by
    have:=Il x out [] b;rw[List.append_nil]at this;exact this
   have d:nZ (xs,out,(i:Int),(out.length:Int))=some (.inr (.inl (xs,sQ x out,((i+1:Nat):Int)))):=by
    simp only[nZ,bG,aa,SK out out.length (az _),zA,m,n,List.drop_length,List.take_length];rw[gdp (by simp),zA,gdp (by simp;omega),zA,gdp (by simp;omega),zA,zA,hins];simp
   rw[aJ,d]
  | succ k ih=>
   intro a p b;have c:a<out.length:=by omega
   have o:=zF c;have hdec:decide ((a:Int)<(out.length:Int))=true:=by simp;omega
   have hsplit:out=out.take a++out[a]::out.drop (a+1):=by
    rw[<- List.drop_eq_getElem_cons c,List.take_append_drop]
   have hins:sQ x out=out.take a++sQ x (out[a]::out.drop (a+1)):=by
    conv=>lhs;rw[hsplit]
    exact Il x _ _ b
   by_cases j:out[a]<x
   ·have d:nZ (xs,out,(i:Int),(a:Int))=some (.inl (xs,out,(i:Int),((a+1:Nat):Int))):=by
     simp only[nZ,hdec,ac,au,o,g,zA,aD,Go.Proofs.bytesLess_eq,al j];rw[bK (by omega) (by omega)];rfl
    rw[aJ,d];refine ih (a+1) (by omega) fun y h=>?_
    rw[List.take_succ_eq_append_getElem c]at h;rcases List.mem_append.1 h with h | h
    ·exact b y h
    ·rw[List.mem_singleton.1 h];exact j
   ·by_cases l:out[a]=x
    ·have hins2:sQ x out=out:=by
      rw[hins];show out.take a++(if out[a]<x then _ else if out[a]=x then out[a]::out.drop (a+1)else _)=out
      rw[if_neg j,if_pos l];exact hsplit.symm
     have d:nZ (xs,out,(i:Int),(a:Int))=some (.inr (.inl (xs,sQ x out,((i+1:Nat):Int)))):=by
      have f:(out[a]==x)=true:=by simp[l]
      simp only[nZ,hdec,ac,au,o,g,zA,aD,Go.Proofs.bytesLess_eq,ae j,aa,f,n,hins2]
     rw[aJ,d]
    ·have hins2:sQ x out=out.take a++[x]++out.drop a:=by
      rw[hins];show out.take a++(if out[a]<x then _ else if out[a]=x then out[a]::out.drop (a+1)else x::out[a]::out.drop (a+1))=_
      rw[if_neg j,if_neg l,<- List.drop_eq_getElem_cons c];simp
     have d:nZ (xs,out,(i:Int),(a:Int))=some (.inr (.inl (xs,sQ x out,((i+1:Nat):Int)))):=by
      have f:(out[a]==x)=false:=by simp[l]
      simp only[nZ,hdec,ac,au,o,g,zA,aD,Go.Proofs.bytesLess_eq,ae j,aa,f,n,SK out a (by omega)];rw[gdp (by simp;omega),zA,gdp (by simp;omega),zA,gdp (by simp;omega),zA,zA,hins2];simp
     rw[aJ,d]
 exact key out.length 0 (by omega) (by simp)
theorem Pn(xs:List Str)(f:xs.length<=1048576):∃ys,rZ xs=some ys/\lM ys/\∀b,b∈ys↔b∈xs:=by
 rw[Po];refine bU (g:=KE) (fun (out:List Str) (i:Nat)=>((xs,out,(i:Int)):Vs)) xs (fun i out=>lM out/\out.length<=i/\∀b,b∈out↔b∈xs.take i) (fun ys=>lM ys/\∀b,b∈ys↔b∈xs) (fun i x out a d=>.inl ?_) (fun out d=>?_) [] ⟨List.Pairwise.nil,az _,by simp⟩
 ·obtain⟨e,h,c⟩:=d;have hi:=(zC.1 a).1;have j:xs.take (i+1)=xs.take i++[x]:=by
   obtain⟨hi,rfl⟩:=zC.1 a;rw[List.take_succ_eq_append_getElem hi]
  refine⟨sQ x out,?_,JD x out e,by have:=Xk x out;omega,fun b=>?_⟩
  ·simp only[KE,bW a,ac];exact aeu xs i x a f out (by omega)
  ·rw[Oh,c,j,List.mem_append,List.mem_singleton];exact Or.comm
 ·obtain⟨e,h,c⟩:=d;rw[List.take_length]at c;exact⟨out,by simp only[KE,bG,aa],e,c⟩
theorem JV(xs:List Str)(a:xs.length<=1048576):∃ys,pG xs=some ys/\rZ xs=some ys/\lM ys/\∀b,b∈ys↔b∈xs:=by
 obtain⟨ys,e,c,d⟩:=Qi xs a;obtain⟨zs,f,g,h⟩:=Pn xs a;have:ys=zs:=QX c g fun b=>by rw[d,h]
 subst this;exact⟨ys,e,f,c,d⟩
theorem Yn:∀ {xs:List Str} {ys:List Str},lM xs->(∀b,b∈xs->b∈ys)->xs.length<=ys.length:=by
 intro xs;induction xs with
 | nil=>intro ys _ _;exact Nat.zero_le _
 | cons x r ih=>
  intro ys h c;obtain⟨g,i⟩:=List.pairwise_cons.1 h;have d:=c x (by simp);have:=ih (ys:=ys.erase x) i fun b f=>by
   have a:b≠x:=fun e=>by subst e;exact List.lt_irrefl _ (g b f)
   exact (List.mem_erase_of_ne a).2 (c b (aq _ f))
  rw[List.length_erase_of_mem d]at this;have:=List.length_pos_of_mem d;simp only[List.length_cons];omega
theorem yR(e:af)(j:wtE e<=1000):∃ys,pI e=some ys/\xG e=some ys/\lM ys/\ys.length<=wtE e/\∀b,b∈ys↔b∈(evE e []).map (·.1):=by
 have d:=Du (siz e+1) e [] (Nat.lt_succ_self _) (by simp;omega);have f:L8 e []=some ((evE e []).map (·.1)):=aaU _ e [] (by omega) (by simp;omega);have k:=BZ e [];obtain⟨ys,g,h,a,c⟩:=JV ((evE e []).map (·.1)) (by rw[List.length_map];omega);refine⟨ys,?_,?_,a,?_,c⟩
 ·unfold pI;rw[d,zA,gdp (by omega)];exact g
 ·unfold xG;rw[aH,f,zA,h];rfl
 ·have:=Yn a fun b i=>(c b).1 i
  rw[List.length_map]at this;omega
theorem Jb(a:Str)(b:a.length<=34359738368)(h:aT a=some true):a.length<=8:=by
 unfold aT at h;rw[nD a b]at h;by_cases c:(a.length:Int)<=8
 ·omega
 ·rw[ae c,Bool.and_false,Bool.and_false]at h;cases h
theorem H7(e:af)(b c:Str)(k:wtE e<=1000)(g:b.length<=34359738368)(d:c.length<=34359738368) :
  ∃(x:af) (v:Bool),nS e b c=some (x,v)/\iZ e b c=some (x,v)/\wtE x<=1000:=by
 obtain⟨v0,l,m,n⟩:=tZ e (by omega);obtain⟨h,i⟩:=lC b g;obtain⟨j,f⟩:=lC c d;have o:aX b=some h:=by rw[<- nI b g,i]
 have p:aX c=some j:=by rw[<- nI c d,f]
 obtain⟨v3,q,r⟩:=AY e b c k;have s:Ot e b c=some (kG b c e):=aau b c _ e (by omega) (by omega);have a:wtE ⟨0,0,[],[]⟩<=1000:=by rw[Bf];simp[wtL]
 unfold nS iZ;simp only[aH,l,m,i,f,o,p,q,r,s,zA];cases v0 with
 | false=>exact⟨_,_,rfl,rfl,a⟩
 | true=>
  obtain⟨hv,hw40⟩:=n rfl;have t:xB e b c=some (kG b c e):=Ut b c _ e (by omega) (by omega) hv;simp only[t,zA,aM,aa];cases h with
  | false=>exact⟨_,_,rfl,rfl,a⟩
  | true=>
   cases j with
   | false=>exact⟨_,_,rfl,rfl,a⟩
   | true=>
    have u:=Jb c d f;cases v3 with
    | true=>exact⟨_,_,rfl,rfl,a⟩
    | false=>exact⟨kG b c e,true,rfl,rfl,by have:=Uu b c (by omega) e;omega⟩
theorem afo{α X Y ρ σ:Type}{f:X->Option (X⊕ρ)}{g:Y->Option (Y⊕ρ)}(px:σ->Nat->X)(py:σ->Nat->Y)(xs:List α)(I:Nat->σ->Prop)(R:ρ->Prop)
  (j:∀i x s,xs[i]?=some x->I i s->(∃s',f (px s i)=some (.inl (px s' (i+1)))/\g (py s i)=some (.inl (py s' (i+1)))/\I (i+1) s')\/∃r,f (px s i)=some (.inr r)/\g (py s i)=some (.inr r)/\R r)
  (l:∀s,I xs.length s->∃r,f (px s xs.length)=some (.inr r)/\g (py s xs.length)=some (.inr r)/\R r) (s:σ) (m:I 0 s):∃r,ak f (px s 0)=some r/\ak g (py s 0)=some r/\R r:=by
 have key:∀(k i:Nat) (s:σ),xs.length=i+k->I i s->∃r,ak f (px s i)=some r/\ak g (py s i)=some r/\R r:=by
  intro k;induction k with
  | zero=>
   intro i s hi d;have:i=xs.length:=by omega
   subst this;obtain⟨r,a,b,c⟩:=l s d;exact⟨r,by rw[aJ,a],by rw[aJ,b],c⟩
  | succ k ih=>
   intro i s hi d;have e:i<xs.length:=by omega
   rcases j i _ s (zF e) d with ⟨s',a,b,h⟩ | ⟨r,a,b,c⟩
   ·obtain⟨r,n,o,c⟩:=ih (i+1) s' (by omega) h;exact⟨r,by rw[aJ,a];exact n,by rw[aJ,b];exact o,c⟩
   ·exact⟨r,by rw[aJ,a],by rw[aJ,b],c⟩
 exact key xs.length 0 s (by omega) m
end
end Go.Proofs.YtkebfkahdmddpaaGreatDoor
/- Plain laws: a renamed expression: valid, ar long, and with the renamed free names. -/
namespace Go.Proofs.YtkebfkahdmddpaaGreatDoor
open Go.Abs Go.Proofs
theorem Nc(b c:Str)(bi:Bool):∀(xs:List af) (i j:Nat),(mr b c bi i xs)[j]?=(xs[j]?).map fun x=>if (bi&&decide (0<i+j))=true then x else kG b c x
 | [],i,j=>by simp[mr]
 | x::r,i,0=>by simp[mr]
 | x::r,i,j+1=>by
  show (mr b c bi (i+1) r)[j]?=_
  rw[Nc b c bi r (i+1) j,show i+1+j=i+(j+1) by omega];rfl
theorem adH{b c:Str}{bi:Bool}{i:Nat}{xs:List af}{y:af}(h:y∈mr b c bi i xs):∃x,x∈xs/\(y=x\/y=kG b c x):=by
 obtain⟨j,a⟩:=List.mem_iff_getElem?.1 h;rw[Nc]at a;cases d:xs[j]? with
 | none=>rw[d]at a;cases a
 | some x=>
  rw[d]at a;have a:=a6 a;refine⟨x,zG d,?_⟩;rw[<- a];split
  ·exact .inl rfl
  ·exact .inr rfl
theorem pW{b c:Str}{k:Int}{t:Str}(h:k≠3):dG b c k t=t:=by
 unfold dG;rw[if_neg];simp[h]
theorem adF{b c:Str}(f:bZ c=true)(g:c.length<=120){e:af}(a:wW e):wW (kG b c e):=by
 rw[FB];have hv:aX c=some true:=by rw[nJ c g,f]
 have d:(mr b c (kK b e.kind e.text) 0 e.args).length=e.args.length:=WC _ _ _ _ _;exact {
  pr:=by
   show prn (dG b c e.kind e.text)=true
   unfold dG;split
   ·exact QR (by omega) f
   ·exact a.pr
  k0:=a.k0
  k9:=a.k9
  num:=a.num
  call:=fun h=>by show (mr _ _ _ _ _).length<=4;rw[d];exact a.call h
  list:=fun h=>by show (mr _ _ _ _ _).length<=8;rw[d];exact a.list h
  op:=fun h=>by
   obtain⟨i,j⟩:=a.op h;exact⟨by show (mr _ _ _ _ _).length=2;rw[d];exact i,j⟩
  two:=fun h=>by show (mr _ _ _ _ _).length=2;rw[d];exact a.two h
  three:=fun h=>by show (mr _ _ _ _ _).length=3;rw[d];exact a.three h
  leaf:=fun h=>by show mr _ _ _ _ _=[];rw[a.leaf h];rfl
  z:=fun h=>by
   show dG b c e.kind e.text=[]
   rw[pW (by have h:e.kind=1\/e.kind=4\/e.kind=6\/e.kind=8:=h;omega)];exact a.z h
  w:=a.w
  nm:=fun h=>by
   show aX (dG b c e.kind e.text)=some true
   unfold dG;split
   ·exact hv
   ·exact a.nm h
  tx:=fun h=>by
   have h:e.kind=2:=h;show dw (dG b c e.kind e.text)=some true
   rw[pW (by omega)];exact a.tx h
  cl:=fun h=>by
   have h:e.kind=5:=h;show ((mr _ _ _ _ _).length:Int)=nH (dG b c e.kind e.text)
   rw[d,pW (by omega)];exact a.cl h }
theorem Rl{b c:Str}(d:bZ c=true)(f:c.length<=120):∀(n:Nat) (e:af),siz e<n->jA e->jA (kG b c e)
 | 0,_,g,_=>absurd g (Nat.not_lt_zero _)
 | n+1,e,g,hv=>by
  cases hv with
  | mk _ k i=>
  refine .mk _ (adF d f k) fun y j=>?_
  rw[FB]at j;obtain⟨x,a,h | h⟩:=adH j
  ·rw[h];exact i x a
  ·rw[h];exact Rl d f n x (by have:=dI a;omega) (i x a)
theorem abX{e:af}(b:wW e):jd e=some true:=by
 have g:=b.k0;have h:=b.k9;have a:e.kind=1\/e.kind=2\/e.kind=3\/e.kind=4\/e.kind=5\/e.kind=6\/e.kind=7\/e.kind=8\/e.kind=9:=by omega
 unfold jd;rcases a with a | a | a | a | a | a | a | a | a
 ·have:=b.num a;simp[a,b.leaf (.inl a),b.z (.inl a),iV,this]
 ·simp[a,b.leaf (.inr (.inl a)),b.w (by omega) (by omega),b.tx a]
 ·simp[a,b.leaf (.inr (.inr a)),b.w (by omega) (by omega),b.nm (.inl a)]
 ·have:=b.list a;simp[a,b.w (by omega) (by omega),b.z (.inr (.inl a))];omega
 ·simp[a,b.w (by omega) (by omega),MW,b.cl a]
 ·obtain⟨c,d,f⟩:=b.op a;simp[a,b.z (.inr (.inr (.inl a))),c,iV,d,f]
 ·simp[a,b.w (by omega) (by omega),b.two (.inl a),b.nm (.inr (.inl a))]
 ·simp[a,b.w (by omega) (by omega),b.z (.inr (.inr (.inr a))),b.three a]
 ·simp[a,b.w (by omega) (by omega),b.two (.inr a),b.nm (.inr (.inr a))]
theorem Yh:∀(n:Nat) (e:af),siz e<n->jA e->wtE e<=1048576->jI n e=some true
 | 0,_,d,_,_=>absurd d (Nat.not_lt_zero _)
 | n+1,e,d,hv,m=>by
  cases hv with
  | mk _ f g=>
  have o:=oJ (e:=e);show oh (jI n) e=_
  unfold oh;have key:∃r,ak (fun (a:Int×Int×Str×(List af)×Int)=>
    bif (decide (a.2.2.2.2<(a.2.2.2.1.length:Int)))then
     (idx a.2.2.2.1 a.2.2.2.2).bind fun j=>
     (jI n (ah j)).bind fun k=>
     bif (!k)then
      some (.inr (false))
     else
      some (.inl (a.1,a.2.1,a.2.2.1,a.2.2.2.1,w64 (a.2.2.2.2+1)))
    else
     (
      (jd (af.mk a.1 a.2.1 a.2.2.1 a.2.2.2.1)).bind fun l=>
      some (l)
     ).bind fun r=>some (.inr r)) (e.kind,e.n,e.text,e.args,0)=some r/\r=true:=by
   refine bU (fun (_:Unit) (i:Nat)=>((e.kind,e.n,e.text,e.args,(i:Int)):Int×Int×Str×(List af)×Int)) e.args (fun i _=>True) (fun r=>r=true) (fun i x s b _=>.inl ⟨(),?_,trivial⟩) (fun s _=>?_) () trivial
   ·have c:=zG b;have ih:=Yh n x (by have:=dI c;omega) (g x c) (by have:=lT c;omega);simp only[bW b,ac,au,b,zA,aH,ih,aM,aa,bT b (by omega)]
   ·have eta:af.mk e.kind e.n e.text e.args=e:=by cases e;rfl
    exact⟨true,by simp only[bG,aa,eta,abX f,zA],rfl⟩
  obtain⟨r,h,rfl⟩:=key;exact h
mutual
def nst:af->Int
 | ⟨_,_,_,a⟩=>w64 (Ic a 0+1)
def Ic:List af->Int->Int
 | [],s=>s
 | x::r,s=>Ic r (if nst x>s then nst x else s)
end
theorem aiA(e:af):nst e=w64 (Ic e.args 0+1):=by cases e;rfl
theorem Rw:∀(xs:List af) (x:af) (s:Int),Ic (xs++[x]) s=if nst x>Ic xs s then nst x else Ic xs s
 | [],x,s=>rfl
 | y::r,x,s=>Rw r x _
theorem Jz:∀(n:Nat) (e:af),siz e<n->wtE e<=1048576->eP n e=some (nst e)
 | 0,e,h,_=>absurd h (Nat.not_lt_zero _)
 | n+1,e,l,m=>by
  have o:=oJ (e:=e);show ja (eP n) e=_
  unfold ja;have key:∃r,ak (fun (a:Int×Int×Str×(List af)×Int×Int)=>
    bif (decide (a.2.2.2.2.2<(a.2.2.2.1.length:Int)))then
     (idx a.2.2.2.1 a.2.2.2.2.2).bind fun f=>
     (eP n (ah f)).bind fun g=>
     (Dz a.2.2.2.2.1 g).bind fun j=>
     some (.inl (a.1,a.2.1,a.2.2.1,a.2.2.2.1,j,w64 (a.2.2.2.2.2+1)))
    else
     some (.inr (w64 (a.2.2.2.2.1+1)))) (e.kind,e.n,e.text,e.args,0,0)=some r/\r=nst e:=by
   refine bU (fun (s:Int) (i:Nat)=>((e.kind,e.n,e.text,e.args,s,(i:Int)):Int×Int×Str×(List af)×Int×Int)) e.args (fun i s=>s=Ic (e.args.take i) 0) (fun r=>r=nst e) (fun i x s b c=>?_) (fun s c=>?_) 0 rfl
   ·have d:=zG b;have k:=Jz n x (by have:=dI d;omega) (by have:=lT d;omega);refine .inl ⟨if nst x>s then nst x else s,?_,?_⟩
    ·simp only[bW b,ac,au,b,zA,aH,k,Hr,bT b (by omega)]
    ·obtain⟨hi,rfl⟩:=zC.1 b;rw[List.take_succ_eq_append_getElem hi,Rw,c]
   ·rw[List.take_length]at c;exact⟨w64 (s+1),by simp only[bG,aa],by rw[aiA,c]⟩
  obtain⟨r,h,rfl⟩:=key;exact h
theorem QO{e:af}(b:wtE e<=1048576):∃v,uy e=some v/\bV e=some (bif decide ((wtE e:Int)<=40)then (bif decide (nst e<=8)then v else false)else false):=by
 obtain⟨r,c,d,f⟩:=UO _ e 40 (Nat.lt_succ_self _) b (by omega) (by omega);have c:zT e 40=some r:=c;have g:sD e=some (nst e):=Jz _ e (Nat.lt_succ_self _) b;obtain⟨v,a,j⟩:=ZR _ e (Nat.lt_succ_self _) b;have a:uy e=some v:=a;refine⟨v,a,?_⟩;have i:decide ((wtE e:Int)<=40)=decide (r>=0):=by
  by_cases h:(wtE e:Int)<=40
  ·have:=d (by omega);rw[al h,al (by omega)]
  ·have:=f (by omega);rw[ae h,ae (by omega)]
 unfold bV;simp only[aH,c,g,a,zA,i];cases decide (r>=0)with
 | false=>rfl
 | true=>cases decide (nst e<=8)<;>rfl
mutual
theorem aar(b c:Str):∀e:af,nst (kG b c e)=nst e
 | ⟨k,n,t,a⟩=>by
  show w64 (Ic (mr b c (kK b k t) 0 a) 0+1)=w64 (Ic a 0+1)
  rw[WB b c a (kK b k t) 0 0]
theorem WB(b c:Str):∀(xs:List af) (bi:Bool) (i:Nat) (s:Int),Ic (mr b c bi i xs) s=Ic xs s
 | [],_,_,_=>rfl
 | x::r,bi,i,s=>by
  have a:=aar b c x;show Ic (mr b c bi (i+1) r) (if nst (if (bi&&decide (0<i))=true then x else kG b c x)>s then nst (if (bi&&decide (0<i))=true then x else kG b c x)else s)=Ic r (if nst x>s then nst x else s)
  have e:nst (if (bi&&decide (0<i))=true then x else kG b c x)=nst x:=by split<;>first | rfl | exact a
  rw[e,WB b c r bi (i+1)]
end
theorem adE{b c:Str}(h:bZ c=true)(d:c.length<=120){e:af}(hv:jA e)(m:wtE e<=40)(i:bV e=some true):jA (kG b c e)/\wtE (kG b c e)<=40/\bV (kG b c e)=some true:=by
 have f:=Rl (b:=b) h d (siz e+1) e (Nat.lt_succ_self _) hv;have n:=Uu b c d e;obtain⟨v,_,a⟩:=QO (e:=e) (by omega);obtain⟨u,g,j⟩:=QO (e:=kG b c e) (by omega);have k:uy (kG b c e)=some true:=Yh _ _ (Nat.lt_succ_self _) f (by omega);rw[k]at g;cases g
 refine⟨f,by omega,?_⟩;rw[j,aar];rw[i,al (show (wtE e:Int)<=40 by omega)]at a;cases l:decide (nst e<=8)with
 | false=>rw[l]at a;cases a
 | true=>rw[al (show ((wtE (kG b c e):Nat):Int)<=40 by omega)];rfl
def Q8(x y:af):Prop:=(tkE x).length=(tkE y).length/\lvl x=lvl y
theorem aam{x y:af}(h:Q8 x y)(b:Nat):nA x b=nA y b:=by rw[mF,mF,h.1,h.2]
theorem ac2:∀(xs ys:List af),xs.length=ys.length->(∀(j:Nat) x y,xs[j]?=some x->ys[j]?=some y->(tkE x).length=(tkE y).length)->(tkL xs).length=(tkL ys).length:=by
 have key:∀(xs ys:List af),xs.length=ys.length->(∀(j:Nat) x y,xs[j]?=some x->ys[j]?=some y->(tkE x).length=(tkE y).length)->JU xs=JU ys:=by
  intro xs;induction xs with
  | nil=>intro ys h _;cases ys with
   | nil=>rfl
   | cons y r=>simp at h
  | cons x r ih=>
   intro ys h a;cases ys with
   | nil=>simp at h
   | cons y s=>
    have c:=a 0 x y rfl rfl;have b:=ih s (by simpa using h) fun j u v d hv=>a (j+1) u v (by simpa using d) (by simpa using hv)
    unfold JU at b ⊢;simp only[List.map_cons,List.sum_cons];omega
 intro xs ys h a;cases xs with
 | nil=>cases ys with
  | nil=>rfl
  | cons y r=>simp at h
 | cons x r=>cases ys with
  | nil=>simp at h
  | cons y s=>
   have c:=KD (x::r) (by simp)
   have b:=KD (y::s) (by simp)
   have:=key _ _ h a
   omega
theorem WA{b c:Str}:∀(n:Nat) (e:af),siz e<n->jA e->Q8 (kG b c e) e
 | 0,_,s,_=>absurd s (Nat.not_lt_zero _)
 | n+1,e,s,hv=>by
  cases hv with
  | mk _ l t=>
  have ih:∀x,x∈e.args->Q8 (kG b c x) x:=fun x i=>WA n x (by have:=dI i;omega) (t x i)
  have v:=l.k0;have w:=l.k9;have a:e.kind=1\/e.kind=2\/e.kind=3\/e.kind=4\/e.kind=5\/e.kind=6\/e.kind=7\/e.kind=8\/e.kind=9:=by omega
  rw[FB];have k:=WC b c (kK b e.kind e.text) 0 e.args;have f:∀(j:Nat) (x y:af),(mr b c (kK b e.kind e.text) 0 e.args)[j]?=some x->e.args[j]?=some y->Q8 x y:=fun j x y i r=>by
   rw[Nc,r]at i;have i:=a6 i;rw[<- i];split
   ·exact⟨rfl,rfl⟩
   ·exact ih y (zG r)
  generalize mr b c (kK b e.kind e.text) 0 e.args=ar at k f;generalize dG b c e.kind e.text=t';have lv:lvl ⟨e.kind,e.n,t',ar⟩=lvl e:=by unfold lvl;rfl
  refine⟨?_,lv⟩;have two:e.args.length=2->∃x y x' y',e.args=[x,y]/\ar=[x',y']/\Q8 x' x/\Q8 y' y:=fun h=>by
   obtain⟨x,y,g⟩:=lq h;obtain⟨x',y',d⟩:=lq (e:=⟨0,0,[],ar⟩) (k.trans h);have d:ar=[x',y']:=d;exact⟨x,y,x',y',g,d,f 0 x' x (by rw[d];rfl) (by rw[g];rfl),f 1 y' y (by rw[d];rfl) (by rw[g];rfl)⟩
  have lsame:=ac2 ar e.args k fun j x y i r=>(f j x y i r).1
  rcases a with a | a | a | a | a | a | a | a | a
  ·unfold tkE;rw[pc1 a,pc1 (show (af.mk e.kind e.n t' ar).kind=1 from a)]
  ·unfold tkE;rw[pc2 a,pc2 (show (af.mk e.kind e.n t' ar).kind=2 from a)];rfl
  ·unfold tkE;rw[pc3 a,pc3 (show (af.mk e.kind e.n t' ar).kind=3 from a)];rfl
  ·unfold tkE;rw[pc4 a,pc4 (show (af.mk e.kind e.n t' ar).kind=4 from a),jr,jr,cZ,cZ];show ((tkL ar)++_).length+1=((tkL e.args)++_).length+1
   rw[a7,a7,lsame]
  ·unfold tkE;rw[pc5 a,pc5 (show (af.mk e.kind e.n t' ar).kind=5 from a),oM,oM,jr,jr,cZ,cZ];show ((tkL ar)++_).length+1+1=((tkL e.args)++_).length+1+1
   rw[a7,a7,lsame]
  ·obtain⟨x,y,x',y',g,d,m,o⟩:=two (l.op a).1;rw[ac1 a g,ac1 (e:=⟨e.kind,e.n,t',ar⟩) a d,aam m,aam o]
  ·obtain⟨x,y,x',y',g,d,m,o⟩:=two (l.two (.inl a));have p:=m.1;have q:=o.1;unfold tkE at p q ⊢;rw[pc7 a g,pc7 (e:=⟨e.kind,e.n,t',ar⟩) a d];simp only[cZ,iW,jr,oM,List.length_cons,a7];omega
  ·obtain⟨x,y,z,g⟩:=tJ (l.three a);obtain⟨x',y',z',d⟩:=tJ (e:=⟨0,0,[],ar⟩) (k.trans (l.three a));have d:ar=[x',y',z']:=d;have p:=(f 0 x' x (by rw[d];rfl) (by rw[g];rfl)).1;have q:=(f 1 y' y (by rw[d];rfl) (by rw[g];rfl)).1;have u:=(f 2 z' z (by rw[d];rfl) (by rw[g];rfl)).1;unfold tkE at p q u ⊢;rw[pc8 a g,pc8 (e:=⟨e.kind,e.n,t',ar⟩) a d];simp only[cZ,iW,jr,oM,List.length_cons,a7];omega
  ·obtain⟨x,y,x',y',g,d,m,o⟩:=two (l.two (.inr a));have p:=m.1;have q:=o.1;unfold tkE at p q ⊢;rw[pc9 a g,pc9 (e:=⟨e.kind,e.n,t',ar⟩) a d];simp only[cZ,iW,jr,oM,List.length_cons,a7];omega
mutual
theorem aeR(b:Str):∀(e:af) (bound:List Str),bound.contains b=true->∀p,p∈evE e bound->p.1≠b
 | ⟨k,n,t,a⟩,bound,d,p,c=>by
  rw[AL]at c;split at c
  ·rename_i h;rw[List.mem_singleton.1 c];intro e;have e:t=b:=e;rw[zI]at h;have f:(!bound.contains t)=true:=h.2;rw[e,d]at f;cases f
  ·exact aeS b a _ _ bound 0 d p c
theorem aeS(b:Str):∀(xs:List af) (bi:Bool) (t:Str) (bound:List Str) (i:Nat),bound.contains b=true->∀p,p∈evL xs bi t bound i->p.1≠b
 | [],_,_,_,_,_,p,a=>by cases a
 | x::r,bi,t,bound,i,c,p,a=>by
  have a:p∈(if (bi&&decide (0<i))=true then evE x (bound++[t])else evE x bound)++evL r bi t bound (i+1):=a;rcases List.mem_append.1 a with a | a
  ·split at a
   ·exact aeR b x (bound++[t]) (by simp at c ⊢;exact .inl c) p a
   ·exact aeR b x bound c p a
  ·exact aeS b r bi t bound (i+1) c p a
end
def rp(b c:Str)(p:Str×List Str):Str×List Str:=if (p.1==b)=true then (c,p.2)else p
theorem ai3{b c:Str}{l:List (Str×List Str)}(h:∀p,p∈l->p.1≠b):l.map (rp b c)=l:=by
 refine (List.map_congr_left fun p a=>?_).trans (List.map_id l);show rp b c p=p
 unfold rp;rw[if_neg];have:=h p a;simpa using this
mutual
theorem Y6(b c:Str):∀(e:af) (bound:List Str),bound.contains b=false->(∀p,p∈evE e bound->p.1=b->p.2.contains c=false)->evE (kG b c e) bound=(evE e bound).map (rp b c)
 | ⟨k,n,t,a⟩,bound,j,hcap=>by
  rw[AL]at hcap;show evE ⟨k,n,dG b c k t,mr b c (kK b k t) 0 a⟩ bound=_
  rw[AL,AL];show (if ((k==3)&&!(bound.contains (dG b c k t)))=true then [(dG b c k t,bound)]else evL (mr b c (kK b k t) 0 a) ((k==7)||(k==9)) (dG b c k t) bound 0)=(if ((k==3)&&!(bound.contains t))=true then [(t,bound)]else evL a ((k==7)||(k==9)) t bound 0).map (rp b c)
  have hcap:∀p,p∈(if ((k==3)&&!(bound.contains t))=true then [(t,bound)]else evL a ((k==7)||(k==9)) t bound 0)->p.1=b->p.2.contains c=false:=hcap;have rest:dG b c k t=t->((k==3)&&!(bound.contains t))=false->evL (mr b c (kK b k t) 0 a) ((k==7)||(k==9)) (dG b c k t) bound 0=(evL a ((k==7)||(k==9)) t bound 0).map (rp b c):=fun m o=>by
   rw[o,if_neg (by decide)]at hcap;rw[m];exact aas b c a ((k==7)||(k==9)) t bound 0 j hcap
  by_cases i:k=3
  ·subst i;by_cases g:t=b
   ·subst g;have d:dG t c 3 t=c:=by unfold dG;simp
    rw[j]at hcap ⊢;simp only[beq_self_eq_true,Bool.not_false,Bool.and_self,if_true]at hcap ⊢;have h:=hcap (t,bound) (by simp) rfl;have h:bound.contains c=false:=h;rw[d,h];simp[rp]
   ·have d:dG b c 3 t=t:=by unfold dG;simp[g]
    cases f:bound.contains t with
    | false=>
     rw[d,f];simp[rp,g]
    | true=>
     have:=rest d (by rw[f];rfl);rw[f]at hcap;rw[d]at this ⊢;rw[f];simpa using this
  ·have d:dG b c k t=t:=pW i;have l:((k==3)&&!(bound.contains t))=false:=by simp[i]
   rw[d,l,if_neg (by decide),if_neg (by decide)];have:=rest d l;rw[d]at this;exact this
theorem aas(b c:Str):∀(xs:List af) (bi:Bool) (t:Str) (bound:List Str) (i:Nat),bound.contains b=false->(∀p,p∈evL xs bi t bound i->p.1=b->p.2.contains c=false)->evL (mr b c (bi&&(t==b)) i xs) bi t bound i=(evL xs bi t bound i).map (rp b c)
 | [],_,_,_,_,_,_=>rfl
 | x::r,bi,t,bound,i,f,hcap=>by
  have hcap:∀p,p∈(if (bi&&decide (0<i))=true then evE x (bound++[t])else evE x bound)++evL r bi t bound (i+1)->p.1=b->p.2.contains c=false:=hcap;have j:=aas b c r bi t bound (i+1) f fun p g=>hcap p (List.mem_append_right _ g)
  show (if (bi&&decide (0<i))=true then evE (if ((bi&&(t==b))&&decide (0<i))=true then x else kG b c x) (bound++[t])else evE (if ((bi&&(t==b))&&decide (0<i))=true then x else kG b c x) bound)++evL (mr b c (bi&&(t==b)) (i+1) r) bi t bound (i+1)=((if (bi&&decide (0<i))=true then evE x (bound++[t])else evE x bound)++evL r bi t bound (i+1)).map (rp b c)
  rw[List.map_append,j];congr 1;have hcap1:∀p,p∈(if (bi&&decide (0<i))=true then evE x (bound++[t])else evE x bound)->p.1=b->p.2.contains c=false:=fun p g=>hcap p (List.mem_append_left _ g)
  cases a:(bi&&decide (0<i))with
  | false=>
   rw[a,if_neg (by decide)]at hcap1;have e:((bi&&(t==b))&&decide (0<i))=false:=by
    revert a;cases bi<;>cases (t==b)<;>cases decide (0<i)<;>simp
   rw[e,if_neg (by decide),if_neg (by decide),if_neg (by decide)];exact Y6 b c x bound f hcap1
  | true=>
   rw[a,if_pos rfl]at hcap1;rw[if_pos rfl,if_pos rfl];rw[zI]at a;by_cases d:t=b
   ·have e:((bi&&(t==b))&&decide (0<i))=true:=by rw[a.1,a.2,d];simp
    rw[e,if_pos rfl];exact (ai3 (aeR b x (bound++[t]) (by rw[d];simp))).symm
   ·have e:((bi&&(t==b))&&decide (0<i))=false:=by
     have:(t==b)=false:=by simpa using d
     rw[this];simp
    rw[e,if_neg (by decide)];exact Y6 b c x (bound++[t]) (by simp at f ⊢;exact⟨f,fun h=>d h.symm⟩) hcap1
end
theorem abK{b c:Str}{e:af}(hcap:(evE e []).any (IZ b c)=false)(s:Str):s∈(evE (kG b c e) []).map (·.1)↔(s=c/\b∈(evE e []).map (·.1))\/(s≠b/\s∈(evE e []).map (·.1)):=by
 rw[Y6 b c e [] rfl fun p d g=>?_,List.map_map]
 ·constructor
  ·intro h;obtain⟨p,d,f⟩:=List.mem_map.1 h;have f:(rp b c p).1=s:=f;unfold rp at f;by_cases a:p.1=b
   ·rw[if_pos (by simp[a])]at f;exact .inl ⟨f.symm,List.mem_map.2 ⟨p,d,a⟩⟩
   ·rw[if_neg (by simp[a])]at f;exact .inr ⟨by rw[<- f];exact a,List.mem_map.2 ⟨p,d,f⟩⟩
  ·intro h;rcases h with ⟨rfl,h⟩ | ⟨i,h⟩
   ·obtain⟨p,d,a⟩:=List.mem_map.1 h;refine List.mem_map.2 ⟨p,d,?_⟩;show (rp b s p).1=s
    unfold rp;rw[if_pos (by simp[a])]
   ·obtain⟨p,d,rfl⟩:=List.mem_map.1 h;refine List.mem_map.2 ⟨p,d,?_⟩;show (rp b c p).1=p.1
    unfold rp;rw[if_neg (by simpa using i)]
 ·have:=List.any_eq_false.1 hcap p d;unfold IZ at this;rw[g]at this;simpa using this
end Go.Proofs.YtkebfkahdmddpaaGreatDoor
