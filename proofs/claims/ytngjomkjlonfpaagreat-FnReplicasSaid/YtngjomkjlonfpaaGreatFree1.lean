import Derived.Test.YtngjomkjlonfpaaGreatForm1
import Derived.Test.YtngjomkjlonfpaaGreatOps2
import Derived.Sort.Walk0
set_option linter.unusedSimpArgs false
set_option linter.unusedVariables false
/- Plain laws: free names, captured names, sorted names: alike on both sides. -/
namespace Go.Proofs.YtngjomkjlonfpaaGreat
noncomputable section
open Go.Abs Go.Proofs
mutual
def evE:af->List Str->List (Str×List Str)
 | ⟨k,_,t,a⟩,bound=>if ((k==3)&&!(bound.contains t))=true then [(t,bound)]else evL a ((k==7)||(k==9)) t bound 0
def evL:List af->Bool->Str->List Str->Nat->List (Str×List Str)
 | [],_,_,_,_=>[]
 | x::r,bi,t,bound,i=>(if (bi&&decide (0<i))=true then evE x (bound++[t])else evE x bound)++evL r bi t bound (i+1)
end
theorem XC(e:af)(bound:List Str):evE e bound=if ((e.kind==3)&&!(bound.contains e.text))=true then [(e.text,bound)]else evL e.args ((e.kind==7)||(e.kind==9)) e.text bound 0:=by cases e;rfl
def evP(bi:Bool)(t:Str)(bound:List Str)(i:Nat)(x:af):List (Str×List Str):=if (bi&&decide (0<i))=true then evE x (bound++[t])else evE x bound
theorem Gt(bi:Bool)(t:Str)(bound:List Str):∀(xs ys:List af) (i:Nat),evL (xs++ys) bi t bound i=evL xs bi t bound i++evL ys bi t bound (i+xs.length)
 | [],ys,i=>rfl
 | x::r,ys,i=>by
  show evP bi t bound i x++evL (r++ys) bi t bound (i+1)=(evP bi t bound i x++evL r bi t bound (i+1))++_
  rw[Gt bi t bound r ys (i+1),a6];have:i+1+r.length=i+(x::r).length:=by simp;omega
  rw[this]
theorem ZM(bi:Bool)(t:Str)(bound:List Str){xs:List af}{i:Nat}{x:af}(h:xs[i]?=some x):evL (xs.take (i+1)) bi t bound 0=evL (xs.take i) bi t bound 0++evP bi t bound i x:=by
 obtain⟨hi,rfl⟩:=zC.1 h;rw[List.take_succ_eq_append_getElem hi,Gt];have:0+(xs.take i).length=i:=by rw[a7];omega
 rw[this];show _++(evP bi t bound i _++[])=_
 rw[List.append_nil]
theorem aft(bi:Bool)(t:Str)(bound:List Str)(xs:List af)(i:Nat):evL xs bi t bound 0=evL (xs.take i) bi t bound 0++evL (xs.drop i) bi t bound (0+(xs.take i).length):=by
 rw[<- Gt,List.take_append_drop]
mutual
theorem EH:∀(e:af) (bound:List Str),(evE e bound).length<=wtE e
 | ⟨k,n,t,a⟩,bound=>by
  have h:=XB a ((k==7)||(k==9)) t bound 0;have b:=DV ⟨k,n,t,a⟩;rw[XC];split
  ·simp;exact acL _
  ·show (evL a ((k==7)||(k==9)) t bound 0).length<=_
   have b:1+wtL a<=wtE ⟨k,n,t,a⟩:=b;omega
theorem XB:∀(xs:List af) (bi:Bool) (t:Str) (bound:List Str) (i:Nat),(evL xs bi t bound i).length<=wtL xs
 | [],_,_,_,_=>ar _
 | x::r,bi,t,bound,i=>by
  have a:=EH x bound;have b:=EH x (bound++[t]);have c:=XB r bi t bound (i+1);show ((if (bi&&decide (0<i))=true then evE x (bound++[t])else evE x bound)++evL r bi t bound (i+1)).length<=wtE x+wtL r
  rw[aR];split<;>omega
end
theorem Lu(n:Nat)(bi:Bool)(t:Str)(bound:List Str):∀(xs:List af) (i:Nat),(∀x,x∈xs->∀bd:List Str,bd.length<=bound.length+1->qO n x bd=some (evE x bd))->bound.length<=1048576->BB (qO n) bi t bound i xs=some (evL xs bi t bound i)
 | [],i,_,_=>rfl
 | x::r,i,a,b=>by
  have c:=a x (by simp) bound (by omega);have d:=a x (by simp) (bound++[t]) (by simp);have e:=Lu n bi t bound r (i+1) (fun y f=>a y (ao _ f)) b;show (if (bi&&decide (0<i))=true then (gd (bound.length+1)).bind fun _=>qO n x (bound++[t])else qO n x bound).bind (fun u=>(BB (qO n) bi t bound (i+1) r).bind fun v=>some (u++v))=some ((if (bi&&decide (0<i))=true then evE x (bound++[t])else evE x bound)++evL r bi t bound (i+1))
  rw[gdp (by omega),zA,c,d,e];cases (bi&&decide (0<i))<;>rfl
theorem Fz:∀(n:Nat) (e:af) (bound:List Str),siz e<n->wtE e+bound.length<=1048576->qO n e bound=some (evE e bound)
 | 0,e,_,h,_=>absurd h (Nat.not_lt_zero _)
 | n+1,e,bound,d,f=>by
  have g:=uH (e:=e);have b:=Lu n (decide (e.kind=7)||decide (e.kind=9)) e.text bound e.args 0 (fun x a bd c=>Fz n x bd (by have:=gm a;omega) (by have:=su a;omega)) (by omega);show ((gd bound.length).bind fun _=>(gd e.args.length).bind fun _=>if e.kind=3/\bound.contains e.text=false then some [(e.text,bound)]else BB (qO n) (decide (e.kind=7)||decide (e.kind=9)) e.text bound 0 e.args)=_
  rw[gdp (by omega),zA,gdp (by omega),zA,b,XC];by_cases h:e.kind=3
  ·cases i:bound.contains e.text with
   | true=>
    rw[if_neg (fun hh=>by simp at hh),if_neg (by simp)];rfl
   | false=>
    rw[if_pos ⟨h,rfl⟩,if_pos (by simp[h])]
  ·rw[if_neg (fun hh=>h hh.1),if_neg (by simp[h])];rfl
abbrev amo:=(List Str)×Int×Int×Str×(List af)×(List Str)×Int
abbrev amq:=Str×Str×(List Str)×Int×Int×Str×(List af)×Int
def KY(rec:af->List Str->Option (List Str)):amo->Option (amo⊕List Str):=(fun (a:(List Str)×Int×Int×Str×(List af)×(List Str)×Int)=>
      bif (decide (a.2.2.2.2.2.2<(a.2.2.2.2.1.length:Int)))then
       bif (a.2.1==7)then
        bif (decide (a.2.2.2.2.2.2>0))then
         (gd (0+a.1.length)).bind fun _=>
         (gd (([]++a.1).length+([a.2.2.2.1]:List Str).length)).bind fun _=>
         (idx a.2.2.2.2.1 a.2.2.2.2.2.2).bind fun h=>
         (rec (aj h) (([]++a.1)++([a.2.2.2.1]:List Str))).bind fun e=>
         (gd (a.2.2.2.2.2.1.length+e.length)).bind fun _=>
         some (.inl (a.1,a.2.1,a.2.2.1,a.2.2.2.1,a.2.2.2.2.1,a.2.2.2.2.2.1++e,w64 (a.2.2.2.2.2.2+1)))
        else
         (idx a.2.2.2.2.1 a.2.2.2.2.2.2).bind fun i=>
         (rec (aj i) a.1).bind fun f=>
         (gd (a.2.2.2.2.2.1.length+f.length)).bind fun _=>
         some (.inl (a.1,a.2.1,a.2.2.1,a.2.2.2.1,a.2.2.2.2.1,a.2.2.2.2.2.1++f,w64 (a.2.2.2.2.2.2+1)))
       else
       bif (a.2.1==9)then
        bif (decide (a.2.2.2.2.2.2>0))then
         (gd (0+a.1.length)).bind fun _=>
         (gd (([]++a.1).length+([a.2.2.2.1]:List Str).length)).bind fun _=>
         (idx a.2.2.2.2.1 a.2.2.2.2.2.2).bind fun j=>
         (rec (aj j) (([]++a.1)++([a.2.2.2.1]:List Str))).bind fun g=>
         (gd (a.2.2.2.2.2.1.length+g.length)).bind fun _=>
         some (.inl (a.1,a.2.1,a.2.2.1,a.2.2.2.1,a.2.2.2.2.1,a.2.2.2.2.2.1++g,w64 (a.2.2.2.2.2.2+1)))
        else
         (idx a.2.2.2.2.1 a.2.2.2.2.2.2).bind fun k=>
         (rec (aj k) a.1).bind fun b=>
         (gd (a.2.2.2.2.2.1.length+b.length)).bind fun _=>
         some (.inl (a.1,a.2.1,a.2.2.1,a.2.2.2.1,a.2.2.2.2.1,a.2.2.2.2.2.1++b,w64 (a.2.2.2.2.2.2+1)))
       else
        (idx a.2.2.2.2.1 a.2.2.2.2.2.2).bind fun d=>
        (rec (aj d) a.1).bind fun c=>
        (gd (a.2.2.2.2.2.1.length+c.length)).bind fun _=>
        some (.inl (a.1,a.2.1,a.2.2.1,a.2.2.2.1,a.2.2.2.2.1,a.2.2.2.2.2.1++c,w64 (a.2.2.2.2.2.2+1)))
      else
       some (.inr (a.2.2.2.2.2.1))
  )
def vP(rec:af->Str->Str->List Str->Option Bool):amq->Option (amq⊕Bool):=(fun (a:Str×Str×(List Str)×Int×Int×Str×(List af)×Int)=>
      bif (decide (a.2.2.2.2.2.2.2<(a.2.2.2.2.2.2.1.length:Int)))then
       bif (a.2.2.2.1==7)then
        bif (decide (a.2.2.2.2.2.2.2>0))then
         (gd (0+a.2.2.1.length)).bind fun _=>
         (gd (([]++a.2.2.1).length+([a.2.2.2.2.2.1]:List Str).length)).bind fun _=>
         (idx a.2.2.2.2.2.2.1 a.2.2.2.2.2.2.2).bind fun f=>
         (rec (aj f) a.1 a.2.1 (([]++a.2.2.1)++([a.2.2.2.2.2.1]:List Str))).bind fun g=>
         bif g then
          some (.inr (true))
         else
          some (.inl (a.1,a.2.1,a.2.2.1,a.2.2.2.1,a.2.2.2.2.1,a.2.2.2.2.2.1,a.2.2.2.2.2.2.1,w64 (a.2.2.2.2.2.2.2+1)))
        else
         (idx a.2.2.2.2.2.2.1 a.2.2.2.2.2.2.2).bind fun h=>
         (rec (aj h) a.1 a.2.1 a.2.2.1).bind fun i=>
         bif i then
          some (.inr (true))
         else
          some (.inl (a.1,a.2.1,a.2.2.1,a.2.2.2.1,a.2.2.2.2.1,a.2.2.2.2.2.1,a.2.2.2.2.2.2.1,w64 (a.2.2.2.2.2.2.2+1)))
       else
       bif (a.2.2.2.1==9)then
        bif (decide (a.2.2.2.2.2.2.2>0))then
         (gd (0+a.2.2.1.length)).bind fun _=>
         (gd (([]++a.2.2.1).length+([a.2.2.2.2.2.1]:List Str).length)).bind fun _=>
         (idx a.2.2.2.2.2.2.1 a.2.2.2.2.2.2.2).bind fun j=>
         (rec (aj j) a.1 a.2.1 (([]++a.2.2.1)++([a.2.2.2.2.2.1]:List Str))).bind fun k=>
         bif k then
          some (.inr (true))
         else
          some (.inl (a.1,a.2.1,a.2.2.1,a.2.2.2.1,a.2.2.2.2.1,a.2.2.2.2.2.1,a.2.2.2.2.2.2.1,w64 (a.2.2.2.2.2.2.2+1)))
        else
         (idx a.2.2.2.2.2.2.1 a.2.2.2.2.2.2.2).bind fun b=>
         (rec (aj b) a.1 a.2.1 a.2.2.1).bind fun c=>
         bif c then
          some (.inr (true))
         else
          some (.inl (a.1,a.2.1,a.2.2.1,a.2.2.2.1,a.2.2.2.2.1,a.2.2.2.2.2.1,a.2.2.2.2.2.2.1,w64 (a.2.2.2.2.2.2.2+1)))
       else
        (idx a.2.2.2.2.2.2.1 a.2.2.2.2.2.2.2).bind fun d=>
        (rec (aj d) a.1 a.2.1 a.2.2.1).bind fun e=>
        bif e then
         some (.inr (true))
        else
         some (.inl (a.1,a.2.1,a.2.2.1,a.2.2.2.1,a.2.2.2.2.1,a.2.2.2.2.2.1,a.2.2.2.2.2.2.1,w64 (a.2.2.2.2.2.2.2+1)))
      else
       some (.inr (false))
  )
theorem aeL(rec)(a:af)(b:List Str):JZ rec a b=bif (a.kind==3)then ((lD b a.text).bind fun c=>bif (!c)then ((gd (0+([a.text]:List Str).length)).bind fun _=>some ([]++([a.text]:List Str)))else aA (KY rec) (b,a.kind,a.n,a.text,a.args,[],0))else aA (KY rec) (b,a.kind,a.n,a.text,a.args,[],0):=rfl
theorem YJ(rec)(a:af)(b c:Str)(d:List Str):CB rec a b c d=bif (a.kind==3)then ((lD d a.text).bind fun e=>bif (!e)then (bif (a.text==b)then ((lD d c).bind fun f=>some f)else some false)else aA (vP rec) (b,c,d,a.kind,a.n,a.text,a.args,0))else aA (vP rec) (b,c,d,a.kind,a.n,a.text,a.args,0):=rfl
theorem adS:∀(n:Nat) (e:af) (bound:List Str),siz e<n->wtE e+bound.length<=1048576->qw n e bound=some ((evE e bound).map (·.1))
 | 0,e,_,h,_=>absurd h (Nat.not_lt_zero _)
 | n+1,e,bound,t,u=>by
  have ih:=adS n;have v:=uH (e:=e);have hloop:aA (KY (qw n)) (bound,e.kind,e.n,e.text,e.args,[],0)=some ((evL e.args ((e.kind==7)||(e.kind==9)) e.text bound 0).map (·.1)):=by
   have key:=dL (g:=KY (qw n)) (fun (s:List Str) (i:Nat)=>((bound,e.kind,e.n,e.text,e.args,s,(i:Int)):amo)) e.args (fun i s=>s=(evL (e.args.take i) ((e.kind==7)||(e.kind==9)) e.text bound 0).map (·.1)) (fun r=>r=(evL e.args ((e.kind==7)||(e.kind==9)) e.text bound 0).map (·.1)) (fun i x s a b=>.inl ?_) (fun s b=>?_) [] rfl
   ·obtain⟨r,h,rfl⟩:=key;exact h
   ·have c:=zG a;have w:=su c;have y:=Oq a;have z:=wz e.args (i+1);have A:=DV e;have d:=XB (e.args.take i) ((e.kind==7)||(e.kind==9)) e.text bound 0;have B:=gm c;have f:=ih x bound (by omega) (by omega);have j:=ih x (([]++bound)++([e.text]:List Str)) (by omega) (by simp;omega);have C:=EH x bound;have D:=EH x (bound++[e.text]);refine⟨s++(evP ((e.kind==7)||(e.kind==9)) e.text bound i x).map (·.1),?_,by rw[ZM _ _ _ a,List.map_append,b]⟩;have k:s.length<=wtL (e.args.take i):=by rw[b,List.length_map];exact d
    have l:gd (s.length+((evE x bound).map (·.1)).length)=some ():=gdp (by rw[List.length_map];omega);have m:gd (s.length+((evE x (([]++bound)++([e.text]:List Str))).map (·.1)).length)=some ():=gdp (by rw[List.length_map,List.nil_append];omega);have o:gd (0+bound.length)=some ():=gdp (by omega);have p:gd (([]++bound).length+([e.text]:List Str).length)=some ():=gdp (by simp;omega);simp only[KY,dn a,ab,au,a,zA,aP,f,j,l,m,o,p,dm a (by omega),WO];unfold evP;cases (e.kind==7)<;>cases (e.kind==9)<;>cases decide (0<i)<;>rfl
   ·refine⟨_,by simp only[KY,bP,aa];rfl,by rw[b,List.take_length]⟩
  show JZ (qw n) e bound=_
  rw[aeL,hloop,oL _ _ (by omega),XC];have q:gd (0+([e.text]:List Str).length)=some ():=gdp (by simp);cases (e.kind==3)<;>cases bound.contains e.text<;>simp only[ab,aa,aE,Bool.not_false,Bool.and_true,Bool.and_false,Bool.true_and,Bool.false_and,aD,if_true,if_false,zA,q]<;>rfl
def aae(b c:Str)(p:Str×List Str):Bool:=p.1==b&&p.2.contains c
theorem Vd(b c:Str):∀(n:Nat) (e:af) (bound:List Str),siz e<n->wtE e+bound.length<=1048576->kJ n e b c bound=some ((evE e bound).any (aae b c))
 | 0,e,_,h,_=>absurd h (Nat.not_lt_zero _)
 | n+1,e,bound,q,t=>by
  have ih:=Vd b c n;have u:=uH (e:=e);have hloop:aA (vP (kJ n)) (b,c,bound,e.kind,e.n,e.text,e.args,0)=some ((evL e.args ((e.kind==7)||(e.kind==9)) e.text bound 0).any (aae b c)):=by
   have key:=dL (g:=vP (kJ n)) (fun (s:Unit) (i:Nat)=>((b,c,bound,e.kind,e.n,e.text,e.args,(i:Int)):amq)) e.args (fun i s=>(evL (e.args.take i) ((e.kind==7)||(e.kind==9)) e.text bound 0).any (aae b c)=false) (fun r=>r=(evL e.args ((e.kind==7)||(e.kind==9)) e.text bound 0).any (aae b c)) (fun i x s a d=>?_) (fun s d=>?_) () rfl
   ·obtain⟨r,h,rfl⟩:=key;exact h
   ·have j:=zG a;have v:=su j;have w:=gm j;have l:=ih x bound (by omega) (by omega);have m:=ih x (([]++bound)++([e.text]:List Str)) (by omega) (by simp;omega);have o:gd (0+bound.length)=some ():=gdp (by omega);have p:gd (([]++bound).length+([e.text]:List Str).length)=some ():=gdp (by simp;omega);have step:vP (kJ n) (b,c,bound,e.kind,e.n,e.text,e.args,(i:Int))=bif (evP ((e.kind==7)||(e.kind==9)) e.text bound i x).any (aae b c)then some (.inr true)else some (.inl (b,c,bound,e.kind,e.n,e.text,e.args,((i+1:Nat):Int))):=by
     simp only[vP,dn a,ab,au,a,zA,aP,l,m,o,p,dm a (by omega),WO];unfold evP;cases (e.kind==7)<;>cases (e.kind==9)<;>cases decide (0<i)<;>rfl
    have k:=ZM ((e.kind==7)||(e.kind==9)) e.text bound a;cases f:(evP ((e.kind==7)||(e.kind==9)) e.text bound i x).any (aae b c)with
    | true=>
     refine .inr ⟨true,by rw[step,f];rfl,?_⟩;rw[aft _ _ _ e.args (i+1),List.any_append,k,List.any_append,f];simp
    | false=>
     refine .inl ⟨(),by rw[step,f];rfl,?_⟩;rw[k,List.any_append,d,f];rfl
   ·refine⟨false,by simp only[vP,bP,aa],?_⟩;rw[List.take_length]at d;exact d.symm
  show CB (kJ n) e b c bound=_
  rw[YJ,hloop,oL _ _ (by omega),oL _ _ (by omega),XC];cases (e.kind==3)<;>cases bound.contains e.text<;>simp only[ab,aa,aE,Bool.not_false,Bool.and_true,Bool.and_false,Bool.true_and,Bool.false_and,aD,if_true,if_false,zA]
  show (bif (e.text==b)then some (bound.contains c)else some false)=some (((e.text==b)&&bound.contains c)||false)
  cases (e.text==b)<;>cases bound.contains c<;>rfl
theorem DN(e:af)(b c:Str)(f:wtE e<=1000):∃v,kK e b c=some v/\lV e b c=some v:=by
 have a:=Fz (siz e+1) e [] (Nat.lt_succ_self _) (by simp;omega);have d:FN e b c []=some ((evE e []).any (aae b c)):=Vd b c _ e [] (by omega) (by simp;omega);have g:=EH e [];refine⟨(evE e []).any (aae b c),?_,?_⟩
 ·unfold kK;rw[a,zA,gdp (by omega)];rfl
 ·unfold lV;rw[aP,d];rfl
def ng(xs:List Str):Prop:=xs.Pairwise (· < ·)
theorem Ur:∀ {xs ys:List Str},ng xs->ng ys->(∀b,b∈xs↔b∈ys)->xs=ys
 | [],[],_,_,_=>rfl
 | [],y::r,_,_,h=>absurd ((h y).2 (by simp)) (by simp)
 | x::r,[],_,_,h=>absurd ((h x).1 (by simp)) (by simp)
 | x::r,y::q,j,k,h=>by
  obtain⟨a,f⟩:=List.pairwise_cons.1 j;obtain⟨c,g⟩:=List.pairwise_cons.1 k;have i:x=y:=by
   rcases a8.1 ((h x).1 (by simp))with e | e
   ·exact e
   ·rcases a8.1 ((h y).2 (by simp))with e' | e'
    ·exact e'.symm
    ·exact absurd (List.lt_trans (c x e) (a y e')) (List.lt_irrefl _)
  subst i;rw[Ur f g fun b=>⟨fun d=>?_,fun d=>?_⟩]
  ·rcases a8.1 ((h b).1 (ao _ d))with e | e
   ·subst e;exact absurd (a _ d) (List.lt_irrefl _)
   ·exact e
  ·rcases a8.1 ((h b).2 (ao _ d))with e | e
   ·subst e;exact absurd (c _ d) (List.lt_irrefl _)
   ·exact e
theorem JO{xs:List Str}(e:xs.Pairwise (fun a b=>decide (a<=b)=true))(f:xs.Nodup):ng xs:=by
 induction xs with
 | nil=>exact List.Pairwise.nil
 | cons x r ih=>
  obtain⟨g,i⟩:=List.pairwise_cons.1 e;obtain⟨j,k⟩:=List.nodup_cons.1 f;refine List.pairwise_cons.2 ⟨fun y d=>?_,ih i k⟩;have c:x<=y:=of_decide_eq_true (g y d);rcases Decidable.em (x<y)with h | h
  ·exact h
  ·have:x=y:=List.le_antisymm c h;subst this;exact absurd d j
theorem Qh(s:Str):∀(xs:List Str) (i k:Nat),xs[i]?=some s->(posOf s k xs==((k+i:Nat):Int)) = !((xs.take i).contains s)
 | [],i,k,h=>by simp at h
 | x::r,i,k,h=>by
  unfold posOf;cases i with
  | zero=>
   simp at h;subst h;simp
  | succ i=>
   have h:r[i]?=some s:=by simpa using h
   by_cases a:x==s
   ·rw[if_pos a];have e:x=s:=by simpa using a
    subst e;have:((k:Int)==((k+(i+1):Nat):Int))=false:=by simp;omega
    rw[this];simp
   ·rw[if_neg a];have:=Qh s r i (k+1) h;rw[show k+(i+1)=k+1+i by omega,this];have e:¬x=s:=by simpa using a
    have b:¬s=x:=fun h=>e h.symm
    simp[b]
abbrev acH:=(List Str)×(List Str)×(List Str)×Int×Int
def aaD:acH->Option (acH⊕List Str):=(fun (a:(List Str)×(List Str)×(List Str)×Int×Int)=>
      bif (decide (a.2.2.2.2<a.2.2.2.1))then
       (idx a.2.2.1 a.2.2.2.2).bind fun b=>
       (kE a.1 b).bind fun c=>
       bif (c==a.2.2.2.2)then
        (gd (a.2.1.length+([b]:List Str).length)).bind fun _=>
        some (.inl (a.1,a.2.1++([b]:List Str),a.2.2.1,a.2.2.2.1,w64 (a.2.2.2.2+1)))
       else
        some (.inl (a.1,a.2.1,a.2.2.1,a.2.2.2.1,w64 (a.2.2.2.2+1)))
      else
       (
        (vF a.2.1).bind fun d=>
        some (d)
       ).bind fun r=>some (.inr r)
  )
theorem TM(xs:List Str)(t:xs.length<=1048576):∃ys,Gf xs=some ys/\ng ys/\∀b,b∈ys↔b∈xs:=by
 refine dL (g:=aaD) (fun (out:List Str) (i:Nat)=>((xs,out,xs,(xs.length:Int),(i:Int)):acH)) xs (fun i out=>out.Nodup/\out.length<=i/\∀b,b∈out↔b∈xs.take i) (fun ys=>ng ys/\∀b,b∈ys↔b∈xs) (fun i x out d k=>.inl ?_) (fun out k=>?_) [] ⟨List.Pairwise.nil,ar _,by simp⟩
 ·obtain⟨f,p,e⟩:=k;have hi:=(zC.1 d).1;have m:=Qh x xs i 0 d;rw[Nat.zero_add]at m;have n:xs.take (i+1)=xs.take i++[x]:=by
   obtain⟨hi,rfl⟩:=zC.1 d;rw[List.take_succ_eq_append_getElem hi]
  simp only[aaD,dn d,ab,au,d,zA,wW xs x (by omega),m,dm d (by omega)];cases o:(xs.take i).contains x with
  | true=>
   refine⟨out,by simp only[aE,aa],f,by omega,fun b=>?_⟩;rw[e,n,List.mem_append];refine⟨.inl,fun h=>?_⟩;rcases h with h | h
   ·exact h
   ·rw[List.mem_singleton.1 h];simpa using o
  | false=>
   have l:x∉out:=fun h=>by
    have:=(e x).1 h;have j:(xs.take i).contains x=true:=by simpa using this
    rw[o]at j;cases j
   refine⟨out++[x],?_,?_,by simp;omega,fun b=>?_⟩
   ·simp only[Bool.not_false,ab];rw[gdp (by simp;omega)];rfl
   ·rw[List.nodup_append];refine⟨f,by simp,fun a q b r=>?_⟩;rw[List.mem_singleton.1 r];rintro rfl;exact l q
   ·rw[n,List.mem_append,List.mem_append,e]
 ·obtain⟨f,p,e⟩:=k;rw[List.take_length]at e;refine⟨out.mergeSort fun x y=>decide (x<=y),?_,?_,fun b=>?_⟩
  ·simp only[aaD,bP,aa,vF];rw[gdp (by omega)];rfl
  ·refine JO (List.pairwise_mergeSort (fun a b c s j=>?_) (fun a b=>?_) out) ((List.mergeSort_perm out _).nodup_iff.2 f)
   ·exact ae (List.le_trans (of_decide_eq_true s) (of_decide_eq_true j))
   ·rcases List.le_total a b with h | h
    ·rw[ae h];rfl
    ·rw[ae h];simp
  ·rw[(List.mergeSort_perm out _).mem_iff,e]
def vG(x:Str):List Str->List Str
 | []=>[x]
 | y::r=>if y<x then y::vG x r else if y=x then y::r else x::y::r
theorem QS(x b:Str):∀(xs:List Str),b∈vG x xs↔b=x\/b∈xs
 | []=>by simp[vG]
 | y::r=>by
  unfold vG;split
  ·rw[a8,QS x b r,a8];constructor
   ·rintro (h | h | h)
    ·exact .inr (.inl h)
    ·exact .inl h
    ·exact .inr (.inr h)
   ·rintro (h | h | h)
    ·exact .inr (.inl h)
    ·exact .inl h
    ·exact .inr (.inr h)
  ·split
   ·rename_i h;subst h;rw[a8];constructor
    ·exact .inr
    ·rintro (h | h)
     ·exact .inl h
     ·exact h
   ·rw[a8]
theorem Zp(x:Str):∀(xs:List Str),(vG x xs).length<=xs.length+1
 | []=>by simp[vG]
 | y::r=>by
  have:=Zp x r;unfold vG;split
  ·simp;omega
  ·split<;>simp
theorem MV(x:Str):∀(xs:List Str),ng xs->ng (vG x xs)
 | [],_=>List.pairwise_cons.2 ⟨by simp,List.Pairwise.nil⟩
 | y::r,h=>by
  obtain⟨g,i⟩:=List.pairwise_cons.1 h;unfold vG;split
  ·rename_i c;refine List.pairwise_cons.2 ⟨fun b d=>?_,MV x r i⟩;rcases (QS x b r).1 d with e | e
   ·rw[e];exact c
   ·exact g b e
  ·rename_i j;split
   ·exact h
   ·rename_i f;have a:x<y:=by
     rcases Decidable.em (x<y)with h | h
     ·exact h
     ·exact absurd (List.le_antisymm h j) f
    refine List.pairwise_cons.2 ⟨fun b d=>?_,h⟩;rcases a8.1 d with e | e
    ·rw[e];exact a
    ·exact List.lt_trans a (g b e)
theorem KJ(x:Str):∀(a r:List Str),(∀y,y∈a->y<x)->vG x (a++r)=a++vG x r
 | [],r,_=>rfl
 | y::a,r,h=>by
  show (if y<x then y::vG x (a++r)else _)=_
  rw[if_pos (h y (by simp)),KJ x a r fun z b=>h z (ao _ b)];rfl
abbrev XK:=(List Str)×(List Str)×Int
abbrev aiu:=(List Str)×(List Str)×Int×Int
def o8:aiu->Option (aiu⊕(XK⊕List Str)):=(fun (a:(List Str)×(List Str)×Int×Int)=>
      bif (decide (a.2.2.2<(a.2.1.length:Int)))then
       (idx a.2.1 a.2.2.2).bind fun _=>
       (a.2.1[a.2.2.2.toNat]?).bind fun p=>
       (idx a.1 a.2.2.1).bind fun q=>
       bif (Op.bytesLess p q)then
        some (.inl (a.1,a.2.1,a.2.2.1,w64 (a.2.2.2+1)))
       else
       (
        bif (decide (a.2.2.2<(a.2.1.length:Int)))then
         (idx a.2.1 a.2.2.2).bind fun _=>
         (a.2.1[a.2.2.2.toNat]?).bind fun s=>
         (idx a.1 a.2.2.1).bind fun t=>
         bif (s==t)then
          some (.inl (a.1,a.2.1,w64 (a.2.2.1+1)))
         else
          (cutAt a.2.1 a.2.2.2).bind fun m=>
          (gd (0+(a.2.1.drop m).length)).bind fun _=>
          (cutAt a.2.1 a.2.2.2).bind fun b=>
          (idx a.1 a.2.2.1).bind fun c=>
          (gd ((a.2.1.take b).length+([c]:List Str).length)).bind fun _=>
          (gd (((a.2.1.take b)++([c]:List Str)).length+([]++(a.2.1.drop m)).length)).bind fun _=>
          some (.inl (a.1,((a.2.1.take b)++([c]:List Str))++([]++(a.2.1.drop m)),w64 (a.2.2.1+1)))
        else
         (cutAt a.2.1 a.2.2.2).bind fun d=>
         (gd (0+(a.2.1.drop d).length)).bind fun _=>
         (cutAt a.2.1 a.2.2.2).bind fun e=>
         (idx a.1 a.2.2.1).bind fun f=>
         (gd ((a.2.1.take e).length+([f]:List Str).length)).bind fun _=>
         (gd (((a.2.1.take e)++([f]:List Str)).length+([]++(a.2.1.drop d)).length)).bind fun _=>
         some (.inl (a.1,((a.2.1.take e)++([f]:List Str))++([]++(a.2.1.drop d)),w64 (a.2.2.1+1)))
       ).bind fun r=>some (.inr r)
      else
      (
       bif (decide (a.2.2.2<(a.2.1.length:Int)))then
        (idx a.2.1 a.2.2.2).bind fun _=>
        (a.2.1[a.2.2.2.toNat]?).bind fun n=>
        (idx a.1 a.2.2.1).bind fun o=>
        bif (n==o)then
         some (.inl (a.1,a.2.1,w64 (a.2.2.1+1)))
        else
         (cutAt a.2.1 a.2.2.2).bind fun g=>
         (gd (0+(a.2.1.drop g).length)).bind fun _=>
         (cutAt a.2.1 a.2.2.2).bind fun h=>
         (idx a.1 a.2.2.1).bind fun i=>
         (gd ((a.2.1.take h).length+([i]:List Str).length)).bind fun _=>
         (gd (((a.2.1.take h)++([i]:List Str)).length+([]++(a.2.1.drop g)).length)).bind fun _=>
         some (.inl (a.1,((a.2.1.take h)++([i]:List Str))++([]++(a.2.1.drop g)),w64 (a.2.2.1+1)))
       else
        (cutAt a.2.1 a.2.2.2).bind fun j=>
        (gd (0+(a.2.1.drop j).length)).bind fun _=>
        (cutAt a.2.1 a.2.2.2).bind fun k=>
        (idx a.1 a.2.2.1).bind fun l=>
        (gd ((a.2.1.take k).length+([l]:List Str).length)).bind fun _=>
        (gd (((a.2.1.take k)++([l]:List Str)).length+([]++(a.2.1.drop j)).length)).bind fun _=>
        some (.inl (a.1,((a.2.1.take k)++([l]:List Str))++([]++(a.2.1.drop j)),w64 (a.2.2.1+1)))
      ).bind fun r=>some (.inr r)
  )
def N7:XK->Option (XK⊕List Str):=fun a=>
 bif (decide (a.2.2<(a.1.length:Int)))then
  aA o8 (a.1,a.2.1,a.2.2,0)
 else
  some (.inr (a.2.1))
theorem SA(xs:List Str):uO xs=aA N7 (xs,[],0):=rfl
theorem U9{α:Type}(xs:List α)(i:Nat)(h:i<=xs.length):cutAt xs (i:Int)=some i:=by
 unfold cutAt;rw[if_pos ⟨by omega,by omega⟩];simp
theorem ahy(xs:List Str)(i:Nat)(x:Str)(g:xs[i]?=some x)(q:xs.length<=1048576)(out:List Str)(r:out.length<=1048576) :
  aA o8 (xs,out,(i:Int),0)=some (.inl (xs,vG x out,((i+1:Nat):Int))):=by
 have hi:=(zC.1 g).1;have m:idx xs (i:Int)=some x:=by rw[au,g]
 have n:w64 ((i:Int)+1)=((i+1:Nat):Int):=dm g (by omega);have key:∀(k at':Nat),out.length=at'+k->(∀y,y∈out.take at'->y<x)->aA o8 (xs,out,(i:Int),(at':Int))=some (.inl (xs,vG x out,((i+1:Nat):Int))):=by
  intro k;induction k with
  | zero=>
   intro a p b;have e:a=out.length:=by omega
   subst e;rw[List.take_length]at b;have hins:vG x out=out++[x]:=by
    have:=KJ x out [] b;rw[List.append_nil]at this;exact this
   have d:o8 (xs,out,(i:Int),(out.length:Int))=some (.inr (.inl (xs,vG x out,((i+1:Nat):Int)))):=by
    simp only[o8,bP,aa,U9 out out.length (ar _),zA,m,n,List.drop_length,List.take_length];rw[gdp (by simp),zA,gdp (by simp;omega),zA,gdp (by simp;omega),zA,zA,hins];simp
   rw[aF,d]
  | succ k ih=>
   intro a p b;have c:a<out.length:=by omega
   have o:=zF c;have hdec:decide ((a:Int)<(out.length:Int))=true:=by simp;omega
   have hsplit:out=out.take a++out[a]::out.drop (a+1):=by
    rw[<- List.drop_eq_getElem_cons c,List.take_append_drop]
   have hins:vG x out=out.take a++vG x (out[a]::out.drop (a+1)):=by
    conv=>lhs;rw[hsplit]
    exact KJ x _ _ b
   by_cases j:out[a]<x
   ·have d:o8 (xs,out,(i:Int),(a:Int))=some (.inl (xs,out,(i:Int),((a+1:Nat):Int))):=by
     simp only[o8,hdec,ab,au,o,g,zA,aw,Go.Proofs.bytesLess_eq,ae j];rw[bM (by omega) (by omega)];rfl
    rw[aF,d];refine ih (a+1) (by omega) fun y h=>?_
    rw[List.take_succ_eq_append_getElem c]at h;rcases List.mem_append.1 h with h | h
    ·exact b y h
    ·rw[List.mem_singleton.1 h];exact j
   ·by_cases l:out[a]=x
    ·have hins2:vG x out=out:=by
      rw[hins];show out.take a++(if out[a]<x then _ else if out[a]=x then out[a]::out.drop (a+1)else _)=out
      rw[if_neg j,if_pos l];exact hsplit.symm
     have d:o8 (xs,out,(i:Int),(a:Int))=some (.inr (.inl (xs,vG x out,((i+1:Nat):Int)))):=by
      have f:(out[a]==x)=true:=by simp[l]
      simp only[o8,hdec,ab,au,o,g,zA,aw,Go.Proofs.bytesLess_eq,ac j,aa,f,n,hins2]
     rw[aF,d]
    ·have hins2:vG x out=out.take a++[x]++out.drop a:=by
      rw[hins];show out.take a++(if out[a]<x then _ else if out[a]=x then out[a]::out.drop (a+1)else x::out[a]::out.drop (a+1))=_
      rw[if_neg j,if_neg l,<- List.drop_eq_getElem_cons c];simp
     have d:o8 (xs,out,(i:Int),(a:Int))=some (.inr (.inl (xs,vG x out,((i+1:Nat):Int)))):=by
      have f:(out[a]==x)=false:=by simp[l]
      simp only[o8,hdec,ab,au,o,g,zA,aw,Go.Proofs.bytesLess_eq,ac j,aa,f,n,U9 out a (by omega)];rw[gdp (by simp;omega),zA,gdp (by simp;omega),zA,gdp (by simp;omega),zA,zA,hins2];simp
     rw[aF,d]
 exact key out.length 0 (by omega) (by simp)
theorem Sz(xs:List Str)(f:xs.length<=1048576):∃ys,uO xs=some ys/\ng ys/\∀b,b∈ys↔b∈xs:=by
 rw[SA];refine dL (g:=N7) (fun (out:List Str) (i:Nat)=>((xs,out,(i:Int)):XK)) xs (fun i out=>ng out/\out.length<=i/\∀b,b∈out↔b∈xs.take i) (fun ys=>ng ys/\∀b,b∈ys↔b∈xs) (fun i x out a d=>.inl ?_) (fun out d=>?_) [] ⟨List.Pairwise.nil,ar _,by simp⟩
 ·obtain⟨e,h,c⟩:=d;have hi:=(zC.1 a).1;have j:xs.take (i+1)=xs.take i++[x]:=by
   obtain⟨hi,rfl⟩:=zC.1 a;rw[List.take_succ_eq_append_getElem hi]
  refine⟨vG x out,?_,MV x out e,by have:=Zp x out;omega,fun b=>?_⟩
  ·simp only[N7,dn a,ab];exact ahy xs i x a f out (by omega)
  ·rw[QS,c,j,List.mem_append,List.mem_singleton];exact Or.comm
 ·obtain⟨e,h,c⟩:=d;rw[List.take_length]at c;exact⟨out,by simp only[N7,bP,aa],e,c⟩
theorem NF(xs:List Str)(a:xs.length<=1048576):∃ys,Gf xs=some ys/\uO xs=some ys/\ng ys/\∀b,b∈ys↔b∈xs:=by
 obtain⟨ys,e,c,d⟩:=TM xs a;obtain⟨zs,f,g,h⟩:=Sz xs a;have:ys=zs:=Ur c g fun b=>by rw[d,h]
 subst this;exact⟨ys,e,f,c,d⟩
theorem aay:∀ {xs:List Str} {ys:List Str},ng xs->(∀b,b∈xs->b∈ys)->xs.length<=ys.length:=by
 intro xs;induction xs with
 | nil=>intro ys _ _;exact Nat.zero_le _
 | cons x r ih=>
  intro ys h c;obtain⟨g,i⟩:=List.pairwise_cons.1 h;have d:=c x (by simp);have:=ih (ys:=ys.erase x) i fun b f=>by
   have a:b≠x:=fun e=>by subst e;exact List.lt_irrefl _ (g b f)
   exact (List.mem_erase_of_ne a).2 (c b (ao _ f))
  rw[List.length_erase_of_mem d]at this;have:=List.length_pos_of_mem d;simp only[List.length_cons];omega
theorem Bl(e:af)(j:wtE e<=1000):∃ys,Aq e=some ys/\uV e=some ys/\ng ys/\ys.length<=wtE e/\∀b,b∈ys↔b∈(evE e []).map (·.1):=by
 have d:=Fz (siz e+1) e [] (Nat.lt_succ_self _) (by simp;omega);have f:Ph e []=some ((evE e []).map (·.1)):=adS _ e [] (by omega) (by simp;omega);have k:=EH e [];obtain⟨ys,g,h,a,c⟩:=NF ((evE e []).map (·.1)) (by rw[List.length_map];omega);refine⟨ys,?_,?_,a,?_,c⟩
 ·unfold Aq;rw[d,zA,gdp (by omega)];exact g
 ·unfold uV;rw[aP,f,zA,h];rfl
 ·have:=aay a fun b i=>(c b).1 i
  rw[List.length_map]at this;omega
theorem LD(a:Str)(b:a.length<=34359738368)(h:bg a=some true):a.length<=8:=by
 unfold bg at h;rw[Ap a b]at h;by_cases c:(a.length:Int)<=8
 ·omega
 ·rw[ac c,Bool.and_false,Bool.and_false]at h;cases h
theorem yI(e:af)(b c:Str)(k:wtE e<=1000)(g:b.length<=34359738368)(d:c.length<=34359738368) :
  ∃(x:af) (v:Bool),mr e b c=some (x,v)/\kH e b c=some (x,v)/\wtE x<=1000:=by
 obtain⟨v0,l,m,n⟩:=wB e (by omega);obtain⟨h,i⟩:=mJ b g;obtain⟨j,f⟩:=mJ c d;have o:bU b=some h:=by rw[<- oI b g,i]
 have p:bU c=some j:=by rw[<- oI c d,f]
 obtain⟨v3,q,r⟩:=DN e b c k;have s:Zu e b c=some (NK b c e):=ac9 b c _ e (by omega) (by omega);have a:wtE ⟨0,0,[],[]⟩<=1000:=by rw[DW];simp[wtL]
 unfold mr kH;simp only[aP,l,m,i,f,o,p,q,r,s,zA];cases v0 with
 | false=>exact⟨_,_,rfl,rfl,a⟩
 | true=>
  obtain⟨t,hw40⟩:=n rfl;have u:FM e b c=some (NK b c e):=ac7 b c _ e (by omega) (by omega) t;simp only[u,zA,aE,aa];cases h with
  | false=>exact⟨_,_,rfl,rfl,a⟩
  | true=>
   cases j with
   | false=>exact⟨_,_,rfl,rfl,a⟩
   | true=>
    have w:=LD c d f;cases v3 with
    | true=>exact⟨_,_,rfl,rfl,a⟩
    | false=>exact⟨NK b c e,true,rfl,rfl,by have:=ada b c (by omega) e;omega⟩
theorem afn(ys:List Str)(b:Str)(c:ys.length<=34359738368):∃p:Int,kE ys b=some p/\lD ys b=some (!(decide (p<0))):=by
 refine⟨posOf b 0 ys,wW ys b c,?_⟩;rw[oL ys b c];have h:=Kt b ys 0;cases a:ys.contains b with
 | false=>rw[ae (h.2 a)];rfl
 | true=>
  have:¬posOf b 0 ys<0:=fun hh=>by rw[h.1 hh]at a;cases a
  rw[ac this];rfl
theorem VG{α X Y ρ σ:Type}{f:X->Option (X⊕ρ)}{g:Y->Option (Y⊕ρ)}(px:σ->Nat->X)(py:σ->Nat->Y)(xs:List α)(I:Nat->σ->Prop)(R:ρ->Prop)
  (j:∀i x s,xs[i]?=some x->I i s->(∃s',f (px s i)=some (.inl (px s' (i+1)))/\g (py s i)=some (.inl (py s' (i+1)))/\I (i+1) s')\/∃r,f (px s i)=some (.inr r)/\g (py s i)=some (.inr r)/\R r)
  (l:∀s,I xs.length s->∃r,f (px s xs.length)=some (.inr r)/\g (py s xs.length)=some (.inr r)/\R r) (s:σ) (m:I 0 s):∃r,aA f (px s 0)=some r/\aA g (py s 0)=some r/\R r:=by
 have key:∀(k i:Nat) (s:σ),xs.length=i+k->I i s->∃r,aA f (px s i)=some r/\aA g (py s i)=some r/\R r:=by
  intro k;induction k with
  | zero=>
   intro i s hi d;have:i=xs.length:=by omega
   subst this;obtain⟨r,a,b,c⟩:=l s d;exact⟨r,by rw[aF,a],by rw[aF,b],c⟩
  | succ k ih=>
   intro i s hi d;have e:i<xs.length:=by omega
   rcases j i _ s (zF e) d with ⟨s',a,b,h⟩ | ⟨r,a,b,c⟩
   ·obtain⟨r,n,o,c⟩:=ih (i+1) s' (by omega) h;exact⟨r,by rw[aF,a];exact n,by rw[aF,b];exact o,c⟩
   ·exact⟨r,by rw[aF,a],by rw[aF,b],c⟩
 exact key xs.length 0 s (by omega) m
end
end Go.Proofs.YtngjomkjlonfpaaGreat
/- Plain laws: tables out of a text: ParseData alike on both sides. -/
namespace Go.Proofs.YtngjomkjlonfpaaGreat
noncomputable section
open Go.Abs Go.Proofs
theorem vk{ρ:Type}{x:Option ρ}{v:ρ}(h:∃r,x=some r/\r=v):x=some v:=by
 obtain⟨r,e,rfl⟩:=h;exact e
theorem alX{ρ σ:Type}{x:Option ρ}{F:σ->ρ}(h:∃r,x=some r/\∃y,r=F y):∃y,x=some (F y):=by
 obtain⟨r,e,y,rfl⟩:=h;exact⟨y,e⟩
def jd{α:Type}(p:Nat->α->Bool):Nat->List α->Bool
 | _,[]=>true
 | i,x::r=>p i x&&jd p (i+1) r
theorem pY{α X ρ:Type}{g:X->Option (X⊕ρ)}(pk:Nat->X)(xs:List α)(p:Nat->α->Bool)(no yes:ρ)
  (d:∀i x,xs[i]?=some x->g (pk i)=bif p i x then some (.inl (pk (i+1)))else some (.inr no))
  (e:g (pk xs.length)=some (.inr yes)):aA g (pk 0)=some (bif jd p 0 xs then yes else no):=by
 have key:∀(ys:List α) (i:Nat),xs.drop i=ys->i<=xs.length->aA g (pk i)=some (bif jd p i ys then yes else no):=by
  intro ys;induction ys with
  | nil=>
   intro i a hi;have f:xs.length<=i:=List.drop_eq_nil_iff.1 a;have:i=xs.length:=by omega
   subst this;rw[aF,e];rfl
  | cons y r ih=>
   intro i a hi;have c:xs[i]?=some y:=by
    have:=congrArg (·[0]?) a;simpa using this
   have b:=(zC.1 c).1;rw[aF,d i y c];show _=some (bif (p i y&&jd p (i+1) r)then yes else no)
   cases p i y with
   | true=>
    simp only[ab,Bool.true_and];refine ih (i+1) ?_ b;have:=congrArg List.tail a;simpa using this
   | false=>rfl
 exact key xs 0 rfl (Nat.zero_le _)
def zZ(p:Str):Option Int:=match oC p (-1000000000) 1000000000 with
 | some (v,true)=>some v
 | _=>none
theorem numI(p:Str)(b:p.length<=1048576):∃v,oC p (-1000000000) 1000000000=some (v,(zZ p).isSome)/\(∀u,zZ p=some u->v=u):=by
 obtain⟨v,ok,e,_,_⟩:=Na p (-1000000000) 1000000000 (by omega) (by omega) (by omega);unfold zZ;rw[e];cases ok with
 | true=>exact⟨v,rfl,fun u a=>by cases a;rfl⟩
 | false=>exact⟨v,rfl,fun u a=>by cases a⟩
theorem numS(p:Str)(s:p.length<=1048576):∃v ok,jZ p=some (v,ok)/\(zZ p).isSome=(ok&&(decide (v>=-1000000000)&&decide (v<=1000000000)))/\(∀u,zZ p=some u->v=u):=by
 obtain⟨v,ok,e,h,j⟩:=OX p (by omega);obtain⟨w,a,k,l,q⟩:=Na p (-1000000000) 1000000000 (by omega) (by omega) (by omega);refine⟨v,ok,e,?_,?_⟩
 ·unfold zZ;rw[k];cases a with
  | true=>
   obtain⟨b,m,n⟩:=l rfl;cases ok with
   | true=>
    obtain⟨c,d,f⟩:=h rfl;have:v=w:=Zk ⟨d,f⟩ (c.trans b.symm) ⟨by omega,by omega⟩;subst this;rw[ae m,ae n];rfl
   | false=>exact absurd b ((j rfl).2 w (by omega) (by omega))
  | false=>
   cases ok with
   | false=>rfl
   | true=>
    obtain⟨c,d,f⟩:=h rfl;by_cases i:v>=-1000000000/\v<=1000000000
    ·exact absurd c ((q rfl).2 v i.1 i.2)
    ·have:(decide (v>=-1000000000)&&decide (v<=1000000000))=false:=by
      by_cases o:v>=-1000000000
      ·rw[ac (fun r=>i ⟨o,r⟩),Bool.and_false]
      ·rw[ac o,Bool.false_and]
     rw[this];rfl
 ·intro u g;unfold zZ at g;rw[k]at g;cases a with
  | false=>cases g
  | true=>
   cases g
   obtain⟨b,m,n⟩:=l rfl;cases ok with
   | true=>
    obtain⟨c,d,f⟩:=h rfl;exact Zk ⟨d,f⟩ (c.trans b.symm) ⟨by omega,by omega⟩
   | false=>exact absurd b ((j rfl).2 w (by omega) (by omega))
def numsOf:List Str->Option (List Int)
 | []=>some []
 | p::r=>(zZ p).bind fun v=>(numsOf r).map (v :: ·)
theorem xK:∀(a b:List Str),numsOf (a++b)=(numsOf a).bind fun x=>(numsOf b).map (x ++ ·)
 | [],b=>by simp[numsOf]
 | p::r,b=>by
  show (zZ p).bind (fun v=>(numsOf (r++b)).map (v :: ·))=((zZ p).bind fun v=>(numsOf r).map (v :: ·)).bind fun x=>(numsOf b).map (x ++ ·)
  rw[xK r b];cases zZ p with
  | none=>rfl
  | some v=>
   simp only[zA];cases numsOf r with
   | none=>rfl
   | some x=>
    simp only[zA,Option.map_some];cases numsOf b<;>rfl
theorem F6:∀ {a:List Str} {x:List Int},numsOf a=some x->x.length=a.length
 | [],x,h=>by cases h;rfl
 | p::r,x,h=>by
  have h:(zZ p).bind (fun v=>(numsOf r).map (v :: ·))=some x:=h;cases c:zZ p with
  | none=>rw[c]at h;cases h
  | some v=>
   rw[c]at h;simp only[zA]at h;cases b:numsOf r with
   | none=>rw[b]at h;cases h
   | some y=>
    rw[b]at h;cases h
    simp[F6 b]
theorem MO{xs:List Str}{i:Nat}{p:Str}(h:xs[i]?=some p)(a:zZ p=none):numsOf xs=none:=by
 obtain⟨hi,rfl⟩:=zC.1 h;have e:xs=xs.take i++(xs[i]::xs.drop (i+1)):=by rw[<- List.drop_eq_getElem_cons hi,List.take_append_drop]
 rw[e,xK];have:numsOf (xs[i]::xs.drop (i+1))=none:=by
  show (zZ xs[i]).bind _=none
  rw[a];rfl
 rw[this];cases numsOf (xs.take i)<;>rfl
theorem MN{xs:List Str}{i:Nat}{p:Str}{v:Int}{out:List Int}(h:xs[i]?=some p)(a:numsOf (xs.take i)=some out)(b:zZ p=some v):numsOf (xs.take (i+1))=some (out++[v]):=by
 obtain⟨hi,rfl⟩:=zC.1 h;rw[List.take_succ_eq_append_getElem hi,xK,a];show (Option.some out).bind (fun x=>((zZ xs[i]).bind fun v=>(numsOf []).map (v :: ·)).map (x ++ ·))=_
 rw[b];rfl
theorem ajF(a:Str)(b:Int)(m:a.length<=100000):Dq a b=some (match numsOf (Go.Lib.split a [32])with
  | some l=>(l,(l.length:Int)==b)
  | none=>([],false)):=by
 obtain⟨h,g⟩:=jy a [32];unfold Dq;rw[show (32:Int)=((32:UInt8).toNat:Int)from rfl,KL a 32 (by omega)];simp only[zA];generalize Go.Lib.split a [32]=ps at h g;refine vk (dL (fun (out:List Int) (i:Nat)=>((b,out,ps,(ps.length:Int),(i:Int)):Int×(List Int)×(List Str)×Int×Int)) ps (fun i out=>numsOf (ps.take i)=some out) _ (fun i p out c d=>?_) (fun out d=>?_) [] rfl)
 ·have hi:=(zC.1 c).1;obtain⟨v,e,j⟩:=numI p (by have:=g p (zG c);omega);simp only[dn c,ab,au,c,zA,aw,e,dm c (by omega)];cases f:zZ p with
  | none=>exact .inr ⟨_,rfl,by rw[MO c f]⟩
  | some u=>
   have:=j u f;subst this;have k:=F6 d;rw[a7]at k;refine .inl ⟨out++[v],?_,MN c d f⟩;rw[gdp (by simp;omega)];rfl
 ·rw[List.take_length]at d;exact⟨_,by simp only[bP,aa];rfl,by rw[d]⟩
theorem aiO(a:Str)(b:Int)(o:a.length<=100000):∃xs,Ea a b=some (match numsOf (Go.Lib.split a [32])with
  | some l=>(l,(l.length:Int)==b)
  | none=>(xs,false)):=by
 obtain⟨k,j⟩:=jy a [32];unfold Ea;rw[show (32:Int)=((32:UInt8).toNat:Int)from rfl,JR a 32 (by omega)];simp only[zA];generalize Go.Lib.split a [32]=ps at k j;refine alX (dL (fun (out:List Int) (i:Nat)=>((b,out,ps,(i:Int)):Int×(List Int)×(List Str)×Int)) ps (fun i out=>numsOf (ps.take i)=some out) (fun r=>∃xs,r=(match numsOf ps with
  | some l=>(l,(l.length:Int)==b)
  | none=>(xs,false))) (fun i p out d g=>?_) (fun out g=>?_) [] rfl)
 ·have hi:=(zC.1 d).1;obtain⟨v,ok,e,c,m⟩:=numS p (by have:=j p (zG d);omega);have n:=F6 g;rw[a7]at n;have hnum:qp v=some (decide (v>=-1000000000)&&decide (v<=1000000000)):=by
   unfold qp;rw[oH];rfl
  simp only[dn d,ab,au,d,zA,aw,e,hnum,dm d (by omega)];cases h:zZ p with
  | none=>
   rw[h]at c;have c:(ok&&(decide (v>=-1000000000)&&decide (v<=1000000000)))=false:=c.symm;refine .inr ⟨(out,false),?_,out,by rw[MO d h]⟩;cases ok with
   | false=>rfl
   | true=>
    rw[Bool.true_and]at c;rw[c];rfl
  | some u=>
   have:=m u h;subst this;rw[h]at c;have c:true=(ok&&(decide (v>=-1000000000)&&decide (v<=1000000000))):=c;have f:=c.symm;rw[zI]at f;refine .inl ⟨out++[v],?_,MN d g h⟩;rw[f.1,f.2,gdp (by simp;omega)];rfl
 ·rw[List.take_length]at g;exact⟨_,by simp only[bP,aa];rfl,[],by rw[g]⟩
theorem ahY{α:Type}(a:List α)(k:Nat)(h:k<=a.length):eff.cutL a none (some (k:Int))=some (a.take k):=by
 unfold eff.cutL;simp only[Option.getD_none,Option.getD_some];rw[if_pos]
 ·simp
 ·omega
theorem ZU{α:Type}(x:α)(r:List α):eff.cutL (x::r) (some 1) none=some r:=by
 unfold eff.cutL;simp only[Option.getD_none,Option.getD_some];rw[if_pos]
 ·simp
 ·simp;omega
theorem XJ(b:Bool):(bif b then true else false)=b:=by cases b<;>rfl
def U4(xs:List Str):Bool:=jd (fun i x=>!((xs.take i).contains x)) 0 xs
theorem ahD(xs:List Str)(c:xs.length<=1048576):AA xs=some (U4 xs):=by
 unfold AA;refine (pY (fun i=>((xs,xs,(xs.length:Int),(i:Int)):(List Str)×(List Str)×Int×Int)) xs (fun i x=>!((xs.take i).contains x)) false true (fun i x a=>?_) ?_).trans (congrArg some (XJ _))
 ·have b:=Qh x xs i 0 a;rw[Nat.zero_add]at b;simp only[dn a,ab,au,a,zA,wW xs x (by omega),bne,b,dm a (by omega)];cases (xs.take i).contains x<;>rfl
 ·simp only[bP,aa]
theorem agt(xs:List Str)(b:xs.length<=1048576):sZ xs=some (U4 xs):=by
 unfold sZ;refine (pY (fun i=>((xs,(i:Int)):(List Str)×Int)) xs (fun i x=>!((xs.take i).contains x)) false true (fun i x a=>?_) ?_).trans (congrArg some (XJ _))
 ·have hi:=(zC.1 a).1;simp only[dn a,ab,au,a,zA,ahY xs i (by omega),oL (xs.take i) x (by rw[a7];omega),dm a (by omega)];cases (xs.take i).contains x<;>rfl
 ·simp only[bP,aa]
def DI(xs:List Str):Bool:=jd (fun _ x=>fJ x) 0 xs&&((decide (1<=(xs.length:Int))&&decide ((xs.length:Int)<=4))&&U4 xs)
theorem ZB(xs:List Str)(b:xs.length<=1048576)(c:∀x,x∈xs->x.length<=120):wX xs=some (DI xs):=by
 unfold wX;refine (pY (fun i=>((xs,xs,(xs.length:Int),(i:Int)):(List Str)×(List Str)×Int×Int)) xs (fun _ x=>fJ x) false ((decide (1<=(xs.length:Int))&&decide ((xs.length:Int)<=4))&&U4 xs) (fun i x a=>?_) ?_).trans ?_
 ·simp only[dn a,ab,au,a,zA,Eo x (c x (zG a)),dm a (by omega)];cases fJ x<;>rfl
 ·simp only[bP,aa,vI,zA,ahD xs b];cases (decide (1<=(xs.length:Int))&&decide ((xs.length:Int)<=4))<;>rfl
 ·unfold DI;cases jd (fun _ x=>fJ x) 0 xs<;>rfl
theorem YI(xs:List Str)(b:xs.length<=1048576)(c:∀x,x∈xs->x.length<=120):uQ xs=some (DI xs):=by
 unfold uQ;refine (pY (fun i=>((xs,(i:Int)):(List Str)×Int)) xs (fun _ x=>fJ x) false ((decide (1<=(xs.length:Int))&&decide ((xs.length:Int)<=4))&&U4 xs) (fun i x a=>?_) ?_).trans ?_
 ·simp only[dn a,ab,au,a,zA,D5 x (c x (zG a)),dm a (by omega)];cases fJ x<;>rfl
 ·simp only[bP,aa,oH,zA,agt xs b];show _=some (Sum.inr ((decide ((xs.length:Int)>=1)&&decide ((xs.length:Int)<=4))&&U4 xs))
  cases (decide ((xs.length:Int)>=1)&&decide ((xs.length:Int)<=4))<;>rfl
 ·unfold DI;cases jd (fun _ x=>fJ x) 0 xs<;>rfl
def inR(n:Int):Bool:=decide (-1000000000<=n)&&decide (n<=1000000000)
theorem acj(n:Int):KO n=some (inR n):=by
 unfold KO;rw[vI];rfl
theorem aaK(n:Int):qp n=some (inR n):=by
 unfold qp;rw[oH];rfl
def rowB(w:Int)(r:dh):Bool:=((r.cells.length:Int)==w)&&jd (fun _ n=>inR n) 0 r.cells
def JM(cols:List Str)(rows:List dh):Bool:=DI cols&&(decide ((rows.length:Int)<=12)&&jd (fun _ r=>rowB (cols.length:Int) r) 0 rows)
theorem afk(n step:Int)(text:Str)(cols:List Str)(rows:List dh)(e:cols.length<=1048576)(f:∀x,x∈cols->x.length<=120)(g:∀r,r∈rows->r.orig=[]/\r.cells.length<=1048576) :
  Jj ⟨5,n,step,text,[],cols,rows⟩=some (JM cols rows):=by
 unfold Jj JM;simp only[ZB cols e f,zA];cases DI cols with
 | false=>rfl
 | true=>
  simp only[aE,aa,Bool.true_and];by_cases a:(rows.length:Int)>12
  ·rw[ae a,ac (by omega)];rfl
  ·rw[ac a,ae (by omega)];simp only[aa,Bool.true_and];refine (pY (fun i=>((5,n,step,text,[],cols,rows,rows,(rows.length:Int),(i:Int)):Int×Int×Int×Str×(List aS)×(List Str)×(List dh)×(List dh)×Int×Int)) rows (fun _ r=>rowB (cols.length:Int) r) false true (fun i r b=>?_) ?_).trans (congrArg some (XJ _))
   ·obtain⟨h,k⟩:=g r (zG b);have c:=dm b (by omega);simp only[dn b,ab,au,b,zA,h,bne];unfold rowB;cases ((r.cells.length:Int)==(cols.length:Int))with
    | false=>rfl
    | true=>
     simp only[aE,aa,Bool.true_and];refine (pY (fun j=>((5,n,step,text,[],cols,rows,r.cells,[],rows,(rows.length:Int),(i:Int),r.cells,(r.cells.length:Int),(j:Int)):Int×Int×Int×Str×(List aS)×(List Str)×(List dh)×(List Int)×(List fB)×(List dh)×Int×Int×(List Int)×Int×Int)) r.cells (fun _ m=>inR m) (Sum.inr false) (Sum.inl (5,n,step,text,[],cols,rows,rows,(rows.length:Int),((i+1:Nat):Int))) (fun j m d=>?_) ?_).trans ?_
     ·simp only[dn d,ab,au,d,zA,acj,dm d (by omega)];cases inR m<;>rfl
     ·simp only[bP,aa];rw[aF];simp only[List.length_nil,Int.ofNat_zero,Int.lt_irrefl,decide_false,aa,c,zA]
     ·cases jd (fun _ m=>inR m) 0 r.cells<;>rfl
   ·simp only[bP,aa]
theorem agx:sU []=some true:=by
 unfold sU;rw[aF];rfl
theorem ael(n step:Int)(text:Str)(cols:List Str)(rows:List dh)(e:cols.length<=1048576)(f:∀x,x∈cols->x.length<=120)(g:∀r,r∈rows->r.orig=[]/\r.cells.length<=1048576) :
  Hy ⟨5,n,step,text,[],cols,rows⟩=some (JM cols rows):=by
 unfold Hy JM;simp only[YI cols e f,zA];cases DI cols with
 | false=>rfl
 | true=>
  simp only[aE,aa,Bool.true_and];by_cases a:(rows.length:Int)>12
  ·rw[ae a,ac (by omega)];rfl
  ·rw[ac a,ae (by omega)];simp only[aa,Bool.true_and];refine (pY (fun i=>((5,n,step,text,[],cols,rows,(i:Int)):Int×Int×Int×Str×(List aS)×(List Str)×(List dh)×Int)) rows (fun _ r=>rowB (cols.length:Int) r) false true (fun i r b=>?_) ?_).trans (congrArg some (XJ _))
   ·obtain⟨h,k⟩:=g r (zG b);have c:=dm b (by omega);simp only[dn b,ab,au,b,zA,h,agx,bne];unfold rowB;cases ((r.cells.length:Int)==(cols.length:Int))with
    | false=>rfl
    | true=>
     simp only[aE,aa,Bool.true_and];refine (pY (fun j=>((5,n,step,text,[],cols,rows,(i:Int),r.cells,[],(j:Int)):Int×Int×Int×Str×(List aS)×(List Str)×(List dh)×Int×(List Int)×(List fB)×Int)) r.cells (fun _ m=>inR m) (Sum.inr false) (Sum.inl (5,n,step,text,[],cols,rows,((i+1:Nat):Int))) (fun j m d=>?_) ?_).trans ?_
     ·simp only[dn d,ab,au,d,zA,aaK,dm d (by omega)];cases inR m<;>rfl
     ·simp only[bP,aa,c]
     ·cases jd (fun _ m=>inR m) 0 r.cells<;>rfl
   ·simp only[bP,aa]
theorem Jd(cols:List Str)(rows:List dh)(a:cols.length<=1048576)(b:∀x,x∈cols->x.length<=120)(c:∀r,r∈rows->r.orig=[]/\r.cells.length<=1048576) :
  xN ⟨5,0,0,[],[],cols,rows⟩=some (JM cols rows):=by
 have h:=afk 0 0 [] cols rows a b c;show vK ⟨5,0,0,[],[],cols,rows⟩=_
 unfold vK;simp only[h,zA];cases ((cols.length:Int)==0)<;>rfl
theorem He(cols:List Str)(rows:List dh)(a:cols.length<=1048576)(b:∀x,x∈cols->x.length<=120)(c:∀r,r∈rows->r.orig=[]/\r.cells.length<=1048576) :
  qQ ⟨5,0,0,[],[],cols,rows⟩=some (JM cols rows):=by
 have h:=ael 0 0 [] cols rows a b c;show ku ⟨5,0,0,[],[],cols,rows⟩=_
 unfold ku;simp only[h,zA];rfl
def rowOf(w:Int)(p:Str):Option dh:=match numsOf (Go.Lib.split p [32])with
 | some l=>if (l.length:Int)==w then some ⟨l,[]⟩else none
 | none=>none
def rowsOf(w:Int):List Str->Option (List dh)
 | []=>some []
 | p::r=>(rowOf w p).bind fun v=>(rowsOf w r).map (v :: ·)
theorem xG(w:Int):∀(a b:List Str),rowsOf w (a++b)=(rowsOf w a).bind fun x=>(rowsOf w b).map (x ++ ·)
 | [],b=>by simp[rowsOf]
 | p::r,b=>by
  show (rowOf w p).bind (fun v=>(rowsOf w (r++b)).map (v :: ·))=((rowOf w p).bind fun v=>(rowsOf w r).map (v :: ·)).bind fun x=>(rowsOf w b).map (x ++ ·)
  rw[xG w r b];cases rowOf w p with
  | none=>rfl
  | some v=>
   simp only[zA];cases rowsOf w r with
   | none=>rfl
   | some x=>
    simp only[zA,Option.map_some];cases rowsOf w b<;>rfl
theorem MG{w:Int}{xs:List Str}{i:Nat}{p:Str}(h:xs[i]?=some p)(a:rowOf w p=none):rowsOf w xs=none:=by
 obtain⟨hi,rfl⟩:=zC.1 h;have e:xs=xs.take i++(xs[i]::xs.drop (i+1)):=by rw[<- List.drop_eq_getElem_cons hi,List.take_append_drop]
 rw[e,xG];have:rowsOf w (xs[i]::xs.drop (i+1))=none:=by
  show (rowOf w xs[i]).bind _=none
  rw[a];rfl
 rw[this];cases rowsOf w (xs.take i)<;>rfl
theorem MF{w:Int}{xs:List Str}{i:Nat}{p:Str}{v:dh}{out:List dh}(h:xs[i]?=some p)(a:rowsOf w (xs.take i)=some out)(b:rowOf w p=some v):rowsOf w (xs.take (i+1))=some (out++[v]):=by
 obtain⟨hi,rfl⟩:=zC.1 h;rw[List.take_succ_eq_append_getElem hi,xG,a];show (Option.some out).bind (fun x=>((rowOf w xs[i]).bind fun v=>(rowsOf w []).map (v :: ·)).map (x ++ ·))=_
 rw[b];rfl
theorem qC{w:Int}:∀ {a:List Str} {x:List dh},rowsOf w a=some x->x.length=a.length/\∀r,r∈x->r.orig=[]/\(r.cells.length:Int)=w
 | [],x,h=>by cases h;exact⟨rfl,fun r c=>by cases c⟩
 | p::r,x,h=>by
  have h:(rowOf w p).bind (fun v=>(rowsOf w r).map (v :: ·))=some x:=h;cases b:rowOf w p with
  | none=>rw[b]at h;cases h
  | some v=>
   rw[b]at h;simp only[zA]at h;cases c:rowsOf w r with
   | none=>rw[c]at h;cases h
   | some y=>
    rw[c]at h;cases h
    obtain⟨f,g⟩:=qC c;refine⟨by simp[f],fun q d=>?_⟩;rcases a8.1 d with rfl | d
    ·unfold rowOf at b;split at b
     ·rename_i l _;split at b
      ·rename_i e;cases b
       exact⟨rfl,by simpa using e⟩
      ·cases b
     ·cases b
    ·exact g q d
theorem ac5(w:Int)(p:Str)(a:p.length<=100000):∃l ok,Dq p w=some (l,ok)/\((ok=false/\rowOf w p=none)\/(ok=true/\rowOf w p=some ⟨l,[]⟩)):=by
 rw[ajF p w a];unfold rowOf;cases numsOf (Go.Lib.split p [32])with
 | none=>exact⟨_,_,rfl,.inl ⟨rfl,rfl⟩⟩
 | some l=>
  refine⟨l,_,rfl,?_⟩;cases h:((l.length:Int)==w)with
  | true=>exact .inr ⟨rfl,by simpa using h⟩
  | false=>exact .inl ⟨rfl,by simpa using h⟩
theorem ac4(w:Int)(p:Str)(a:p.length<=100000):∃l ok,Ea p w=some (l,ok)/\((ok=false/\rowOf w p=none)\/(ok=true/\rowOf w p=some ⟨l,[]⟩)):=by
 obtain⟨xs,e⟩:=aiO p w a;rw[e];unfold rowOf;cases numsOf (Go.Lib.split p [32])with
 | none=>exact⟨_,_,rfl,.inl ⟨rfl,rfl⟩⟩
 | some l=>
  refine⟨l,_,rfl,?_⟩;cases h:((l.length:Int)==w)with
  | true=>exact .inr ⟨rfl,by simpa using h⟩
  | false=>exact .inl ⟨rfl,by simpa using h⟩
def dataOf(a:Str)(ps:List Str):aS×Bool:=match rowsOf ((Go.Lib.split a [32]).length:Int) ps with
 | none=>(⟨0,0,0,[],[],[],[]⟩,false)
 | some rows=>if JM (Go.Lib.split a [32]) rows=true then (⟨5,0,0,[],[],Go.Lib.split a [32],rows⟩,true)else (⟨0,0,0,[],[],[],[]⟩,false)
theorem Qk(a:Str):∃b ps,Go.Lib.split a [59,32]=b::ps:=List.exists_cons_of_ne_nil (af5 a [59,32])
theorem Q7(a:Str)(A:a.length<=120){b:Str}{ps:List Str}(c:Go.Lib.split a [59,32]=b::ps):qK a=some (dataOf b ps):=by
 obtain⟨k,g⟩:=jy a [59,32];rw[c]at k g;have B:=g b (by simp);obtain⟨n,m⟩:=jy b [32];unfold qK dataOf;have o:rU a [59,32]=some (b::ps):=by
  unfold rU;rw[if_pos ⟨by omega,by simp⟩,c]
 have q:oz b 32=some (Go.Lib.split b [32]):=KL b 32 (by omega);have s:idx (b::ps) 0=some b:=rfl;have t:(b::ps)[0]?=some b:=rfl;simp only[o,s,t,q,ZU,zA];generalize hcols:Go.Lib.split b [32]=cols at n m;refine vk (dL (fun (out:List dh) (i:Nat)=>((0,0,0,[],[],[],[],5,0,0,[],[],cols,out,ps,(ps.length:Int),(i:Int)):Int×Int×Int×Str×(List aS)×(List Str)×(List dh)×Int×Int×Int×Str×(List aS)×(List Str)×(List dh)×(List Str)×Int×Int)) ps (fun i out=>rowsOf (cols.length:Int) (ps.take i)=some out) _ (fun i p out c f=>?_) (fun out f=>?_) [] rfl)
 ·have u:=g p (ao _ (zG c));obtain⟨l,ok,e,d⟩:=ac5 (cols.length:Int) p (by omega);have v:=(zC.1 c).1;have h:=(qC f).1;rw[a7]at h;simp only[List.length_cons]at k;simp only[dn c,ab,au,c,zA,e,dm c (by omega)];rcases d with ⟨rfl,d⟩ | ⟨rfl,d⟩
  ·exact .inr ⟨_,rfl,by rw[MG c d]⟩
  ·refine .inl ⟨out++[⟨l,[]⟩],?_,MF c f d⟩;rw[gdp (by simp;omega)];rfl
 ·rw[List.take_length]at f;obtain⟨w,j⟩:=qC f;have y:=Jd cols out (by omega) (fun x z=>by have:=m x z;omega) (fun r d=>by have:=j r d;exact⟨this.1,by omega⟩);refine⟨_,?_,rfl⟩;simp only[bP,aa,y,zA,f];cases JM cols out<;>rfl
theorem agu(a:Str)(C:a.length<=120){b:Str}{ps:List Str}(c:Go.Lib.split a [59,32]=b::ps):uP a=some (dataOf b ps):=by
 obtain⟨n,g⟩:=jy a [59,32];rw[c]at n g;have D:=g b (by simp);obtain⟨q,o⟩:=jy b [32];unfold uP dataOf;have s:uf a=some (b::ps):=by rw[UA a (by omega),c]
 have t:jM b 32=some (Go.Lib.split b [32]):=JR b 32 (by omega);have u:idx (b::ps) 0=some b:=rfl;have v:(b::ps)[0]?=some b:=rfl;simp only[s,u,v,t,zA];generalize hcols:Go.Lib.split b [32]=cols at q o;refine vk (dL (fun (out:List dh) (i:Nat)=>((0,0,0,[],[],[],[],b::ps,5,0,0,[],[],cols,out,((i+1:Nat):Int)):Int×Int×Int×Str×(List aS)×(List Str)×(List dh)×(List Str)×Int×Int×Int×Str×(List aS)×(List Str)×(List dh)×Int)) ps (fun i out=>rowsOf (cols.length:Int) (ps.take i)=some out) _ (fun i p out c f=>?_) (fun out f=>?_) [] rfl)
 ·have w:=g p (ao _ (zG c));obtain⟨l,ok,e,d⟩:=ac4 (cols.length:Int) p (by omega);have y:=(zC.1 c).1;have h:=(qC f).1;rw[a7]at h;simp only[List.length_cons]at n;have j:decide (((i+1:Nat):Int)<((b::ps).length:Int))=true:=by simp;omega
  have k:(b::ps)[i+1]?=some p:=by simpa using c
  have z:w64 (((i+1:Nat):Int)+1)=((i+1+1:Nat):Int):=by rw[bM (by omega) (by omega)];omega
  simp only[j,ab,au,k,zA,aw,e,z];rcases d with ⟨rfl,d⟩ | ⟨rfl,d⟩
  ·exact .inr ⟨_,rfl,by rw[MG c d]⟩
  ·refine .inl ⟨out++[⟨l,[]⟩],?_,MF c f d⟩;rw[gdp (by simp;omega)];rfl
 ·rw[List.take_length]at f;obtain⟨A,m⟩:=qC f;have B:=He cols out (by omega) (fun x k=>by have:=o x k;omega) (fun r d=>by have:=m r d;exact⟨this.1,by omega⟩);have j:decide (((ps.length+1:Nat):Int)<((b::ps).length:Int))=false:=by simp
  refine⟨_,?_,rfl⟩;simp only[j,aa,B,zA,f];cases JM cols out<;>rfl
theorem acv(a:Str)(f:a.length<=120):∃v ok,qK a=some (v,ok)/\uP a=some (v,ok)/\(ok=true->∃cols rows,v=⟨5,0,0,[],[],cols,rows⟩/\JM cols rows=true/\cols.length<=122/\(∀x,x∈cols->x.length<=120)/\rows.length<=122/\∀r,r∈rows->r.orig=[]/\r.cells.length<=122):=by
 obtain⟨b,ps,d⟩:=Qk a;refine⟨(dataOf b ps).1,(dataOf b ps).2,Q7 a f d,agu a f d,fun h=>?_⟩;obtain⟨g,i⟩:=jy a [59,32];rw[d]at g i;simp only[List.length_cons]at g;have m:=i b (by simp);obtain⟨n,j⟩:=jy b [32];unfold dataOf at h ⊢;cases c:rowsOf ((Go.Lib.split b [32]).length:Int) ps with
 | none=>rw[c]at h;cases h
 | some rows=>
  rw[c]at h;simp only at h ⊢;by_cases e:JM (Go.Lib.split b [32]) rows=true
  ·rw[if_pos e];obtain⟨o,k⟩:=qC c;exact⟨_,rows,rfl,e,by omega,fun x l=>by have:=j x l;omega,by omega,fun r c=>by have:=k r c;exact⟨this.1,by omega⟩⟩
  ·rw[if_neg e]at h;cases h
end
end Go.Proofs.YtngjomkjlonfpaaGreat
