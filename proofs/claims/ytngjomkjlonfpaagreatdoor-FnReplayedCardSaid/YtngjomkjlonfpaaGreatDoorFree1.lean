import Derived.Test.YtngjomkjlonfpaaGreatDoorForm1
import Derived.Test.YtngjomkjlonfpaaGreatDoorPlain1
import Derived.Sort.Walk0
set_option linter.unusedSimpArgs false
set_option linter.unusedVariables false
/- Plain laws: free names, captured names, sorted names: alike on both sides. -/
namespace Go.Proofs.YtngjomkjlonfpaaGreatDoor
noncomputable section
open Go.Abs Go.Proofs
mutual
def evE:af->List Str->List (Str×List Str)
 | ⟨k,_,t,a⟩,bound=>if ((k==3)&&!(bound.contains t))=true then [(t,bound)]else evL a ((k==7)||(k==9)) t bound 0
def evL:List af->Bool->Str->List Str->Nat->List (Str×List Str)
 | [],_,_,_,_=>[]
 | x::r,bi,t,bound,i=>(if (bi&&decide (0<i))=true then evE x (bound++[t])else evE x bound)++evL r bi t bound (i+1)
end
theorem Zi(e:af)(bound:List Str):evE e bound=if ((e.kind==3)&&!(bound.contains e.text))=true then [(e.text,bound)]else evL e.args ((e.kind==7)||(e.kind==9)) e.text bound 0:=by cases e;rfl
def evP(bi:Bool)(t:Str)(bound:List Str)(i:Nat)(x:af):List (Str×List Str):=if (bi&&decide (0<i))=true then evE x (bound++[t])else evE x bound
theorem G6(bi:Bool)(t:Str)(bound:List Str):∀(xs ys:List af) (i:Nat),evL (xs++ys) bi t bound i=evL xs bi t bound i++evL ys bi t bound (i+xs.length)
 | [],ys,i=>rfl
 | x::r,ys,i=>by
  show evP bi t bound i x++evL (r++ys) bi t bound (i+1)=(evP bi t bound i x++evL r bi t bound (i+1))++_
  rw[G6 bi t bound r ys (i+1),a8];have:i+1+r.length=i+(x::r).length:=by simp;omega
  rw[this]
theorem abO(bi:Bool)(t:Str)(bound:List Str){xs:List af}{i:Nat}{x:af}(h:xs[i]?=some x):evL (xs.take (i+1)) bi t bound 0=evL (xs.take i) bi t bound 0++evP bi t bound i x:=by
 obtain⟨hi,rfl⟩:=zC.1 h;rw[List.take_succ_eq_append_getElem hi,G6];have:0+(xs.take i).length=i:=by rw[ba];omega
 rw[this];show _++(evP bi t bound i _++[])=_
 rw[List.append_nil]
theorem ahy(bi:Bool)(t:Str)(bound:List Str)(xs:List af)(i:Nat):evL xs bi t bound 0=evL (xs.take i) bi t bound 0++evL (xs.drop i) bi t bound (0+(xs.take i).length):=by
 rw[<- G6,List.take_append_drop]
mutual
theorem EU:∀(e:af) (bound:List Str),(evE e bound).length<=wtE e
 | ⟨k,n,t,a⟩,bound=>by
  have h:=Zh a ((k==7)||(k==9)) t bound 0;have h2:=Ed ⟨k,n,t,a⟩;rw[Zi];split
  ·simp;exact aeS _
  ·show (evL a ((k==7)||(k==9)) t bound 0).length<=_
   have h2:1+wtL a<=wtE ⟨k,n,t,a⟩:=h2;omega
theorem Zh:∀(xs:List af) (bi:Bool) (t:Str) (bound:List Str) (i:Nat),(evL xs bi t bound i).length<=wtL xs
 | [],_,_,_,_=>az _
 | x::r,bi,t,bound,i=>by
  have h1:=EU x bound;have h2:=EU x (bound++[t]);have a:=Zh r bi t bound (i+1);show ((if (bi&&decide (0<i))=true then evE x (bound++[t])else evE x bound)++evL r bi t bound (i+1)).length<=wtE x+wtL r
  rw[a7];split<;>omega
end
theorem MK(n:Nat)(bi:Bool)(t:Str)(bound:List Str):∀(xs:List af) (i:Nat),(∀x,x∈xs->∀bd:List Str,bd.length<=bound.length+1->ku n x bd=some (evE x bd))->bound.length<=1048576->eu (ku n) bi t bound i xs=some (evL xs bi t bound i)
 | [],i,_,_=>rfl
 | x::r,i,a,b=>by
  have h1:=a x (by simp) bound (by omega);have h2:=a x (by simp) (bound++[t]) (by simp);have c:=MK n bi t bound r (i+1) (fun y d=>a y (ar _ d)) b;show (if (bi&&decide (0<i))=true then (gd (bound.length+1)).bind fun _=>ku n x (bound++[t])else ku n x bound).bind (fun u=>(eu (ku n) bi t bound (i+1) r).bind fun v=>some (u++v))=some ((if (bi&&decide (0<i))=true then evE x (bound++[t])else evE x bound)++evL r bi t bound (i+1))
  rw[gdp (by omega),zA,h1,h2,c];cases (bi&&decide (0<i))<;>rfl
theorem FW:∀(n:Nat) (e:af) (bound:List Str),siz e<n->wtE e+bound.length<=1048576->ku n e bound=some (evE e bound)
 | 0,e,_,h,_=>absurd h (Nat.not_lt_zero _)
 | n+1,e,bound,d,f=>by
  have g:=uO (e:=e);have b:=MK n (decide (e.kind=7)||decide (e.kind=9)) e.text bound e.args 0 (fun x a bd c=>FW n x bd (by have:=gm a;omega) (by have:=sF a;omega)) (by omega);show ((gd bound.length).bind fun _=>(gd e.args.length).bind fun _=>if e.kind=3/\bound.contains e.text=false then some [(e.text,bound)]else eu (ku n) (decide (e.kind=7)||decide (e.kind=9)) e.text bound 0 e.args)=_
  rw[gdp (by omega),zA,gdp (by omega),zA,b,Zi];by_cases h:e.kind=3
  ·cases i:bound.contains e.text with
   | true=>
    rw[if_neg (fun hh=>by simp at hh),if_neg (by simp)];rfl
   | false=>
    rw[if_pos ⟨h,rfl⟩,if_pos (by simp[h])]
  ·rw[if_neg (fun hh=>h hh.1),if_neg (by simp[h])];rfl
abbrev apG:=(List Str)×Int×Int×Str×(List af)×(List Str)×Int
abbrev apH:=Str×Str×(List Str)×Int×Int×Str×(List af)×Int
def LW(rec:af->List Str->Option (List Str)):apG->Option (apG⊕List Str):=(fun (a:(List Str)×Int×Int×Str×(List af)×(List Str)×Int)=>
      bif (decide (a.2.2.2.2.2.2<(a.2.2.2.2.1.length:Int)))then
       bif (a.2.1==7)then
        bif (decide (a.2.2.2.2.2.2>0))then
         (gd (0+a.1.length)).bind fun _=>
         (gd (([]++a.1).length+([a.2.2.2.1]:List Str).length)).bind fun _=>
         (idx a.2.2.2.2.1 a.2.2.2.2.2.2).bind fun h=>
         (rec (aj h) (([]++a.1)++([a.2.2.2.1]:List Str))).bind fun e=>
         (gd (a.2.2.2.2.2.1.length+e.length)).bind fun _=>
         some (.inl (a.1,a.2.1,a.2.2.1,a.2.2.2.1,a.2.2.2.2.1,a.2.2.2.2.2.1++e,w64 (a.2.2.2.2.2.2+1)))
        else
         (idx a.2.2.2.2.1 a.2.2.2.2.2.2).bind fun i=>
         (rec (aj i) a.1).bind fun f=>
         (gd (a.2.2.2.2.2.1.length+f.length)).bind fun _=>
         some (.inl (a.1,a.2.1,a.2.2.1,a.2.2.2.1,a.2.2.2.2.1,a.2.2.2.2.2.1++f,w64 (a.2.2.2.2.2.2+1)))
       else
       bif (a.2.1==9)then
        bif (decide (a.2.2.2.2.2.2>0))then
         (gd (0+a.1.length)).bind fun _=>
         (gd (([]++a.1).length+([a.2.2.2.1]:List Str).length)).bind fun _=>
         (idx a.2.2.2.2.1 a.2.2.2.2.2.2).bind fun j=>
         (rec (aj j) (([]++a.1)++([a.2.2.2.1]:List Str))).bind fun g=>
         (gd (a.2.2.2.2.2.1.length+g.length)).bind fun _=>
         some (.inl (a.1,a.2.1,a.2.2.1,a.2.2.2.1,a.2.2.2.2.1,a.2.2.2.2.2.1++g,w64 (a.2.2.2.2.2.2+1)))
        else
         (idx a.2.2.2.2.1 a.2.2.2.2.2.2).bind fun k=>
         (rec (aj k) a.1).bind fun b=>
         (gd (a.2.2.2.2.2.1.length+b.length)).bind fun _=>
         some (.inl (a.1,a.2.1,a.2.2.1,a.2.2.2.1,a.2.2.2.2.1,a.2.2.2.2.2.1++b,w64 (a.2.2.2.2.2.2+1)))
       else
        (idx a.2.2.2.2.1 a.2.2.2.2.2.2).bind fun d=>
        (rec (aj d) a.1).bind fun c=>
        (gd (a.2.2.2.2.2.1.length+c.length)).bind fun _=>
        some (.inl (a.1,a.2.1,a.2.2.1,a.2.2.2.1,a.2.2.2.2.1,a.2.2.2.2.2.1++c,w64 (a.2.2.2.2.2.2+1)))
      else
       some (.inr (a.2.2.2.2.2.1))
  )
def vZ(rec:af->Str->Str->List Str->Option Bool):apH->Option (apH⊕Bool):=(fun (a:Str×Str×(List Str)×Int×Int×Str×(List af)×Int)=>
      bif (decide (a.2.2.2.2.2.2.2<(a.2.2.2.2.2.2.1.length:Int)))then
       bif (a.2.2.2.1==7)then
        bif (decide (a.2.2.2.2.2.2.2>0))then
         (gd (0+a.2.2.1.length)).bind fun _=>
         (gd (([]++a.2.2.1).length+([a.2.2.2.2.2.1]:List Str).length)).bind fun _=>
         (idx a.2.2.2.2.2.2.1 a.2.2.2.2.2.2.2).bind fun f=>
         (rec (aj f) a.1 a.2.1 (([]++a.2.2.1)++([a.2.2.2.2.2.1]:List Str))).bind fun g=>
         bif g then
          some (.inr (true))
         else
          some (.inl (a.1,a.2.1,a.2.2.1,a.2.2.2.1,a.2.2.2.2.1,a.2.2.2.2.2.1,a.2.2.2.2.2.2.1,w64 (a.2.2.2.2.2.2.2+1)))
        else
         (idx a.2.2.2.2.2.2.1 a.2.2.2.2.2.2.2).bind fun h=>
         (rec (aj h) a.1 a.2.1 a.2.2.1).bind fun i=>
         bif i then
          some (.inr (true))
         else
          some (.inl (a.1,a.2.1,a.2.2.1,a.2.2.2.1,a.2.2.2.2.1,a.2.2.2.2.2.1,a.2.2.2.2.2.2.1,w64 (a.2.2.2.2.2.2.2+1)))
       else
       bif (a.2.2.2.1==9)then
        bif (decide (a.2.2.2.2.2.2.2>0))then
         (gd (0+a.2.2.1.length)).bind fun _=>
         (gd (([]++a.2.2.1).length+([a.2.2.2.2.2.1]:List Str).length)).bind fun _=>
         (idx a.2.2.2.2.2.2.1 a.2.2.2.2.2.2.2).bind fun j=>
         (rec (aj j) a.1 a.2.1 (([]++a.2.2.1)++([a.2.2.2.2.2.1]:List Str))).bind fun k=>
         bif k then
          some (.inr (true))
         else
          some (.inl (a.1,a.2.1,a.2.2.1,a.2.2.2.1,a.2.2.2.2.1,a.2.2.2.2.2.1,a.2.2.2.2.2.2.1,w64 (a.2.2.2.2.2.2.2+1)))
        else
         (idx a.2.2.2.2.2.2.1 a.2.2.2.2.2.2.2).bind fun b=>
         (rec (aj b) a.1 a.2.1 a.2.2.1).bind fun c=>
         bif c then
          some (.inr (true))
         else
          some (.inl (a.1,a.2.1,a.2.2.1,a.2.2.2.1,a.2.2.2.2.1,a.2.2.2.2.2.1,a.2.2.2.2.2.2.1,w64 (a.2.2.2.2.2.2.2+1)))
       else
        (idx a.2.2.2.2.2.2.1 a.2.2.2.2.2.2.2).bind fun d=>
        (rec (aj d) a.1 a.2.1 a.2.2.1).bind fun e=>
        bif e then
         some (.inr (true))
        else
         some (.inl (a.1,a.2.1,a.2.2.1,a.2.2.2.1,a.2.2.2.2.1,a.2.2.2.2.2.1,a.2.2.2.2.2.2.1,w64 (a.2.2.2.2.2.2.2+1)))
      else
       some (.inr (false))
  )
theorem agH(rec)(a:af)(b:List Str):KA rec a b=bif (a.kind==3)then ((lu b a.text).bind fun c=>bif (!c)then ((gd (0+([a.text]:List Str).length)).bind fun _=>some ([]++([a.text]:List Str)))else aA (LW rec) (b,a.kind,a.n,a.text,a.args,[],0))else aA (LW rec) (b,a.kind,a.n,a.text,a.args,[],0):=rfl
theorem aat(rec)(a:af)(b c:Str)(d:List Str):CG rec a b c d=bif (a.kind==3)then ((lu d a.text).bind fun e=>bif (!e)then (bif (a.text==b)then ((lu d c).bind fun f=>some f)else some false)else aA (vZ rec) (b,c,d,a.kind,a.n,a.text,a.args,0))else aA (vZ rec) (b,c,d,a.kind,a.n,a.text,a.args,0):=rfl
theorem afO:∀(n:Nat) (e:af) (bound:List Str),siz e<n->wtE e+bound.length<=1048576->qx n e bound=some ((evE e bound).map (·.1))
 | 0,e,_,h,_=>absurd h (Nat.not_lt_zero _)
 | n+1,e,bound,t,u=>by
  have ih:=afO n;have v:=uO (e:=e);have hloop:aA (LW (qx n)) (bound,e.kind,e.n,e.text,e.args,[],0)=some ((evL e.args ((e.kind==7)||(e.kind==9)) e.text bound 0).map (·.1)):=by
   have key:=dK (g:=LW (qx n)) (fun (s:List Str) (i:Nat)=>((bound,e.kind,e.n,e.text,e.args,s,(i:Int)):apG)) e.args (fun i s=>s=(evL (e.args.take i) ((e.kind==7)||(e.kind==9)) e.text bound 0).map (·.1)) (fun r=>r=(evL e.args ((e.kind==7)||(e.kind==9)) e.text bound 0).map (·.1)) (fun i x s a b=>.inl ?_) (fun s b=>?_) [] rfl
   ·obtain⟨r,h,rfl⟩:=key;exact h
   ·have c:=zG a;have h1:=sF c;have h2:=O6 a;have w:=wH e.args (i+1);have y:=Ed e;have d:=Zh (e.args.take i) ((e.kind==7)||(e.kind==9)) e.text bound 0;have z:=gm c;have f:=ih x bound (by omega) (by omega);have j:=ih x (([]++bound)++([e.text]:List Str)) (by omega) (by simp;omega);have A:=EU x bound;have B:=EU x (bound++[e.text]);refine⟨s++(evP ((e.kind==7)||(e.kind==9)) e.text bound i x).map (·.1),?_,by rw[abO _ _ _ a,List.map_append,b]⟩;have k:s.length<=wtL (e.args.take i):=by rw[b,List.length_map];exact d
    have l:gd (s.length+((evE x bound).map (·.1)).length)=some ():=gdp (by rw[List.length_map];omega);have m:gd (s.length+((evE x (([]++bound)++([e.text]:List Str))).map (·.1)).length)=some ():=gdp (by rw[List.length_map,List.nil_append];omega);have o:gd (0+bound.length)=some ():=gdp (by omega);have p:gd (([]++bound).length+([e.text]:List Str).length)=some ():=gdp (by simp;omega);simp only[LW,dw a,ac,au,a,zA,aO,f,j,l,m,o,p,dn a (by omega),Yf];unfold evP;cases (e.kind==7)<;>cases (e.kind==9)<;>cases decide (0<i)<;>rfl
   ·refine⟨_,by simp only[LW,bG,aa];rfl,by rw[b,List.take_length]⟩
  show KA (qx n) e bound=_
  rw[agH,hloop,oW _ _ (by omega),Zi];have q:gd (0+([e.text]:List Str).length)=some ():=gdp (by simp);cases (e.kind==3)<;>cases bound.contains e.text<;>simp only[ac,aa,aM,Bool.not_false,Bool.and_true,Bool.and_false,Bool.true_and,Bool.false_and,aL,if_true,if_false,zA,q]<;>rfl
def ab7(b c:Str)(p:Str×List Str):Bool:=p.1==b&&p.2.contains c
theorem WW(b c:Str):∀(n:Nat) (e:af) (bound:List Str),siz e<n->wtE e+bound.length<=1048576->kN n e b c bound=some ((evE e bound).any (ab7 b c))
 | 0,e,_,h,_=>absurd h (Nat.not_lt_zero _)
 | n+1,e,bound,q,t=>by
  have ih:=WW b c n;have u:=uO (e:=e);have hloop:aA (vZ (kN n)) (b,c,bound,e.kind,e.n,e.text,e.args,0)=some ((evL e.args ((e.kind==7)||(e.kind==9)) e.text bound 0).any (ab7 b c)):=by
   have key:=dK (g:=vZ (kN n)) (fun (s:Unit) (i:Nat)=>((b,c,bound,e.kind,e.n,e.text,e.args,(i:Int)):apH)) e.args (fun i s=>(evL (e.args.take i) ((e.kind==7)||(e.kind==9)) e.text bound 0).any (ab7 b c)=false) (fun r=>r=(evL e.args ((e.kind==7)||(e.kind==9)) e.text bound 0).any (ab7 b c)) (fun i x s a d=>?_) (fun s d=>?_) () rfl
   ·obtain⟨r,h,rfl⟩:=key;exact h
   ·have j:=zG a;have h1:=sF j;have v:=gm j;have l:=ih x bound (by omega) (by omega);have m:=ih x (([]++bound)++([e.text]:List Str)) (by omega) (by simp;omega);have o:gd (0+bound.length)=some ():=gdp (by omega);have p:gd (([]++bound).length+([e.text]:List Str).length)=some ():=gdp (by simp;omega);have step:vZ (kN n) (b,c,bound,e.kind,e.n,e.text,e.args,(i:Int))=bif (evP ((e.kind==7)||(e.kind==9)) e.text bound i x).any (ab7 b c)then some (.inr true)else some (.inl (b,c,bound,e.kind,e.n,e.text,e.args,((i+1:Nat):Int))):=by
     simp only[vZ,dw a,ac,au,a,zA,aO,l,m,o,p,dn a (by omega),Yf];unfold evP;cases (e.kind==7)<;>cases (e.kind==9)<;>cases decide (0<i)<;>rfl
    have k:=abO ((e.kind==7)||(e.kind==9)) e.text bound a;cases f:(evP ((e.kind==7)||(e.kind==9)) e.text bound i x).any (ab7 b c)with
    | true=>
     refine .inr ⟨true,by rw[step,f];rfl,?_⟩;rw[ahy _ _ _ e.args (i+1),List.any_append,k,List.any_append,f];simp
    | false=>
     refine .inl ⟨(),by rw[step,f];rfl,?_⟩;rw[k,List.any_append,d,f];rfl
   ·refine⟨false,by simp only[vZ,bG,aa],?_⟩;rw[List.take_length]at d;exact d.symm
  show CG (kN n) e b c bound=_
  rw[aat,hloop,oW _ _ (by omega),oW _ _ (by omega),Zi];cases (e.kind==3)<;>cases bound.contains e.text<;>simp only[ac,aa,aM,Bool.not_false,Bool.and_true,Bool.and_false,Bool.true_and,Bool.false_and,aL,if_true,if_false,zA]
  show (bif (e.text==b)then some (bound.contains c)else some false)=some (((e.text==b)&&bound.contains c)||false)
  cases (e.text==b)<;>cases bound.contains c<;>rfl
theorem D8(e:af)(b c:Str)(a:wtE e<=1000):∃v,iQ e b c=some v/\lU e b c=some v:=by
 have h1:=FW (siz e+1) e [] (Nat.lt_succ_self _) (by simp;omega);have h2:F8 e b c []=some ((evE e []).any (ab7 b c)):=WW b c _ e [] (by omega) (by simp;omega);have d:=EU e [];refine⟨(evE e []).any (ab7 b c),?_,?_⟩
 ·unfold iQ;rw[h1,zA,gdp (by omega)];rfl
 ·unfold lU;rw[aO,h2];rfl
def ni(xs:List Str):Prop:=xs.Pairwise (· < ·)
theorem VS:∀ {xs ys:List Str},ni xs->ni ys->(∀b,b∈xs↔b∈ys)->xs=ys
 | [],[],_,_,_=>rfl
 | [],y::r,_,_,h=>absurd ((h y).2 (by simp)) (by simp)
 | x::r,[],_,_,h=>absurd ((h x).1 (by simp)) (by simp)
 | x::r,y::q,j,k,h=>by
  obtain⟨a,f⟩:=List.pairwise_cons.1 j;obtain⟨c,g⟩:=List.pairwise_cons.1 k;have i:x=y:=by
   rcases bc.1 ((h x).1 (by simp))with e | e
   ·exact e
   ·rcases bc.1 ((h y).2 (by simp))with e' | e'
    ·exact e'.symm
    ·exact absurd (List.lt_trans (c x e) (a y e')) (List.lt_irrefl _)
  subst i;rw[VS f g fun b=>⟨fun d=>?_,fun d=>?_⟩]
  ·rcases bc.1 ((h b).1 (ar _ d))with e | e
   ·subst e;exact absurd (a _ d) (List.lt_irrefl _)
   ·exact e
  ·rcases bc.1 ((h b).2 (ar _ d))with e | e
   ·subst e;exact absurd (c _ d) (List.lt_irrefl _)
   ·exact e
theorem J6{xs:List Str}(h1:xs.Pairwise (fun a b=>decide (a<=b)=true))(h2:xs.Nodup):ni xs:=by
 induction xs with
 | nil=>exact List.Pairwise.nil
 | cons x r ih=>
  obtain⟨e,f⟩:=List.pairwise_cons.1 h1;obtain⟨g,i⟩:=List.nodup_cons.1 h2;refine List.pairwise_cons.2 ⟨fun y d=>?_,ih f i⟩;have c:x<=y:=of_decide_eq_true (e y d);rcases Decidable.em (x<y)with h | h
  ·exact h
  ·have:x=y:=List.le_antisymm c h;subst this;exact absurd d g
theorem QM(s:Str):∀(xs:List Str) (i k:Nat),xs[i]?=some s->(posOf s k xs==((k+i:Nat):Int)) = !((xs.take i).contains s)
 | [],i,k,h=>by simp at h
 | x::r,i,k,h=>by
  unfold posOf;cases i with
  | zero=>
   simp at h;subst h;simp
  | succ i=>
   have h:r[i]?=some s:=by simpa using h
   by_cases a:x==s
   ·rw[if_pos a];have e:x=s:=by simpa using a
    subst e;have:((k:Int)==((k+(i+1):Nat):Int))=false:=by simp;omega
    rw[this];simp
   ·rw[if_neg a];have:=QM s r i (k+1) h;rw[show k+(i+1)=k+1+i by omega,this];have e:¬x=s:=by simpa using a
    have b:¬s=x:=fun h=>e h.symm
    simp[b]
abbrev aeQ:=(List Str)×(List Str)×(List Str)×Int×Int
def acE:aeQ->Option (aeQ⊕List Str):=(fun (a:(List Str)×(List Str)×(List Str)×Int×Int)=>
      bif (decide (a.2.2.2.2<a.2.2.2.1))then
       (idx a.2.2.1 a.2.2.2.2).bind fun b=>
       (jP a.1 b).bind fun c=>
       bif (c==a.2.2.2.2)then
        (gd (a.2.1.length+([b]:List Str).length)).bind fun _=>
        some (.inl (a.1,a.2.1++([b]:List Str),a.2.2.1,a.2.2.2.1,w64 (a.2.2.2.2+1)))
       else
        some (.inl (a.1,a.2.1,a.2.2.1,a.2.2.2.1,w64 (a.2.2.2.2+1)))
      else
       (
        (jw a.2.1).bind fun d=>
        some (d)
       ).bind fun r=>some (.inr r)
  )
theorem U5(xs:List Str)(r:xs.length<=1048576):∃ys,qM xs=some ys/\ni ys/\∀b,b∈ys↔b∈xs:=by
 refine dK (g:=acE) (fun (out:List Str) (i:Nat)=>((xs,out,xs,(xs.length:Int),(i:Int)):aeQ)) xs (fun i out=>out.Nodup/\out.length<=i/\∀b,b∈out↔b∈xs.take i) (fun ys=>ni ys/\∀b,b∈ys↔b∈xs) (fun i x out d j=>.inl ?_) (fun out j=>?_) [] ⟨List.Pairwise.nil,az _,by simp⟩
 ·obtain⟨f,o,e⟩:=j;have hi:=(zC.1 d).1;have l:=QM x xs i 0 d;rw[Nat.zero_add]at l;have m:xs.take (i+1)=xs.take i++[x]:=by
   obtain⟨hi,rfl⟩:=zC.1 d;rw[List.take_succ_eq_append_getElem hi]
  simp only[acE,dw d,ac,au,d,zA,rY xs x (by omega),l,dn d (by omega)];cases n:(xs.take i).contains x with
  | true=>
   refine⟨out,by simp only[aM,aa],f,by omega,fun b=>?_⟩;rw[e,m,List.mem_append];refine⟨.inl,fun h=>?_⟩;rcases h with h | h
   ·exact h
   ·rw[List.mem_singleton.1 h];simpa using n
  | false=>
   have k:x∉out:=fun h=>by
    have:=(e x).1 h;have h2:(xs.take i).contains x=true:=by simpa using this
    rw[n]at h2;cases h2
   refine⟨out++[x],?_,?_,by simp;omega,fun b=>?_⟩
   ·simp only[Bool.not_false,ac];rw[gdp (by simp;omega)];rfl
   ·rw[List.nodup_append];refine⟨f,by simp,fun a p b q=>?_⟩;rw[List.mem_singleton.1 q];rintro rfl;exact k p
   ·rw[m,List.mem_append,List.mem_append,e]
 ·obtain⟨f,o,e⟩:=j;rw[List.take_length]at e;refine⟨out.mergeSort fun x y=>decide (x<=y),?_,?_,fun b=>?_⟩
  ·simp only[acE,bG,aa,jw];rw[gdp (by omega)];rfl
  ·refine J6 (List.pairwise_mergeSort (fun a b c h1 h2=>?_) (fun a b=>?_) out) ((List.mergeSort_perm out _).nodup_iff.2 f)
   ·exact aq (List.le_trans (of_decide_eq_true h1) (of_decide_eq_true h2))
   ·rcases List.le_total a b with h | h
    ·rw[aq h];rfl
    ·rw[aq h];simp
  ·rw[(List.mergeSort_perm out _).mem_iff,e]
def vM(x:Str):List Str->List Str
 | []=>[x]
 | y::r=>if y<x then y::vM x r else if y=x then y::r else x::y::r
theorem RU(x b:Str):∀(xs:List Str),b∈vM x xs↔b=x\/b∈xs
 | []=>by simp[vM]
 | y::r=>by
  unfold vM;split
  ·rw[bc,RU x b r,bc];constructor
   ·rintro (h | h | h)
    ·exact .inr (.inl h)
    ·exact .inl h
    ·exact .inr (.inr h)
   ·rintro (h | h | h)
    ·exact .inr (.inl h)
    ·exact .inl h
    ·exact .inr (.inr h)
  ·split
   ·rename_i h;subst h;rw[bc];constructor
    ·exact .inr
    ·rintro (h | h)
     ·exact .inl h
     ·exact h
   ·rw[bc]
theorem aa8(x:Str):∀(xs:List Str),(vM x xs).length<=xs.length+1
 | []=>by simp[vM]
 | y::r=>by
  have:=aa8 x r;unfold vM;split
  ·simp;omega
  ·split<;>simp
theorem NJ(x:Str):∀(xs:List Str),ni xs->ni (vM x xs)
 | [],_=>List.pairwise_cons.2 ⟨by simp,List.Pairwise.nil⟩
 | y::r,h=>by
  obtain⟨h1,h2⟩:=List.pairwise_cons.1 h;unfold vM;split
  ·rename_i c;refine List.pairwise_cons.2 ⟨fun b d=>?_,NJ x r h2⟩;rcases (RU x b r).1 d with e | e
   ·rw[e];exact c
   ·exact h1 b e
  ·rename_i g;split
   ·exact h
   ·rename_i f;have a:x<y:=by
     rcases Decidable.em (x<y)with h | h
     ·exact h
     ·exact absurd (List.le_antisymm h g) f
    refine List.pairwise_cons.2 ⟨fun b d=>?_,h⟩;rcases bc.1 d with e | e
    ·rw[e];exact a
    ·exact List.lt_trans a (h1 b e)
theorem Ld(x:Str):∀(a r:List Str),(∀y,y∈a->y<x)->vM x (a++r)=a++vM x r
 | [],r,_=>rfl
 | y::a,r,h=>by
  show (if y<x then y::vM x (a++r)else _)=_
  rw[if_pos (h y (by simp)),Ld x a r fun z b=>h z (ar _ b)];rfl
abbrev Zq:=(List Str)×(List Str)×Int
abbrev akz:=(List Str)×(List Str)×Int×Int
def pz:akz->Option (akz⊕(Zq⊕List Str)):=(fun (a:(List Str)×(List Str)×Int×Int)=>
      bif (decide (a.2.2.2<(a.2.1.length:Int)))then
       (idx a.2.1 a.2.2.2).bind fun _=>
       (a.2.1[a.2.2.2.toNat]?).bind fun p=>
       (idx a.1 a.2.2.1).bind fun q=>
       bif (Op.bytesLess p q)then
        some (.inl (a.1,a.2.1,a.2.2.1,w64 (a.2.2.2+1)))
       else
       (
        bif (decide (a.2.2.2<(a.2.1.length:Int)))then
         (idx a.2.1 a.2.2.2).bind fun _=>
         (a.2.1[a.2.2.2.toNat]?).bind fun s=>
         (idx a.1 a.2.2.1).bind fun t=>
         bif (s==t)then
          some (.inl (a.1,a.2.1,w64 (a.2.2.1+1)))
         else
          (cutAt a.2.1 a.2.2.2).bind fun m=>
          (gd (0+(a.2.1.drop m).length)).bind fun _=>
          (cutAt a.2.1 a.2.2.2).bind fun b=>
          (idx a.1 a.2.2.1).bind fun c=>
          (gd ((a.2.1.take b).length+([c]:List Str).length)).bind fun _=>
          (gd (((a.2.1.take b)++([c]:List Str)).length+([]++(a.2.1.drop m)).length)).bind fun _=>
          some (.inl (a.1,((a.2.1.take b)++([c]:List Str))++([]++(a.2.1.drop m)),w64 (a.2.2.1+1)))
        else
         (cutAt a.2.1 a.2.2.2).bind fun d=>
         (gd (0+(a.2.1.drop d).length)).bind fun _=>
         (cutAt a.2.1 a.2.2.2).bind fun e=>
         (idx a.1 a.2.2.1).bind fun f=>
         (gd ((a.2.1.take e).length+([f]:List Str).length)).bind fun _=>
         (gd (((a.2.1.take e)++([f]:List Str)).length+([]++(a.2.1.drop d)).length)).bind fun _=>
         some (.inl (a.1,((a.2.1.take e)++([f]:List Str))++([]++(a.2.1.drop d)),w64 (a.2.2.1+1)))
       ).bind fun r=>some (.inr r)
      else
      (
       bif (decide (a.2.2.2<(a.2.1.length:Int)))then
        (idx a.2.1 a.2.2.2).bind fun _=>
        (a.2.1[a.2.2.2.toNat]?).bind fun n=>
        (idx a.1 a.2.2.1).bind fun o=>
        bif (n==o)then
         some (.inl (a.1,a.2.1,w64 (a.2.2.1+1)))
        else
         (cutAt a.2.1 a.2.2.2).bind fun g=>
         (gd (0+(a.2.1.drop g).length)).bind fun _=>
         (cutAt a.2.1 a.2.2.2).bind fun h=>
         (idx a.1 a.2.2.1).bind fun i=>
         (gd ((a.2.1.take h).length+([i]:List Str).length)).bind fun _=>
         (gd (((a.2.1.take h)++([i]:List Str)).length+([]++(a.2.1.drop g)).length)).bind fun _=>
         some (.inl (a.1,((a.2.1.take h)++([i]:List Str))++([]++(a.2.1.drop g)),w64 (a.2.2.1+1)))
       else
        (cutAt a.2.1 a.2.2.2).bind fun j=>
        (gd (0+(a.2.1.drop j).length)).bind fun _=>
        (cutAt a.2.1 a.2.2.2).bind fun k=>
        (idx a.1 a.2.2.1).bind fun l=>
        (gd ((a.2.1.take k).length+([l]:List Str).length)).bind fun _=>
        (gd (((a.2.1.take k)++([l]:List Str)).length+([]++(a.2.1.drop j)).length)).bind fun _=>
        some (.inl (a.1,((a.2.1.take k)++([l]:List Str))++([]++(a.2.1.drop j)),w64 (a.2.2.1+1)))
      ).bind fun r=>some (.inr r)
  )
def OU:Zq->Option (Zq⊕List Str):=fun a=>
 bif (decide (a.2.2<(a.1.length:Int)))then
  aA pz (a.1,a.2.1,a.2.2,0)
 else
  some (.inr (a.2.1))
theorem Un(xs:List Str):uU xs=aA OU (xs,[],0):=rfl
theorem WT{α:Type}(xs:List α)(i:Nat)(h:i<=xs.length):cutAt xs (i:Int)=some i:=by
 unfold cutAt;rw[if_pos ⟨by omega,by omega⟩];simp
theorem ajx(xs:List Str)(i:Nat)(x:Str)(g:xs[i]?=some x)(q:xs.length<=1048576)(out:List Str)(r:out.length<=1048576) :
  aA pz (xs,out,(i:Int),0)=some (.inl (xs,vM x out,((i+1:Nat):Int))):=by
 have hi:=(zC.1 g).1;have m:idx xs (i:Int)=some x:=by rw[au,g]
 have n:w64 ((i:Int)+1)=((i+1:Nat):Int):=dn g (by omega);have key:∀(k at':Nat),out.length=at'+k->(∀y,y∈out.take at'->y<x)->aA pz (xs,out,(i:Int),(at':Int))=some (.inl (xs,vM x out,((i+1:Nat):Int))):=by
  intro k;induction k with
  | zero=>
   intro a p b;have e:a=out.length:=by omega
   subst e;rw[List.take_length]at b;have hins:vM x out=out++[x]:=by
    have:=Ld x out [] b;rw[List.append_nil]at this;exact this
   have d:pz (xs,out,(i:Int),(out.length:Int))=some (.inr (.inl (xs,vM x out,((i+1:Nat):Int)))):=by
    simp only[pz,bG,aa,WT out out.length (az _),zA,m,n,List.drop_length,List.take_length];rw[gdp (by simp),zA,gdp (by simp;omega),zA,gdp (by simp;omega),zA,zA,hins];simp
   rw[aH,d]
  | succ k ih=>
   intro a p b;have c:a<out.length:=by omega
   have o:=zF c;have hdec:decide ((a:Int)<(out.length:Int))=true:=by simp;omega
   have hsplit:out=out.take a++out[a]::out.drop (a+1):=by
    rw[<- List.drop_eq_getElem_cons c,List.take_append_drop]
   have hins:vM x out=out.take a++vM x (out[a]::out.drop (a+1)):=by
    conv=>lhs;rw[hsplit]
    exact Ld x _ _ b
   by_cases j:out[a]<x
   ·have d:pz (xs,out,(i:Int),(a:Int))=some (.inl (xs,out,(i:Int),((a+1:Nat):Int))):=by
     simp only[pz,hdec,ac,au,o,g,zA,aD,Go.Proofs.bytesLess_eq,aq j];rw[bK (by omega) (by omega)];rfl
    rw[aH,d];refine ih (a+1) (by omega) fun y h=>?_
    rw[List.take_succ_eq_append_getElem c]at h;rcases List.mem_append.1 h with h | h
    ·exact b y h
    ·rw[List.mem_singleton.1 h];exact j
   ·by_cases l:out[a]=x
    ·have hins2:vM x out=out:=by
      rw[hins];show out.take a++(if out[a]<x then _ else if out[a]=x then out[a]::out.drop (a+1)else _)=out
      rw[if_neg j,if_pos l];exact hsplit.symm
     have d:pz (xs,out,(i:Int),(a:Int))=some (.inr (.inl (xs,vM x out,((i+1:Nat):Int)))):=by
      have f:(out[a]==x)=true:=by simp[l]
      simp only[pz,hdec,ac,au,o,g,zA,aD,Go.Proofs.bytesLess_eq,ae j,aa,f,n,hins2]
     rw[aH,d]
    ·have hins2:vM x out=out.take a++[x]++out.drop a:=by
      rw[hins];show out.take a++(if out[a]<x then _ else if out[a]=x then out[a]::out.drop (a+1)else x::out[a]::out.drop (a+1))=_
      rw[if_neg j,if_neg l,<- List.drop_eq_getElem_cons c];simp
     have d:pz (xs,out,(i:Int),(a:Int))=some (.inr (.inl (xs,vM x out,((i+1:Nat):Int)))):=by
      have f:(out[a]==x)=false:=by simp[l]
      simp only[pz,hdec,ac,au,o,g,zA,aD,Go.Proofs.bytesLess_eq,ae j,aa,f,n,WT out a (by omega)];rw[gdp (by simp;omega),zA,gdp (by simp;omega),zA,gdp (by simp;omega),zA,zA,hins2];simp
     rw[aH,d]
 exact key out.length 0 (by omega) (by simp)
theorem Um(xs:List Str)(f:xs.length<=1048576):∃ys,uU xs=some ys/\ni ys/\∀b,b∈ys↔b∈xs:=by
 rw[Un];refine dK (g:=OU) (fun (out:List Str) (i:Nat)=>((xs,out,(i:Int)):Zq)) xs (fun i out=>ni out/\out.length<=i/\∀b,b∈out↔b∈xs.take i) (fun ys=>ni ys/\∀b,b∈ys↔b∈xs) (fun i x out a d=>.inl ?_) (fun out d=>?_) [] ⟨List.Pairwise.nil,az _,by simp⟩
 ·obtain⟨e,h,c⟩:=d;have hi:=(zC.1 a).1;have j:xs.take (i+1)=xs.take i++[x]:=by
   obtain⟨hi,rfl⟩:=zC.1 a;rw[List.take_succ_eq_append_getElem hi]
  refine⟨vM x out,?_,NJ x out e,by have:=aa8 x out;omega,fun b=>?_⟩
  ·simp only[OU,dw a,ac];exact ajx xs i x a f out (by omega)
  ·rw[RU,c,j,List.mem_append,List.mem_singleton];exact Or.comm
 ·obtain⟨e,h,c⟩:=d;rw[List.take_length]at c;exact⟨out,by simp only[OU,bG,aa],e,c⟩
theorem Oc(xs:List Str)(a:xs.length<=1048576):∃ys,qM xs=some ys/\uU xs=some ys/\ni ys/\∀b,b∈ys↔b∈xs:=by
 obtain⟨ys,h1,h2,c⟩:=U5 xs a;obtain⟨zs,d,e,f⟩:=Um xs a;have:ys=zs:=VS h2 e fun b=>by rw[c,f]
 subst this;exact⟨ys,h1,d,h2,c⟩
theorem acB:∀ {xs:List Str} {ys:List Str},ni xs->(∀b,b∈xs->b∈ys)->xs.length<=ys.length:=by
 intro xs;induction xs with
 | nil=>intro ys _ _;exact Nat.zero_le _
 | cons x r ih=>
  intro ys h c;obtain⟨h1,h2⟩:=List.pairwise_cons.1 h;have d:=c x (by simp);have:=ih (ys:=ys.erase x) h2 fun b f=>by
   have a:b≠x:=fun e=>by subst e;exact List.lt_irrefl _ (h1 b f)
   exact (List.mem_erase_of_ne a).2 (c b (ar _ f))
  rw[List.length_erase_of_mem d]at this;have:=List.length_pos_of_mem d;simp only[List.length_cons];omega
theorem Bl(e:af)(h:wtE e<=1000):∃ys,oM e=some ys/\vz e=some ys/\ni ys/\ys.length<=wtE e/\∀b,b∈ys↔b∈(evE e []).map (·.1):=by
 have h1:=FW (siz e+1) e [] (Nat.lt_succ_self _) (by simp;omega);have h2:Qc e []=some ((evE e []).map (·.1)):=afO _ e [] (by omega) (by simp;omega);have i:=EU e [];obtain⟨ys,d,f,a,c⟩:=Oc ((evE e []).map (·.1)) (by rw[List.length_map];omega);refine⟨ys,?_,?_,a,?_,c⟩
 ·unfold oM;rw[h1,zA,gdp (by omega)];exact d
 ·unfold vz;rw[aO,h2,zA,f];rfl
 ·have:=acB a fun b g=>(c b).1 g
  rw[List.length_map]at this;omega
theorem MN(a:Str)(b:a.length<=34359738368)(h:aZ a=some true):a.length<=8:=by
 unfold aZ at h;rw[Aq a b]at h;by_cases c:(a.length:Int)<=8
 ·omega
 ·rw[ae c,Bool.and_false,Bool.and_false]at h;cases h
theorem yD(e:af)(b c:Str)(k:wtE e<=1000)(g:b.length<=34359738368)(d:c.length<=34359738368) :
  ∃(x:af) (v:Bool),kP e b c=some (x,v)/\kM e b c=some (x,v)/\wtE x<=1000:=by
 obtain⟨v0,l,m,n⟩:=wI e (by omega);obtain⟨h,i⟩:=mO b g;obtain⟨j,f⟩:=mO c d;have o:bM b=some h:=by rw[<- oQ b g,i]
 have p:bM c=some j:=by rw[<- oQ c d,f]
 obtain⟨v3,q,r⟩:=D8 e b c k;have s:SA e b c=some (Oj b c e):=afd b c _ e (by omega) (by omega);have a:wtE ⟨0,0,[],[]⟩<=1000:=by rw[Ee];simp[wtL]
 unfold kP kM;simp only[aO,l,m,i,f,o,p,q,r,s,zA];cases v0 with
 | false=>exact⟨_,_,rfl,rfl,a⟩
 | true=>
  obtain⟨hv,hw40⟩:=n rfl;have t:F7 e b c=some (Oj b c e):=afb b c _ e (by omega) (by omega) hv;simp only[t,zA,aM,aa];cases h with
  | false=>exact⟨_,_,rfl,rfl,a⟩
  | true=>
   cases j with
   | false=>exact⟨_,_,rfl,rfl,a⟩
   | true=>
    have u:=MN c d f;cases v3 with
    | true=>exact⟨_,_,rfl,rfl,a⟩
    | false=>exact⟨Oj b c e,true,rfl,rfl,by have:=afe b c (by omega) e;omega⟩
theorem ahr(ys:List Str)(b:Str)(c:ys.length<=34359738368):∃p:Int,jP ys b=some p/\lu ys b=some (!(decide (p<0))):=by
 refine⟨posOf b 0 ys,rY ys b c,?_⟩;rw[oW ys b c];have h:=qI b ys 0;cases a:ys.contains b with
 | false=>rw[aq (h.2 a)];rfl
 | true=>
  have:¬posOf b 0 ys<0:=fun hh=>by rw[h.1 hh]at a;cases a
  rw[ae this];rfl
theorem Xt{α X Y ρ σ:Type}{f:X->Option (X⊕ρ)}{g:Y->Option (Y⊕ρ)}(px:σ->Nat->X)(py:σ->Nat->Y)(xs:List α)(I:Nat->σ->Prop)(R:ρ->Prop)
  (j:∀i x s,xs[i]?=some x->I i s->(∃s',f (px s i)=some (.inl (px s' (i+1)))/\g (py s i)=some (.inl (py s' (i+1)))/\I (i+1) s')\/∃r,f (px s i)=some (.inr r)/\g (py s i)=some (.inr r)/\R r)
  (l:∀s,I xs.length s->∃r,f (px s xs.length)=some (.inr r)/\g (py s xs.length)=some (.inr r)/\R r) (s:σ) (m:I 0 s):∃r,aA f (px s 0)=some r/\aA g (py s 0)=some r/\R r:=by
 have key:∀(k i:Nat) (s:σ),xs.length=i+k->I i s->∃r,aA f (px s i)=some r/\aA g (py s i)=some r/\R r:=by
  intro k;induction k with
  | zero=>
   intro i s hi d;have:i=xs.length:=by omega
   subst this;obtain⟨r,a,b,c⟩:=l s d;exact⟨r,by rw[aH,a],by rw[aH,b],c⟩
  | succ k ih=>
   intro i s hi d;have e:i<xs.length:=by omega
   rcases j i _ s (zF e) d with ⟨s',a,b,h⟩ | ⟨r,a,b,c⟩
   ·obtain⟨r,n,o,c⟩:=ih (i+1) s' (by omega) h;exact⟨r,by rw[aH,a];exact n,by rw[aH,b];exact o,c⟩
   ·exact⟨r,by rw[aH,a],by rw[aH,b],c⟩
 exact key xs.length 0 s (by omega) m
end
end Go.Proofs.YtngjomkjlonfpaaGreatDoor
/- Plain laws: tables out of a text: ParseData alike on both sides. -/
namespace Go.Proofs.YtngjomkjlonfpaaGreatDoor
noncomputable section
open Go.Abs Go.Proofs
theorem rO{ρ:Type}{x:Option ρ}{v:ρ}(h:∃r,x=some r/\r=v):x=some v:=by
 obtain⟨r,e,rfl⟩:=h;exact e
theorem ape{ρ σ:Type}{x:Option ρ}{F:σ->ρ}(h:∃r,x=some r/\∃y,r=F y):∃y,x=some (F y):=by
 obtain⟨r,e,y,rfl⟩:=h;exact⟨y,e⟩
def jf{α:Type}(p:Nat->α->Bool):Nat->List α->Bool
 | _,[]=>true
 | i,x::r=>p i x&&jf p (i+1) r
theorem qc{α X ρ:Type}{g:X->Option (X⊕ρ)}(pk:Nat->X)(xs:List α)(p:Nat->α->Bool)(no yes:ρ)
  (d:∀i x,xs[i]?=some x->g (pk i)=bif p i x then some (.inl (pk (i+1)))else some (.inr no))
  (e:g (pk xs.length)=some (.inr yes)):aA g (pk 0)=some (bif jf p 0 xs then yes else no):=by
 have key:∀(ys:List α) (i:Nat),xs.drop i=ys->i<=xs.length->aA g (pk i)=some (bif jf p i ys then yes else no):=by
  intro ys;induction ys with
  | nil=>
   intro i a hi;have h2:xs.length<=i:=List.drop_eq_nil_iff.1 a;have:i=xs.length:=by omega
   subst this;rw[aH,e];rfl
  | cons y r ih=>
   intro i a hi;have c:xs[i]?=some y:=by
    have:=congrArg (·[0]?) a;simpa using this
   have b:=(zC.1 c).1;rw[aH,d i y c];show _=some (bif (p i y&&jf p (i+1) r)then yes else no)
   cases p i y with
   | true=>
    simp only[ac,Bool.true_and];refine ih (i+1) ?_ b;have:=congrArg List.tail a;simpa using this
   | false=>rfl
 exact key xs 0 rfl (Nat.zero_le _)
def zZ(p:Str):Option Int:=match nH p (-1000000000) 1000000000 with
 | some (v,true)=>some v
 | _=>none
theorem numI(p:Str)(b:p.length<=1048576):∃v,nH p (-1000000000) 1000000000=some (v,(zZ p).isSome)/\(∀u,zZ p=some u->v=u):=by
 obtain⟨v,ok,e,_,_⟩:=NP p (-1000000000) 1000000000 (by omega) (by omega) (by omega);unfold zZ;rw[e];cases ok with
 | true=>exact⟨v,rfl,fun u a=>by cases a;rfl⟩
 | false=>exact⟨v,rfl,fun u a=>by cases a⟩
theorem numS(p:Str)(q:p.length<=1048576):∃v ok,kF p=some (v,ok)/\(zZ p).isSome=(ok&&(decide (v>=-1000000000)&&decide (v<=1000000000)))/\(∀u,zZ p=some u->v=u):=by
 obtain⟨v,ok,e,h1,h2⟩:=PU p (by omega);obtain⟨w,a,i,j,n⟩:=NP p (-1000000000) 1000000000 (by omega) (by omega) (by omega);refine⟨v,ok,e,?_,?_⟩
 ·unfold zZ;rw[i];cases a with
  | true=>
   obtain⟨b,k,l⟩:=j rfl;cases ok with
   | true=>
    obtain⟨c,d,f⟩:=h1 rfl;have:v=w:=aa1 ⟨d,f⟩ (c.trans b.symm) ⟨by omega,by omega⟩;subst this;rw[aq k,aq l];rfl
   | false=>exact absurd b ((h2 rfl).2 w (by omega) (by omega))
  | false=>
   cases ok with
   | false=>rfl
   | true=>
    obtain⟨c,d,f⟩:=h1 rfl;by_cases h:v>=-1000000000/\v<=1000000000
    ·exact absurd c ((n rfl).2 v h.1 h.2)
    ·have:(decide (v>=-1000000000)&&decide (v<=1000000000))=false:=by
      by_cases m:v>=-1000000000
      ·rw[ae (fun o=>h ⟨m,o⟩),Bool.and_false]
      ·rw[ae m,Bool.false_and]
     rw[this];rfl
 ·intro u g;unfold zZ at g;rw[i]at g;cases a with
  | false=>cases g
  | true=>
   cases g
   obtain⟨b,k,l⟩:=j rfl;cases ok with
   | true=>
    obtain⟨c,d,f⟩:=h1 rfl;exact aa1 ⟨d,f⟩ (c.trans b.symm) ⟨by omega,by omega⟩
   | false=>exact absurd b ((h2 rfl).2 w (by omega) (by omega))
def numsOf:List Str->Option (List Int)
 | []=>some []
 | p::r=>(zZ p).bind fun v=>(numsOf r).map (v :: ·)
theorem xJ:∀(a b:List Str),numsOf (a++b)=(numsOf a).bind fun x=>(numsOf b).map (x ++ ·)
 | [],b=>by simp[numsOf]
 | p::r,b=>by
  show (zZ p).bind (fun v=>(numsOf (r++b)).map (v :: ·))=((zZ p).bind fun v=>(numsOf r).map (v :: ·)).bind fun x=>(numsOf b).map (x ++ ·)
  rw[xJ r b];cases zZ p with
  | none=>rfl
  | some v=>
   simp only[zA];cases numsOf r with
   | none=>rfl
   | some x=>
    simp only[zA,Option.map_some];cases numsOf b<;>rfl
theorem Gu:∀ {a:List Str} {x:List Int},numsOf a=some x->x.length=a.length
 | [],x,h=>by cases h;rfl
 | p::r,x,h=>by
  have h:(zZ p).bind (fun v=>(numsOf r).map (v :: ·))=some x:=h;cases c:zZ p with
  | none=>rw[c]at h;cases h
  | some v=>
   rw[c]at h;simp only[zA]at h;cases b:numsOf r with
   | none=>rw[b]at h;cases h
   | some y=>
    rw[b]at h;cases h
    simp[Gu b]
theorem NE{xs:List Str}{i:Nat}{p:Str}(h:xs[i]?=some p)(a:zZ p=none):numsOf xs=none:=by
 obtain⟨hi,rfl⟩:=zC.1 h;have e:xs=xs.take i++(xs[i]::xs.drop (i+1)):=by rw[<- List.drop_eq_getElem_cons hi,List.take_append_drop]
 rw[e,xJ];have:numsOf (xs[i]::xs.drop (i+1))=none:=by
  show (zZ xs[i]).bind _=none
  rw[a];rfl
 rw[this];cases numsOf (xs.take i)<;>rfl
theorem ND{xs:List Str}{i:Nat}{p:Str}{v:Int}{out:List Int}(h:xs[i]?=some p)(a:numsOf (xs.take i)=some out)(b:zZ p=some v):numsOf (xs.take (i+1))=some (out++[v]):=by
 obtain⟨hi,rfl⟩:=zC.1 h;rw[List.take_succ_eq_append_getElem hi,xJ,a];show (Option.some out).bind (fun x=>((zZ xs[i]).bind fun v=>(numsOf []).map (v :: ·)).map (x ++ ·))=_
 rw[b];rfl
theorem alN(a:Str)(b:Int)(k:a.length<=100000):yV a b=some (match numsOf (Go.Lib.split a [32])with
  | some l=>(l,(l.length:Int)==b)
  | none=>([],false)):=by
 obtain⟨h,g⟩:=jG a [32];unfold yV;rw[show (32:Int)=((32:UInt8).toNat:Int)from rfl,Le a 32 (by omega)];simp only[zA];generalize Go.Lib.split a [32]=ps at h g;refine rO (dK (fun (out:List Int) (i:Nat)=>((b,out,ps,(ps.length:Int),(i:Int)):Int×(List Int)×(List Str)×Int×Int)) ps (fun i out=>numsOf (ps.take i)=some out) _ (fun i p out c d=>?_) (fun out d=>?_) [] rfl)
 ·have hi:=(zC.1 c).1;obtain⟨v,e,hv⟩:=numI p (by have:=g p (zG c);omega);simp only[dw c,ac,au,c,zA,aD,e,dn c (by omega)];cases f:zZ p with
  | none=>exact .inr ⟨_,rfl,by rw[NE c f]⟩
  | some u=>
   have:=hv u f;subst this;have j:=Gu d;rw[ba]at j;refine .inl ⟨out++[v],?_,ND c d f⟩;rw[gdp (by simp;omega)];rfl
 ·rw[List.take_length]at d;exact⟨_,by simp only[bG,aa];rfl,by rw[d]⟩
theorem akR(a:Str)(b:Int)(n:a.length<=100000):∃xs,Es a b=some (match numsOf (Go.Lib.split a [32])with
  | some l=>(l,(l.length:Int)==b)
  | none=>(xs,false)):=by
 obtain⟨k,j⟩:=jG a [32];unfold Es;rw[show (32:Int)=((32:UInt8).toNat:Int)from rfl,Kq a 32 (by omega)];simp only[zA];generalize Go.Lib.split a [32]=ps at k j;refine ape (dK (fun (out:List Int) (i:Nat)=>((b,out,ps,(i:Int)):Int×(List Int)×(List Str)×Int)) ps (fun i out=>numsOf (ps.take i)=some out) (fun r=>∃xs,r=(match numsOf ps with
  | some l=>(l,(l.length:Int)==b)
  | none=>(xs,false))) (fun i p out d g=>?_) (fun out g=>?_) [] rfl)
 ·have hi:=(zC.1 d).1;obtain⟨v,ok,e,c,hv⟩:=numS p (by have:=j p (zG d);omega);have m:=Gu g;rw[ba]at m;have hnum:qw v=some (decide (v>=-1000000000)&&decide (v<=1000000000)):=by
   unfold qw;rw[oP];rfl
  simp only[dw d,ac,au,d,zA,aD,e,hnum,dn d (by omega)];cases h:zZ p with
  | none=>
   rw[h]at c;have c:(ok&&(decide (v>=-1000000000)&&decide (v<=1000000000)))=false:=c.symm;refine .inr ⟨(out,false),?_,out,by rw[NE d h]⟩;cases ok with
   | false=>rfl
   | true=>
    rw[Bool.true_and]at c;rw[c];rfl
  | some u=>
   have:=hv u h;subst this;rw[h]at c;have c:true=(ok&&(decide (v>=-1000000000)&&decide (v<=1000000000))):=c;have f:=c.symm;rw[zI]at f;refine .inl ⟨out++[v],?_,ND d g h⟩;rw[f.1,f.2,gdp (by simp;omega)];rfl
 ·rw[List.take_length]at g;exact⟨_,by simp only[bG,aa];rfl,[],by rw[g]⟩
theorem aj2{α:Type}(a:List α)(k:Nat)(h:k<=a.length):eff.cutL a none (some (k:Int))=some (a.take k):=by
 unfold eff.cutL;simp only[Option.getD_none,Option.getD_some];rw[if_pos]
 ·simp
 ·omega
theorem abW{α:Type}(x:α)(r:List α):eff.cutL (x::r) (some 1) none=some r:=by
 unfold eff.cutL;simp only[Option.getD_none,Option.getD_some];rw[if_pos]
 ·simp
 ·simp;omega
theorem Zp(b:Bool):(bif b then true else false)=b:=by cases b<;>rfl
def WN(xs:List Str):Bool:=jf (fun i x=>!((xs.take i).contains x)) 0 xs
theorem ajG(xs:List Str)(c:xs.length<=1048576):tV xs=some (WN xs):=by
 unfold tV;refine (qc (fun i=>((xs,xs,(xs.length:Int),(i:Int)):(List Str)×(List Str)×Int×Int)) xs (fun i x=>!((xs.take i).contains x)) false true (fun i x a=>?_) ?_).trans (congrArg some (Zp _))
 ·have b:=QM x xs i 0 a;rw[Nat.zero_add]at b;simp only[dw a,ac,au,a,zA,rY xs x (by omega),bne,b,dn a (by omega)];cases (xs.take i).contains x<;>rfl
 ·simp only[bG,aa]
theorem ait(xs:List Str)(b:xs.length<=1048576):sZ xs=some (WN xs):=by
 unfold sZ;refine (qc (fun i=>((xs,(i:Int)):(List Str)×Int)) xs (fun i x=>!((xs.take i).contains x)) false true (fun i x a=>?_) ?_).trans (congrArg some (Zp _))
 ·have hi:=(zC.1 a).1;simp only[dw a,ac,au,a,zA,aj2 xs i (by omega),oW (xs.take i) x (by rw[ba];omega),dn a (by omega)];cases (xs.take i).contains x<;>rfl
 ·simp only[bG,aa]
def DZ(xs:List Str):Bool:=jf (fun _ x=>fF x) 0 xs&&((decide (1<=(xs.length:Int))&&decide ((xs.length:Int)<=4))&&WN xs)
theorem abA(xs:List Str)(b:xs.length<=1048576)(c:∀x,x∈xs->x.length<=120):su xs=some (DZ xs):=by
 unfold su;refine (qc (fun i=>((xs,xs,(xs.length:Int),(i:Int)):(List Str)×(List Str)×Int×Int)) xs (fun _ x=>fF x) false ((decide (1<=(xs.length:Int))&&decide ((xs.length:Int)<=4))&&WN xs) (fun i x a=>?_) ?_).trans ?_
 ·simp only[dw a,ac,au,a,zA,EJ x (c x (zG a)),dn a (by omega)];cases fF x<;>rfl
 ·simp only[bG,aa,vN,zA,ajG xs b];cases (decide (1<=(xs.length:Int))&&decide ((xs.length:Int)<=4))<;>rfl
 ·unfold DZ;cases jf (fun _ x=>fF x) 0 xs<;>rfl
theorem aas(xs:List Str)(b:xs.length<=1048576)(c:∀x,x∈xs->x.length<=120):uZ xs=some (DZ xs):=by
 unfold uZ;refine (qc (fun i=>((xs,(i:Int)):(List Str)×Int)) xs (fun _ x=>fF x) false ((decide (1<=(xs.length:Int))&&decide ((xs.length:Int)<=4))&&WN xs) (fun i x a=>?_) ?_).trans ?_
 ·simp only[dw a,ac,au,a,zA,Ei x (c x (zG a)),dn a (by omega)];cases fF x<;>rfl
 ·simp only[bG,aa,oP,zA,ait xs b];show _=some (Sum.inr ((decide ((xs.length:Int)>=1)&&decide ((xs.length:Int)<=4))&&WN xs))
  cases (decide ((xs.length:Int)>=1)&&decide ((xs.length:Int)<=4))<;>rfl
 ·unfold DZ;cases jf (fun _ x=>fF x) 0 xs<;>rfl
def inR(n:Int):Bool:=decide (-1000000000<=n)&&decide (n<=1000000000)
theorem aem(n:Int):EL n=some (inR n):=by
 unfold EL;rw[vN];rfl
theorem acL(n:Int):qw n=some (inR n):=by
 unfold qw;rw[oP];rfl
def rowB(w:Int)(r:cO):Bool:=((r.cells.length:Int)==w)&&jf (fun _ n=>inR n) 0 r.cells
def J5(cols:List Str)(rows:List cO):Bool:=DZ cols&&(decide ((rows.length:Int)<=12)&&jf (fun _ r=>rowB (cols.length:Int) r) 0 rows)
theorem ahj(n step:Int)(text:Str)(cols:List Str)(rows:List cO)(e:cols.length<=1048576)(f:∀x,x∈cols->x.length<=120)(g:∀r,r∈rows->r.orig=[]/\r.cells.length<=1048576) :
  DF ⟨5,n,step,text,[],cols,rows⟩=some (J5 cols rows):=by
 unfold DF J5;simp only[abA cols e f,zA];cases DZ cols with
 | false=>rfl
 | true=>
  simp only[aM,aa,Bool.true_and];by_cases a:(rows.length:Int)>12
  ·rw[aq a,ae (by omega)];rfl
  ·rw[ae a,aq (by omega)];simp only[aa,Bool.true_and];refine (qc (fun i=>((5,n,step,text,[],cols,rows,rows,(rows.length:Int),(i:Int)):Int×Int×Int×Str×(List aQ)×(List Str)×(List cO)×(List cO)×Int×Int)) rows (fun _ r=>rowB (cols.length:Int) r) false true (fun i r b=>?_) ?_).trans (congrArg some (Zp _))
   ·obtain⟨h,k⟩:=g r (zG b);have c:=dn b (by omega);simp only[dw b,ac,au,b,zA,h,bne];unfold rowB;cases ((r.cells.length:Int)==(cols.length:Int))with
    | false=>rfl
    | true=>
     simp only[aM,aa,Bool.true_and];refine (qc (fun j=>((5,n,step,text,[],cols,rows,r.cells,[],rows,(rows.length:Int),(i:Int),r.cells,(r.cells.length:Int),(j:Int)):Int×Int×Int×Str×(List aQ)×(List Str)×(List cO)×(List Int)×(List dN)×(List cO)×Int×Int×(List Int)×Int×Int)) r.cells (fun _ m=>inR m) (Sum.inr false) (Sum.inl (5,n,step,text,[],cols,rows,rows,(rows.length:Int),((i+1:Nat):Int))) (fun j m d=>?_) ?_).trans ?_
     ·simp only[dw d,ac,au,d,zA,aem,dn d (by omega)];cases inR m<;>rfl
     ·simp only[bG,aa];rw[aH];simp only[List.length_nil,Int.ofNat_zero,Int.lt_irrefl,decide_false,aa,c,zA]
     ·cases jf (fun _ m=>inR m) 0 r.cells<;>rfl
   ·simp only[bG,aa]
theorem aix:sV []=some true:=by
 unfold sV;rw[aH];rfl
theorem agk(n step:Int)(text:Str)(cols:List Str)(rows:List cO)(e:cols.length<=1048576)(f:∀x,x∈cols->x.length<=120)(g:∀r,r∈rows->r.orig=[]/\r.cells.length<=1048576) :
  Ij ⟨5,n,step,text,[],cols,rows⟩=some (J5 cols rows):=by
 unfold Ij J5;simp only[aas cols e f,zA];cases DZ cols with
 | false=>rfl
 | true=>
  simp only[aM,aa,Bool.true_and];by_cases a:(rows.length:Int)>12
  ·rw[aq a,ae (by omega)];rfl
  ·rw[ae a,aq (by omega)];simp only[aa,Bool.true_and];refine (qc (fun i=>((5,n,step,text,[],cols,rows,(i:Int)):Int×Int×Int×Str×(List aQ)×(List Str)×(List cO)×Int)) rows (fun _ r=>rowB (cols.length:Int) r) false true (fun i r b=>?_) ?_).trans (congrArg some (Zp _))
   ·obtain⟨h,k⟩:=g r (zG b);have c:=dn b (by omega);simp only[dw b,ac,au,b,zA,h,aix,bne];unfold rowB;cases ((r.cells.length:Int)==(cols.length:Int))with
    | false=>rfl
    | true=>
     simp only[aM,aa,Bool.true_and];refine (qc (fun j=>((5,n,step,text,[],cols,rows,(i:Int),r.cells,[],(j:Int)):Int×Int×Int×Str×(List aQ)×(List Str)×(List cO)×Int×(List Int)×(List dN)×Int)) r.cells (fun _ m=>inR m) (Sum.inr false) (Sum.inl (5,n,step,text,[],cols,rows,((i+1:Nat):Int))) (fun j m d=>?_) ?_).trans ?_
     ·simp only[dw d,ac,au,d,zA,acL,dn d (by omega)];cases inR m<;>rfl
     ·simp only[bG,aa,c]
     ·cases jf (fun _ m=>inR m) 0 r.cells<;>rfl
   ·simp only[bG,aa]
theorem Jm(cols:List Str)(rows:List cO)(a:cols.length<=1048576)(b:∀x,x∈cols->x.length<=120)(c:∀r,r∈rows->r.orig=[]/\r.cells.length<=1048576) :
  qW ⟨5,0,0,[],[],cols,rows⟩=some (J5 cols rows):=by
 have h:=ahj 0 0 [] cols rows a b c;show kJ ⟨5,0,0,[],[],cols,rows⟩=_
 unfold kJ;simp only[h,zA];cases ((cols.length:Int)==0)<;>rfl
theorem Ic(cols:List Str)(rows:List cO)(a:cols.length<=1048576)(b:∀x,x∈cols->x.length<=120)(c:∀r,r∈rows->r.orig=[]/\r.cells.length<=1048576) :
  qR ⟨5,0,0,[],[],cols,rows⟩=some (J5 cols rows):=by
 have h:=agk 0 0 [] cols rows a b c;show kG ⟨5,0,0,[],[],cols,rows⟩=_
 unfold kG;simp only[h,zA];rfl
def rowOf(w:Int)(p:Str):Option cO:=match numsOf (Go.Lib.split p [32])with
 | some l=>if (l.length:Int)==w then some ⟨l,[]⟩else none
 | none=>none
def rowsOf(w:Int):List Str->Option (List cO)
 | []=>some []
 | p::r=>(rowOf w p).bind fun v=>(rowsOf w r).map (v :: ·)
theorem xE(w:Int):∀(a b:List Str),rowsOf w (a++b)=(rowsOf w a).bind fun x=>(rowsOf w b).map (x ++ ·)
 | [],b=>by simp[rowsOf]
 | p::r,b=>by
  show (rowOf w p).bind (fun v=>(rowsOf w (r++b)).map (v :: ·))=((rowOf w p).bind fun v=>(rowsOf w r).map (v :: ·)).bind fun x=>(rowsOf w b).map (x ++ ·)
  rw[xE w r b];cases rowOf w p with
  | none=>rfl
  | some v=>
   simp only[zA];cases rowsOf w r with
   | none=>rfl
   | some x=>
    simp only[zA,Option.map_some];cases rowsOf w b<;>rfl
theorem Nu{w:Int}{xs:List Str}{i:Nat}{p:Str}(h:xs[i]?=some p)(a:rowOf w p=none):rowsOf w xs=none:=by
 obtain⟨hi,rfl⟩:=zC.1 h;have e:xs=xs.take i++(xs[i]::xs.drop (i+1)):=by rw[<- List.drop_eq_getElem_cons hi,List.take_append_drop]
 rw[e,xE];have:rowsOf w (xs[i]::xs.drop (i+1))=none:=by
  show (rowOf w xs[i]).bind _=none
  rw[a];rfl
 rw[this];cases rowsOf w (xs.take i)<;>rfl
theorem Ns{w:Int}{xs:List Str}{i:Nat}{p:Str}{v:cO}{out:List cO}(h:xs[i]?=some p)(a:rowsOf w (xs.take i)=some out)(b:rowOf w p=some v):rowsOf w (xs.take (i+1))=some (out++[v]):=by
 obtain⟨hi,rfl⟩:=zC.1 h;rw[List.take_succ_eq_append_getElem hi,xE,a];show (Option.some out).bind (fun x=>((rowOf w xs[i]).bind fun v=>(rowsOf w []).map (v :: ·)).map (x ++ ·))=_
 rw[b];rfl
theorem qE{w:Int}:∀ {a:List Str} {x:List cO},rowsOf w a=some x->x.length=a.length/\∀r,r∈x->r.orig=[]/\(r.cells.length:Int)=w
 | [],x,h=>by cases h;exact⟨rfl,fun r c=>by cases c⟩
 | p::r,x,h=>by
  have h:(rowOf w p).bind (fun v=>(rowsOf w r).map (v :: ·))=some x:=h;cases b:rowOf w p with
  | none=>rw[b]at h;cases h
  | some v=>
   rw[b]at h;simp only[zA]at h;cases c:rowsOf w r with
   | none=>rw[c]at h;cases h
   | some y=>
    rw[c]at h;cases h
    obtain⟨h1,h2⟩:=qE c;refine⟨by simp[h1],fun q d=>?_⟩;rcases bc.1 d with rfl | d
    ·unfold rowOf at b;split at b
     ·rename_i l _;split at b
      ·rename_i e;cases b
       exact⟨rfl,by simpa using e⟩
      ·cases b
     ·cases b
    ·exact h2 q d
theorem ae9(w:Int)(p:Str)(a:p.length<=100000):∃l ok,yV p w=some (l,ok)/\((ok=false/\rowOf w p=none)\/(ok=true/\rowOf w p=some ⟨l,[]⟩)):=by
 rw[alN p w a];unfold rowOf;cases numsOf (Go.Lib.split p [32])with
 | none=>exact⟨_,_,rfl,.inl ⟨rfl,rfl⟩⟩
 | some l=>
  refine⟨l,_,rfl,?_⟩;cases h:((l.length:Int)==w)with
  | true=>exact .inr ⟨rfl,by simpa using h⟩
  | false=>exact .inl ⟨rfl,by simpa using h⟩
theorem ae8(w:Int)(p:Str)(a:p.length<=100000):∃l ok,Es p w=some (l,ok)/\((ok=false/\rowOf w p=none)\/(ok=true/\rowOf w p=some ⟨l,[]⟩)):=by
 obtain⟨xs,e⟩:=akR p w a;rw[e];unfold rowOf;cases numsOf (Go.Lib.split p [32])with
 | none=>exact⟨_,_,rfl,.inl ⟨rfl,rfl⟩⟩
 | some l=>
  refine⟨l,_,rfl,?_⟩;cases h:((l.length:Int)==w)with
  | true=>exact .inr ⟨rfl,by simpa using h⟩
  | false=>exact .inl ⟨rfl,by simpa using h⟩
def dataOf(a:Str)(ps:List Str):aQ×Bool:=match rowsOf ((Go.Lib.split a [32]).length:Int) ps with
 | none=>(⟨0,0,0,[],[],[],[]⟩,false)
 | some rows=>if J5 (Go.Lib.split a [32]) rows=true then (⟨5,0,0,[],[],Go.Lib.split a [32],rows⟩,true)else (⟨0,0,0,[],[],[],[]⟩,false)
theorem QO(a:Str):∃b ps,Go.Lib.split a [59,32]=b::ps:=List.exists_cons_of_ne_nil (ah7 a [59,32])
theorem Tf(a:Str)(z:a.length<=120){b:Str}{ps:List Str}(c:Go.Lib.split a [59,32]=b::ps):oL a=some (dataOf b ps):=by
 obtain⟨k,g⟩:=jG a [59,32];rw[c]at k g;have A:=g b (by simp);obtain⟨n,m⟩:=jG b [32];unfold oL dataOf;have o:lm a [59,32]=some (b::ps):=by
  unfold lm;rw[if_pos ⟨by omega,by simp⟩,c]
 have q:mD b 32=some (Go.Lib.split b [32]):=Le b 32 (by omega);have s:idx (b::ps) 0=some b:=rfl;have t:(b::ps)[0]?=some b:=rfl;simp only[o,s,t,q,abW,zA];generalize hcols:Go.Lib.split b [32]=cols at n m;refine rO (dK (fun (out:List cO) (i:Nat)=>((0,0,0,[],[],[],[],5,0,0,[],[],cols,out,ps,(ps.length:Int),(i:Int)):Int×Int×Int×Str×(List aQ)×(List Str)×(List cO)×Int×Int×Int×Str×(List aQ)×(List Str)×(List cO)×(List Str)×Int×Int)) ps (fun i out=>rowsOf (cols.length:Int) (ps.take i)=some out) _ (fun i p out c f=>?_) (fun out f=>?_) [] rfl)
 ·have u:=g p (ar _ (zG c));obtain⟨l,ok,e,d⟩:=ae9 (cols.length:Int) p (by omega);have v:=(zC.1 c).1;have h:=(qE f).1;rw[ba]at h;simp only[List.length_cons]at k;simp only[dw c,ac,au,c,zA,e,dn c (by omega)];rcases d with ⟨rfl,d⟩ | ⟨rfl,d⟩
  ·exact .inr ⟨_,rfl,by rw[Nu c d]⟩
  ·refine .inl ⟨out++[⟨l,[]⟩],?_,Ns c f d⟩;rw[gdp (by simp;omega)];rfl
 ·rw[List.take_length]at f;obtain⟨w,j⟩:=qE f;have hv:=Jm cols out (by omega) (fun x y=>by have:=m x y;omega) (fun r d=>by have:=j r d;exact⟨this.1,by omega⟩);refine⟨_,?_,rfl⟩;simp only[bG,aa,hv,zA,f];cases J5 cols out<;>rfl
theorem aiu(a:Str)(B:a.length<=120){b:Str}{ps:List Str}(c:Go.Lib.split a [59,32]=b::ps):uV a=some (dataOf b ps):=by
 obtain⟨n,g⟩:=jG a [59,32];rw[c]at n g;have C:=g b (by simp);obtain⟨q,o⟩:=jG b [32];unfold uV dataOf;have s:ul a=some (b::ps):=by rw[VZ a (by omega),c]
 have t:jW b 32=some (Go.Lib.split b [32]):=Kq b 32 (by omega);have u:idx (b::ps) 0=some b:=rfl;have v:(b::ps)[0]?=some b:=rfl;simp only[s,u,v,t,zA];generalize hcols:Go.Lib.split b [32]=cols at q o;refine rO (dK (fun (out:List cO) (i:Nat)=>((0,0,0,[],[],[],[],b::ps,5,0,0,[],[],cols,out,((i+1:Nat):Int)):Int×Int×Int×Str×(List aQ)×(List Str)×(List cO)×(List Str)×Int×Int×Int×Str×(List aQ)×(List Str)×(List cO)×Int)) ps (fun i out=>rowsOf (cols.length:Int) (ps.take i)=some out) _ (fun i p out c f=>?_) (fun out f=>?_) [] rfl)
 ·have w:=g p (ar _ (zG c));obtain⟨l,ok,e,d⟩:=ae8 (cols.length:Int) p (by omega);have y:=(zC.1 c).1;have h:=(qE f).1;rw[ba]at h;simp only[List.length_cons]at n;have j:decide (((i+1:Nat):Int)<((b::ps).length:Int))=true:=by simp;omega
  have k:(b::ps)[i+1]?=some p:=by simpa using c
  have z:w64 (((i+1:Nat):Int)+1)=((i+1+1:Nat):Int):=by rw[bK (by omega) (by omega)];omega
  simp only[j,ac,au,k,zA,aD,e,z];rcases d with ⟨rfl,d⟩ | ⟨rfl,d⟩
  ·exact .inr ⟨_,rfl,by rw[Nu c d]⟩
  ·refine .inl ⟨out++[⟨l,[]⟩],?_,Ns c f d⟩;rw[gdp (by simp;omega)];rfl
 ·rw[List.take_length]at f;obtain⟨A,m⟩:=qE f;have hv:=Ic cols out (by omega) (fun x k=>by have:=o x k;omega) (fun r d=>by have:=m r d;exact⟨this.1,by omega⟩);have j:decide (((ps.length+1:Nat):Int)<((b::ps).length:Int))=false:=by simp
  refine⟨_,?_,rfl⟩;simp only[j,aa,hv,zA,f];cases J5 cols out<;>rfl
theorem aeF(a:Str)(f:a.length<=120):∃v ok,oL a=some (v,ok)/\uV a=some (v,ok)/\(ok=true->∃cols rows,v=⟨5,0,0,[],[],cols,rows⟩/\J5 cols rows=true/\cols.length<=122/\(∀x,x∈cols->x.length<=120)/\rows.length<=122/\∀r,r∈rows->r.orig=[]/\r.cells.length<=122):=by
 obtain⟨b,ps,d⟩:=QO a;refine⟨(dataOf b ps).1,(dataOf b ps).2,Tf a f d,aiu a f d,fun h=>?_⟩;obtain⟨g,i⟩:=jG a [59,32];rw[d]at g i;simp only[List.length_cons]at g;have m:=i b (by simp);obtain⟨n,j⟩:=jG b [32];unfold dataOf at h ⊢;cases c:rowsOf ((Go.Lib.split b [32]).length:Int) ps with
 | none=>rw[c]at h;cases h
 | some rows=>
  rw[c]at h;simp only at h ⊢;by_cases e:J5 (Go.Lib.split b [32]) rows=true
  ·rw[if_pos e];obtain⟨o,k⟩:=qE c;exact⟨_,rows,rfl,e,by omega,fun x l=>by have:=j x l;omega,by omega,fun r c=>by have:=k r c;exact⟨this.1,by omega⟩⟩
  ·rw[if_neg e]at h;cases h
end
end Go.Proofs.YtngjomkjlonfpaaGreatDoor
