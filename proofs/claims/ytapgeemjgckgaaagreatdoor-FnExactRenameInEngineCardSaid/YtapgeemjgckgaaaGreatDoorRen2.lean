import Derived.Test.YtapgeemjgckgaaaGreatDoorForm1
import Derived.Test.YtapgeemjgckgaaaGreatDoorRen1
import Derived.Sort.Walk0
set_option linter.unusedSimpArgs false
set_option linter.unusedVariables false
/- Plain laws: renaming in expressions is alike on both sides. -/
namespace Go.Proofs.YtapgeemjgckgaaaGreatDoor
open Go.Abs Go.Proofs
theorem abK:∀(n:Nat) (e:af),siz e<n->wtE e<=1048576->uO n e=some e
 | 0,e,h,_=>absurd h (Nat.not_lt_zero _)
 | n+1,e,c,d=>by
  have ih:=abK n;have f:=tK (e:=e);show GV (uO n) e=_
  unfold GV;refine Ec (fun (out:List af) (i:Nat)=>((0,0,[],[],e.kind,e.n,e.text,out,e.args,(e.args.length:Int),(i:Int)):Int×Int×Str×(List af)×Int×Int×Str×(List af)×(List af)×Int×Int)) e.args (fun _ x=>x) e (fun i x out a g=>?_) ?_
  ·have b:=zG a;have j:=qK b;have hi:=(zC.1 a).1;simp only[dD a,ac,aA,a,zA,aQ,ih x (by have:=fJ b;omega) (by omega),dI a (by omega)];rw[gdp (by simp;omega)];rfl
  ·simp only[bY,aa,uH];cases e;rfl
theorem abJ:∀(n:Nat) (e:af),siz e<n->wtE e<=1048576->xM n e=some e
 | 0,e,h,_=>absurd h (Nat.not_lt_zero _)
 | n+1,e,c,d=>by
  have ih:=abJ n;have f:=tK (e:=e);show J5 (xM n) e=_
  unfold J5;refine Ec (fun (out:List af) (i:Nat)=>((e.kind,e.n,e.text,e.args,0,0,[],[],e.kind,e.n,e.text,out,(i:Int)):Int×Int×Str×(List af)×Int×Int×Str×(List af)×Int×Int×Str×(List af)×Int)) e.args (fun _ x=>x) e (fun i x out a g=>?_) ?_
  ·have b:=zG a;have j:=qK b;have hi:=(zC.1 a).1;simp only[dD a,ac,aA,a,zA,aQ,ih x (by have:=fJ b;omega) (by omega),dI a (by omega)];rw[gdp (by simp;omega)];rfl
  ·simp only[bY,aa,uH];cases e;rfl
theorem Yz(e:af)(a:wtE e<=1048576):Es e=some e:=abK _ e (Nat.lt_succ_self _) a
theorem ZQ(e:af)(a:wtE e<=1048576):xN e=some e:=abJ _ e (Nat.lt_succ_self _) a
def Aw(b:Str)(k:Int)(t:Str):Bool:=((k==7)||(k==9))&&(t==b)
def oJ(b c:Str)(k:Int)(t:Str):Str:=if ((k==3)&&(t==b))=true then c else t
mutual
def Nq(b c:Str):af->af
 | ⟨k,n,t,a⟩=>⟨k,n,oJ b c k t,Z9 b c (Aw b k t) 0 a⟩
def Z9(b c:Str)(bi:Bool):Nat->List af->List af
 | _,[]=>[]
 | i,x::r=>(if (bi&&decide (0<i))=true then x else Nq b c x)::Z9 b c bi (i+1) r
end
theorem Qb(b c:Str)(bi:Bool):∀(i:Nat) (xs:List af),Z9 b c bi i xs=iL (fun i x=>if (bi&&decide (0<i))=true then x else Nq b c x) i xs
 | _,[]=>rfl
 | i,x::r=>by rw[Z9,iL,Qb b c bi (i+1) r]
theorem aeT(b c:Str)(e:af):Nq b c e=⟨e.kind,e.n,oJ b c e.kind e.text,Z9 b c (Aw b e.kind e.text) 0 e.args⟩:=by cases e;rfl
abbrev RI:=Str×Str×Int×Int×Str×(List af)×Int×Int×Str×(List af)×Bool×(List af)×Int×Int
abbrev RS:=Str×Str×Int×Int×Str×(List af)×Int×Int×Str×(List af)×Int×Int×Str×(List af)×Int
noncomputable def aiB(rec:af->Str->Str->Option af):RI->Option (RI⊕af):=(fun (a:Str×Str×Int×Int×Str×(List af)×Int×Int×Str×(List af)×Bool×(List af)×Int×Int)=>
      bif (decide (a.2.2.2.2.2.2.2.2.2.2.2.2.2<a.2.2.2.2.2.2.2.2.2.2.2.2.1))then
       (idx a.2.2.2.2.2.2.2.2.2.2.2.1 a.2.2.2.2.2.2.2.2.2.2.2.2.2).bind fun b=>
       bif a.2.2.2.2.2.2.2.2.2.2.1 then
        bif (decide (a.2.2.2.2.2.2.2.2.2.2.2.2.2>0))then
         (Es (ah b)).bind fun c=>
         (gd (a.2.2.2.2.2.2.2.2.2.1.length+[ah c].length)).bind fun _=>
         some (.inl (a.1,a.2.1,a.2.2.1,a.2.2.2.1,a.2.2.2.2.1,a.2.2.2.2.2.1,a.2.2.2.2.2.2.1,a.2.2.2.2.2.2.2.1,a.2.2.2.2.2.2.2.2.1,a.2.2.2.2.2.2.2.2.2.1++[ah c],a.2.2.2.2.2.2.2.2.2.2.1,a.2.2.2.2.2.2.2.2.2.2.2.1,a.2.2.2.2.2.2.2.2.2.2.2.2.1,w64 (a.2.2.2.2.2.2.2.2.2.2.2.2.2+1)))
        else
         (rec (ah b) a.1 a.2.1).bind fun d=>
         (gd (a.2.2.2.2.2.2.2.2.2.1.length+[ah d].length)).bind fun _=>
         some (.inl (a.1,a.2.1,a.2.2.1,a.2.2.2.1,a.2.2.2.2.1,a.2.2.2.2.2.1,a.2.2.2.2.2.2.1,a.2.2.2.2.2.2.2.1,a.2.2.2.2.2.2.2.2.1,a.2.2.2.2.2.2.2.2.2.1++[ah d],a.2.2.2.2.2.2.2.2.2.2.1,a.2.2.2.2.2.2.2.2.2.2.2.1,a.2.2.2.2.2.2.2.2.2.2.2.2.1,w64 (a.2.2.2.2.2.2.2.2.2.2.2.2.2+1)))
       else
        (rec (ah b) a.1 a.2.1).bind fun e=>
        (gd (a.2.2.2.2.2.2.2.2.2.1.length+[ah e].length)).bind fun _=>
        some (.inl (a.1,a.2.1,a.2.2.1,a.2.2.2.1,a.2.2.2.2.1,a.2.2.2.2.2.1,a.2.2.2.2.2.2.1,a.2.2.2.2.2.2.2.1,a.2.2.2.2.2.2.2.2.1,a.2.2.2.2.2.2.2.2.2.1++[ah e],a.2.2.2.2.2.2.2.2.2.2.1,a.2.2.2.2.2.2.2.2.2.2.2.1,a.2.2.2.2.2.2.2.2.2.2.2.2.1,w64 (a.2.2.2.2.2.2.2.2.2.2.2.2.2+1)))
      else
       some (.inr (af.mk a.2.2.2.2.2.2.1 a.2.2.2.2.2.2.2.1 a.2.2.2.2.2.2.2.2.1 a.2.2.2.2.2.2.2.2.2.1))
  )
noncomputable def aiA(rec:af->Str->Str->Option af):RS->Option (RS⊕af):=(fun (a:Str×Str×Int×Int×Str×(List af)×Int×Int×Str×(List af)×Int×Int×Str×(List af)×Int)=>
      bif (decide (a.2.2.2.2.2.2.2.2.2.2.2.2.2.2<(a.2.2.2.2.2.1.length:Int)))then
       bif (a.2.2.1==7)then
        bif (a.2.2.2.2.2.2.2.2.2.2.2.2.2.2==1)then
         bif (a.2.2.2.2.1==a.1)then
          (idx a.2.2.2.2.2.1 a.2.2.2.2.2.2.2.2.2.2.2.2.2.2).bind fun l=>
          (xN (ah l)).bind fun h=>
          (gd (a.2.2.2.2.2.2.2.2.2.2.2.2.2.1.length+[ah h].length)).bind fun _=>
          some (.inl (a.1,a.2.1,a.2.2.1,a.2.2.2.1,a.2.2.2.2.1,a.2.2.2.2.2.1,a.2.2.2.2.2.2.1,a.2.2.2.2.2.2.2.1,a.2.2.2.2.2.2.2.2.1,a.2.2.2.2.2.2.2.2.2.1,a.2.2.2.2.2.2.2.2.2.2.1,a.2.2.2.2.2.2.2.2.2.2.2.1,a.2.2.2.2.2.2.2.2.2.2.2.2.1,a.2.2.2.2.2.2.2.2.2.2.2.2.2.1++[ah h],w64 (a.2.2.2.2.2.2.2.2.2.2.2.2.2.2+1)))
         else
          (idx a.2.2.2.2.2.1 a.2.2.2.2.2.2.2.2.2.2.2.2.2.2).bind fun m=>
          (rec (ah m) a.1 a.2.1).bind fun i=>
          (gd (a.2.2.2.2.2.2.2.2.2.2.2.2.2.1.length+[ah i].length)).bind fun _=>
          some (.inl (a.1,a.2.1,a.2.2.1,a.2.2.2.1,a.2.2.2.2.1,a.2.2.2.2.2.1,a.2.2.2.2.2.2.1,a.2.2.2.2.2.2.2.1,a.2.2.2.2.2.2.2.2.1,a.2.2.2.2.2.2.2.2.2.1,a.2.2.2.2.2.2.2.2.2.2.1,a.2.2.2.2.2.2.2.2.2.2.2.1,a.2.2.2.2.2.2.2.2.2.2.2.2.1,a.2.2.2.2.2.2.2.2.2.2.2.2.2.1++[ah i],w64 (a.2.2.2.2.2.2.2.2.2.2.2.2.2.2+1)))
        else
         (idx a.2.2.2.2.2.1 a.2.2.2.2.2.2.2.2.2.2.2.2.2.2).bind fun n=>
         (rec (ah n) a.1 a.2.1).bind fun j=>
         (gd (a.2.2.2.2.2.2.2.2.2.2.2.2.2.1.length+[ah j].length)).bind fun _=>
         some (.inl (a.1,a.2.1,a.2.2.1,a.2.2.2.1,a.2.2.2.2.1,a.2.2.2.2.2.1,a.2.2.2.2.2.2.1,a.2.2.2.2.2.2.2.1,a.2.2.2.2.2.2.2.2.1,a.2.2.2.2.2.2.2.2.2.1,a.2.2.2.2.2.2.2.2.2.2.1,a.2.2.2.2.2.2.2.2.2.2.2.1,a.2.2.2.2.2.2.2.2.2.2.2.2.1,a.2.2.2.2.2.2.2.2.2.2.2.2.2.1++[ah j],w64 (a.2.2.2.2.2.2.2.2.2.2.2.2.2.2+1)))
       else
       bif (a.2.2.1==9)then
        bif (a.2.2.2.2.2.2.2.2.2.2.2.2.2.2==1)then
         bif (a.2.2.2.2.1==a.1)then
          (idx a.2.2.2.2.2.1 a.2.2.2.2.2.2.2.2.2.2.2.2.2.2).bind fun o=>
          (xN (ah o)).bind fun k=>
          (gd (a.2.2.2.2.2.2.2.2.2.2.2.2.2.1.length+[ah k].length)).bind fun _=>
          some (.inl (a.1,a.2.1,a.2.2.1,a.2.2.2.1,a.2.2.2.2.1,a.2.2.2.2.2.1,a.2.2.2.2.2.2.1,a.2.2.2.2.2.2.2.1,a.2.2.2.2.2.2.2.2.1,a.2.2.2.2.2.2.2.2.2.1,a.2.2.2.2.2.2.2.2.2.2.1,a.2.2.2.2.2.2.2.2.2.2.2.1,a.2.2.2.2.2.2.2.2.2.2.2.2.1,a.2.2.2.2.2.2.2.2.2.2.2.2.2.1++[ah k],w64 (a.2.2.2.2.2.2.2.2.2.2.2.2.2.2+1)))
         else
          (idx a.2.2.2.2.2.1 a.2.2.2.2.2.2.2.2.2.2.2.2.2.2).bind fun e=>
          (rec (ah e) a.1 a.2.1).bind fun b=>
          (gd (a.2.2.2.2.2.2.2.2.2.2.2.2.2.1.length+[ah b].length)).bind fun _=>
          some (.inl (a.1,a.2.1,a.2.2.1,a.2.2.2.1,a.2.2.2.2.1,a.2.2.2.2.2.1,a.2.2.2.2.2.2.1,a.2.2.2.2.2.2.2.1,a.2.2.2.2.2.2.2.2.1,a.2.2.2.2.2.2.2.2.2.1,a.2.2.2.2.2.2.2.2.2.2.1,a.2.2.2.2.2.2.2.2.2.2.2.1,a.2.2.2.2.2.2.2.2.2.2.2.2.1,a.2.2.2.2.2.2.2.2.2.2.2.2.2.1++[ah b],w64 (a.2.2.2.2.2.2.2.2.2.2.2.2.2.2+1)))
        else
         (idx a.2.2.2.2.2.1 a.2.2.2.2.2.2.2.2.2.2.2.2.2.2).bind fun f=>
         (rec (ah f) a.1 a.2.1).bind fun c=>
         (gd (a.2.2.2.2.2.2.2.2.2.2.2.2.2.1.length+[ah c].length)).bind fun _=>
         some (.inl (a.1,a.2.1,a.2.2.1,a.2.2.2.1,a.2.2.2.2.1,a.2.2.2.2.2.1,a.2.2.2.2.2.2.1,a.2.2.2.2.2.2.2.1,a.2.2.2.2.2.2.2.2.1,a.2.2.2.2.2.2.2.2.2.1,a.2.2.2.2.2.2.2.2.2.2.1,a.2.2.2.2.2.2.2.2.2.2.2.1,a.2.2.2.2.2.2.2.2.2.2.2.2.1,a.2.2.2.2.2.2.2.2.2.2.2.2.2.1++[ah c],w64 (a.2.2.2.2.2.2.2.2.2.2.2.2.2.2+1)))
       else
        (idx a.2.2.2.2.2.1 a.2.2.2.2.2.2.2.2.2.2.2.2.2.2).bind fun g=>
        (rec (ah g) a.1 a.2.1).bind fun d=>
        (gd (a.2.2.2.2.2.2.2.2.2.2.2.2.2.1.length+[ah d].length)).bind fun _=>
        some (.inl (a.1,a.2.1,a.2.2.1,a.2.2.2.1,a.2.2.2.2.1,a.2.2.2.2.2.1,a.2.2.2.2.2.2.1,a.2.2.2.2.2.2.2.1,a.2.2.2.2.2.2.2.2.1,a.2.2.2.2.2.2.2.2.2.1,a.2.2.2.2.2.2.2.2.2.2.1,a.2.2.2.2.2.2.2.2.2.2.2.1,a.2.2.2.2.2.2.2.2.2.2.2.2.1,a.2.2.2.2.2.2.2.2.2.2.2.2.2.1++[ah d],w64 (a.2.2.2.2.2.2.2.2.2.2.2.2.2.2+1)))
      else
       some (.inr (af.mk a.2.2.2.2.2.2.2.2.2.2.1 a.2.2.2.2.2.2.2.2.2.2.2.1 a.2.2.2.2.2.2.2.2.2.2.2.2.1 a.2.2.2.2.2.2.2.2.2.2.2.2.2.1))
  )
theorem Yf(rec)(a:af)(b c:Str):Ej rec a b c=ak (aiB rec) (b,c,0,0,[],[],a.kind,a.n,oJ b c a.kind a.text,[],Aw b a.kind a.text,a.args,(a.args.length:Int),0):=by
 unfold Ej oJ Aw;cases (a.kind==3)<;>cases (a.kind==7)<;>cases (a.kind==9)<;>cases (a.text==b)<;>rfl
theorem Xa(rec)(a:af)(b c:Str):vO rec a b c=ak (aiA rec) (b,c,a.kind,a.n,a.text,a.args,0,0,[],[],a.kind,a.n,oJ b c a.kind a.text,[],0):=by
 unfold vO oJ;cases (a.kind==3)<;>cases (a.text==b)<;>rfl
theorem aeR(b c:Str):∀(n:Nat) (e:af),siz e<n->wtE e<=1048576->yB n e b c=some (Nq b c e)
 | 0,e,h,_=>absurd h (Nat.not_lt_zero _)
 | n+1,e,g,j=>by
  have ih:=aeR b c n;have k:=tK (e:=e);show Ej (yB n) e b c=_
  rw[Yf,aeT];generalize Aw b e.kind e.text=bi;refine Ec (fun (out:List af) (i:Nat)=>((b,c,0,0,[],[],e.kind,e.n,oJ b c e.kind e.text,out,bi,e.args,(e.args.length:Int),(i:Int)):RI)) e.args (fun i x=>if (bi&&decide (0<i))=true then x else Nq b c x) _ (fun i x out a l=>?_) ?_
  ·have f:=zG a;have m:=qK f;have hi:=(zC.1 a).1;have o:=fJ f;simp only[aiB,dD a,ac,aA,a,zA,aQ,ih x (by omega) (by omega),Yz x (by omega),dI a (by omega),XA];have d:∀y:af,gd (out.length+[y].length)=some ():=fun y=>gdp (by simp;omega)
   cases bi with
   | false=>
    simp only[aa,Bool.false_and,aE,if_false,d,zA]
   | true=>
    cases decide (0<i)with
    | true=>simp only[ac,Bool.true_and,if_true,d,zA]
    | false=>simp only[ac,aa,Bool.true_and,aE,if_false,d,zA]
  ·simp only[aiB,bY,aa,Qb]
theorem aeP(b c:Str):∀(n:Nat) (e:af),siz e<n->wtE e<=1048576->vz e->qw n e b c=some (Nq b c e)
 | 0,e,h,_,_=>absurd h (Nat.not_lt_zero _)
 | n+1,e,l,m,hv=>by
  have ih:=aeP b c n;have o:=tK (e:=e);cases hv with
  | mk _ g hsub=>
  show vO (qw n) e b c=_
  rw[Xa,aeT];refine Ec (fun (out:List af) (i:Nat)=>((b,c,e.kind,e.n,e.text,e.args,0,0,[],[],e.kind,e.n,oJ b c e.kind e.text,out,(i:Int)):RS)) e.args (fun i x=>if (Aw b e.kind e.text&&decide (0<i))=true then x else Nq b c x) _ (fun i x out a p=>?_) ?_
  ·have d:=zG a;have q:=qK d;have hi:=(zC.1 a).1;have r:=fJ d;have hone:e.kind=7\/e.kind=9->((i:Int)==1)=decide (0<i):=by
    intro j;have:=g.two j;by_cases h:0<i
    ·have:i=1:=by omega
     subst this;rfl
    ·have:i=0:=by omega
     subst this;rfl
   simp only[aiA,dD a,ac,aA,a,zA,aQ,ih x (by omega) (by omega) (hsub x d),ZQ x (by omega),dI a (by omega)];have f:∀y:af,gd (out.length+[y].length)=some ():=fun y=>gdp (by simp;omega)
   unfold Aw;cases k:(e.kind==7)with
   | true=>
    rw[hone (.inl (eq_of_beq k))];cases decide (0<i)<;>cases (e.text==b)<;>simp only[ac,aa,Bool.true_or,Bool.true_and,Bool.and_true,Bool.and_false,Bool.false_and,aE,if_true,if_false,f,zA]
   | false=>
    cases k9:(e.kind==9)with
    | true=>
     rw[hone (.inr (eq_of_beq k9))];cases decide (0<i)<;>cases (e.text==b)<;>simp only[ac,aa,Bool.false_or,Bool.true_and,Bool.and_true,Bool.and_false,Bool.false_and,aE,if_true,if_false,f,zA]
    | false=>simp only[aa,Bool.false_or,Bool.false_and,aE,if_false,f,zA]
  ·simp only[aiA,bY,aa,Qb]
mutual
theorem aeS(b c:Str)(d:c.length<=120):∀e:af,wtE (Nq b c e)<=wtE e
 | ⟨k,n,t,a⟩=>by
  have f:=aeQ b c d a (Aw b k t) 0;show (if (oJ b c k t).length<=120 then 1 else 18446744073709551616)+wtL (Z9 b c (Aw b k t) 0 a)<=(if t.length<=120 then 1 else 18446744073709551616)+wtL a
  have g:(if (oJ b c k t).length<=120 then 1 else 18446744073709551616)<=(if t.length<=120 then 1 else 18446744073709551616):=by
   unfold oJ;split
   ·split<;>omega
   ·exact aw _
  omega
theorem aeQ(b c:Str)(a:c.length<=120):∀(xs:List af) (bi:Bool) (i:Nat),wtL (Z9 b c bi i xs)<=wtL xs
 | [],_,_=>aw _
 | x::r,bi,i=>by
  have d:=aeS b c a x;have e:=aeQ b c a r bi (i+1);show wtE (if (bi&&decide (0<i))=true then x else Nq b c x)+wtL (Z9 b c bi (i+1) r)<=wtE x+wtL r
  split<;>omega
end
end Go.Proofs.YtapgeemjgckgaaaGreatDoor
/- Plain laws: free names, captured names, sorted names: alike on both sides. -/
namespace Go.Proofs.YtapgeemjgckgaaaGreatDoor
noncomputable section
open Go.Abs Go.Proofs
mutual
def evE:af->List Str->List (Str×List Str)
 | ⟨k,_,t,a⟩,bound=>if ((k==3)&&!(bound.contains t))=true then [(t,bound)]else evL a ((k==7)||(k==9)) t bound 0
def evL:List af->Bool->Str->List Str->Nat->List (Str×List Str)
 | [],_,_,_,_=>[]
 | x::r,bi,t,bound,i=>(if (bi&&decide (0<i))=true then evE x (bound++[t])else evE x bound)++evL r bi t bound (i+1)
end
theorem YH(e:af)(bound:List Str):evE e bound=if ((e.kind==3)&&!(bound.contains e.text))=true then [(e.text,bound)]else evL e.args ((e.kind==7)||(e.kind==9)) e.text bound 0:=by cases e;rfl
def evP(bi:Bool)(t:Str)(bound:List Str)(i:Nat)(x:af):List (Str×List Str):=if (bi&&decide (0<i))=true then evE x (bound++[t])else evE x bound
theorem GZ(bi:Bool)(t:Str)(bound:List Str):∀(xs ys:List af) (i:Nat),evL (xs++ys) bi t bound i=evL xs bi t bound i++evL ys bi t bound (i+xs.length)
 | [],ys,i=>rfl
 | x::r,ys,i=>by
  show evP bi t bound i x++evL (r++ys) bi t bound (i+1)=(evP bi t bound i x++evL r bi t bound (i+1))++_
  rw[GZ bi t bound r ys (i+1),a7];have:i+1+r.length=i+(x::r).length:=by simp;omega
  rw[this]
theorem abn(bi:Bool)(t:Str)(bound:List Str){xs:List af}{i:Nat}{x:af}(h:xs[i]?=some x):evL (xs.take (i+1)) bi t bound 0=evL (xs.take i) bi t bound 0++evP bi t bound i x:=by
 obtain⟨hi,rfl⟩:=zC.1 h;rw[List.take_succ_eq_append_getElem hi,GZ];have:0+(xs.take i).length=i:=by rw[a8];omega
 rw[this];show _++(evP bi t bound i _++[])=_
 rw[List.append_nil]
theorem ag9(bi:Bool)(t:Str)(bound:List Str)(xs:List af)(i:Nat):evL xs bi t bound 0=evL (xs.take i) bi t bound 0++evL (xs.drop i) bi t bound (0+(xs.take i).length):=by
 rw[<- GZ,List.take_append_drop]
mutual
theorem EI:∀(e:af) (bound:List Str),(evE e bound).length<=wtE e
 | ⟨k,n,t,a⟩,bound=>by
  have h:=YG a ((k==7)||(k==9)) t bound 0;have b:=Dx ⟨k,n,t,a⟩;rw[YH];split
  ·simp;exact aew _
  ·show (evL a ((k==7)||(k==9)) t bound 0).length<=_
   have b:1+wtL a<=wtE ⟨k,n,t,a⟩:=b;omega
theorem YG:∀(xs:List af) (bi:Bool) (t:Str) (bound:List Str) (i:Nat),(evL xs bi t bound i).length<=wtL xs
 | [],_,_,_,_=>aw _
 | x::r,bi,t,bound,i=>by
  have a:=EI x bound;have b:=EI x (bound++[t]);have c:=YG r bi t bound (i+1);show ((if (bi&&decide (0<i))=true then evE x (bound++[t])else evE x bound)++evL r bi t bound (i+1)).length<=wtE x+wtL r
  rw[a6];split<;>omega
end
theorem Lu(n:Nat)(bi:Bool)(t:Str)(bound:List Str):∀(xs:List af) (i:Nat),(∀x,x∈xs->∀bd:List Str,bd.length<=bound.length+1->jG n x bd=some (evE x bd))->bound.length<=1048576->dO (jG n) bi t bound i xs=some (evL xs bi t bound i)
 | [],i,_,_=>rfl
 | x::r,i,a,b=>by
  have c:=a x (by simp) bound (by omega);have d:=a x (by simp) (bound++[t]) (by simp);have e:=Lu n bi t bound r (i+1) (fun y f=>a y (aq _ f)) b;show (if (bi&&decide (0<i))=true then (gd (bound.length+1)).bind fun _=>jG n x (bound++[t])else jG n x bound).bind (fun u=>(dO (jG n) bi t bound (i+1) r).bind fun v=>some (u++v))=some ((if (bi&&decide (0<i))=true then evE x (bound++[t])else evE x bound)++evL r bi t bound (i+1))
  rw[gdp (by omega),zA,c,d,e];cases (bi&&decide (0<i))<;>rfl
theorem FU:∀(n:Nat) (e:af) (bound:List Str),siz e<n->wtE e+bound.length<=1048576->jG n e bound=some (evE e bound)
 | 0,e,_,h,_=>absurd h (Nat.not_lt_zero _)
 | n+1,e,bound,d,f=>by
  have g:=tK (e:=e);have b:=Lu n (decide (e.kind=7)||decide (e.kind=9)) e.text bound e.args 0 (fun x a bd c=>FU n x bd (by have:=fJ a;omega) (by have:=qK a;omega)) (by omega);show ((gd bound.length).bind fun _=>(gd e.args.length).bind fun _=>if e.kind=3/\bound.contains e.text=false then some [(e.text,bound)]else dO (jG n) (decide (e.kind=7)||decide (e.kind=9)) e.text bound 0 e.args)=_
  rw[gdp (by omega),zA,gdp (by omega),zA,b,YH];by_cases h:e.kind=3
  ·cases i:bound.contains e.text with
   | true=>
    rw[if_neg (fun hh=>by simp at hh),if_neg (by simp)];rfl
   | false=>
    rw[if_pos ⟨h,rfl⟩,if_pos (by simp[h])]
  ·rw[if_neg (fun hh=>h hh.1),if_neg (by simp[h])];rfl
abbrev ao0:=(List Str)×Int×Int×Str×(List af)×(List Str)×Int
abbrev ao1:=Str×Str×(List Str)×Int×Int×Str×(List af)×Int
def KX(rec:af->List Str->Option (List Str)):ao0->Option (ao0⊕List Str):=(fun (a:(List Str)×Int×Int×Str×(List af)×(List Str)×Int)=>
      bif (decide (a.2.2.2.2.2.2<(a.2.2.2.2.1.length:Int)))then
       bif (a.2.1==7)then
        bif (decide (a.2.2.2.2.2.2>0))then
         (gd (0+a.1.length)).bind fun _=>
         (gd (([]++a.1).length+([a.2.2.2.1]:List Str).length)).bind fun _=>
         (idx a.2.2.2.2.1 a.2.2.2.2.2.2).bind fun h=>
         (rec (ah h) (([]++a.1)++([a.2.2.2.1]:List Str))).bind fun e=>
         (gd (a.2.2.2.2.2.1.length+e.length)).bind fun _=>
         some (.inl (a.1,a.2.1,a.2.2.1,a.2.2.2.1,a.2.2.2.2.1,a.2.2.2.2.2.1++e,w64 (a.2.2.2.2.2.2+1)))
        else
         (idx a.2.2.2.2.1 a.2.2.2.2.2.2).bind fun i=>
         (rec (ah i) a.1).bind fun f=>
         (gd (a.2.2.2.2.2.1.length+f.length)).bind fun _=>
         some (.inl (a.1,a.2.1,a.2.2.1,a.2.2.2.1,a.2.2.2.2.1,a.2.2.2.2.2.1++f,w64 (a.2.2.2.2.2.2+1)))
       else
       bif (a.2.1==9)then
        bif (decide (a.2.2.2.2.2.2>0))then
         (gd (0+a.1.length)).bind fun _=>
         (gd (([]++a.1).length+([a.2.2.2.1]:List Str).length)).bind fun _=>
         (idx a.2.2.2.2.1 a.2.2.2.2.2.2).bind fun j=>
         (rec (ah j) (([]++a.1)++([a.2.2.2.1]:List Str))).bind fun g=>
         (gd (a.2.2.2.2.2.1.length+g.length)).bind fun _=>
         some (.inl (a.1,a.2.1,a.2.2.1,a.2.2.2.1,a.2.2.2.2.1,a.2.2.2.2.2.1++g,w64 (a.2.2.2.2.2.2+1)))
        else
         (idx a.2.2.2.2.1 a.2.2.2.2.2.2).bind fun k=>
         (rec (ah k) a.1).bind fun b=>
         (gd (a.2.2.2.2.2.1.length+b.length)).bind fun _=>
         some (.inl (a.1,a.2.1,a.2.2.1,a.2.2.2.1,a.2.2.2.2.1,a.2.2.2.2.2.1++b,w64 (a.2.2.2.2.2.2+1)))
       else
        (idx a.2.2.2.2.1 a.2.2.2.2.2.2).bind fun d=>
        (rec (ah d) a.1).bind fun c=>
        (gd (a.2.2.2.2.2.1.length+c.length)).bind fun _=>
        some (.inl (a.1,a.2.1,a.2.2.1,a.2.2.2.1,a.2.2.2.2.1,a.2.2.2.2.2.1++c,w64 (a.2.2.2.2.2.2+1)))
      else
       some (.inr (a.2.2.2.2.2.1))
  )
def vg(rec:af->Str->Str->List Str->Option Bool):ao1->Option (ao1⊕Bool):=(fun (a:Str×Str×(List Str)×Int×Int×Str×(List af)×Int)=>
      bif (decide (a.2.2.2.2.2.2.2<(a.2.2.2.2.2.2.1.length:Int)))then
       bif (a.2.2.2.1==7)then
        bif (decide (a.2.2.2.2.2.2.2>0))then
         (gd (0+a.2.2.1.length)).bind fun _=>
         (gd (([]++a.2.2.1).length+([a.2.2.2.2.2.1]:List Str).length)).bind fun _=>
         (idx a.2.2.2.2.2.2.1 a.2.2.2.2.2.2.2).bind fun f=>
         (rec (ah f) a.1 a.2.1 (([]++a.2.2.1)++([a.2.2.2.2.2.1]:List Str))).bind fun g=>
         bif g then
          some (.inr (true))
         else
          some (.inl (a.1,a.2.1,a.2.2.1,a.2.2.2.1,a.2.2.2.2.1,a.2.2.2.2.2.1,a.2.2.2.2.2.2.1,w64 (a.2.2.2.2.2.2.2+1)))
        else
         (idx a.2.2.2.2.2.2.1 a.2.2.2.2.2.2.2).bind fun h=>
         (rec (ah h) a.1 a.2.1 a.2.2.1).bind fun i=>
         bif i then
          some (.inr (true))
         else
          some (.inl (a.1,a.2.1,a.2.2.1,a.2.2.2.1,a.2.2.2.2.1,a.2.2.2.2.2.1,a.2.2.2.2.2.2.1,w64 (a.2.2.2.2.2.2.2+1)))
       else
       bif (a.2.2.2.1==9)then
        bif (decide (a.2.2.2.2.2.2.2>0))then
         (gd (0+a.2.2.1.length)).bind fun _=>
         (gd (([]++a.2.2.1).length+([a.2.2.2.2.2.1]:List Str).length)).bind fun _=>
         (idx a.2.2.2.2.2.2.1 a.2.2.2.2.2.2.2).bind fun j=>
         (rec (ah j) a.1 a.2.1 (([]++a.2.2.1)++([a.2.2.2.2.2.1]:List Str))).bind fun k=>
         bif k then
          some (.inr (true))
         else
          some (.inl (a.1,a.2.1,a.2.2.1,a.2.2.2.1,a.2.2.2.2.1,a.2.2.2.2.2.1,a.2.2.2.2.2.2.1,w64 (a.2.2.2.2.2.2.2+1)))
        else
         (idx a.2.2.2.2.2.2.1 a.2.2.2.2.2.2.2).bind fun b=>
         (rec (ah b) a.1 a.2.1 a.2.2.1).bind fun c=>
         bif c then
          some (.inr (true))
         else
          some (.inl (a.1,a.2.1,a.2.2.1,a.2.2.2.1,a.2.2.2.2.1,a.2.2.2.2.2.1,a.2.2.2.2.2.2.1,w64 (a.2.2.2.2.2.2.2+1)))
       else
        (idx a.2.2.2.2.2.2.1 a.2.2.2.2.2.2.2).bind fun d=>
        (rec (ah d) a.1 a.2.1 a.2.2.1).bind fun e=>
        bif e then
         some (.inr (true))
        else
         some (.inl (a.1,a.2.1,a.2.2.1,a.2.2.2.1,a.2.2.2.2.1,a.2.2.2.2.2.1,a.2.2.2.2.2.2.1,w64 (a.2.2.2.2.2.2.2+1)))
      else
       some (.inr (false))
  )
theorem agk(rec)(a:af)(b:List Str):JW rec a b=bif (a.kind==3)then ((nK b a.text).bind fun c=>bif (!c)then ((gd (0+([a.text]:List Str).length)).bind fun _=>some ([]++([a.text]:List Str)))else ak (KX rec) (b,a.kind,a.n,a.text,a.args,[],0))else ak (KX rec) (b,a.kind,a.n,a.text,a.args,[],0):=rfl
theorem ZX(rec)(a:af)(b c:Str)(d:List Str):BI rec a b c d=bif (a.kind==3)then ((nK d a.text).bind fun e=>bif (!e)then (bif (a.text==b)then ((nK d c).bind fun f=>some f)else some false)else ak (vg rec) (b,c,d,a.kind,a.n,a.text,a.args,0))else ak (vg rec) (b,c,d,a.kind,a.n,a.text,a.args,0):=rfl
theorem afj:∀(n:Nat) (e:af) (bound:List Str),siz e<n->wtE e+bound.length<=1048576->o8 n e bound=some ((evE e bound).map (·.1))
 | 0,e,_,h,_=>absurd h (Nat.not_lt_zero _)
 | n+1,e,bound,t,u=>by
  have ih:=afj n;have v:=tK (e:=e);have hloop:ak (KX (o8 n)) (bound,e.kind,e.n,e.text,e.args,[],0)=some ((evL e.args ((e.kind==7)||(e.kind==9)) e.text bound 0).map (·.1)):=by
   have key:=dL (g:=KX (o8 n)) (fun (s:List Str) (i:Nat)=>((bound,e.kind,e.n,e.text,e.args,s,(i:Int)):ao0)) e.args (fun i s=>s=(evL (e.args.take i) ((e.kind==7)||(e.kind==9)) e.text bound 0).map (·.1)) (fun r=>r=(evL e.args ((e.kind==7)||(e.kind==9)) e.text bound 0).map (·.1)) (fun i x s a b=>.inl ?_) (fun s b=>?_) [] rfl
   ·obtain⟨r,h,rfl⟩:=key;exact h
   ·have c:=zG a;have w:=qK c;have y:=Ou a;have z:=vH e.args (i+1);have A:=Dx e;have d:=YG (e.args.take i) ((e.kind==7)||(e.kind==9)) e.text bound 0;have B:=fJ c;have f:=ih x bound (by omega) (by omega);have j:=ih x (([]++bound)++([e.text]:List Str)) (by omega) (by simp;omega);have C:=EI x bound;have D:=EI x (bound++[e.text]);refine⟨s++(evP ((e.kind==7)||(e.kind==9)) e.text bound i x).map (·.1),?_,by rw[abn _ _ _ a,List.map_append,b]⟩;have k:s.length<=wtL (e.args.take i):=by rw[b,List.length_map];exact d
    have l:gd (s.length+((evE x bound).map (·.1)).length)=some ():=gdp (by rw[List.length_map];omega);have m:gd (s.length+((evE x (([]++bound)++([e.text]:List Str))).map (·.1)).length)=some ():=gdp (by rw[List.length_map,List.nil_append];omega);have o:gd (0+bound.length)=some ():=gdp (by omega);have p:gd (([]++bound).length+([e.text]:List Str).length)=some ():=gdp (by simp;omega);simp only[KX,dD a,ac,aA,a,zA,aQ,f,j,l,m,o,p,dI a (by omega),XA];unfold evP;cases (e.kind==7)<;>cases (e.kind==9)<;>cases decide (0<i)<;>rfl
   ·refine⟨_,by simp only[KX,bY,aa];rfl,by rw[b,List.take_length]⟩
  show JW (o8 n) e bound=_
  rw[agk,hloop,o6 _ _ (by omega),YH];have q:gd (0+([e.text]:List Str).length)=some ():=gdp (by simp);cases (e.kind==3)<;>cases bound.contains e.text<;>simp only[ac,aa,aL,Bool.not_false,Bool.and_true,Bool.and_false,Bool.true_and,Bool.false_and,aE,if_true,if_false,zA,q]<;>rfl
def abR(b c:Str)(p:Str×List Str):Bool:=p.1==b&&p.2.contains c
theorem V7(b c:Str):∀(n:Nat) (e:af) (bound:List Str),siz e<n->wtE e+bound.length<=1048576->ku n e b c bound=some ((evE e bound).any (abR b c))
 | 0,e,_,h,_=>absurd h (Nat.not_lt_zero _)
 | n+1,e,bound,q,t=>by
  have ih:=V7 b c n;have u:=tK (e:=e);have hloop:ak (vg (ku n)) (b,c,bound,e.kind,e.n,e.text,e.args,0)=some ((evL e.args ((e.kind==7)||(e.kind==9)) e.text bound 0).any (abR b c)):=by
   have key:=dL (g:=vg (ku n)) (fun (s:Unit) (i:Nat)=>((b,c,bound,e.kind,e.n,e.text,e.args,(i:Int)):ao1)) e.args (fun i s=>(evL (e.args.take i) ((e.kind==7)||(e.kind==9)) e.text bound 0).any (abR b c)=false) (fun r=>r=(evL e.args ((e.kind==7)||(e.kind==9)) e.text bound 0).any (abR b c)) (fun i x s a d=>?_) (fun s d=>?_) () rfl
   ·obtain⟨r,h,rfl⟩:=key;exact h
   ·have j:=zG a;have v:=qK j;have w:=fJ j;have l:=ih x bound (by omega) (by omega);have m:=ih x (([]++bound)++([e.text]:List Str)) (by omega) (by simp;omega);have o:gd (0+bound.length)=some ():=gdp (by omega);have p:gd (([]++bound).length+([e.text]:List Str).length)=some ():=gdp (by simp;omega);have step:vg (ku n) (b,c,bound,e.kind,e.n,e.text,e.args,(i:Int))=bif (evP ((e.kind==7)||(e.kind==9)) e.text bound i x).any (abR b c)then some (.inr true)else some (.inl (b,c,bound,e.kind,e.n,e.text,e.args,((i+1:Nat):Int))):=by
     simp only[vg,dD a,ac,aA,a,zA,aQ,l,m,o,p,dI a (by omega),XA];unfold evP;cases (e.kind==7)<;>cases (e.kind==9)<;>cases decide (0<i)<;>rfl
    have k:=abn ((e.kind==7)||(e.kind==9)) e.text bound a;cases f:(evP ((e.kind==7)||(e.kind==9)) e.text bound i x).any (abR b c)with
    | true=>
     refine .inr ⟨true,by rw[step,f];rfl,?_⟩;rw[ag9 _ _ _ e.args (i+1),List.any_append,k,List.any_append,f];simp
    | false=>
     refine .inl ⟨(),by rw[step,f];rfl,?_⟩;rw[k,List.any_append,d,f];rfl
   ·refine⟨false,by simp only[vg,bY,aa],?_⟩;rw[List.take_length]at d;exact d.symm
  show BI (ku n) e b c bound=_
  rw[ZX,hloop,o6 _ _ (by omega),o6 _ _ (by omega),YH];cases (e.kind==3)<;>cases bound.contains e.text<;>simp only[ac,aa,aL,Bool.not_false,Bool.and_true,Bool.and_false,Bool.true_and,Bool.false_and,aE,if_true,if_false,zA]
  show (bif (e.text==b)then some (bound.contains c)else some false)=some (((e.text==b)&&bound.contains c)||false)
  cases (e.text==b)<;>cases bound.contains c<;>rfl
theorem Dq(e:af)(b c:Str)(f:wtE e<=1000):∃v,jv e b c=some v/\kZ e b c=some v:=by
 have a:=FU (siz e+1) e [] (Nat.lt_succ_self _) (by simp;omega);have d:F7 e b c []=some ((evE e []).any (abR b c)):=V7 b c _ e [] (by omega) (by simp;omega);have g:=EI e [];refine⟨(evE e []).any (abR b c),?_,?_⟩
 ·unfold jv;rw[a,zA,gdp (by omega)];rfl
 ·unfold kZ;rw[aQ,d];rfl
def mg(xs:List Str):Prop:=xs.Pairwise (· < ·)
theorem Vj:∀ {xs ys:List Str},mg xs->mg ys->(∀b,b∈xs↔b∈ys)->xs=ys
 | [],[],_,_,_=>rfl
 | [],y::r,_,_,h=>absurd ((h y).2 (by simp)) (by simp)
 | x::r,[],_,_,h=>absurd ((h x).1 (by simp)) (by simp)
 | x::r,y::q,j,k,h=>by
  obtain⟨a,f⟩:=List.pairwise_cons.1 j;obtain⟨c,g⟩:=List.pairwise_cons.1 k;have i:x=y:=by
   rcases ba.1 ((h x).1 (by simp))with e | e
   ·exact e
   ·rcases ba.1 ((h y).2 (by simp))with e' | e'
    ·exact e'.symm
    ·exact absurd (List.lt_trans (c x e) (a y e')) (List.lt_irrefl _)
  subst i;rw[Vj f g fun b=>⟨fun d=>?_,fun d=>?_⟩]
  ·rcases ba.1 ((h b).1 (aq _ d))with e | e
   ·subst e;exact absurd (a _ d) (List.lt_irrefl _)
   ·exact e
  ·rcases ba.1 ((h b).2 (aq _ d))with e | e
   ·subst e;exact absurd (c _ d) (List.lt_irrefl _)
   ·exact e
theorem JL{xs:List Str}(e:xs.Pairwise (fun a b=>decide (a<=b)=true))(f:xs.Nodup):mg xs:=by
 induction xs with
 | nil=>exact List.Pairwise.nil
 | cons x r ih=>
  obtain⟨g,i⟩:=List.pairwise_cons.1 e;obtain⟨j,k⟩:=List.nodup_cons.1 f;refine List.pairwise_cons.2 ⟨fun y d=>?_,ih i k⟩;have c:x<=y:=of_decide_eq_true (g y d);rcases Decidable.em (x<y)with h | h
  ·exact h
  ·have:x=y:=List.le_antisymm c h;subst this;exact absurd d j
theorem Qj(s:Str):∀(xs:List Str) (i k:Nat),xs[i]?=some s->(posOf s k xs==((k+i:Nat):Int)) = !((xs.take i).contains s)
 | [],i,k,h=>by simp at h
 | x::r,i,k,h=>by
  unfold posOf;cases i with
  | zero=>
   simp at h;subst h;simp
  | succ i=>
   have h:r[i]?=some s:=by simpa using h
   by_cases a:x==s
   ·rw[if_pos a];have e:x=s:=by simpa using a
    subst e;have:((k:Int)==((k+(i+1):Nat):Int))=false:=by simp;omega
    rw[this];simp
   ·rw[if_neg a];have:=Qj s r i (k+1) h;rw[show k+(i+1)=k+1+i by omega,this];have e:¬x=s:=by simpa using a
    have b:¬s=x:=fun h=>e h.symm
    simp[b]
abbrev aep:=(List Str)×(List Str)×(List Str)×Int×Int
def acC:aep->Option (aep⊕List Str):=(fun (a:(List Str)×(List Str)×(List Str)×Int×Int)=>
      bif (decide (a.2.2.2.2<a.2.2.2.1))then
       (idx a.2.2.1 a.2.2.2.2).bind fun b=>
       (mQ a.1 b).bind fun c=>
       bif (c==a.2.2.2.2)then
        (gd (a.2.1.length+([b]:List Str).length)).bind fun _=>
        some (.inl (a.1,a.2.1++([b]:List Str),a.2.2.1,a.2.2.2.1,w64 (a.2.2.2.2+1)))
       else
        some (.inl (a.1,a.2.1,a.2.2.1,a.2.2.2.1,w64 (a.2.2.2.2+1)))
      else
       (
        (iV a.2.1).bind fun d=>
        some (d)
       ).bind fun r=>some (.inr r)
  )
theorem Ur(xs:List Str)(t:xs.length<=1048576):∃ys,pJ xs=some ys/\mg ys/\∀b,b∈ys↔b∈xs:=by
 refine dL (g:=acC) (fun (out:List Str) (i:Nat)=>((xs,out,xs,(xs.length:Int),(i:Int)):aep)) xs (fun i out=>out.Nodup/\out.length<=i/\∀b,b∈out↔b∈xs.take i) (fun ys=>mg ys/\∀b,b∈ys↔b∈xs) (fun i x out d k=>.inl ?_) (fun out k=>?_) [] ⟨List.Pairwise.nil,aw _,by simp⟩
 ·obtain⟨f,p,e⟩:=k;have hi:=(zC.1 d).1;have m:=Qj x xs i 0 d;rw[Nat.zero_add]at m;have n:xs.take (i+1)=xs.take i++[x]:=by
   obtain⟨hi,rfl⟩:=zC.1 d;rw[List.take_succ_eq_append_getElem hi]
  simp only[acC,dD d,ac,aA,d,zA,wB xs x (by omega),m,dI d (by omega)];cases o:(xs.take i).contains x with
  | true=>
   refine⟨out,by simp only[aL,aa],f,by omega,fun b=>?_⟩;rw[e,n,List.mem_append];refine⟨.inl,fun h=>?_⟩;rcases h with h | h
   ·exact h
   ·rw[List.mem_singleton.1 h];simpa using o
  | false=>
   have l:x∉out:=fun h=>by
    have:=(e x).1 h;have j:(xs.take i).contains x=true:=by simpa using this
    rw[o]at j;cases j
   refine⟨out++[x],?_,?_,by simp;omega,fun b=>?_⟩
   ·simp only[Bool.not_false,ac];rw[gdp (by simp;omega)];rfl
   ·rw[List.nodup_append];refine⟨f,by simp,fun a q b r=>?_⟩;rw[List.mem_singleton.1 r];rintro rfl;exact l q
   ·rw[n,List.mem_append,List.mem_append,e]
 ·obtain⟨f,p,e⟩:=k;rw[List.take_length]at e;refine⟨out.mergeSort fun x y=>decide (x<=y),?_,?_,fun b=>?_⟩
  ·simp only[acC,bY,aa,iV];rw[gdp (by omega)];rfl
  ·refine JL (List.pairwise_mergeSort (fun a b c s j=>?_) (fun a b=>?_) out) ((List.mergeSort_perm out _).nodup_iff.2 f)
   ·exact al (List.le_trans (of_decide_eq_true s) (of_decide_eq_true j))
   ·rcases List.le_total a b with h | h
    ·rw[al h];rfl
    ·rw[al h];simp
  ·rw[(List.mergeSort_perm out _).mem_iff,e]
def uK(x:Str):List Str->List Str
 | []=>[x]
 | y::r=>if y<x then y::uK x r else if y=x then y::r else x::y::r
theorem QS(x b:Str):∀(xs:List Str),b∈uK x xs↔b=x\/b∈xs
 | []=>by simp[uK]
 | y::r=>by
  unfold uK;split
  ·rw[ba,QS x b r,ba];constructor
   ·rintro (h | h | h)
    ·exact .inr (.inl h)
    ·exact .inl h
    ·exact .inr (.inr h)
   ·rintro (h | h | h)
    ·exact .inr (.inl h)
    ·exact .inl h
    ·exact .inr (.inr h)
  ·split
   ·rename_i h;subst h;rw[ba];constructor
    ·exact .inr
    ·rintro (h | h)
     ·exact .inl h
     ·exact h
   ·rw[ba]
theorem aaN(x:Str):∀(xs:List Str),(uK x xs).length<=xs.length+1
 | []=>by simp[uK]
 | y::r=>by
  have:=aaN x r;unfold uK;split
  ·simp;omega
  ·split<;>simp
theorem MP(x:Str):∀(xs:List Str),mg xs->mg (uK x xs)
 | [],_=>List.pairwise_cons.2 ⟨by simp,List.Pairwise.nil⟩
 | y::r,h=>by
  obtain⟨g,i⟩:=List.pairwise_cons.1 h;unfold uK;split
  ·rename_i c;refine List.pairwise_cons.2 ⟨fun b d=>?_,MP x r i⟩;rcases (QS x b r).1 d with e | e
   ·rw[e];exact c
   ·exact g b e
  ·rename_i j;split
   ·exact h
   ·rename_i f;have a:x<y:=by
     rcases Decidable.em (x<y)with h | h
     ·exact h
     ·exact absurd (List.le_antisymm h j) f
    refine List.pairwise_cons.2 ⟨fun b d=>?_,h⟩;rcases ba.1 d with e | e
    ·rw[e];exact a
    ·exact List.lt_trans a (g b e)
theorem KG(x:Str):∀(a r:List Str),(∀y,y∈a->y<x)->uK x (a++r)=a++uK x r
 | [],r,_=>rfl
 | y::a,r,h=>by
  show (if y<x then y::uK x (a++r)else _)=_
  rw[if_pos (h y (by simp)),KG x a r fun z b=>h z (aq _ b)];rfl
abbrev Y2:=(List Str)×(List Str)×Int
abbrev akm:=(List Str)×(List Str)×Int×Int
def oG:akm->Option (akm⊕(Y2⊕List Str)):=(fun (a:(List Str)×(List Str)×Int×Int)=>
      bif (decide (a.2.2.2<(a.2.1.length:Int)))then
       (idx a.2.1 a.2.2.2).bind fun _=>
       (a.2.1[a.2.2.2.toNat]?).bind fun p=>
       (idx a.1 a.2.2.1).bind fun q=>
       bif (Op.bytesLess p q)then
        some (.inl (a.1,a.2.1,a.2.2.1,w64 (a.2.2.2+1)))
       else
       (
        bif (decide (a.2.2.2<(a.2.1.length:Int)))then
         (idx a.2.1 a.2.2.2).bind fun _=>
         (a.2.1[a.2.2.2.toNat]?).bind fun s=>
         (idx a.1 a.2.2.1).bind fun t=>
         bif (s==t)then
          some (.inl (a.1,a.2.1,w64 (a.2.2.1+1)))
         else
          (cutAt a.2.1 a.2.2.2).bind fun m=>
          (gd (0+(a.2.1.drop m).length)).bind fun _=>
          (cutAt a.2.1 a.2.2.2).bind fun b=>
          (idx a.1 a.2.2.1).bind fun c=>
          (gd ((a.2.1.take b).length+([c]:List Str).length)).bind fun _=>
          (gd (((a.2.1.take b)++([c]:List Str)).length+([]++(a.2.1.drop m)).length)).bind fun _=>
          some (.inl (a.1,((a.2.1.take b)++([c]:List Str))++([]++(a.2.1.drop m)),w64 (a.2.2.1+1)))
        else
         (cutAt a.2.1 a.2.2.2).bind fun d=>
         (gd (0+(a.2.1.drop d).length)).bind fun _=>
         (cutAt a.2.1 a.2.2.2).bind fun e=>
         (idx a.1 a.2.2.1).bind fun f=>
         (gd ((a.2.1.take e).length+([f]:List Str).length)).bind fun _=>
         (gd (((a.2.1.take e)++([f]:List Str)).length+([]++(a.2.1.drop d)).length)).bind fun _=>
         some (.inl (a.1,((a.2.1.take e)++([f]:List Str))++([]++(a.2.1.drop d)),w64 (a.2.2.1+1)))
       ).bind fun r=>some (.inr r)
      else
      (
       bif (decide (a.2.2.2<(a.2.1.length:Int)))then
        (idx a.2.1 a.2.2.2).bind fun _=>
        (a.2.1[a.2.2.2.toNat]?).bind fun n=>
        (idx a.1 a.2.2.1).bind fun o=>
        bif (n==o)then
         some (.inl (a.1,a.2.1,w64 (a.2.2.1+1)))
        else
         (cutAt a.2.1 a.2.2.2).bind fun g=>
         (gd (0+(a.2.1.drop g).length)).bind fun _=>
         (cutAt a.2.1 a.2.2.2).bind fun h=>
         (idx a.1 a.2.2.1).bind fun i=>
         (gd ((a.2.1.take h).length+([i]:List Str).length)).bind fun _=>
         (gd (((a.2.1.take h)++([i]:List Str)).length+([]++(a.2.1.drop g)).length)).bind fun _=>
         some (.inl (a.1,((a.2.1.take h)++([i]:List Str))++([]++(a.2.1.drop g)),w64 (a.2.2.1+1)))
       else
        (cutAt a.2.1 a.2.2.2).bind fun j=>
        (gd (0+(a.2.1.drop j).length)).bind fun _=>
        (cutAt a.2.1 a.2.2.2).bind fun k=>
        (idx a.1 a.2.2.1).bind fun l=>
        (gd ((a.2.1.take k).length+([l]:List Str).length)).bind fun _=>
        (gd (((a.2.1.take k)++([l]:List Str)).length+([]++(a.2.1.drop j)).length)).bind fun _=>
        some (.inl (a.1,((a.2.1.take k)++([l]:List Str))++([]++(a.2.1.drop j)),w64 (a.2.2.1+1)))
      ).bind fun r=>some (.inr r)
  )
def N7:Y2->Option (Y2⊕List Str):=fun a=>
 bif (decide (a.2.2<(a.1.length:Int)))then
  ak oG (a.1,a.2.1,a.2.2,0)
 else
  some (.inr (a.2.1))
theorem Tt(xs:List Str):uf xs=ak N7 (xs,[],0):=rfl
theorem V4{α:Type}(xs:List α)(i:Nat)(h:i<=xs.length):cutAt xs (i:Int)=some i:=by
 unfold cutAt;rw[if_pos ⟨by omega,by omega⟩];simp
theorem ajq(xs:List Str)(i:Nat)(x:Str)(g:xs[i]?=some x)(q:xs.length<=1048576)(out:List Str)(r:out.length<=1048576) :
  ak oG (xs,out,(i:Int),0)=some (.inl (xs,uK x out,((i+1:Nat):Int))):=by
 have hi:=(zC.1 g).1;have m:idx xs (i:Int)=some x:=by rw[aA,g]
 have n:w64 ((i:Int)+1)=((i+1:Nat):Int):=dI g (by omega);have key:∀(k at':Nat),out.length=at'+k->(∀y,y∈out.take at'->y<x)->ak oG (xs,out,(i:Int),(at':Int))=some (.inl (xs,uK x out,((i+1:Nat):Int))):=by
  intro k;induction k with
  | zero=>
   intro a p b;have e:a=out.length:=by omega
   subst e;rw[List.take_length]at b;have hins:uK x out=out++[x]:=by
    have:=KG x out [] b;rw[List.append_nil]at this;exact this
   have d:oG (xs,out,(i:Int),(out.length:Int))=some (.inr (.inl (xs,uK x out,((i+1:Nat):Int)))):=by
    simp only[oG,bY,aa,V4 out out.length (aw _),zA,m,n,List.drop_length,List.take_length];rw[gdp (by simp),zA,gdp (by simp;omega),zA,gdp (by simp;omega),zA,zA,hins];simp
   rw[aI,d]
  | succ k ih=>
   intro a p b;have c:a<out.length:=by omega
   have o:=zF c;have hdec:decide ((a:Int)<(out.length:Int))=true:=by simp;omega
   have hsplit:out=out.take a++out[a]::out.drop (a+1):=by
    rw[<- List.drop_eq_getElem_cons c,List.take_append_drop]
   have hins:uK x out=out.take a++uK x (out[a]::out.drop (a+1)):=by
    conv=>lhs;rw[hsplit]
    exact KG x _ _ b
   by_cases j:out[a]<x
   ·have d:oG (xs,out,(i:Int),(a:Int))=some (.inl (xs,out,(i:Int),((a+1:Nat):Int))):=by
     simp only[oG,hdec,ac,aA,o,g,zA,az,Go.Proofs.bytesLess_eq,al j];rw[aX (by omega) (by omega)];rfl
    rw[aI,d];refine ih (a+1) (by omega) fun y h=>?_
    rw[List.take_succ_eq_append_getElem c]at h;rcases List.mem_append.1 h with h | h
    ·exact b y h
    ·rw[List.mem_singleton.1 h];exact j
   ·by_cases l:out[a]=x
    ·have hins2:uK x out=out:=by
      rw[hins];show out.take a++(if out[a]<x then _ else if out[a]=x then out[a]::out.drop (a+1)else _)=out
      rw[if_neg j,if_pos l];exact hsplit.symm
     have d:oG (xs,out,(i:Int),(a:Int))=some (.inr (.inl (xs,uK x out,((i+1:Nat):Int)))):=by
      have f:(out[a]==x)=true:=by simp[l]
      simp only[oG,hdec,ac,aA,o,g,zA,az,Go.Proofs.bytesLess_eq,ae j,aa,f,n,hins2]
     rw[aI,d]
    ·have hins2:uK x out=out.take a++[x]++out.drop a:=by
      rw[hins];show out.take a++(if out[a]<x then _ else if out[a]=x then out[a]::out.drop (a+1)else x::out[a]::out.drop (a+1))=_
      rw[if_neg j,if_neg l,<- List.drop_eq_getElem_cons c];simp
     have d:oG (xs,out,(i:Int),(a:Int))=some (.inr (.inl (xs,uK x out,((i+1:Nat):Int)))):=by
      have f:(out[a]==x)=false:=by simp[l]
      simp only[oG,hdec,ac,aA,o,g,zA,az,Go.Proofs.bytesLess_eq,ae j,aa,f,n,V4 out a (by omega)];rw[gdp (by simp;omega),zA,gdp (by simp;omega),zA,gdp (by simp;omega),zA,zA,hins2];simp
     rw[aI,d]
 exact key out.length 0 (by omega) (by simp)
theorem Tq(xs:List Str)(f:xs.length<=1048576):∃ys,uf xs=some ys/\mg ys/\∀b,b∈ys↔b∈xs:=by
 rw[Tt];refine dL (g:=N7) (fun (out:List Str) (i:Nat)=>((xs,out,(i:Int)):Y2)) xs (fun i out=>mg out/\out.length<=i/\∀b,b∈out↔b∈xs.take i) (fun ys=>mg ys/\∀b,b∈ys↔b∈xs) (fun i x out a d=>.inl ?_) (fun out d=>?_) [] ⟨List.Pairwise.nil,aw _,by simp⟩
 ·obtain⟨e,h,c⟩:=d;have hi:=(zC.1 a).1;have j:xs.take (i+1)=xs.take i++[x]:=by
   obtain⟨hi,rfl⟩:=zC.1 a;rw[List.take_succ_eq_append_getElem hi]
  refine⟨uK x out,?_,MP x out e,by have:=aaN x out;omega,fun b=>?_⟩
  ·simp only[N7,dD a,ac];exact ajq xs i x a f out (by omega)
  ·rw[QS,c,j,List.mem_append,List.mem_singleton];exact Or.comm
 ·obtain⟨e,h,c⟩:=d;rw[List.take_length]at c;exact⟨out,by simp only[N7,bY,aa],e,c⟩
theorem Nl(xs:List Str)(a:xs.length<=1048576):∃ys,pJ xs=some ys/\uf xs=some ys/\mg ys/\∀b,b∈ys↔b∈xs:=by
 obtain⟨ys,e,c,d⟩:=Ur xs a;obtain⟨zs,f,g,h⟩:=Tq xs a;have:ys=zs:=Vj c g fun b=>by rw[d,h]
 subst this;exact⟨ys,e,f,c,d⟩
theorem acz:∀ {xs:List Str} {ys:List Str},mg xs->(∀b,b∈xs->b∈ys)->xs.length<=ys.length:=by
 intro xs;induction xs with
 | nil=>intro ys _ _;exact Nat.zero_le _
 | cons x r ih=>
  intro ys h c;obtain⟨g,i⟩:=List.pairwise_cons.1 h;have d:=c x (by simp);have:=ih (ys:=ys.erase x) i fun b f=>by
   have a:b≠x:=fun e=>by subst e;exact List.lt_irrefl _ (g b f)
   exact (List.mem_erase_of_ne a).2 (c b (aq _ f))
  rw[List.length_erase_of_mem d]at this;have:=List.length_pos_of_mem d;simp only[List.length_cons];omega
theorem NJ(e:af)(j:wtE e<=1000):∃ys,pK e=some ys/\zx e=some ys/\mg ys/\ys.length<=wtE e/\∀b,b∈ys↔b∈(evE e []).map (·.1):=by
 have d:=FU (siz e+1) e [] (Nat.lt_succ_self _) (by simp;omega);have f:Pn e []=some ((evE e []).map (·.1)):=afj _ e [] (by omega) (by simp;omega);have k:=EI e [];obtain⟨ys,g,h,a,c⟩:=Nl ((evE e []).map (·.1)) (by rw[List.length_map];omega);refine⟨ys,?_,?_,a,?_,c⟩
 ·unfold pK;rw[d,zA,gdp (by omega)];exact g
 ·unfold zx;rw[aQ,f,zA,h];rfl
 ·have:=acz a fun b i=>(c b).1 i
  rw[List.length_map]at this;omega
theorem LC(a:Str)(b:a.length<=34359738368)(h:bU a=some true):a.length<=8:=by
 unfold bU at h;rw[Af a b]at h;by_cases c:(a.length:Int)<=8
 ·omega
 ·rw[ae c,Bool.and_false,Bool.and_false]at h;cases h
theorem J8(e:af)(b c:Str)(k:wtE e<=1000)(g:b.length<=34359738368)(d:c.length<=34359738368) :
  ∃(x:af) (v:Bool),nZ e b c=some (x,v)/\kV e b c=some (x,v)/\wtE x<=1000:=by
 obtain⟨v0,l,m,n⟩:=vI e (by omega);obtain⟨h,i⟩:=oD b g;obtain⟨j,f⟩:=oD c d;have o:bP b=some h:=by rw[<- nX b g,i]
 have p:bP c=some j:=by rw[<- nX c d,f]
 obtain⟨q,r,s⟩:=Dq e b c k;have t:QY e b c=some (Nq b c e):=aeR b c _ e (by omega) (by omega);have a:wtE ⟨0,0,[],[]⟩<=1000:=by rw[Dy];simp[wtL]
 unfold nZ kV;simp only[aQ,l,m,i,f,o,p,r,s,t,zA];cases v0 with
 | false=>exact⟨_,_,rfl,rfl,a⟩
 | true=>
  obtain⟨hv,hw40⟩:=n rfl;have u:F6 e b c=some (Nq b c e):=aeP b c _ e (by omega) (by omega) hv;simp only[u,zA,aL,aa];cases h with
  | false=>exact⟨_,_,rfl,rfl,a⟩
  | true=>
   cases j with
   | false=>exact⟨_,_,rfl,rfl,a⟩
   | true=>
    have w:=LC c d f;cases q with
    | true=>exact⟨_,_,rfl,rfl,a⟩
    | false=>exact⟨Nq b c e,true,rfl,rfl,by have:=aeS b c (by omega) e;omega⟩
theorem akp{α X Y ρ σ:Type}{f:X->Option (X⊕ρ)}{g:Y->Option (Y⊕ρ)}(px:σ->Nat->X)(py:σ->Nat->Y)(xs:List α)(I:Nat->σ->Prop)(R:ρ->Prop)
  (j:∀i x s,xs[i]?=some x->I i s->(∃s',f (px s i)=some (.inl (px s' (i+1)))/\g (py s i)=some (.inl (py s' (i+1)))/\I (i+1) s')\/∃r,f (px s i)=some (.inr r)/\g (py s i)=some (.inr r)/\R r)
  (l:∀s,I xs.length s->∃r,f (px s xs.length)=some (.inr r)/\g (py s xs.length)=some (.inr r)/\R r) (s:σ) (m:I 0 s):∃r,ak f (px s 0)=some r/\ak g (py s 0)=some r/\R r:=by
 have key:∀(k i:Nat) (s:σ),xs.length=i+k->I i s->∃r,ak f (px s i)=some r/\ak g (py s i)=some r/\R r:=by
  intro k;induction k with
  | zero=>
   intro i s hi d;have:i=xs.length:=by omega
   subst this;obtain⟨r,a,b,c⟩:=l s d;exact⟨r,by rw[aI,a],by rw[aI,b],c⟩
  | succ k ih=>
   intro i s hi d;have e:i<xs.length:=by omega
   rcases j i _ s (zF e) d with ⟨s',a,b,h⟩ | ⟨r,a,b,c⟩
   ·obtain⟨r,n,o,c⟩:=ih (i+1) s' (by omega) h;exact⟨r,by rw[aI,a];exact n,by rw[aI,b];exact o,c⟩
   ·exact⟨r,by rw[aI,a],by rw[aI,b],c⟩
 exact key xs.length 0 s (by omega) m
end
end Go.Proofs.YtapgeemjgckgaaaGreatDoor
