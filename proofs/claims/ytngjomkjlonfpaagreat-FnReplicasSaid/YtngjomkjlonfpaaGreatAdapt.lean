import Derived.Test.YtngjomkjlonfpaaGreatFree1
import Derived.Test.YtngjomkjlonfpaaGreatPlain1
import Derived.Test.YtngjomkjlonfpaaGreatHist1
import Derived.Test.YtngjomkjlonfpaaGreatComp1
import Derived.Test.YtngjomkjlonfpaaGreatDr1
set_option linter.unusedSimpArgs false
set_option linter.unusedVariables false
/- Plain laws: AdaptEdit is alike on both sides. -/
namespace Go.Proofs.YtngjomkjlonfpaaGreat
open Go.Abs Go.Proofs
theorem acy(a b c:Str)(g:b.length<=34359738368)(h:c.length<=34359738368):∃s,iJ a b c=some s/\lT a b c=some s/\(s=a\/s.length<=120):=by
 obtain⟨e,p,i,j,k⟩:=MJ a;unfold iJ lT;simp only[i,j,zA,aP];by_cases d:p>=0
 ·rw[ae d];exact⟨a,rfl,rfl,.inl rfl⟩
 ·rw[ac d];obtain⟨y,z⟩:=k (by omega);obtain⟨ys,l,m,_,A,_⟩:=Bl e (by omega);obtain⟨q,n,o⟩:=afn ys b (by omega);obtain⟨x,v,r,t,B⟩:=yI e b c (by omega) g h;obtain⟨s,u,w,_⟩:=Xy x (by omega);simp only[aa,l,m,n,o,r,t,u,w,zA,Bool.not_not];cases decide (q<0)with
  | true=>exact⟨a,rfl,rfl,.inl rfl⟩
  | false=>
   simp only[aa];cases v with
   | false=>exact⟨a,rfl,rfl,.inl rfl⟩
   | true=>
    by_cases f:(s.length:Int)<=120
    ·rw[ae f,ac (by omega)];exact⟨s,rfl,rfl,.inr (by omega)⟩
    ·rw[ac f,ae (by omega)];exact⟨a,rfl,rfl,.inl rfl⟩
abbrev AdI:=Int×Int×Int×Int×Int×Str×Str×Int×Int×Int×Int×Int×Int×Str×Str×Int×(List GOp)×Int×Int
abbrev AdS:=(List GOp)×Int×Int×Int×Int×Int×Str×Str×Int×Int×Int×Int×Int×Int×Str×Str×Int×Int
noncomputable def amm:AdI->Option (AdI⊕dM):=(fun (a:Int×Int×Int×Int×Int×Str×Str×Int×Int×Int×Int×Int×Int×Str×Str×Int×(List GOp)×Int×Int)=>
      bif (decide (a.2.2.2.2.2.2.2.2.2.2.2.2.2.2.2.2.2.2<a.2.2.2.2.2.2.2.2.2.2.2.2.2.2.2.2.2.1))then
       (idx a.2.2.2.2.2.2.2.2.2.2.2.2.2.2.2.2.1 a.2.2.2.2.2.2.2.2.2.2.2.2.2.2.2.2.2.2).bind fun b=>
       bif (a.2.2.2.2.2.1==b.src)then
        bif (a.1==4)then
         (iJ a.2.2.2.2.2.2.1 b.src b.dst).bind fun c=>
         some (.inl (a.1,a.2.1,a.2.2.1,a.2.2.2.1,a.2.2.2.2.1,b.dst,c,a.2.2.2.2.2.2.2.1,a.2.2.2.2.2.2.2.2.1,a.2.2.2.2.2.2.2.2.2.1,a.2.2.2.2.2.2.2.2.2.2.1,a.2.2.2.2.2.2.2.2.2.2.2.1,a.2.2.2.2.2.2.2.2.2.2.2.2.1,a.2.2.2.2.2.2.2.2.2.2.2.2.2.1,a.2.2.2.2.2.2.2.2.2.2.2.2.2.2.1,a.2.2.2.2.2.2.2.2.2.2.2.2.2.2.2.1,a.2.2.2.2.2.2.2.2.2.2.2.2.2.2.2.2.1,a.2.2.2.2.2.2.2.2.2.2.2.2.2.2.2.2.2.1,w64 (a.2.2.2.2.2.2.2.2.2.2.2.2.2.2.2.2.2.2+1)))
        else
         bif (a.1==1)then
          bif (a.2.2.2.2.1==2)then
           (iJ a.2.2.2.2.2.2.1 b.src b.dst).bind fun d=>
           some (.inl (a.1,a.2.1,a.2.2.1,a.2.2.2.1,a.2.2.2.2.1,b.dst,d,a.2.2.2.2.2.2.2.1,a.2.2.2.2.2.2.2.2.1,a.2.2.2.2.2.2.2.2.2.1,a.2.2.2.2.2.2.2.2.2.2.1,a.2.2.2.2.2.2.2.2.2.2.2.1,a.2.2.2.2.2.2.2.2.2.2.2.2.1,a.2.2.2.2.2.2.2.2.2.2.2.2.2.1,a.2.2.2.2.2.2.2.2.2.2.2.2.2.2.1,a.2.2.2.2.2.2.2.2.2.2.2.2.2.2.2.1,a.2.2.2.2.2.2.2.2.2.2.2.2.2.2.2.2.1,a.2.2.2.2.2.2.2.2.2.2.2.2.2.2.2.2.2.1,w64 (a.2.2.2.2.2.2.2.2.2.2.2.2.2.2.2.2.2.2+1)))
          else
           some (.inl (a.1,a.2.1,a.2.2.1,a.2.2.2.1,a.2.2.2.2.1,b.dst,a.2.2.2.2.2.2.1,a.2.2.2.2.2.2.2.1,a.2.2.2.2.2.2.2.2.1,a.2.2.2.2.2.2.2.2.2.1,a.2.2.2.2.2.2.2.2.2.2.1,a.2.2.2.2.2.2.2.2.2.2.2.1,a.2.2.2.2.2.2.2.2.2.2.2.2.1,a.2.2.2.2.2.2.2.2.2.2.2.2.2.1,a.2.2.2.2.2.2.2.2.2.2.2.2.2.2.1,a.2.2.2.2.2.2.2.2.2.2.2.2.2.2.2.1,a.2.2.2.2.2.2.2.2.2.2.2.2.2.2.2.2.1,a.2.2.2.2.2.2.2.2.2.2.2.2.2.2.2.2.2.1,w64 (a.2.2.2.2.2.2.2.2.2.2.2.2.2.2.2.2.2.2+1)))
         else
          some (.inl (a.1,a.2.1,a.2.2.1,a.2.2.2.1,a.2.2.2.2.1,b.dst,a.2.2.2.2.2.2.1,a.2.2.2.2.2.2.2.1,a.2.2.2.2.2.2.2.2.1,a.2.2.2.2.2.2.2.2.2.1,a.2.2.2.2.2.2.2.2.2.2.1,a.2.2.2.2.2.2.2.2.2.2.2.1,a.2.2.2.2.2.2.2.2.2.2.2.2.1,a.2.2.2.2.2.2.2.2.2.2.2.2.2.1,a.2.2.2.2.2.2.2.2.2.2.2.2.2.2.1,a.2.2.2.2.2.2.2.2.2.2.2.2.2.2.2.1,a.2.2.2.2.2.2.2.2.2.2.2.2.2.2.2.2.1,a.2.2.2.2.2.2.2.2.2.2.2.2.2.2.2.2.2.1,w64 (a.2.2.2.2.2.2.2.2.2.2.2.2.2.2.2.2.2.2+1)))
       else
       bif (a.1==4)then
        (iJ a.2.2.2.2.2.2.1 b.src b.dst).bind fun e=>
        some (.inl (a.1,a.2.1,a.2.2.1,a.2.2.2.1,a.2.2.2.2.1,a.2.2.2.2.2.1,e,a.2.2.2.2.2.2.2.1,a.2.2.2.2.2.2.2.2.1,a.2.2.2.2.2.2.2.2.2.1,a.2.2.2.2.2.2.2.2.2.2.1,a.2.2.2.2.2.2.2.2.2.2.2.1,a.2.2.2.2.2.2.2.2.2.2.2.2.1,a.2.2.2.2.2.2.2.2.2.2.2.2.2.1,a.2.2.2.2.2.2.2.2.2.2.2.2.2.2.1,a.2.2.2.2.2.2.2.2.2.2.2.2.2.2.2.1,a.2.2.2.2.2.2.2.2.2.2.2.2.2.2.2.2.1,a.2.2.2.2.2.2.2.2.2.2.2.2.2.2.2.2.2.1,w64 (a.2.2.2.2.2.2.2.2.2.2.2.2.2.2.2.2.2.2+1)))
       else
        bif (a.1==1)then
         bif (a.2.2.2.2.1==2)then
          (iJ a.2.2.2.2.2.2.1 b.src b.dst).bind fun f=>
          some (.inl (a.1,a.2.1,a.2.2.1,a.2.2.2.1,a.2.2.2.2.1,a.2.2.2.2.2.1,f,a.2.2.2.2.2.2.2.1,a.2.2.2.2.2.2.2.2.1,a.2.2.2.2.2.2.2.2.2.1,a.2.2.2.2.2.2.2.2.2.2.1,a.2.2.2.2.2.2.2.2.2.2.2.1,a.2.2.2.2.2.2.2.2.2.2.2.2.1,a.2.2.2.2.2.2.2.2.2.2.2.2.2.1,a.2.2.2.2.2.2.2.2.2.2.2.2.2.2.1,a.2.2.2.2.2.2.2.2.2.2.2.2.2.2.2.1,a.2.2.2.2.2.2.2.2.2.2.2.2.2.2.2.2.1,a.2.2.2.2.2.2.2.2.2.2.2.2.2.2.2.2.2.1,w64 (a.2.2.2.2.2.2.2.2.2.2.2.2.2.2.2.2.2.2+1)))
         else
          some (.inl (a.1,a.2.1,a.2.2.1,a.2.2.2.1,a.2.2.2.2.1,a.2.2.2.2.2.1,a.2.2.2.2.2.2.1,a.2.2.2.2.2.2.2.1,a.2.2.2.2.2.2.2.2.1,a.2.2.2.2.2.2.2.2.2.1,a.2.2.2.2.2.2.2.2.2.2.1,a.2.2.2.2.2.2.2.2.2.2.2.1,a.2.2.2.2.2.2.2.2.2.2.2.2.1,a.2.2.2.2.2.2.2.2.2.2.2.2.2.1,a.2.2.2.2.2.2.2.2.2.2.2.2.2.2.1,a.2.2.2.2.2.2.2.2.2.2.2.2.2.2.2.1,a.2.2.2.2.2.2.2.2.2.2.2.2.2.2.2.2.1,a.2.2.2.2.2.2.2.2.2.2.2.2.2.2.2.2.2.1,w64 (a.2.2.2.2.2.2.2.2.2.2.2.2.2.2.2.2.2.2+1)))
        else
         some (.inl (a.1,a.2.1,a.2.2.1,a.2.2.2.1,a.2.2.2.2.1,a.2.2.2.2.2.1,a.2.2.2.2.2.2.1,a.2.2.2.2.2.2.2.1,a.2.2.2.2.2.2.2.2.1,a.2.2.2.2.2.2.2.2.2.1,a.2.2.2.2.2.2.2.2.2.2.1,a.2.2.2.2.2.2.2.2.2.2.2.1,a.2.2.2.2.2.2.2.2.2.2.2.2.1,a.2.2.2.2.2.2.2.2.2.2.2.2.2.1,a.2.2.2.2.2.2.2.2.2.2.2.2.2.2.1,a.2.2.2.2.2.2.2.2.2.2.2.2.2.2.2.1,a.2.2.2.2.2.2.2.2.2.2.2.2.2.2.2.2.1,a.2.2.2.2.2.2.2.2.2.2.2.2.2.2.2.2.2.1,w64 (a.2.2.2.2.2.2.2.2.2.2.2.2.2.2.2.2.2.2+1)))
      else
       some (.inr (dM.mk a.1 a.2.1 (ah.mk a.2.2.1 a.2.2.2.1 a.2.2.2.2.1 a.2.2.2.2.2.1 a.2.2.2.2.2.2.1 a.2.2.2.2.2.2.2.1)))
  )
noncomputable def aml:AdS->Option (AdS⊕dM):=(fun (a:(List GOp)×Int×Int×Int×Int×Int×Str×Str×Int×Int×Int×Int×Int×Int×Str×Str×Int×Int)=>
      bif (decide (a.2.2.2.2.2.2.2.2.2.2.2.2.2.2.2.2.2<(a.1.length:Int)))then
       (idx a.1 a.2.2.2.2.2.2.2.2.2.2.2.2.2.2.2.2.2).bind fun b=>
       bif (a.2.2.2.2.2.2.1==b.src)then
        bif (a.2.1==4)then
         (lT a.2.2.2.2.2.2.2.1 b.src b.dst).bind fun c=>
         some (.inl (a.1,a.2.1,a.2.2.1,a.2.2.2.1,a.2.2.2.2.1,a.2.2.2.2.2.1,b.dst,c,a.2.2.2.2.2.2.2.2.1,a.2.2.2.2.2.2.2.2.2.1,a.2.2.2.2.2.2.2.2.2.2.1,a.2.2.2.2.2.2.2.2.2.2.2.1,a.2.2.2.2.2.2.2.2.2.2.2.2.1,a.2.2.2.2.2.2.2.2.2.2.2.2.2.1,a.2.2.2.2.2.2.2.2.2.2.2.2.2.2.1,a.2.2.2.2.2.2.2.2.2.2.2.2.2.2.2.1,a.2.2.2.2.2.2.2.2.2.2.2.2.2.2.2.2.1,w64 (a.2.2.2.2.2.2.2.2.2.2.2.2.2.2.2.2.2+1)))
        else
         bif (a.2.1==1)then
          bif (a.2.2.2.2.2.1==2)then
           (lT a.2.2.2.2.2.2.2.1 b.src b.dst).bind fun d=>
           some (.inl (a.1,a.2.1,a.2.2.1,a.2.2.2.1,a.2.2.2.2.1,a.2.2.2.2.2.1,b.dst,d,a.2.2.2.2.2.2.2.2.1,a.2.2.2.2.2.2.2.2.2.1,a.2.2.2.2.2.2.2.2.2.2.1,a.2.2.2.2.2.2.2.2.2.2.2.1,a.2.2.2.2.2.2.2.2.2.2.2.2.1,a.2.2.2.2.2.2.2.2.2.2.2.2.2.1,a.2.2.2.2.2.2.2.2.2.2.2.2.2.2.1,a.2.2.2.2.2.2.2.2.2.2.2.2.2.2.2.1,a.2.2.2.2.2.2.2.2.2.2.2.2.2.2.2.2.1,w64 (a.2.2.2.2.2.2.2.2.2.2.2.2.2.2.2.2.2+1)))
          else
           some (.inl (a.1,a.2.1,a.2.2.1,a.2.2.2.1,a.2.2.2.2.1,a.2.2.2.2.2.1,b.dst,a.2.2.2.2.2.2.2.1,a.2.2.2.2.2.2.2.2.1,a.2.2.2.2.2.2.2.2.2.1,a.2.2.2.2.2.2.2.2.2.2.1,a.2.2.2.2.2.2.2.2.2.2.2.1,a.2.2.2.2.2.2.2.2.2.2.2.2.1,a.2.2.2.2.2.2.2.2.2.2.2.2.2.1,a.2.2.2.2.2.2.2.2.2.2.2.2.2.2.1,a.2.2.2.2.2.2.2.2.2.2.2.2.2.2.2.1,a.2.2.2.2.2.2.2.2.2.2.2.2.2.2.2.2.1,w64 (a.2.2.2.2.2.2.2.2.2.2.2.2.2.2.2.2.2+1)))
         else
          some (.inl (a.1,a.2.1,a.2.2.1,a.2.2.2.1,a.2.2.2.2.1,a.2.2.2.2.2.1,b.dst,a.2.2.2.2.2.2.2.1,a.2.2.2.2.2.2.2.2.1,a.2.2.2.2.2.2.2.2.2.1,a.2.2.2.2.2.2.2.2.2.2.1,a.2.2.2.2.2.2.2.2.2.2.2.1,a.2.2.2.2.2.2.2.2.2.2.2.2.1,a.2.2.2.2.2.2.2.2.2.2.2.2.2.1,a.2.2.2.2.2.2.2.2.2.2.2.2.2.2.1,a.2.2.2.2.2.2.2.2.2.2.2.2.2.2.2.1,a.2.2.2.2.2.2.2.2.2.2.2.2.2.2.2.2.1,w64 (a.2.2.2.2.2.2.2.2.2.2.2.2.2.2.2.2.2+1)))
       else
       bif (a.2.1==4)then
        (lT a.2.2.2.2.2.2.2.1 b.src b.dst).bind fun e=>
        some (.inl (a.1,a.2.1,a.2.2.1,a.2.2.2.1,a.2.2.2.2.1,a.2.2.2.2.2.1,a.2.2.2.2.2.2.1,e,a.2.2.2.2.2.2.2.2.1,a.2.2.2.2.2.2.2.2.2.1,a.2.2.2.2.2.2.2.2.2.2.1,a.2.2.2.2.2.2.2.2.2.2.2.1,a.2.2.2.2.2.2.2.2.2.2.2.2.1,a.2.2.2.2.2.2.2.2.2.2.2.2.2.1,a.2.2.2.2.2.2.2.2.2.2.2.2.2.2.1,a.2.2.2.2.2.2.2.2.2.2.2.2.2.2.2.1,a.2.2.2.2.2.2.2.2.2.2.2.2.2.2.2.2.1,w64 (a.2.2.2.2.2.2.2.2.2.2.2.2.2.2.2.2.2+1)))
       else
        bif (a.2.1==1)then
         bif (a.2.2.2.2.2.1==2)then
          (lT a.2.2.2.2.2.2.2.1 b.src b.dst).bind fun f=>
          some (.inl (a.1,a.2.1,a.2.2.1,a.2.2.2.1,a.2.2.2.2.1,a.2.2.2.2.2.1,a.2.2.2.2.2.2.1,f,a.2.2.2.2.2.2.2.2.1,a.2.2.2.2.2.2.2.2.2.1,a.2.2.2.2.2.2.2.2.2.2.1,a.2.2.2.2.2.2.2.2.2.2.2.1,a.2.2.2.2.2.2.2.2.2.2.2.2.1,a.2.2.2.2.2.2.2.2.2.2.2.2.2.1,a.2.2.2.2.2.2.2.2.2.2.2.2.2.2.1,a.2.2.2.2.2.2.2.2.2.2.2.2.2.2.2.1,a.2.2.2.2.2.2.2.2.2.2.2.2.2.2.2.2.1,w64 (a.2.2.2.2.2.2.2.2.2.2.2.2.2.2.2.2.2+1)))
         else
          some (.inl (a.1,a.2.1,a.2.2.1,a.2.2.2.1,a.2.2.2.2.1,a.2.2.2.2.2.1,a.2.2.2.2.2.2.1,a.2.2.2.2.2.2.2.1,a.2.2.2.2.2.2.2.2.1,a.2.2.2.2.2.2.2.2.2.1,a.2.2.2.2.2.2.2.2.2.2.1,a.2.2.2.2.2.2.2.2.2.2.2.1,a.2.2.2.2.2.2.2.2.2.2.2.2.1,a.2.2.2.2.2.2.2.2.2.2.2.2.2.1,a.2.2.2.2.2.2.2.2.2.2.2.2.2.2.1,a.2.2.2.2.2.2.2.2.2.2.2.2.2.2.2.1,a.2.2.2.2.2.2.2.2.2.2.2.2.2.2.2.2.1,w64 (a.2.2.2.2.2.2.2.2.2.2.2.2.2.2.2.2.2+1)))
        else
         some (.inl (a.1,a.2.1,a.2.2.1,a.2.2.2.1,a.2.2.2.2.1,a.2.2.2.2.2.1,a.2.2.2.2.2.2.1,a.2.2.2.2.2.2.2.1,a.2.2.2.2.2.2.2.2.1,a.2.2.2.2.2.2.2.2.2.1,a.2.2.2.2.2.2.2.2.2.2.1,a.2.2.2.2.2.2.2.2.2.2.2.1,a.2.2.2.2.2.2.2.2.2.2.2.2.1,a.2.2.2.2.2.2.2.2.2.2.2.2.2.1,a.2.2.2.2.2.2.2.2.2.2.2.2.2.2.1,a.2.2.2.2.2.2.2.2.2.2.2.2.2.2.2.1,a.2.2.2.2.2.2.2.2.2.2.2.2.2.2.2.2.1,w64 (a.2.2.2.2.2.2.2.2.2.2.2.2.2.2.2.2.2+1)))
      else
       some (.inr (dM.mk a.2.1 a.2.2.1 (ah.mk a.2.2.2.1 a.2.2.2.2.1 a.2.2.2.2.2.1 a.2.2.2.2.2.2.1 a.2.2.2.2.2.2.2.1 a.2.2.2.2.2.2.2.2.1)))
  )
structure Vr(a e:dM):Prop where
 kind:e.kind=a.kind
 pos:e.pos=a.pos
 id:e.cell.id=a.cell.id
 version:e.cell.version=a.cell.version
 ckind:e.cell.kind=a.cell.kind
 n:e.cell.n=a.cell.n
 name:e.cell.name.length<=1048576
 code:e.cell.code.length<=1048576
theorem aar(a:dM)(b:List GOp)(r:b.length<=1048576)(j:a.cell.name.length<=1048576)(k:a.cell.code.length<=1048576)(l:∀o,o∈b->o.src.length<=1048576/\o.dst.length<=1048576):∃e,Gs a b=some e/\FP a b=some e/\Vr a e:=by
 refine VG (f:=amm) (g:=aml) (fun (s:Str×Str) (i:Nat)=>((a.kind,a.pos,a.cell.id,a.cell.version,a.cell.kind,s.1,s.2,a.cell.n,0,0,0,0,0,[],[],0,b,(b.length:Int),(i:Int)):AdI)) (fun (s:Str×Str) (i:Nat)=>((b,a.kind,a.pos,a.cell.id,a.cell.version,a.cell.kind,s.1,s.2,a.cell.n,0,0,0,0,0,[],[],0,(i:Int)):AdS)) b (fun _ s=>s.1.length<=1048576/\s.2.length<=1048576) (Vr a) (fun i o s c d=>.inl ?_) (fun s d=>?_) (a.cell.name,a.cell.code) ⟨j,k⟩
 ·obtain⟨u,m⟩:=l o (zG c);obtain⟨t,p,q,h⟩:=acy s.2 o.src o.dst (by omega) (by omega);refine⟨(if (s.1==o.src)=true then o.dst else s.1,if ((a.kind==4)||((a.kind==1)&&(a.cell.kind==2)))=true then t else s.2),?_,?_,?_,?_⟩
  ·simp only[amm,dn c,ab,au,c,zA,p,dm c (by omega)];cases (s.1==o.src)<;>cases (a.kind==4)<;>cases (a.kind==1)<;>cases (a.cell.kind==2)<;>rfl
  ·simp only[aml,dn c,ab,au,c,zA,q,dm c (by omega)];cases (s.1==o.src)<;>cases (a.kind==4)<;>cases (a.kind==1)<;>cases (a.cell.kind==2)<;>rfl
  ·show (if (s.1==o.src)=true then o.dst else s.1).length<=1048576
   split
   ·exact m
   ·exact d.1
  ·show (if ((a.kind==4)||((a.kind==1)&&(a.cell.kind==2)))=true then t else s.2).length<=1048576
   split
   ·rcases h with rfl | h
    ·exact d.2
    ·omega
   ·exact d.2
 ·refine⟨⟨a.kind,a.pos,⟨a.cell.id,a.cell.version,a.cell.kind,s.1,s.2,a.cell.n⟩⟩,?_,?_,⟨rfl,rfl,rfl,rfl,rfl,rfl,d.1,d.2⟩⟩
  ·simp only[amm,bP,aa]
  ·simp only[aml,bP,aa]
end Go.Proofs.YtngjomkjlonfpaaGreat
/- Plain laws of merged reads and of tapes, with no program in sight. Plain laws: the functions on reads and tapes, both sides, are the plain ones. Plain laws: putting and copying of tapes, both sides. -/
namespace Go.Proofs.YtngjomkjlonfpaaGreat
noncomputable section
open Go.Abs Go.Proofs
def OV(x y:aN):Bool:=eqd x.kind y.kind&&(eqd x.n y.n&&(eqd x.text y.text&&eqd x.time y.time))
def Xx(l:List aN)(r:aN):Bool:=l.any fun x=>OV x r
def Nl(l:List aN)(r:aN):Option aN:=l.find? fun x=>OV x r
def NU(l:List aN)(r:aN):List aN:=bif Xx l r then l else l++[r]
def fC(a b:List aN):List aN:=b.foldl NU a
theorem afr(l:List aN)(r:aN):(Nl l r).isSome=Xx l r:=by
 unfold Nl Xx;induction l with
 | nil=>rfl
 | cons x l ih=>
  rw[List.find?_cons,List.any_cons];cases OV x r with
  | true=>rfl
  | false=>simpa using ih
theorem tq:∀(b a:List aN),∃t,fC a b=a++t/\t.Sublist b
 | [],a=>⟨[],by simp[fC],List.Sublist.refl _⟩
 | r::b,a=>by
  obtain⟨t,e,s⟩:=tq b (NU a r);have e':fC a (r::b)=fC (NU a r) b:=rfl;rw[e',e];unfold NU;cases Xx a r with
  | true=>exact⟨t,rfl,s.cons _⟩
  | false=>exact⟨r::t,by simp,s.cons_cons _⟩
theorem KD(a b:List aN):a.length<=(fC a b).length/\(fC a b).length<=a.length+b.length:=by
 obtain⟨t,e,s⟩:=tq b a;rw[e,aR];have:=s.length_le;omega
theorem ae6{a b:List aN}{x:aN}(h:x∈fC a b):x∈a\/x∈b:=by
 obtain⟨t,e,s⟩:=tq b a;rw[e,List.mem_append]at h;rcases h with h | h
 ·exact .inl h
 ·exact .inr (s.subset h)
def qI(c v:Int)(t:aO):Bool:=eqd t.cell c&&eqd t.version v
def RH(x y:aO):Bool:=decide (x.cell<y.cell)||(eqd x.cell y.cell&&decide (x.version<y.version))
def readsOf(l:List aO)(c v:Int):List aN:=match l.find? (qI c v)with
 | some t=>t.reads
 | none=>[]
def yV(c v:Int)(rs:List aN):List aO->List aO
 | []=>[]
 | t::r=>bif qI c v t then aO.mk t.cell t.version (fC t.reads rs)::r else t::yV c v rs r
def Jb(x:aO):List aO->List aO
 | []=>[x]
 | t::r=>bif RH x t then x::t::r else t::Jb x r
def wo(l:List aO)(c v:Int)(rs:List aN):List aO:=
 bif l.any (qI c v)then yV c v rs l else match rs with
  | []=>l
  | _::_=>Jb (aO.mk c v (fC [] rs)) l
theorem UU(c v:Int)(rs:List aN):∀l,(yV c v rs l).length=l.length
 | []=>rfl
 | t::r=>by
  unfold yV;cases qI c v t with
  | true=>rfl
  | false=>simp[UU c v rs r]
theorem Zo(x:aO):∀l,(Jb x l).length=l.length+1
 | []=>rfl
 | t::r=>by
  unfold Jb;cases RH x t with
  | true=>rfl
  | false=>simp[Zo x r]
theorem agK(l:List aO)(c v:Int)(rs:List aN):l.length<=(wo l c v rs).length/\(wo l c v rs).length<=l.length+1:=by
 unfold wo;cases l.any (qI c v)with
 | true=>rw[ab,UU];omega
 | false=>
  rw[aa];cases rs with
  | nil=>simp
  | cons r rs=>simp only;rw[Zo];omega
theorem UR{c v:Int}{rs:List aN}:∀ {l:List aO} {t:aO},t∈yV c v rs l->t∈l\/∃u,u∈l/\t=aO.mk u.cell u.version (fC u.reads rs)
 | u::r,t,h=>by
  unfold yV at h;cases a:qI c v u with
  | true=>
   rw[a,ab]at h;rcases a8.1 h with rfl | h
   ·exact .inr ⟨u,aq,rfl⟩
   ·exact .inl (ao _ h)
  | false=>
   rw[a,aa]at h;rcases a8.1 h with rfl | h
   ·exact .inl aq
   ·rcases UR h with h | ⟨w,b,e⟩
    ·exact .inl (ao _ h)
    ·exact .inr ⟨w,ao _ b,e⟩
theorem Zn{x:aO}:∀ {l:List aO} {t:aO},t∈Jb x l->t=x\/t∈l
 | [],t,h=>by
  unfold Jb at h;exact .inl (List.mem_singleton.1 h)
 | u::r,t,h=>by
  unfold Jb at h;cases a:RH x u with
  | true=>
   rw[a,ab]at h;exact a8.1 h
  | false=>
   rw[a,aa]at h;rcases a8.1 h with rfl | h
   ·exact .inr aq
   ·rcases Zn h with h | h
    ·exact .inl h
    ·exact .inr (ao _ h)
theorem agJ{l:List aO}{c v:Int}{rs:List aN}{t:aO}(h:t∈wo l c v rs) :
  t∈l\/(∃u,u∈l/\t=aO.mk u.cell u.version (fC u.reads rs))\/t=aO.mk c v (fC [] rs):=by
 unfold wo at h;cases a:l.any (qI c v)with
 | true=>
  rw[a,ab]at h;rcases UR h with h | h
  ·exact .inl h
  ·exact .inr (.inl h)
 | false=>
  rw[a,aa]at h;cases rs with
  | nil=>exact .inl h
  | cons r rs=>
   rcases Zn h with h | h
   ·exact .inr (.inr h)
   ·exact .inl h
theorem zV(t:aO)(r:List aO)(c v:Int):readsOf (t::r) c v=bif qI c v t then t.reads else readsOf r c v:=by
 unfold readsOf;rw[List.find?_cons];cases qI c v t<;>rfl
theorem WL{l:List aO}{c v:Int}(h:l.any (qI c v)=false):readsOf l c v=[]:=by
 unfold readsOf;have:l.find? (qI c v)=none:=by
  rw[List.find?_eq_none];intro x a b;rw[List.any_eq_false]at h;exact h x a b
 rw[this]
theorem Dw(c v:Int)(rs:List aN):∀(l:List aO),fC (readsOf l c v) rs=readsOf l c v->yV c v rs l=l
 | [],_=>rfl
 | t::r,h=>by
  rw[zV]at h;unfold yV;cases a:qI c v t with
  | true=>rw[a,ab]at h;rw[ab,h]
  | false=>rw[a,aa]at h;rw[aa,Dw c v rs r h]
theorem abM{l:List aO}{c v:Int}{rs:List aN}(h:fC (readsOf l c v) rs=readsOf l c v)(a:l.any (qI c v)=true\/rs=[]):wo l c v rs=l:=by
 unfold wo;rcases a with a | rfl
 ·rw[a,ab];exact Dw c v rs l h
 ·cases l.any (qI c v)with
  | true=>rw[ab];exact Dw c v [] l h
  | false=>rfl
theorem Uz{α X ρ:Type}{g:X->Option (X⊕ρ)}(pk:Nat->X)(xs:List α)(p:α->Bool)(f:α->ρ)(no:ρ)
  (b:∀i x,xs[i]?=some x->g (pk i)=bif p x then some (.inr (f x))else some (.inl (pk (i+1))))
  (c:g (pk xs.length)=some (.inr no)):aA g (pk 0)=some ((xs.find? p).elim no f):=by
 have key:∀(n i:Nat),xs.length=i+n->aA g (pk i)=some (((xs.drop i).find? p).elim no f):=by
  intro n;induction n with
  | zero=>
   intro i hi;rw[List.drop_eq_nil_of_le (by omega),aF];have:i=xs.length:=by omega
   subst this;rw[c];rfl
  | succ n ih=>
   intro i hi;have a:i<xs.length:=by omega
   rw[List.drop_eq_getElem_cons a,aF,b i xs[i] (zF a),List.find?_cons];cases p xs[i]with
   | false=>simpa using ih (i+1) (by omega)
   | true=>rfl
 simpa using key xs.length 0 (by omega)
theorem aiM(x y:aN):yu x y=some (OV x y):=G9 x y
theorem aiN(x y:aN):Es x y=some (OV x y):=TN x y
theorem YS(x:aN):aN.mk x.kind x.n x.time x.text (aS.mk x.result.kind x.result.n x.result.step x.result.text x.result.list x.result.columns x.result.rows)=x:=by
 cases x with
 | mk a b c d r=>cases r;rfl
theorem Xq(a:List aN)(b:aN)(h:aX B20 (.list (.base .read) a)):KP a b=some ((Nl a b).elim (aS.mk 0 0 0 [] [] [] [],false) fun x=>(x.result,true)):=by
 have d:=fD (dA h);unfold KP Nl;refine Uz (fun i:Nat=>(b.kind,b.n,b.time,b.text,b.result.kind,b.result.n,b.result.step,b.result.text,b.result.list,b.result.columns,b.result.rows,(0:Int),(0:Int),(0:Int),([]:Str),([]:List aS),([]:List Str),([]:List dh),a,(a.length:Int),(i:Int))) a (fun x=>OV x b) (fun x=>(x.result,true)) _ (fun i x c=>?_) ?_
 ·have f:=h.aZ x (zG c);rw[yX]at f;simp only[dec_lt c,ab,au,c,zA,ul,kZ,YS,aiN,Ff _ f.2.2.2.2,dX c d]
 ·simp only[aV,aa]
theorem WA(a:List aN)(b:aN)(h:aX B20 (.list (.base .read) a)):Ed a b=some ((Nl a b).elim (aS.mk 0 0 0 [] [] [] [],false) fun x=>(x.result,true)):=by
 have d:=fD (dA h);unfold Ed Nl;refine Uz (fun i:Nat=>(a,b.kind,b.n,b.time,b.text,b.result.kind,b.result.n,b.result.step,b.result.text,b.result.list,b.result.columns,b.result.rows,(0:Int),(0:Int),(0:Int),([]:Str),([]:List aS),([]:List Str),([]:List dh),(i:Int))) a (fun x=>OV x b) (fun x=>(x.result,true)) _ (fun i x c=>?_) ?_
 ·have f:=h.aZ x (zG c);rw[yX]at f;simp only[dec_lt c,ab,au,c,zA,ul,kZ,YS,aiM,O6 _ f.2.2.2.2,dX c d]
 ·simp only[aV,aa]
theorem ZI(a:List aN)(b:aN){y:aS×Bool}(c:y=(Nl a b).elim (aS.mk 0 0 0 [] [] [] [],false) fun x=>(x.result,true)):y.2=Xx a b:=by
 subst c;rw[<- afr];cases Nl a b<;>rfl
theorem aaq{l:List aN}{r:aN}(h:aX B20 (.list (.base .read) l))(b:Fit B20 (.base .read) r)(c:(l.length:Int)+1<=1048576):aX B20 (.list (.base .read) (NU l r)):=by
 unfold NU;cases Xx l r with
 | true=>exact h
 | false=>
  refine dY (by simp;omega) fun x a=>?_
  rcases List.mem_append.1 a with a | a
  ·exact h.aZ x a
  ·rw[List.mem_singleton.1 a];exact b
theorem aap(l:List aN)(r:aN):(NU l r).length<=l.length+1:=by
 unfold NU;cases Xx l r<;>simp
theorem Qx{a b:List aN}(c:aX B20 (.list (.base .read) a))(d:aX B20 (.list (.base .read) b))(f:(a.length:Int)+b.length<=1048576):aX B20 (.list (.base .read) (fC a b)):=by
 have:=(KD a b).2;refine dY (by omega) fun x e=>?_
 rcases ae6 e with h | h
 ·exact c.aZ x h
 ·exact d.aZ x h
theorem Dp(a b:List aN)(g:aX B20 (.list (.base .read) a))(e:aX B20 (.list (.base .read) b))(k:(a.length:Int)+b.length<=1048576):wV a b=some (fC a b):=by
 have f:=fD (dA e);unfold wV;rw[qU a g,zA];refine (QB (fun (s:List aN) (i:Nat)=>(s,b,(b.length:Int),(i:Int))) b NU id (fun i s=>aX B20 (.list (.base .read) s)/\s.length<=a.length+i) (fun i x s c d=>?_) (fun i x s c d=>?_) (fun s d=>?_) a ⟨g,by omega⟩).1
 ·have hi:=(zC.1 c).1;refine⟨aaq d.1 (e.aZ x (zG c)) (by omega),?_⟩;have:=aap s x;omega
 ·have hi:=(zC.1 c).1;have h:aX B20 (.list (.base .read) [x]):=dY (by simp) fun y j=>by rw[List.mem_singleton.1 j];exact e.aZ x (zG c)
  simp only[dec_lt c,ab,au,c,zA,ul,Xq s x d.1,ZI s x rfl,qU _ h,bD (show s.length+[x].length<=34359738368 by simp;omega),dX c f];unfold NU;cases Xx s x<;>rfl
 ·simp only[aV,aa,id]
theorem BR(a b:List aN)(g:aX B20 (.list (.base .read) a))(e:aX B20 (.list (.base .read) b))(h:(a.length:Int)+b.length<=1048576):rF a b=some (fC a b):=by
 have f:=fD (dA e);unfold rF;rw[zN a g,zA];refine (QB (fun (s:List aN) (i:Nat)=>(b,s,(i:Int))) b NU id (fun i s=>aX B20 (.list (.base .read) s)/\s.length<=a.length+i) (fun i x s c d=>?_) (fun i x s c d=>?_) (fun s d=>?_) a ⟨g,by omega⟩).1
 ·have hi:=(zC.1 c).1;refine⟨aaq d.1 (e.aZ x (zG c)) (by omega),?_⟩;have:=aap s x;omega
 ·have hi:=(zC.1 c).1;simp only[dec_lt c,ab,au,c,zA,ul,WA s x d.1,ZI s x rfl,LW _ (e.aZ x (zG c)),bD (show s.length+[x].length<=34359738368 by simp;omega),dX c f];unfold NU;cases Xx s x<;>rfl
 ·simp only[aV,aa,id]
theorem aey(a:List aO)(b c:Int)(h:a.length<lim):aa4 a b c=some (dG (qI b c) a 0):=by
 refine uM (fun i=>((a,b,c,(i:Int)):List aO×Int×Int×Int)) a (qI b c) (fun i x d=>?_) ?_
 ·simp only[dec_lt d,ab,au,d,zA,dX d h,qI,nU];cases eqd x.cell b<;>cases eqd x.version c<;>rfl
 ·simp only[aV,aa]
theorem TL(a:List aO)(b c:Int)(h:a.length<lim):QV a b c=some (dG (qI b c) a 0):=by
 refine uM (fun i=>((b,c,a,(a.length:Int),(i:Int)):Int×Int×List aO×Int×Int)) a (qI b c) (fun i x d=>?_) ?_
 ·simp only[dec_lt d,ab,au,d,zA,dX d h,qI,nU];cases eqd x.cell b<;>cases eqd x.version c<;>rfl
 ·simp only[aV,aa]
theorem Xj(c v:Int)(rs:List aN):∀(xs:List aO) (i:Nat),(dG (qI c v) xs i = -1/\xs.any (qI c v)=false) \/
  ∃(n:Nat) (x:aO),dG (qI c v) xs i=((i+n:Nat):Int)/\xs[n]?=some x/\xs.any (qI c v)=true/\readsOf xs c v=x.reads/\yV c v rs xs=xs.set n (aO.mk x.cell x.version (fC x.reads rs))
 | [],i=>.inl ⟨rfl,rfl⟩
 | t::r,i=>by
  cases a:qI c v t with
  | true=>
   refine .inr ⟨0,t,?_,rfl,?_,?_,?_⟩
   ·unfold dG;rw[a];simp
   ·rw[List.any_cons,a];rfl
   ·rw[zV,a];rfl
   ·unfold yV;rw[a];rfl
  | false=>
   rcases Xj c v rs r (i+1)with ⟨b,d⟩ | ⟨n,x,b,d,e,f,g⟩
   ·refine .inl ⟨?_,?_⟩
    ·unfold dG;rw[a,aa,b]
    ·rw[List.any_cons,a,d];rfl
   ·refine .inr ⟨n+1,x,?_,by simpa using d,?_,?_,?_⟩
    ·unfold dG;rw[a,aa,b];have:i+1+n=i+(n+1):=by omega
     rw[this]
    ·rw[List.any_cons,a,e];rfl
    ·rw[zV,a,aa,f]
    ·unfold yV;rw[a,aa,g];rfl
theorem GK{l:List aO}(h:aX B20 (.list (.base .tape) l)){t:aO}(a:t∈l):aX B20 (.int .i64 t.cell)/\aX B20 (.int .i64 t.version)/\aX B20 (.list (.base .read) t.reads):=by
 have:=h.aZ t a;rw[Jp]at this;exact this
theorem Fh(a:List aO)(h:aX B20 (.list (.base .tape) a)):Gn a=some a:=by
 have l:=dA h;refine qX (fun (s:List aO) (i:Nat)=>((s,a,(a.length:Int),(i:Int)):(List aO)×(List aO)×Int×Int)) a (some a) (fun i y b c=>?_) ?_
 ·have hi:=(zC.1 b).1;simp only[dec_lt b,ab,au,b,zA,qU _ (GK h (zG b)).2.2,bD (show (a.take i).length+[y].length<=34359738368 by simp only[c,List.length_singleton];omega),dX b (fD l)]
 ·simp only[aV,aa];rfl
theorem LV(a:List aO)(h:aX B20 (.list (.base .tape) a)):Hz a=some a:=by
 have l:=dA h;refine qX (fun (s:List aO) (i:Nat)=>((a,s,(i:Int)):(List aO)×(List aO)×Int)) a (some a) (fun i y b c=>?_) ?_
 ·have hi:=(zC.1 b).1;simp only[dec_lt b,ab,au,b,zA,zN _ (GK h (zG b)).2.2,bD (show (a.take i).length+[y].length<=34359738368 by simp only[c,List.length_singleton];omega),dX b (fD l)]
 ·simp only[aV,aa];rfl
theorem YR(a:List aO)(b c:Int):readsOf a b c=[]\/∃t,t∈a/\readsOf a b c=t.reads:=by
 rcases Xj b c [] a 0 with ⟨e,d⟩ | ⟨n,x,e,d,g,f,h⟩
 ·exact .inl (WL d)
 ·exact .inr ⟨x,zG d,f⟩
theorem alA(x y:aO):zL x y=some (RH x y):=by
 unfold zL RH;simp only[nU];cases decide (x.cell<y.cell)<;>cases eqd x.cell y.cell<;>rfl
theorem amH(x y:aO):MW x y=some (RH x y):=alA x y
theorem EI{α:Type}(xs:List α)(i:Nat)(h:i<=xs.length):cutAt xs (i:Int)=some i:=by
 unfold cutAt;rw[if_pos ⟨by omega,by omega⟩];rfl
theorem adG{X:Type}{g:X->Option (X⊕List aO)}(pk:Nat->X)(l:List aO)(x:aO)
  (c:∀i t,l[i]?=some t->g (pk i)=bif RH x t then some (.inr (l.take i++[x]++l.drop i))else some (.inl (pk (i+1))))
  (d:g (pk l.length)=some (.inr (l++[x]))):aA g (pk 0)=some (Jb x l):=by
 have key:∀(n i:Nat),l.length=i+n->aA g (pk i)=some (l.take i++Jb x (l.drop i)):=by
  intro n;induction n with
  | zero=>
   intro i hi;have:i=l.length:=by omega
   subst this;rw[aF,d,List.drop_length,List.take_length];rfl
  | succ n ih=>
   intro i hi;have a:i<l.length:=by omega
   have b:=zF a;rw[aF,c i _ b,List.drop_eq_getElem_cons a];unfold Jb;cases RH x l[i]with
   | true=>simp only[ab,a6,List.singleton_append]
   | false=>
    simp only[aa];rw[ih (i+1) (by omega),take_snoc b,a6];rfl
 simpa using key l.length 0 (by omega)
def Tps(N M:Nat)(l:List aO):Prop:=aX B20 (.list (.base .tape) l)/\l.length<=N/\∀t∈l,t.reads.length<=M
theorem agI{N M K:Nat}{l:List aO}{c v:Int}{rs:List aN}(h:Tps N M l)(b:aX B20 (.list (.base .read) rs))(n:rs.length<=K)(o:N+1<=1048576)(p:M+K<=1048576)
  (j:aX B20 (.int .i64 c)) (k:aX B20 (.int .i64 v)):Tps (N+1) (M+K) (wo l c v rs):=by
 obtain⟨d,q,e⟩:=h;have r:=agK l c v rs;have key:∀t∈wo l c v rs,Fit B20 (.base .tape) t/\t.reads.length<=M+K:=by
  intro t a;rcases agJ a with a | ⟨u,g,rfl⟩ | rfl
  ·exact⟨d.aZ t a,by have:=e t a;omega⟩
  ·have f:=GK d g;have:=e u g;have i:=(KD u.reads rs).2;exact⟨Jp.2 ⟨f.1,f.2.1,Qx f.2.2 b (by omega)⟩,by show (fC u.reads rs).length<=_;omega⟩
  ·have i:=(KD [] rs).2;exact⟨Jp.2 ⟨j,k,Qx (dY (by simp) fun x m=>by cases m) b (by simp;omega)⟩,by show (fC [] rs).length<=_;simp at i;omega⟩
 exact⟨dY (by omega) fun t a=>(key t a).1,by omega,fun t a=>(key t a).2⟩
theorem VX(a:List aO)(b c:Int)(d:List aN)(h:aX B20 (.list (.base .tape) a))(l:aX B20 (.list (.base .read) d))(o:(readsOf a b c).length+d.length<=1048576):BP a b c d=some (wo a b c d):=by
 have m:=dA h;unfold BP;rw[LV a h,zA,aey a b c (fD m),zA];rcases Xj b c d a 0 with ⟨j,f⟩ | ⟨n,x,j,f,p,k4,q⟩
 ·rw[j];simp only[show decide ((-1:Int)>=0)=false from rfl,aa];unfold wo;rw[f,aa];cases d with
  | nil=>rfl
  | cons r rs=>
   have e:((((r::rs).length:Nat):Int)==0)=false:=by simp;omega
   rw[e,aa,BR [] (r::rs) (dY (by simp) fun x k=>by cases k) l (by simp only[List.length_nil];omega),zA];refine adG (fun (i:Nat)=>((a,b,c,fC [] (r::rs),(i:Int)):(List aO)×Int×Int×(List aN)×Int)) a (aO.mk b c (fC [] (r::rs))) (fun i t g=>?_) ?_
   ·have hi:=(zC.1 g).1;simp only[dec_lt g,ab,au,g,zA,aw,alA,dX g (fD m),EI a i (by omega),eq_self_iff_true,if_true];rw[bD (show 0+(a.take i).length<=34359738368 by simp;omega),zA,bD (show (([]:List aO)++a.take i).length+[aO.mk b c (fC [] (r::rs))].length<=34359738368 by simp;omega),zA,
     bD (show (([]:List aO)++a.take i++[aO.mk b c (fC [] (r::rs))]).length+(a.drop i).length<=34359738368 by simp;omega),zA,zA,List.nil_append]
    cases RH (aO.mk b c (fC [] (r::rs))) t<;>rfl
   ·simp only[aV,aa,EI a a.length (ar _),eq_self_iff_true,if_true,zA,List.take_length,List.drop_length];rw[bD (show 0+a.length<=34359738368 by omega),zA,bD (show (([]:List aO)++a).length+[aO.mk b c (fC [] (r::rs))].length<=34359738368 by simp;omega),zA,
     bD (show (([]:List aO)++a++[aO.mk b c (fC [] (r::rs))]).length+([]:List aO).length<=34359738368 by simp;omega),zA,zA,List.append_nil,List.nil_append]
 ·rw[j,Nat.zero_add];have k:=zG f;rw[k4]at o;simp only[show decide (((n:Nat):Int)>=0)=true by simp,ab,au,f,zA,aw,BR x.reads d (GK h k).2.2 l (by omega)];unfold wo;rw[p,ab,q]
theorem Xm(a:List aO)(b c:Int)(d:List aN)(h:aX B20 (.list (.base .tape) a))(l:aX B20 (.list (.base .read) d))(o:(readsOf a b c).length+d.length<=1048576):Di a b c d=some (wo a b c d):=by
 have m:=dA h;unfold Di;rw[Fh a h,zA,TL a b c (fD m),zA];rcases Xj b c d a 0 with ⟨j,f⟩ | ⟨n,x,j,f,p,k4,q⟩
 ·rw[j];simp only[show decide ((-1:Int)>=0)=false from rfl,aa];unfold wo;rw[f,aa];cases d with
  | nil=>rfl
  | cons r rs=>
   have e:((((r::rs).length:Nat):Int)==0)=false:=by simp;omega
   rw[e,aa,Dp [] (r::rs) (dY (by simp) fun x k=>by cases k) l (by simp only[List.length_nil];omega),zA];refine adG (fun (i:Nat)=>((a,(i:Int),b,c,fC [] (r::rs)):(List aO)×Int×Int×Int×(List aN))) a (aO.mk b c (fC [] (r::rs))) (fun i t g=>?_) ?_
   ·have hi:=(zC.1 g).1;simp only[dec_lt g,ab,au,g,zA,aw,amH,dX g (fD m),EI a i (by omega),eq_self_iff_true,if_true];rw[bD (show 0+(a.take i).length<=34359738368 by simp;omega),zA,bD (show (([]:List aO)++a.take i).length+[aO.mk b c (fC [] (r::rs))].length<=34359738368 by simp;omega),zA,
     bD (show (([]:List aO)++a.take i++[aO.mk b c (fC [] (r::rs))]).length+(a.drop i).length<=34359738368 by simp;omega),zA,zA,List.nil_append]
    cases RH (aO.mk b c (fC [] (r::rs))) t<;>rfl
   ·simp only[aV,aa,EI a a.length (ar _),eq_self_iff_true,if_true,zA,List.take_length,List.drop_length];rw[bD (show 0+a.length<=34359738368 by omega),zA,bD (show (([]:List aO)++a).length+[aO.mk b c (fC [] (r::rs))].length<=34359738368 by simp;omega),zA,
     bD (show (([]:List aO)++a++[aO.mk b c (fC [] (r::rs))]).length+([]:List aO).length<=34359738368 by simp;omega),zA,zA,List.append_nil,List.nil_append]
 ·rw[j,Nat.zero_add];have k:=zG f;rw[k4]at o;simp only[show decide (((n:Nat):Int)>=0)=true by simp,ab,au,f,zA,aw,Dp x.reads d (GK h k).2.2 l (by omega)];unfold wo;rw[p,ab,q]
theorem MI{N M:Nat}{a:List aO}(h:Tps N M a)(b c:Int):(readsOf a b c).length<=M:=by
 rcases YR a b c with d | ⟨t,e,d⟩
 ·rw[d];simp
 ·rw[d];exact h.2.2 t e
theorem X8{N M:Nat}(a:List aO)(b c:Int)(d:List aN)(h:Tps N M a)(e:aX B20 (.list (.base .read) d))(f:M+d.length<=1048576):BP a b c d=some (wo a b c d):=
 VX a b c d h.1 e (by have:=MI h b c;omega)
theorem Zv{N M:Nat}(a:List aO)(b c:Int)(d:List aN)(h:Tps N M a)(e:aX B20 (.list (.base .read) d))(f:M+d.length<=1048576):Di a b c d=some (wo a b c d):=
 Xm a b c d h.1 e (by have:=MI h b c;omega)
theorem ahd{t:Ty}:aX B20 (.list t []):=dY (by simp) fun x a=>(by cases a)
end
end Go.Proofs.YtngjomkjlonfpaaGreat
/- Plain laws: ReplayOp is alike on both sides. -/
namespace Go.Proofs.YtngjomkjlonfpaaGreat
open Go.Abs Go.Proofs
def PtS{X:Type}(o p:Option (X⊕(ak×Int))):Prop:=o=p\/(o=none/\∃n c,p=some (.inr (n,c))/\c≠0)
def Pt(o p:Option (ak×Int)):Prop:=o=p\/(o=none/\∃n c,p=some (n,c)/\c≠0)
theorem ai1(o:Option (ak×Int)):Pt o o:=.inl rfl
theorem ai2(n:ak)(c:Int)(h:c≠0):Pt none (some (n,c)):=.inr ⟨rfl,n,c,rfl,h⟩
theorem alQ{q:Bool}{o p o' p':Option (ak×Int)}(h:Pt o p)(a:Pt o' p'):Pt (bif q then o else o') (bif q then p else p'):=by cases q<;>assumption
theorem ai4{α:Type}(x:Option α){f g:α->Option (ak×Int)}(h:∀a,Pt (f a) (g a)):Pt (x.bind f) (x.bind g):=by
 cases x with
 | none=>exact .inl rfl
 | some a=>exact h a
theorem agN{X:Type}(o:Option (X⊕(ak×Int))):PtS o o:=.inl rfl
theorem agO{X:Type}(n:ak)(c:Int)(h:c≠0):PtS (X:=X) none (some (.inr (n,c))):=.inr ⟨rfl,n,c,rfl,h⟩
theorem ai0{X:Type}{q:Bool}{o p o' p':Option (X⊕(ak×Int))}(h:PtS o p)(a:PtS o' p'):PtS (bif q then o else o') (bif q then p else p'):=by cases q<;>assumption
theorem agP{α X:Type}(x:Option α){f g:α->Option (X⊕(ak×Int))}(h:∀a,PtS (f a) (g a)):PtS (x.bind f) (x.bind g):=by
 cases x with
 | none=>exact .inl rfl
 | some a=>exact h a
theorem alP{X:Type}{o p:Option (ak×Int)}(h:Pt o p):PtS (X:=X) (o.bind fun r=>some (.inr r)) (p.bind fun r=>some (.inr r)):=by
 rcases h with rfl | ⟨rfl,n,c,rfl,a⟩
 ·exact .inl rfl
 ·exact .inr ⟨rfl,n,c,rfl,a⟩
theorem ai3{X:Type}{f g:X->Option (X⊕(ak×Int))}(h:∀x,PtS (f x) (g x))(x:X):Pt (aA f x) (aA g x):=by
 cases d:aA g x with
 | none=>
  left;cases i:aA f x with
  | none=>rfl
  | some r=>
   obtain⟨n,a⟩:=qH i;have key:∀(n:Nat) (x:X) (r:ak×Int),iter f n x=some r->aA g x=some r:=by
    intro n;induction n with
    | zero=>intro x r h;cases h
    | succ n ih=>
     intro x r a;unfold iter at a;rcases h x with e | ⟨e,_⟩
     ·rw[aF,<- e];cases b:f x with
      | none=>rw[b]at a;cases a
      | some y=>
       rw[b]at a;cases y with
       | inl y=>exact ih y r a
       | inr y=>exact a
     ·rw[e]at a;cases a
   rw[key n x r a]at d;cases d
 | some r=>
  obtain⟨n,a⟩:=qH d;have key:∀(n:Nat) (x:X) (r:ak×Int),iter g n x=some r->Pt (aA f x) (some r):=by
   intro n;induction n with
   | zero=>intro x r h;cases h
   | succ n ih=>
    intro x r a;unfold iter at a;rcases h x with e | ⟨e,m,c,j,k⟩
    ·rw[aF,e];cases b:g x with
     | none=>rw[b]at a;cases a
     | some y=>
      rw[b]at a;cases y with
      | inl y=>exact ih y r a
      | inr y=>exact .inl a
    ·rw[j]at a;cases a
     rw[aF,e];exact .inr ⟨rfl,m,c,rfl,k⟩
  exact key n x r a
theorem abK(a:ak)(b c:Str)(d:Bool):Pt (qJ a b c d) (uy a b c d):=by
 unfold qJ uy;repeat' first
  | with_reducible exact ai1 _
  | with_reducible exact agN _
  | exact ai2 _ _ (by decide)
  | exact agO _ _ (by decide)
  | refine alQ ?_ ?_
  | refine ai0 ?_ ?_
  | refine ai4 _ fun _=>?_
  | refine alP ?_
  | refine agP _ fun _=>?_
  | refine ai3 (fun _=>?_) _
theorem abL{cs:List ah}{b c:Str}{d:Bool}{r:ak×Int}(h:uy ⟨cs⟩ b c d=some r):(r.2=0->qJ ⟨cs⟩ b c d=some r)/\(r.2≠0->qJ ⟨cs⟩ b c d=none\/qJ ⟨cs⟩ b c d=some r):=by
 rcases abK ⟨cs⟩ b c d with e | ⟨e,n,k,a,f⟩
 ·rw[e,h];exact⟨fun _=>rfl,fun _=>.inr rfl⟩
 ·rw[h]at a;cases a
  exact⟨fun g=>absurd g f,fun _=>.inl e⟩
theorem uK{X ρ:Type}{g:X->Option (X⊕ρ)}(pk:List ah->Nat->X)(cs:List ah)(F:Nat->ah->ah)(R:ρ->Prop)
  (m:∀i c s,cs[i]?=some c->s[i]?=some c->s.length=cs.length->g (pk s i)=some (.inl (pk (s.set i (F i c)) (i+1))))
  (n:∀s,s.length=cs.length->(∀k,s[k]?=(cs[k]?).map (F k))->∃r,g (pk s cs.length)=some (.inr r)/\R r):∃r,aA g (pk cs 0)=some r/\R r:=by
 refine dL pk cs (fun i s=>s.length=cs.length/\(∀k,k<i->s[k]?=(cs[k]?).map (F k))/\∀k,i<=k->s[k]?=cs[k]?) R (fun i c s a f=>.inl ?_) (fun s f=>?_) cs ⟨rfl,fun k b=>by omega,fun k _=>rfl⟩
 ·obtain⟨d,h,j⟩:=f;have hi:=(zC.1 a).1;have l:s[i]?=some c:=by rw[j i (ar _),a]
  refine⟨_,m i c s a l d,by simp[d],fun k b=>?_,fun k b=>?_⟩
  ·by_cases e:k=i
   ·subst e;rw[List.getElem?_set_self (by omega),a];rfl
   ·rw[List.getElem?_set_ne (by omega)];exact h k (by omega)
  ·rw[List.getElem?_set_ne (by omega)];exact j k (by omega)
 ·obtain⟨d,h,j⟩:=f;refine n s d fun k=>?_
  by_cases b:k<cs.length
  ·exact h k b
  ·rw[zJ (by omega),zJ (by omega)];rfl
theorem X4{X ρ:Type}{g:X->Option (X⊕ρ)}(pk:List ah->Nat->X)(cs:List ah)(F:Nat->ah->ah)
  (j:∀i c s,cs[i]?=some c->s[i]?=some c->s.length=cs.length->g (pk s i)=some (.inl (pk (s.set i (F i c)) (i+1))))
  (l:∀s,s.length=cs.length->(∀k,s[k]?=(cs[k]?).map (F k))->g (pk s cs.length)=none):aA g (pk cs 0)=none:=by
 have key:∀(m i:Nat) (s:List ah),cs.length=i+m->s.length=cs.length->(∀k,k<i->s[k]?=(cs[k]?).map (F k))->(∀k,i<=k->s[k]?=cs[k]?)->aA g (pk s i)=none:=by
  intro m;induction m with
  | zero=>
   intro i s hi a d f;have:i=cs.length:=by omega
   subst this;rw[aF,l s a fun k=>?_];by_cases b:k<cs.length
   ·exact d k b
   ·rw[zJ (by omega),zJ (by omega)];rfl
  | succ m ih=>
   intro i s hi a d f;obtain⟨c,h⟩:∃c,cs[i]?=some c:=⟨_,zF (by omega)⟩;rw[aF,j i c s h (by rw[f i (ar _),h]) a];refine ih (i+1) _ (by omega) (by simp[a]) (fun k b=>?_) (fun k b=>?_)
   ·by_cases e:k=i
    ·subst e;rw[List.getElem?_set_self (by omega),h];rfl
    ·rw[List.getElem?_set_ne (by omega)];exact d k (by omega)
   ·rw[List.getElem?_set_ne (by omega)];exact f k (by omega)
 exact key cs.length 0 cs (by omega) rfl (fun k b=>by omega) fun k _=>rfl
def gG(x:ah):ah:=⟨x.id,1,x.kind,x.name,x.code,x.n⟩
def BF(y x:ah):ah:=⟨x.id,y.version,x.kind,x.name,x.code,x.n⟩
def oW(cs o:List ah):List ah:=List.zipWith BF cs o
theorem acC{cs o o':List ah}(h:o.map bare=o'.map bare):oW cs o=oW cs o':=by
 have e:∀o:List ah,oW cs o=List.zipWith BF cs (o.map bare):=fun o=>by
  unfold oW;rw[List.zipWith_map_right];rfl
 rw[e o,e o',h]
theorem Ll{cs o:List ah}(b:o.length<=cs.length)(k:Nat):(oW cs o)[k]?=(o[k]?).map fun x=>BF ((cs[k]?).getD x) x:=by
 unfold oW;rw[List.getElem?_zipWith];cases a:o[k]? with
 | none=>cases cs[k]?<;>rfl
 | some x=>
  have c:=(zC.1 a).1;rw[zF (show k<cs.length by omega)];rfl
noncomputable def kept(cs:List ah)(b c:Str):List ah:=oW cs (qF (cs.map gG) b c false).1.cells
theorem Ku{cs:List ah}(h:∀x,x∈cs->lK x):∀x,x∈cs.map gG->lK x:=by
 intro x b;obtain⟨y,a,rfl⟩:=List.mem_map.1 b;exact⟨(h y a).1,(h y a).2⟩
theorem ajf{cs:List ah}:∀x,x∈cs.map gG->x.version=1:=by
 intro x a;obtain⟨y,b,rfl⟩:=List.mem_map.1 a;rfl
theorem ajw(cs:List ah)(b c:Str)(u:cs.length<=1048576)(h:∀x,x∈cs->lK x)(H:b.length<=34359738368)(I:c.length<=34359738368) :
  ((qF (cs.map gG) b c false).2=0->mY ⟨cs⟩ b c=some (⟨kept cs b c⟩,true)/\qo ⟨cs⟩ b c=some (⟨kept cs b c⟩,true)) /\
  ((qF (cs.map gG) b c false).2≠0->mY ⟨cs⟩ b c=none/\tH ⟨cs⟩ b c=some (⟨cs⟩,false)/\∃z,qo ⟨cs⟩ b c=some (z,false)):=by
 have v:(cs.map gG).length<=1048576:=by simpa using u
 have J:=Xl (cs.map gG) b c false v (Ku h) H I;have L:=aaI (cs.map gG) b c v (Ku h) H I;obtain⟨t1,M⟩:=agC (cs.map gG) b c ajf;have hlen1:=P8 (cs.map gG) b c false;have hlen2:=P8 (cs.map gG) b c true;rw[List.length_map]at hlen1 hlen2;have K:=abL J;have B:kept cs b c=oW cs (qF (cs.map gG) b c true).1.cells:=(acC M).symm;have C:kept cs b c=oW cs (qF (cs.map gG) b c false).1.cells:=rfl;generalize qF (cs.map gG) b c false=P at *;generalize qF (cs.map gG) b c true=Q at *;have one:∀s:List ah,(∀k,s[k]?=(cs[k]?).map gG)->s=cs.map gG:=fun s m=>List.ext_getElem? fun k=>by rw[m k,List.getElem?_map]
 have bk:∀(o s:List ah),o.length<=cs.length->(∀k,s[k]?=(o[k]?).map fun x=>BF ((cs[k]?).getD x) x)->s=oW cs o:=fun o s N m=>List.ext_getElem? fun k=>by rw[m k,Ll N]
 have A:∃r,qo ⟨cs⟩ b c=some r/\r=(⟨oW cs Q.1.cells⟩,Q.2==0):=by
  unfold qo;rw[agw cs u,zA];refine uK (fun (s:List ah) (i:Nat)=>((b,c,cs,[],s,(i:Int)):Str×Str×(List ah)×(List ah)×(List ah)×Int)) cs (fun _ x=>gG x) _ (fun i x s g d f=>?_) (fun s f m=>?_)
  ·simp only[dn d,ab,au,d,aw,zA,dm d (by omega)];rfl
  ·have j:=one s m;subst j;simp only[<- f,bP,aa,L,zA];suffices hh:∃r,aA (fun (a:(List ah)×(List ah)×(List ah)×Int×Int)=>
     bif (decide (a.2.2.2.2<(a.2.2.1.length:Int)))then
      (idx a.1 a.2.2.2.2).bind fun D=>
      (idx a.2.2.1 a.2.2.2.2).bind fun _=>
      (a.2.2.1[a.2.2.2.2.toNat]?).bind fun p=>
      some (.inl (a.1,a.2.1,a.2.2.1.set a.2.2.2.2.toNat (ah.mk p.id D.version p.kind p.name p.code p.n),a.2.2.2.1,w64 (a.2.2.2.2+1)))
     else
      some (.inr (ak.mk a.2.2.1,(a.2.2.2.1==0)))) (cs,[],Q.1.cells,Q.2,0)=some r/\r=(⟨oW cs Q.1.cells⟩,Q.2==0) by
    obtain⟨r,e,E⟩:=hh;exact⟨r,by rw[e];rfl,E⟩
   refine uK (fun (s:List ah) (i:Nat)=>((cs,[],s,Q.2,(i:Int)):(List ah)×(List ah)×(List ah)×Int×Int)) Q.1.cells (fun k x=>BF ((cs[k]?).getD x) x) _ (fun i x s g d l=>?_) (fun s l t=>?_)
   ·have hi:=(zC.1 g).1;obtain⟨y,F⟩:∃y,cs[i]?=some y:=⟨_,zF (by omega)⟩;simp only[dn d,ab,au,d,F,aw,zA,dm d (by omega)];rfl
   ·have:=bk _ s hlen2 t;subst this;simp only[<- l,bP,aa];exact⟨_,rfl,rfl⟩
 obtain⟨rs,A,rfl⟩:=A;have O:P.2=0->∃r,mY ⟨cs⟩ b c=some r/\r=(⟨oW cs P.1.cells⟩,true):=fun q=>by
  have G:=K.1 q;unfold mY;rw[Xu cs u,zA];refine uK (fun (s:List ah) (i:Nat)=>((b,c,cs,[],s,(cs.length:Int),(i:Int)):Str×Str×(List ah)×(List ah)×(List ah)×Int×Int)) cs (fun _ x=>gG x) _ (fun i x s g d f=>?_) (fun s f m=>?_)
  ·simp only[dn g,ab,au,d,aw,zA,dm g (by omega)];rfl
  ·have j:=one s m;subst j;simp only[bP,aa,G,zA,q,bne_self_eq_false];suffices hh:∃r,aA (fun (a:(List ah)×(List ah)×(List ah)×Int×Int)=>
     bif (decide (a.2.2.2.2<a.2.2.2.1))then
      (idx a.1 a.2.2.2.2).bind fun D=>
      (idx a.2.2.1 a.2.2.2.2).bind fun _=>
      (a.2.2.1[a.2.2.2.2.toNat]?).bind fun p=>
      some (.inl (a.1,a.2.1,a.2.2.1.set a.2.2.2.2.toNat (ah.mk p.id D.version p.kind p.name p.code p.n),a.2.2.2.1,w64 (a.2.2.2.2+1)))
     else
      some (.inr (ak.mk a.2.2.1,true))) (cs,[],P.1.cells,(P.1.cells.length:Int),0)=some r/\r=(⟨oW cs P.1.cells⟩,true) by
    obtain⟨r,e,E⟩:=hh;exact⟨r,by rw[e];rfl,E⟩
   refine uK (fun (s:List ah) (i:Nat)=>((cs,[],s,(P.1.cells.length:Int),(i:Int)):(List ah)×(List ah)×(List ah)×Int×Int)) P.1.cells (fun k x=>BF ((cs[k]?).getD x) x) _ (fun i x s g d l=>?_) (fun s l t=>?_)
   ·have hi:=(zC.1 g).1;obtain⟨y,F⟩:∃y,cs[i]?=some y:=⟨_,zF (by omega)⟩;simp only[dn g,ab,au,d,F,aw,zA,dm g (by omega)];rfl
   ·have:=bk _ s hlen1 t;subst this;simp only[bP,aa];exact⟨_,rfl,rfl⟩
 refine⟨fun q=>?_,fun q=>?_⟩
 ·obtain⟨r,e,rfl⟩:=O q;refine⟨by rw[e,C],?_⟩;rw[A,B,t1,q];rfl
 ·have w:(P.2 != 0)=true:=by simpa using q
  refine⟨?_,?_,⟨oW cs Q.1.cells⟩,?_⟩
  ·unfold mY;rw[Xu cs u,zA];refine X4 (fun (s:List ah) (i:Nat)=>((b,c,cs,[],s,(cs.length:Int),(i:Int)):Str×Str×(List ah)×(List ah)×(List ah)×Int×Int)) cs (fun _ x=>gG x) (fun i x s g d f=>?_) (fun s f m=>?_)
   ·simp only[dn g,ab,au,d,aw,zA,dm g (by omega)];rfl
   ·have j:=one s m;subst j;rcases K.2 q with e | e
    ·simp only[bP,aa,e,Option.bind_none]
    ·simp only[bP,aa,e,zA,w,ab,Option.bind_none]
  ·suffices hh:∃r,tH ⟨cs⟩ b c=some r/\r=(⟨cs⟩,false) by
    obtain⟨r,e,rfl⟩:=hh;exact e
   unfold tH;rw[Xu cs u,zA];refine uK (fun (s:List ah) (i:Nat)=>((b,c,cs,[],s,(cs.length:Int),(i:Int)):Str×Str×(List ah)×(List ah)×(List ah)×Int×Int)) cs (fun _ x=>gG x) _ (fun i x s g d f=>?_) (fun s f m=>?_)
   ·simp only[dn g,ab,au,d,aw,zA,dm g (by omega)];rfl
   ·have j:=one s m;subst j;simp only[bP,aa,J,zA,w,ab];exact⟨_,rfl,rfl⟩
  ·rw[A,t1];have:(P.2==0)=false:=by simpa using q
   rw[this]
end Go.Proofs.YtngjomkjlonfpaaGreat
/- Plain laws: a renaming keeps a notebook valid. -/
namespace Go.Proofs.YtngjomkjlonfpaaGreat
open Go.Abs Go.Proofs
theorem Nz{α:Type}(p:α->Bool):∀(i:Nat) (xs:List α),jd (fun _ x=>p x) i xs=xs.all p
 | _,[]=>rfl
 | i,x::r=>by
  show (p x&&jd (fun _ x=>p x) (i+1) r)=(p x&&r.all p)
  rw[Nz p (i+1) r]
theorem WN(a:Str)(h:a.length<=1048576):iI a=some (prn a&&decide ((a.length:Int)<=120)):=by
 unfold iI;refine (pY (fun i=>((a,(i:Int)):Str×Int)) a (fun _ c=>prC c) false (decide ((a.length:Int)<=120)) (fun i c b=>?_) ?_).trans ?_
 ·simp only[dn b,ab,au,b,zA,dm b (by omega)];have e:prC c=(!(decide ((c.toNat:Int)<32))&&!(decide ((c.toNat:Int)>126))):=by
   unfold prC;by_cases d:32<=c.toNat<;>by_cases f:c.toNat<=126<;>simp[d,f]<;>omega
  rw[e];cases decide ((c.toNat:Int)<32)<;>cases decide ((c.toNat:Int)>126)<;>rfl
 ·simp only[bP,aa]
 ·rw[Nz];unfold prn;cases a.all prC<;>rfl
theorem WM{t:Str}(h:prn t=true)(a:t.length<=120):iI t=some true:=by
 rw[WN t (by omega),h,ae (by omega)];rfl
theorem Z9{c:ah}(h:lK c)(a:bV c=some true):iI c.code=some true/\(c.kind≠1->bg c.name=some true):=by
 obtain⟨v,d,_,_⟩:=Iy c.code h.code;obtain⟨u,e⟩:=mJ c.name (by have:=h.name;omega);unfold bV at a;simp only[vI,d,e,zA]at a;rw[d,e];cases b:(decide (1<=c.id)&&decide (c.id<=999))with
 | false=>rw[b]at a;cases a
 | true=>
 cases f:(decide (1<=c.version)&&decide (c.version<=999))with
 | false=>rw[b,f]at a;cases a
 | true=>
 rw[b,f]at a;cases v with
 | false=>cases a
 | true=>
  refine⟨rfl,fun g=>?_⟩;cases u with
  | true=>rfl
  | false=>
   have i:(c.kind==1)=false:=by simpa using g
   rw[i]at a;simp only[aE,aa]at a;revert a;cases (c.kind==2)<;>cases (c.kind==3)<;>cases (c.kind==4)<;>intro a<;>cases a
theorem afA{c:ah}{nm:Str}(a:c.kind≠1)(b:bg c.name=some true)(d:bg nm=some true):bV ⟨c.id,c.version,c.kind,nm,c.code,c.n⟩=bV c:=by
 have e:(c.kind==1)=false:=by simpa using a
 unfold bV;simp only[e,b,d];rfl
theorem afB{c:ah}{t:Str}(a:c.kind=2)(b:iI c.code=some true)(d:iI t=some true):bV ⟨c.id,c.version,c.kind,c.name,t,c.n⟩=bV c:=by
 unfold bV;simp only[a,b,d];rfl
theorem aj6{c:ah}(h:lK c):iM c=cellV c:=by
 unfold iM;rw[XF c h];rfl
theorem AQ{c:ah}(h:lK c):cellV c=true↔bV c=some true:=by
 rw[XG c h];simp
structure Vl(cs out:List ah):Prop where
 ids:out.map (·.id)=cs.map (·.id)
 kinds:out.map (·.kind)=cs.map (·.kind)
 val:∀x,x∈out->lK x/\cellV x=true
theorem Vl.len{cs out:List ah}(h:Vl cs out):out.length=cs.length:=by
 have:=congrArg List.length h.ids;simpa using this
theorem IW{α β:Type}(f:α->β){xs:List α}{i:Nat}{x y:α}(h:xs[i]?=some x)(e:f y=f x):(xs.set i y).map f=xs.map f:=by
 rw[List.map_set,e];have:(xs.map f)[i]?=some (f x):=by rw[List.getElem?_map,h];rfl
 obtain⟨a,b⟩:=zC.1 this;rw[<- b];exact List.set_getElem_self a
theorem Vl.set{cs out:List ah}(h:Vl cs out){i:Nat}{x y:ah}(b:out[i]?=some x)(c:y.id=x.id)(d:y.kind=x.kind)(e:lK y/\cellV y=true):Vl cs (out.set i y) where
 ids:=by rw[IW (·.id) b c];exact h.ids
 kinds:=by rw[IW (·.kind) b d];exact h.kinds
 val:=fun z a=>by
  rcases List.mem_or_eq_of_mem_set a with a | rfl
  ·exact h.val z a
  ·exact e
theorem Vl.kind{cs out:List ah}(h:Vl cs out){i:Nat}{x:ah}(a:out[i]?=some x):∃y,cs[i]?=some y/\y.kind=x.kind:=by
 have hi:=(zC.1 a).1;obtain⟨y,b⟩:∃y,cs[i]?=some y:=⟨_,zF (by have:=h.len;omega)⟩;have e:=congrArg (fun l=>l[i]?) h.kinds;simp only[List.getElem?_map,a,b,Option.map_some,zD]at e;exact⟨y,b,e.symm⟩
theorem ajl{cs:List ah}{b c:Str}{k:Nat}{x:ah}(j:Vl cs cs)(f:cs[k]?=some x)(l:x.kind≠1)(m:fJ c=true)(g:c.length<=1048576):Vl cs (pJ c cs k):=by
 have e:pJ c cs k=cs.set k ⟨x.id,x.version,x.kind,c,x.code,x.n⟩:=by unfold pJ;rw[f]
 rw[e];obtain⟨h,o⟩:=j.val x (zG f);have a:=(AQ h).1 o;have i:bg c=some true:=by rw[(xW c (by omega)).1,m]
 have d:lK ⟨x.id,x.version,x.kind,c,x.code,x.n⟩:=⟨g,h.code⟩;exact j.set f rfl rfl ⟨d,(AQ d).2 ((afA l ((Z9 h a).2 l) i).trans a)⟩
theorem Xg{cs:List ah}{b c:Str}(k:b.length<=34359738368)(l:c.length<=34359738368):∀(ps:List bJ) (i:Nat) (out:List ah) (full:Bool) (r:List ah×Bool),(∀p,p∈ps->qg p)->(∀(j:Nat) (p:bJ) (y:ah),ps[j]?=some p->cs[i+j]?=some y->p.kind=2->y.kind=2)->Vl cs out->lI false b c i ps out full=some r->Vl cs r.1
 | [],i,out,full,r,_,_,a,h=>by cases h;exact a
 | p::ps,i,out,full,r,v,w,a,h=>by
  have d:∀(j:Nat) (q:bJ) (y:ah),ps[j]?=some q->cs[i+1+j]?=some y->q.kind=2->y.kind=2:=fun j q y A m=>w (j+1) q y (by simpa using A) (by rw[<- m];congr 1;omega)
  have e:∀q,q∈ps->qg q:=fun q B=>v q (ao _ B)
  unfold lI at h;split at h
  ·rename_i hh;split at h
   ·rename_i C;split at h
    ·rename_i x n;refine Xg k l ps (i+1) _ _ r e d ?_ h;have o:=v p aq;have z:=Q9 p b hh;obtain⟨_,_,_,_,_,_,s⟩:=VJ p o z b c k l;obtain⟨y,m,t⟩:=a.kind n;have xk:x.kind=2:=by rw[<- t];exact w 0 p y rfl m z
     obtain⟨u,D⟩:=a.val x (zG n);have f:=(AQ u).1 D;have g:lK (VE false (textOf p b c) x):=⟨u.name,by show (textOf p b c).length<=1048576;omega⟩;exact a.set n rfl rfl ⟨g,(AQ g).2 ((afB xk (Z9 u f).1 (WM s C)).trans f)⟩
    ·cases h
   ·cases h
  ·exact Xg k l ps (i+1) out full r e d a h
theorem aeP{l:List Int}{k:Nat}(h:yH l=(k:Int)):(k:Int)∈l:=by
 match l,h with
 | [],h=>exact absurd h (by show ¬(-1:Int)=_;omega)
 | [a],h=>have h:a=(k:Int):=h;rw[h];simp
 | _::_::_,h=>exact absurd h (by show ¬(-2:Int)=_;omega)
theorem U7(b:Str):∀(ps:List bJ) (i k:Nat),(k:Int)∈dS b i ps->∃p,ps[k-i]?=some p/\i<=k/\p.kind≠1
 | [],i,k,h=>by cases h
 | p::r,i,k,h=>by
  unfold dS at h;have next:(k:Int)∈dS b (i+1) r->∃q,(p::r)[k-i]?=some q/\i<=k/\q.kind≠1:=fun h=>by
   obtain⟨q,c,e,d⟩:=U7 b r (i+1) k h;refine⟨q,?_,by omega,d⟩;rw[show k-i=(k-(i+1))+1 by omega];simpa using c
  split at h
  ·rename_i a;rcases a8.1 h with h | h
   ·have:k=i:=by omega
    subst this;rw[zI]at a;exact⟨p,by simp,ar _,by simpa using a.1⟩
   ·exact next h
  ·exact next h
theorem ae0(cs:List ah)(a:cs.length<=1048576)(h:∀c,c∈cs->lK c):∀(i:Nat) (p:bJ) (c:ah),(partsOf cs)[i]?=some p->cs[i]?=some c->(p.kind=2->c.kind=2)/\(c.kind=1->p.kind=1):=by
 obtain⟨ps,_,b,_,_,_,d⟩:=DF cs a h;have e:partsOf cs=ps:=by unfold partsOf;rw[b];rfl
 rw[e];exact d
theorem alN{cs:List ah}{b c:Str}(u:cs.length<=1048576)(h:∀c,c∈cs->lK c)(H:b.length<=1048576)(z:c.length<=1048576)(a:(qF cs b c false).2=0):Vl cs (qF cs b c false).1.cells:=by
 unfold qF at a ⊢;cases d:vU cs with
 | false=>rw[d]at a;exact absurd (show (1:Int)=0 from a) (by omega)
 | true=>
 cases f:fJ b with
 | false=>rw[d,f]at a;exact absurd (show (1:Int)=0 from a) (by omega)
 | true=>
 cases g:fJ c with
 | false=>rw[d,f,g]at a;exact absurd (show (1:Int)=0 from a) (by omega)
 | true=>
 cases i:(b==c)with
 | true=>rw[d,f,g,i]at a;exact absurd (show (1:Int)=0 from a) (by omega)
 | false=>
 rw[d,f,g,i]at a;simp only[aE,aa]at a ⊢;cases hneg:decide (yH (dS b 0 (partsOf cs))<0)with
 | true=>rw[hneg]at a;exact absurd (show (2:Int)=0 from a) (by omega)
 | false=>
 rw[hneg]at a;simp only[aa]at a ⊢;cases l:(decide (((dS c 0 (partsOf cs)).length:Int)>0)||(partsOf cs).any (ES c))with
 | true=>rw[l]at a;exact absurd (show (3:Int)=0 from a) (by omega)
 | false=>
 rw[l]at a;simp only[aa]at a ⊢;cases m:(partsOf cs).any (Bq b c)with
 | true=>rw[m]at a;exact absurd (show (4:Int)=0 from a) (by omega)
 | false=>
 rw[m]at a;simp only[aa]at a ⊢;obtain⟨_,_,A,B,_⟩:=Qj cs u h;have hlen:=B d;obtain⟨_,o⟩:=vS h d;have C:Vl cs cs:=⟨rfl,rfl,fun x n=>⟨h x n,(o x n).1⟩⟩;obtain⟨k,v,D⟩:=abJ (partsOf cs) b (by have:=of_decide_eq_false hneg;omega);rw[v,aw]at a ⊢;obtain⟨q,w,_,s⟩:=U7 b (partsOf cs) 0 k (aeP v);rw[Nat.sub_zero]at w;obtain⟨x,n⟩:∃x,cs[k]?=some x:=⟨_,zF (by omega)⟩;have rel:=ae0 cs u h;have E:=ajl (b:=b) C n (fun e=>s ((rel k q x w n).2 e)) g z;cases t:lI false b c 0 (partsOf cs) (pJ c cs k) false with
 | none=>rw[t]at a;exact absurd (show (5:Int)=0 from a) (by omega)
 | some r=>
  have:=Xg (cs:=cs) (by omega) (by omega) (partsOf cs) 0 _ _ r A (fun j p y F G=>(rel j p y F (by simpa using G)).1) E t;rw[t]at a;obtain⟨out,full⟩:=r;cases full with
  | true=>exact absurd (show (6:Int)=0 from a) (by omega)
  | false=>exact this
theorem ajx{cs:List ah}{b c:Str}(h:Nb cs)(n:Fit B20 (.base .notebook) ⟨kept cs b c⟩)(q:b.length<=1048576)(r:c.length<=1048576)(s:(qF (cs.map gG) b c false).2=0):Nb (kept cs b c):=by
 obtain⟨t,u⟩:=uF h.fit;have i:=Rz t;have f:=alN (cs:=cs.map gG) (by simpa using u) (Ku i) q r s;have hlen:=f.len;rw[List.length_map]at hlen;have hids:=f.ids;generalize v:(qF (cs.map gG) b c false).1.cells=o at f hlen hids;have w:kept cs b c=oW cs o:=by unfold kept;rw[v]
 have p:=Ll (cs:=cs) (o:=o) (by omega);have j:(oW cs o).length=cs.length:=by unfold oW;rw[List.length_zipWith];omega
 rw[w]at n ⊢;refine⟨n,by rw[j];exact h.len,fun x A=>?_,?_⟩
 ·obtain⟨k,d⟩:=List.mem_iff_getElem?.1 A;rw[p]at d;cases a:o[k]? with
  | none=>rw[a]at d;cases d
  | some y=>
   have m:=(zC.1 a).1;obtain⟨z,g⟩:∃z,cs[k]?=some z:=⟨_,zF (by omega)⟩;rw[a,g]at d;have d:BF z y=x:=aM d;obtain⟨yL,yv⟩:=f.val y (zG a);have zb:=y9.1 (h.val z (zG g));have yb:=y9.1 ((aj6 yL).trans yv);rw[<- d];exact y9.2 ⟨zb.1,yb.2⟩
 ·have e:ids (oW cs o)=ids cs:=by
   unfold ids;refine List.ext_getElem? fun k=>?_
   rw[List.getElem?_map,p,List.getElem?_map];have:=congrArg (fun l=>l[k]?) hids;simp only[List.getElem?_map]at this;cases a:o[k]? with
   | none=>
    rw[zJ (by have:=List.getElem?_eq_none_iff.1 a;omega)];rfl
   | some y=>
    rw[a]at this;have m:=(zC.1 a).1;obtain⟨z,g⟩:∃z,cs[k]?=some z:=⟨_,zF (by omega)⟩;rw[g]at this ⊢;exact this
  rw[e];exact h.nd
theorem Nb.ver{s:List ah}(h:Nb s){m:Nat}{x:ah}(b:s[m]?=some x){V:Int}(c:1<=V/\V<=999)(d:Fit B20 (.base .notebook) ⟨s.set m (ah.mk x.id V x.kind x.name x.code x.n)⟩):Nb (s.set m (ah.mk x.id V x.kind x.name x.code x.n)) where
 fit:=d
 len:=by rw[List.length_set];exact h.len
 val:=fun y a=>by
  rcases List.mem_or_eq_of_mem_set a with a | rfl
  ·exact h.val y a
  ·exact y9.2 ⟨c,(y9.1 (h.val x (zG b))).2⟩
 nd:=by
  have e:ids (s.set m (ah.mk x.id V x.kind x.name x.code x.n))=ids s:=adI b rfl;rw[e];exact h.nd
end Go.Proofs.YtngjomkjlonfpaaGreat
