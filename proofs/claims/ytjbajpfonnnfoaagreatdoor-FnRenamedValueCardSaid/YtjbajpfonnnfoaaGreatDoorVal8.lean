import Derived.Test.YtjbajpfonnnfoaaGreatDoorVal2
import Derived.Lib.SplitLaws
import Derived.Test.YtjbajpfonnnfoaaGreatDoorLink1
set_option linter.unusedSimpArgs false
set_option linter.unusedVariables false
/- Plain laws: lists that are built; scopes. -/
namespace Go.Proofs.YtjbajpfonnnfoaaGreatDoor
open Go.Abs Go.Proofs
theorem ah6{ρ:Type}(x:af)(A B:ρ):(bif (x.kind != 1)then bif (x.kind != 2)then bif (x.kind != 3)then A else B else B else B)=bif elB x then B else A:=by
 unfold elB;simp only[bne];cases (x.kind==1)<;>cases (x.kind==2)<;>cases (x.kind==3)<;>rfl
theorem agn{P:List aj}(xs:List af)(d:(xs.length:Int)<=1048576)(h:∀x,x∈xs->VOk P x):Al P (jE xs) (iH xs):=by
 have hf:cu B20 (.list (.base .val) xs):=dB d λx a=>(h x a).fit
 unfold jE iH;rw[Gi xs hf,ES xs hf,zA,zA];cases g:opE xs with
 | some e=>
  obtain⟨x,y,z⟩:=FH (P:=P) _ 0 g;refine⟨e,?_,?_,x,y⟩
  ·simp only[opR,ac,aC,fG e x.fit,zA]
  ·simp only[opR,ac,aC,iG e x.fit,zA]
 | none=>
  have hv:=Aq _ 0 g;simp only[opR,aa];refine jS (λ(_:Unit) (i:Nat)=>(xs,(0:Int),(0:Int),(0:Int),([]:Str),([]:List af),([]:List Str),([]:List aB),xs,(xs.length:Int),(i:Int)))
   (λ(_:Unit) (i:Nat)=>(xs,(0:Int),(0:Int),(0:Int),([]:Str),([]:List af),([]:List Str),([]:List aB),(i:Int))) xs
   (λi _=>∀x,x∈xs.take i->elB x=true) _ (λi x s a c=>?_) (λs c=>?_) () (λx a=>by simp at a)
  ·simp only[dD a,ac,aP,a,zA,aC,aer,kz,jZ,dY a d,ah6];cases hk:elB x with
   | false=>exact .inr ⟨dM 4,rfl,rfl,bG (by omega) (by omega)⟩
   | true=>
    refine .inl ⟨(),rfl,rfl,λy b=>?_⟩;rw[take_snoc a]at b;rcases List.mem_append.1 b with b | b
    ·exact c y b
    ·rw[amd]at b;rw[b];exact hk
  ·rw[List.take_length]at c;simp only[bM,aa,Vs xs hf,Ui xs hf,zA,aC,kz,jZ];refine abz ?_;have f:=IK (P:=P) d h;rw[abm _ f.fit,aaV _ f.fit];simp only[zA];by_cases j:(xs.length:Int)>8
   ·rw[aq j];exact⟨dM 6,rfl,rfl,bG (by omega) (by omega)⟩
   ·rw[ae j];by_cases k:dep (nZ xs)>3
    ·rw[aq k];exact⟨dM 6,rfl,rfl,bG (by omega) (by omega)⟩
    ·rw[ae k];refine⟨nZ xs,rfl,rfl,f,?_⟩;rw[abg,(vN xs).2 λx a=>⟨c x a,(hv x a).1⟩,aq (by omega)];have l:dep (nZ xs)=w64 (oL xs 0+1):=Bh _;rw[<- l,aq (by omega)];rfl
def nI(xs:List au)(s:Str):Nat->af
 | 0=>dM 1
 | n+1=>match xs[n]? with
  | some b=>bif b.name==s then b.value else nI xs s n
  | none=>dM 1
def y7(xs:List au)(s:Str):af:=nI xs s xs.length
structure adu(P:List aj)(xs:List au):Prop where
 len:(xs.length:Int)<=1073741824
 val:∀b,b∈xs->VOk P b.value
theorem afM{P:List aj}(xs:List au)(s:Str)(h:adu P xs):KX xs s=some (y7 xs s):=by
 have k:=h.len;unfold KX y7;have key:∀(g:_) (pk:Int->(List au)×Str×Int×Int×Int×Str×(List af)×(List Str)×(List aB)×Int) (c:∀(n:Nat) (b:au),xs[n]?=some b->g (pk (n:Int))=bif b.name==s then some (.inr b.value)else some (.inl (pk ((n:Int)-1)))) (e:g (pk (-1))=some (.inr (dM 1))) (n:Nat),n<=xs.length->aN g (pk ((n:Int)-1))=some (nI xs s n):=by
  intro g pk c e n;induction n with
  | zero=>
   intro _;rw[show ((0:Nat):Int)-1 = -1 from rfl,aX,e];rfl
  | succ n ih=>
   intro j;have f:xs[n]?=some xs[n]:=zF (by omega);rw[show ((n+1:Nat):Int)-1=(n:Int) by omega,aX,c n _ f];show _=some (match xs[n]? with | some b=>bif b.name==s then b.value else nI xs s n | none=>dM 1)
   rw[f];simp only;cases (xs[n].name==s)with
   | true=>rfl
   | false=>exact ih (by omega)
 rw[show w64 ((xs.length:Int)-1)=(xs.length:Int)-1 from bQ (by omega) (by omega)];refine key _ (λi=>(xs,s,0,0,0,[],[],[],[],i)) (λn b a=>?_) ?_ xs.length (aD _)
 ·have j:=(zC.1 a).1;have d:decide ((n:Int)>=0)=true:=by simp
  simp only[d,ac,aP,a,zA,aC,fG _ (h.val b (zG a)).fit,show w64 ((n:Int)-1)=(n:Int)-1 from bQ (by omega) (by omega)]
 ·rfl
theorem aed{P:List aj}(xs:List au)(s:Str)(h:adu P xs):KC xs s=some (y7 xs s):=by
 have k:=h.len;unfold KC y7;have key:∀(g:_) (pk:Int->(List au)×Str×Int×Int×Int×Str×(List af)×(List Str)×(List aB)×Int) (c:∀(n:Nat) (b:au),xs[n]?=some b->g (pk (n:Int))=bif b.name==s then some (.inr b.value)else some (.inl (pk ((n:Int)-1)))) (e:g (pk (-1))=some (.inr (dM 1))) (n:Nat),n<=xs.length->aN g (pk ((n:Int)-1))=some (nI xs s n):=by
  intro g pk c e n;induction n with
  | zero=>
   intro _;rw[show ((0:Nat):Int)-1 = -1 from rfl,aX,e];rfl
  | succ n ih=>
   intro j;have f:xs[n]?=some xs[n]:=zF (by omega);rw[show ((n+1:Nat):Int)-1=(n:Int) by omega,aX,c n _ f];show _=some (match xs[n]? with | some b=>bif b.name==s then b.value else nI xs s n | none=>dM 1)
   rw[f];simp only;cases (xs[n].name==s)with
   | true=>rfl
   | false=>exact ih (by omega)
 rw[show w64 ((xs.length:Int)-1)=(xs.length:Int)-1 from bQ (by omega) (by omega)];refine key _ (λi=>(xs,s,0,0,0,[],[],[],[],i)) (λn b a=>?_) ?_ xs.length (aD _)
 ·have j:=(zC.1 a).1;have d:decide ((n:Int)>=0)=true:=by simp
  simp only[d,ac,aP,a,zA,aC,iG _ (h.val b (zG a)).fit,show w64 ((n:Int)-1)=(n:Int)-1 from bQ (by omega) (by omega)]
 ·rfl
theorem Xv{P:List aj}(xs:List au)(s:Str)(h:adu P xs):∀n,VOk P (nI xs s n)
 | 0=>(bG (by omega) (by omega)).1
 | n+1=>by
  unfold nI;cases a:xs[n]? with
  | none=>exact (bG (by omega) (by omega)).1
  | some b=>
   simp only;cases (b.name==s)with
   | true=>exact h.val b (zG a)
   | false=>exact Xv xs s h n
theorem up30{α:Type}{xs:List α}{i:Nat}{x:α}(h:xs[i]?=some x)(a:(xs.length:Int)<=1073741824):w64 ((i:Int)+1)=((i+1:Nat):Int):=by
 have:=(zC.1 h).1;rw[bQ (by omega) (by omega)];rfl
theorem O0{P:List aj}(xs:List au)(s:Str)(v:af)(h:adu P xs)(hv:VOk P v):XV xs s v=some (xs++[au.mk s v]):=by
 have d:=h.len;unfold XV;refine yP (λ(o:List au) (i:Nat)=>((s,v.kind,v.n,v.step,v.text,v.list,v.columns,v.rows,o,xs,(xs.length:Int),(i:Int)):Str×Int×Int×Int×Str×(List af)×(List Str)×(List aB)×(List au)×(List au)×Int×Int)) xs (some (xs++[au.mk s v])) (λi y a hi=>?_) ?_
 ·have:=(zC.1 a).1;have b:gd ((xs.take i).length+[au.mk y.name y.value].length)=some ():=bI (by rw[hi];simp;omega);simp only[dD a,ac,aP,a,aC,zA,fG _ (h.val y (zG a)).fit,b,up30 a d]
 ·have b:gd (xs.length+[au.mk s v].length)=some ():=bI (by simp;omega);have c:(af.mk v.kind v.n v.step v.text v.list v.columns v.rows)=v:=by cases v;rfl
  simp only[bM,aa,c,fG v hv.fit,zA,aC,b]
theorem WU{P:List aj}(xs:List au)(s:Str)(v:af)(h:adu P xs)(hv:VOk P v):WV xs s v=some (xs++[au.mk s v]):=by
 have d:=h.len;unfold WV;refine yP (λ(o:List au) (i:Nat)=>((xs,s,v.kind,v.n,v.step,v.text,v.list,v.columns,v.rows,o,(i:Int)):(List au)×Str×Int×Int×Int×Str×(List af)×(List Str)×(List aB)×(List au)×Int)) xs (some (xs++[au.mk s v])) (λi y a hi=>?_) ?_
 ·have:=(zC.1 a).1;have b:gd ((xs.take i).length+[au.mk y.name y.value].length)=some ():=bI (by rw[hi];simp;omega);simp only[dD a,ac,aP,a,aC,zA,iG _ (h.val y (zG a)).fit,b,up30 a d]
 ·have b:gd (xs.length+[au.mk s v].length)=some ():=bI (by simp;omega);have c:(af.mk v.kind v.n v.step v.text v.list v.columns v.rows)=v:=by cases v;rfl
  simp only[bM,aa,c,iG v hv.fit,zA,aC,b]
def Hl(v:af):Bool:=(v.kind==1)&&(v.n != 0)
theorem afI(v:af):KZ v=some (Hl v):=by
 unfold KZ Hl;cases (v.kind==1)<;>rfl
theorem ad9(v:af):KG v=some (Hl v):=by
 unfold KG Hl;cases (v.kind==1)<;>rfl
theorem alg(a:Str)(b k:Nat)(c:b<=k)(d:k<=a.length):eff.cutL a (some (b:Int)) (some (k:Int))=some ((a.take k).drop b):=by
 unfold eff.cutL;simp only[Option.getD_some];rw[if_pos]
 ·simp
 ·omega
theorem adp(s:Str):bytesOf (NU s)=s:=by
 unfold bytesOf NU;rw[List.map_map];refine (List.map_congr_left λc _=>?_).trans (List.map_id s);show UInt8.ofNat ((c.toNat:Int)).toNat=c
 rw[aE];exact UInt8.ofNat_toNat
theorem abY{s sub:Str}{i:Nat}(hsub:sub≠[])(h:Go.Lib.NoOcc s sub i)(hi:i<=s.length)(b:Go.Lib.occAt s sub i=true):Go.Lib.split s sub=s.take i::Go.Lib.split (s.drop (i+sub.length)) sub:=by
 have a:=Go.Lib.index_hit h hi b;have hc:=Go.Lib.count_hit hsub a;unfold Go.Lib.split;rw[hc,Nat.add_comm 1];show (if Go.Lib.index s sub == -1 then [s]else s.take ((Go.Lib.index s sub).toNat+0)::Go.Lib.splitK sub 0 _ (s.drop ((Go.Lib.index s sub).toNat+sub.length)))=_
 rw[a];have e:((i:Int) == -1)=false:=by simp
 rw[e];simp
theorem YT{s sub:Str}(h:∀j,j<=s.length->Go.Lib.occAt s sub j=false):Go.Lib.split s sub=[s]:=by
 have a:=Go.Lib.index_none h;have hc:=Go.Lib.count_miss a;unfold Go.Lib.split;rw[hc];rfl
theorem IE(s:Str)(c:UInt8)(i:Nat):Go.Lib.occAt s [c] i=(s[i]? == some c):=by
 unfold Go.Lib.occAt;cases h:s.drop i with
 | nil=>
  have:s[i]?=none:=zJ (List.drop_eq_nil_iff.1 h);rw[this];rfl
 | cons x r=>
  have:s[i]?=some x:=by
   have:=congrArg (·[0]?) h;simpa using this
  rw[this];show ((c==x)&&true)=(x==c)
  rw[Bool.and_true];by_cases e:c=x
  ·subst e;rfl
  ·have a:(c==x)=false:=by simpa using e
   have b:(x==c)=false:=by simpa using λh=>e h.symm
   rw[a,b]
theorem Ea(s sub:Str)(f j:Nat):Go.Lib.occAt (s.drop f) sub j=Go.Lib.occAt s sub (f+j):=by
 unfold Go.Lib.occAt;rw[List.drop_drop]
abbrev SpX:=Str×Int×(List Str)×Int×Int
noncomputable def uT:SpX->Option (SpX⊕List Str):=(λ(a:Str×Int×(List Str)×Int×Int)=>
      bif (decide (a.2.2.2.2<=(a.1.length:Int)))then
       bif (a.2.2.2.2==(a.1.length:Int))then
        (eff.cutL a.1 (some a.2.2.2.1) (some a.2.2.2.2)).bind λb=>
        (gd (a.2.2.1.length+([b]:List Str).length)).bind λ_=>
        some (.inl (a.1,a.2.1,a.2.2.1++([b]:List Str),w64 (a.2.2.2.2+1),w64 (a.2.2.2.2+1)))
       else
        (idx a.1 a.2.2.2.2).bind λc3=>
        bif ((c3.toNat:Int)==a.2.1)then
         (eff.cutL a.1 (some a.2.2.2.1) (some a.2.2.2.2)).bind λc=>
         (gd (a.2.2.1.length+([c]:List Str).length)).bind λ_=>
         some (.inl (a.1,a.2.1,a.2.2.1++([c]:List Str),w64 (a.2.2.2.2+1),w64 (a.2.2.2.2+1)))
        else
         some (.inl (a.1,a.2.1,a.2.2.1,a.2.2.2.1,w64 (a.2.2.2.2+1)))
      else
       some (.inr (a.2.2.1))
  )
theorem Rx(s:Str)(c:UInt8)(w:s.length<=1048576):oq s (c.toNat:Int)=some (Go.Lib.split s [c]):=by
 have key:∀(k i f:Nat) (out:List Str),s.length+1=i+k->f<=i->i<=s.length->out.length<=i->(∀j,f<=j->j<i->Go.Lib.occAt s [c] j=false) ->
   aN uT (s,(c.toNat:Int),out,(f:Int),(i:Int))=some (out++Go.Lib.split (s.drop f) [c]):=by
  intro k;induction k with
  | zero=>intro i f out l _ t;omega
  | succ k ih=>
   intro i f out hk hf hi y a;have m:decide ((i:Int)<=(s.length:Int))=true:=by simp;omega
   have n:w64 ((i:Int)+1)=((i+1:Nat):Int):=by rw[bQ (by omega) (by omega)];omega
   have u:∀x:Str,gd (out.length+([x]:List Str).length)=some ():=λx=>bI (by simp;omega)
   have hcut:=alg s f i hf hi;have hNo:Go.Lib.NoOcc (s.drop f) [c] (i-f):=λj o=>by rw[Ea];exact a (f+j) (by omega) (by omega)
   rw[aX];by_cases v:i=s.length
   ·subst v;have e:((s.length:Int)==(s.length:Int))=true:=by simp
    have b:uT (s,(c.toNat:Int),out,(f:Int),(s.length:Int))=some (.inl (s,(c.toNat:Int),out++[(s.take s.length).drop f],((s.length+1:Nat):Int),((s.length+1:Nat):Int))):=by
     simp only[uT,m,e,ac,hcut,zA,u,n]
    rw[b];simp only;rw[aX];have d:decide (((s.length+1:Nat):Int)<=(s.length:Int))=false:=by simp;omega
    have p:uT (s,(c.toNat:Int),out++[(s.take s.length).drop f],((s.length+1:Nat):Int),((s.length+1:Nat):Int))=some (.inr (out++[(s.take s.length).drop f])):=by
     simp only[uT,d,aa]
    rw[p];simp only;rw[YT (s:=s.drop f) (sub:=[c]) λj o=>?_,List.take_length];rw[Ea];by_cases q:f+j<s.length
    ·exact a (f+j) (by omega) q
    ·rw[IE,zJ (by omega)];rfl
   ·have r:i<s.length:=by omega
    have e:((i:Int)==(s.length:Int))=false:=by simp;omega
    have g:=zF r;by_cases hc:s[i]=c
    ·have d:((s[i].toNat:Int)==(c.toNat:Int))=true:=by rw[hc];simp
     have b:uT (s,(c.toNat:Int),out,(f:Int),(i:Int))=some (.inl (s,(c.toNat:Int),out++[(s.take i).drop f],((i+1:Nat):Int),((i+1:Nat):Int))):=by
      simp only[uT,m,e,d,ac,aa,aP,g,hcut,zA,u,n]
     rw[b];simp only;rw[ih (i+1) (i+1) (out++[(s.take i).drop f]) (by omega) (aD _) (by omega) (by simp;omega) (λj l t=>by omega)];rw[abY (s:=s.drop f) (sub:=[c]) (i:=i-f) (by simp) hNo (by simp;omega) (by rw[Ea,IE,show f+(i-f)=i by omega,g,hc];simp)];rw[List.drop_drop,List.drop_take,show f+(i-f+[c].length)=i+1 by simp;omega];simp
    ·have d:((s[i].toNat:Int)==(c.toNat:Int))=false:=by
      have:¬s[i].toNat=c.toNat:=λh=>hc (UInt8.toNat_inj.1 h)
      simp;omega
     have b:uT (s,(c.toNat:Int),out,(f:Int),(i:Int))=some (.inl (s,(c.toNat:Int),out,(f:Int),((i+1:Nat):Int))):=by
      simp only[uT,m,e,d,ac,aa,aP,g,zA,n]
     rw[b];simp only;refine ih (i+1) f out (by omega) (by omega) (by omega) (by omega) λj l t=>?_
     by_cases o:j<i
     ·exact a j l o
     ·have:j=i:=by omega
      subst this;rw[IE,g];simpa using hc
 have:=key (s.length+1) 0 0 [] (by omega) (aD _) (Nat.zero_le _) (Nat.zero_le _) (λj _ h=>by omega);show aN uT (s,(c.toNat:Int),[],0,0)=_
 simpa using this
theorem Sl(s:Str)(c:UInt8)(a:s.length<=1048576):mD s (c.toNat:Int)=some (Go.Lib.split s [c]):=by
 unfold mD wO;have e:bytesOf [(c.toNat:Int)]=[c]:=adp [c];rw[e,if_pos ⟨by omega,by simp⟩];rfl
theorem adY(s sub:Str):Go.Lib.split s sub≠[]:=by
 unfold Go.Lib.split;cases Go.Lib.count s sub with
 | zero=>simp[Go.Lib.splitK]
 | succ k=>
  unfold Go.Lib.splitK;split<;>simp
theorem Rq(s sub:Str):(Go.Lib.split s sub).length<=s.length+2/\∀p,p∈Go.Lib.split s sub->p.length<=s.length:=by
 have key:∀(k:Nat) (s:Str),(Go.Lib.splitK sub 0 k s).length<=k+1/\∀p,p∈Go.Lib.splitK sub 0 k s->p.length<=s.length:=by
  intro k;induction k with
  | zero=>intro s;exact⟨aD _,λp hp=>by rw[List.mem_singleton.1 hp];exact aD _⟩
  | succ k ih=>
   intro s;unfold Go.Lib.splitK;split
   ·exact⟨by simp,λp hp=>by rw[List.mem_singleton.1 hp];exact aD _⟩
   ·obtain⟨b,a⟩:=ih (s.drop ((Go.Lib.index s sub).toNat+sub.length));refine⟨by simp only[amr];omega,λp hp=>?_⟩;rcases bh.1 hp with rfl | hp
    ·rw[bc];omega
    ·have:=a p hp;rw[amx]at this;omega
 have hc:=Go.Lib.count_le s sub;obtain⟨b,a⟩:=key (Go.Lib.count s sub) s;exact⟨by unfold Go.Lib.split;omega,a⟩
theorem Xd(s:Str):∀(xs:List Str) (i:Nat),(gq (λi (x:Str)=>bif x==s then some (i:Int)else none) i xs).getD (-1)=posOf s i xs
 | [],_=>rfl
 | x::r,i=>by
  unfold gq posOf;cases h:(x==s)with
  | true=>rfl
  | false=>exact Xd s r (i+1)
theorem WN(xs:List Str)(s:Str)(b:(xs.length:Int)<=1048576):Fh xs s=some (posOf s 0 xs):=by
 unfold Fh;rw[<- Xd];refine qM (λi=>((xs,s,(i:Int)):(List Str)×Str×Int)) xs _ _ (λi x a=>?_) ?_
 ·simp only[dD a,ac,aP,a,zA,dY a b];cases (x==s)<;>rfl
 ·simp only[bM,aa]
theorem Es(v:af)(s:Str)(a:(v.columns.length:Int)<=1048576):dL v s=some (posOf s 0 v.columns):=by
 unfold dL;rw[uH _ _ (by omega)];rfl
theorem DV(v:af)(s:Str)(a:(v.columns.length:Int)<=1048576):dW v s=some (posOf s 0 v.columns):=by
 unfold dW;rw[WN _ _ a];rfl
theorem Jt(s:Str):∀(xs:List Str) (i:Nat),posOf s i xs = -1\/∃n:Nat,n<xs.length/\posOf s i xs=((i+n:Nat):Int)/\xs[n]?=some s
 | [],_=>.inl rfl
 | x::r,i=>by
  unfold posOf;by_cases h:(x==s)=true
  ·rw[if_pos h];exact .inr ⟨0,by simp,rfl,by simpa using h⟩
  ·rw[if_neg h];rcases Jt s r (i+1)with a | ⟨n,d,b,c⟩
   ·exact .inl a
   ·exact .inr ⟨n+1,by simp;omega,by rw[b];omega,by simpa using c⟩
theorem jM(s:Str)(xs:List Str):posOf s 0 xs = -1\/∃n:Nat,n<xs.length/\posOf s 0 xs=(n:Int)/\xs[n]?=some s:=by
 rcases Jt s xs 0 with h | ⟨n,a,b,c⟩
 ·exact .inl h
 ·exact .inr ⟨n,a,by rw[b,amw],c⟩
structure TbF(c:List Str)(r:List aB):Prop where
 cl:clB c=true
 c4:c.length<=4
 len:(r.length:Int)<=12
 row:∀x,x∈r->x.cells.length=c.length/\(∀n,n∈x.cells->nB n=true)/\PK x.orig=true
theorem Dx{c:List Str}{r:List aB}(h:tbB c r=true):TbF c r:=by
 unfold tbB at h;simp only[zI,decide_eq_true_eq,amf]at h;obtain⟨b,d,e⟩:=h;have a:=b;unfold clB at a;simp only[zI,decide_eq_true_eq]at a;refine⟨b,by omega,d,λx f=>?_⟩;have:=e x f;unfold rwB at this;simp only[zI,beq_iff_eq,amf]at this;exact⟨by omega,this.2.1,this.2.2⟩
theorem Rk{c:List Str}{r:List aB}(d:clB c=true)(e:(r.length:Int)<=12)(a:∀x,x∈r->x.cells.length=c.length/\(∀n,n∈x.cells->nB n=true)/\PK x.orig=true):tbB c r=true:=by
 unfold tbB;simp only[zI,decide_eq_true_eq,amf];refine⟨d,e,λx b=>?_⟩;unfold rwB;simp only[zI,beq_iff_eq,amf];exact⟨by rw[(a x b).1],(a x b).2.1,(a x b).2.2⟩
structure RwOk(P:List aj)(r:aB):Prop where
 fit:Fit B20 (.base .row) r
 org:∀o,o∈r.orig->o∈P
theorem VOk.row{P:List aj}{v:af}(h:VOk P v){x:aB}(a:x∈v.rows):RwOk P x:=by
 obtain⟨f,o⟩:=h;obtain⟨_,_,_,_,_,_,b⟩:=dQ.1 f;cases o with
 | mk c _=>exact⟨b.dG x a,c x a⟩
theorem Hq{P:List aj}{c:List Str}{r:List aB}(hc:cu B20 (.list (.base .str) c))(b:(r.length:Int)<=1048576)(h:∀x,x∈r->RwOk P x):VOk P (tK c r):=
 ⟨dQ.2 ⟨og (dN (by simp[tK]) (by simp[tK])),og (dN (by simp[tK]) (by simp[tK])),og (dN (by simp[tK]) (by simp[tK])),qh,pU,hc,dB b λx a=>(h x a).fit⟩,.mk (λx a=>(h x a).org) λx a=>by cases a⟩
theorem Yl(n:Nat):decide ((n:Int)<0)=false:=by simp
theorem adl{P:List aj}(a b:af)(k:VOk P a)(l:VOk P b):Al P (wZ a b) (wF a b):=by
 unfold wZ wF;rw[aC,aC];refine qJ [2,5] (VH k.fit l.fit) rfl (λe=>eF e) (λe=>eF e) λhv hk=>?_
 have o:b.kind=5:=hk 1 b 5 rfl rfl;obtain⟨u,p⟩:=tY (hv b ab4) o;have tb:=Dx p;have g:(b.columns.length:Int)<=1048576:=by have:=tb.c4;omega
 have q:=tb.len;simp only[zV,aa,Es b _ g,DV b _ g,zA,kz,jZ,aC,OH,MB];rcases jM a.text b.columns with hp | ⟨n,v,hp,_⟩
 ·rw[hp];exact⟨dM 7,rfl,rfl,bG (by omega) (by omega)⟩
 rw[hp,Yl n];simp only[aa];by_cases j:(b.rows.length:Int)>8
 ·rw[aq j];exact⟨dM 6,rfl,rfl,bG (by omega) (by omega)⟩
 rw[ae j];simp only[aa];refine jS (λ(s:List af) (i:Nat)=>((0:Int),(0:Int),(0:Int),([]:Str),([]:List af),([]:List Str),([]:List aB),(n:Int),(3:Int),(0:Int),(0:Int),([]:Str),s,([]:List Str),([]:List aB),b.rows,(b.rows.length:Int),(i:Int)))
  (λ(s:List af) (i:Nat)=>(b.kind,b.n,b.step,b.text,b.list,b.columns,b.rows,(0:Int),(0:Int),(0:Int),([]:Str),([]:List af),([]:List Str),([]:List aB),(n:Int),(3:Int),(0:Int),(0:Int),([]:Str),s,([]:List Str),([]:List aB),(i:Int)))
  b.rows (λi s=>s.length=i/\∀x,x∈s->∃m,x=mr m/\nB m=true) _ (λi x s c d=>?_) (λs d=>?_) [] ⟨rfl,λx c=>by cases c⟩
 ·obtain⟨w,r,_⟩:=tb.row x (zG c);have hi:=(zC.1 c).1;have hc:x.cells[n]?=some x.cells[n]:=zF (by omega);have t:gd (s.length+[mr x.cells[n]].length)=some ():=bI (by rw[d.1];simp;omega);simp only[dD c,ac,aP,c,hc,zA,dY c (by omega),t];refine .inl ⟨s++[mr x.cells[n]],rfl,rfl,by simp[d.1],λy f=>?_⟩;rcases List.mem_append.1 f with f | f
  ·exact d.2 y f
  ·rw[amd]at f;exact⟨_,f,r _ (zG hc)⟩
 ·refine⟨nZ s,by simp only[bM,aa];rfl,by simp only[bM,aa];rfl,IK (by omega) λx c=>?_,(uz s).2 ⟨λx c=>?_,by omega⟩⟩
  ·obtain⟨m,rfl,h⟩:=d.2 x c;exact (iW h).1
  ·obtain⟨m,rfl,h⟩:=d.2 x c;exact⟨rfl,(iW (P:=P) h).2,by rw[Bh];simp only[mr,oL];decide⟩
theorem adz{P:List aj}(a b c:af)(l:VOk P a)(m:VOk P b)(hc:VOk P c):Al P (pW a b c) (pz a b c):=by
 unfold pW pz;rw[aC,aC,aC];refine qJ [2,1,5] (ak5 l.fit m.fit hc.fit) rfl (λe=>eF e) (λe=>eF e) λhv hk=>?_
 have o:c.kind=5:=hk 2 c 5 rfl rfl;obtain⟨u,p⟩:=tY (hv c (by simp)) o;have tb:=Dx p;have h:(c.columns.length:Int)<=1048576:=by have:=tb.c4;omega
 have q:=tb.len;simp only[zV,aa,Es c _ h,DV c _ h,zA,kz,jZ,aC];rcases jM a.text c.columns with hp | ⟨n,v,hp,_⟩
 ·rw[hp];exact⟨dM 7,rfl,rfl,bG (by omega) (by omega)⟩
 rw[hp,Yl n];simp only[aa,bI (show 0+c.columns.length<=34359738368 by omega),zA];refine jS (λ(s:List aB) (i:Nat)=>(b.kind,b.n,b.step,b.text,b.list,b.columns,b.rows,(0:Int),(0:Int),(0:Int),([]:Str),([]:List af),([]:List Str),([]:List aB),(n:Int),(5:Int),(0:Int),(0:Int),([]:Str),([]:List af),[]++c.columns,s,c.rows,(c.rows.length:Int),(i:Int)))
  (λ(s:List aB) (i:Nat)=>(b.kind,b.n,b.step,b.text,b.list,b.columns,b.rows,c.kind,c.n,c.step,c.text,c.list,c.columns,c.rows,(0:Int),(0:Int),(0:Int),([]:Str),([]:List af),([]:List Str),([]:List aB),(n:Int),(5:Int),(0:Int),(0:Int),([]:Str),([]:List af),[]++c.columns,s,(i:Int)))
  c.rows (λi s=>s.length<=i/\∀x,x∈s->x∈c.rows) _ (λi x s d f=>?_) (λs f=>?_) [] ⟨aD _,λx d=>by cases d⟩
 ·have j:=zG d;obtain⟨w,z,_⟩:=tb.row x j;have hi:=(zC.1 d).1;have k:x.cells[n]?=some x.cells[n]:=zF (by omega);have r:gd (s.length+[x].length)=some ():=bI (by have:=f.1;simp;omega);simp only[dD d,ac,aP,d,k,zA,dY d (by omega),JB x (hc.row j).fit,Ry x (hc.row j).fit,r];cases (x.cells[n]==b.n)with
  | false=>exact .inl ⟨s,rfl,rfl,by omega,f.2⟩
  | true=>
   refine .inl ⟨s++[x],rfl,rfl,by have:=f.1;simp;omega,λy g=>?_⟩;rcases List.mem_append.1 g with g | g
   ·exact f.2 y g
   ·rw[amd]at g;rw[g];exact j
 ·have t:=(dQ.1 hc.fit).2.2.2.2.2.1;refine⟨tK c.columns s,by simp only[bM,aa];rfl,by simp only[bM,aa];rfl,Hq t (by have:=f.1;omega) λx d=>hc.row (f.2 x d),?_⟩;rw[BA];exact Rk tb.cl (by have:=f.1;omega) λx d=>tb.row x (f.2 x d)
theorem VG{α β X ρ:Type}{g:X->Option (X⊕ρ)}(pk:List β->Nat->X)(xs:List α)(p:α->Bool)(f:α->β)(no:List β->ρ)(yes:ρ)
  (c:∀i x,xs[i]?=some x->((xs.take i).map f).length=i->g (pk ((xs.take i).map f) i)=bif p x then some (.inl (pk ((xs.take i).map f++[f x]) (i+1)))else some (.inr (no ((xs.take i).map f))))
  (hf:g (pk (xs.map f) xs.length)=some (.inr yes)):∃l,aN g (pk [] 0)=some (bif xs.all p then yes else no l):=by
 have key:∀(k i:Nat),xs.length=i+k->∃l,aN g (pk ((xs.take i).map f) i)=some (bif (xs.drop i).all p then yes else no l):=by
  intro k;induction k with
  | zero=>
   intro i hi;have:i=xs.length:=by omega
   subst this;rw[List.take_length,List.drop_length,aX,hf];exact⟨[],rfl⟩
  | succ k ih=>
   intro i hi;have a:i<xs.length:=by omega
   have b:xs[i]?=some xs[i]:=zF a;rw[aX,c i _ b (by rw[amv,bc];omega),amg a,List.all_cons];cases p xs[i]with
   | false=>exact⟨_,rfl⟩
   | true=>
    simp only[ac,amy];have:(xs.take i).map f++[f xs[i]]=(xs.take (i+1)).map f:=by rw[take_snoc b,List.map_append];rfl
    rw[this];exact ih (i+1) (by omega)
 exact key xs.length 0 (by omega)
theorem via{σ X Y ρ:Type}{A:Option (X⊕ρ)}{B:Option (Y⊕ρ)}(q:Bool)(s':σ)(e:ρ){b:σ->X}{c:σ->Y}{J:σ->Prop}{R:ρ->Prop}
  (a:∃_:List Int,A=some (bif q then .inl (b s')else .inr e)) (d:B=some (bif q then .inl (c s')else .inr e)) (f:q=true->J s') (g:R e) :
  (∃s',A=some (.inl (b s'))/\B=some (.inl (c s'))/\J s')\/∃r,A=some (.inr r)/\B=some (.inr r)/\R r:=by
 obtain⟨_,a⟩:=a;cases q with
 | false=>exact .inr ⟨e,a,d,g⟩
 | true=>exact .inl ⟨s',a,d,f rfl⟩
def isN(v:af):Bool:=v.kind==1
theorem aeb(v:af)(b:(v.list.length:Int)<=1048576):∃l,xN v=some (bif v.list.all isN then (v.list.map (·.n),v.kind==3)else (l,false)):=by
 unfold xN;refine VG (λ(s:List Int) (i:Nat)=>((v.kind,v.n,v.step,v.text,v.list,v.columns,v.rows,s,(i:Int)):Int×Int×Int×Str×(List af)×(List Str)×(List aB)×(List Int)×Int)) v.list isN (·.n) (λl=>(l,false)) _ (λi x a hi=>?_) ?_
 ·have c:=(zC.1 a).1;have d:gd (((v.list.take i).map (·.n)).length+[x.n].length)=some ():=bI (by rw[hi];simp;omega);unfold isN;simp only[dD a,ac,aP,a,zA,dY a b,d,bne];cases (x.kind==1)<;>rfl
 ·simp only[bM,aa]
theorem adR{P:List aj}(a b:af)(L:VOk P a)(G:VOk P b):Al P (AO a b) (zM a b):=by
 unfold AO zM;rw[aC,aC];refine qJ [2,3] (VH L.fit G.fit) rfl (λe=>eF e) (λe=>eF e) λhv hk=>?_
 have M:a.kind=2:=hk 0 a 2 rfl rfl;have N:b.kind=3:=hk 1 b 3 rfl rfl;obtain⟨_,H⟩:=tX (hv a afV) M;obtain⟨O,v,Q,_⟩:=lF (hv b ab4) N;have w:=(vN _).1 v;unfold txB at H;rw[zI,decide_eq_true_eq]at H;obtain⟨X,R⟩:=Rq a.text [32];have h:cu B20 (.list (.base .str) (Go.Lib.split a.text [32])):=dB (by omega) λx f=>by
  have:=R x f;intro d p;rw[show Ty.cells (.base .str) x=[.str x]from rfl,amd]at p;rw[p];exact FZ (by omega)
 have S:mD a.text 32=some (Go.Lib.split a.text [32]):=Sl a.text 32 (by omega);have T:oq a.text 32=some (Go.Lib.split a.text [32]):=Rx a.text 32 (by omega);generalize Go.Lib.split a.text [32]=cols at *;simp only[zV,aa,S,T,afQ cols h,aes cols h,zA,kz,jZ,aC];cases A:clB cols with
 | false=>exact⟨dM 7,rfl,rfl,bG (by omega) (by omega)⟩
 | true=>
 simp only[aR,aa];refine jS (λ(s:List aB) (i:Nat)=>((0:Int),(0:Int),(0:Int),([]:Str),([]:List af),([]:List Str),([]:List aB),(5:Int),(0:Int),(0:Int),([]:Str),([]:List af),cols,s,b.list,(b.list.length:Int),(i:Int)))
  (λ(s:List aB) (i:Nat)=>(b.kind,b.n,b.step,b.text,b.list,b.columns,b.rows,(0:Int),(0:Int),(0:Int),([]:Str),([]:List af),([]:List Str),([]:List aB),(5:Int),(0:Int),(0:Int),([]:Str),([]:List af),cols,s,(i:Int)))
  b.list (λi s=>s.length=i/\∀x,x∈s->x.cells.length=cols.length/\(∀n,n∈x.cells->nB n=true)/\x.orig=[]) _ (λi x s f k=>?_) (λs k=>?_) [] ⟨rfl,λx f=>by cases f⟩
 ·have I:=zG f;have hi:=(zC.1 f).1;have B:=G.mem I;have q:=bW (dQ.1 B.fit).2.2.2.2.1;obtain⟨l,r⟩:=aeb x q;simp only[dD f,ac,aP,f,zA,dY f (by omega),r,bne];by_cases m:x.kind=3
  case neg=>
   have C:(x.kind==3)=false:=by simpa using m
   rw[C]
   refine .inr ⟨dM 4,rfl,?_,bG (by omega) (by omega)⟩
   cases x.list.all isN<;>rfl
  have C:(x.kind==3)=true:=by simpa using m
  rw[C];simp only[aR,aa];by_cases D:x.list.length=cols.length
  case neg=>
   have el:((x.list.length:Int)==(cols.length:Int))=false:=by rw[beq_eq_false_iff_ne];omega
   rw[el]
   refine .inr ⟨dM 4,rfl,?_,bG (by omega) (by omega)⟩
   cases x.list.all isN with
   | false=>rfl
   | true=>
    simp only[ac,aR,aa,amv,el]
    rfl
  have el:((x.list.length:Int)==(cols.length:Int))=true:=by rw[beq_iff_eq];omega
  rw[el];simp only[aR,aa];have E:=dY f (show (b.list.length:Int)<=1048576 by omega);refine via (x.list.all isN) (s++[aB.mk (x.list.map (·.n)) []]) (dM 4) ?_ ?_ (λU=>⟨by simp[k.1],λy g=>?_⟩) (bG (by omega) (by omega))
  ·refine VG (λ(c:List Int) (j:Nat)=>((0:Int),(0:Int),(0:Int),([]:Str),([]:List af),([]:List Str),([]:List aB),(5:Int),(0:Int),(0:Int),([]:Str),([]:List af),cols,s,c,([]:List aj),b.list,(b.list.length:Int),(i:Int),x.list,(x.list.length:Int),(j:Int))) x.list isN (·.n) (λ_=>Sum.inr (dM 4)) _ (λj y g V=>?_) ?_
   ·have W:=(zC.1 g).1;have t:gd (((x.list.take j).map (·.n)).length+[y.n].length)=some ():=bI (by rw[V];simp;omega);unfold isN;simp only[dD g,ac,aP,g,zA,dY g q,t];cases (y.kind==1)<;>rfl
   ·have t:gd (s.length+[aB.mk (x.list.map (·.n)) []].length)=some ():=bI (by rw[k.1];simp;omega);simp only[bM,aa,t,zA,E]
  ·have t:gd (s.length+[aB.mk (x.list.map (·.n)) []].length)=some ():=bI (by rw[k.1];simp;omega);cases x.list.all isN with
   | false=>rfl
   | true=>simp only[ac,aR,aa,amv,el,t,zA]
  ·rcases List.mem_append.1 g with g | g
   ·exact k.2 y g
   ·rw[amd]at g;rw[g];refine⟨by rw[amv];exact D,λn r=>?_,rfl⟩;obtain⟨z,J,rfl⟩:=List.mem_map.1 r;have F:z.kind=1:=by
     have:=List.all_eq_true.1 U z J;unfold isN at this;simpa using this
    have u:=(w x I).2;obtain⟨_,w1,_,_⟩:=lF u m;exact (TD ((vN _).1 w1 z J).2 F).2
 ·refine⟨tK cols s,by simp only[bM,aa];rfl,by simp only[bM,aa];rfl,Hq h (by omega) λx f=>?_,?_⟩
  ·obtain⟨w1,w2,w3⟩:=k.2 x f;exact⟨iq.2 ⟨dB (by rw[w1];exact bW h) λn r=>by
    have:=w2 n r;unfold nB at this;rw[zI,decide_eq_true_eq,decide_eq_true_eq]at this;intro d p;rw[show Ty.cells (.base .int) n=[.int .i64 n]from rfl,amd]at p;rw[p];exact og (dN this.1 this.2),by rw[w3];exact pU⟩,λo K=>by rw[w3]at K;cases K⟩
  ·rw[BA];exact Rk A (by omega) λx f=>by
    obtain⟨w1,w2,w3⟩:=k.2 x f;exact⟨w1,w2,by rw[w3];rfl⟩
theorem GY{α:Type}(p:Nat->α->Bool):∀(xs ys:List α) (i:Nat),jP p i (xs++ys)=(jP p i xs&&jP p (i+xs.length) ys)
 | [],ys,i=>rfl
 | x::r,ys,i=>by
  show (p i x&&jP p (i+1) (r++ys))=((p i x&&jP p (i+1) r)&&jP p (i+(r.length+1)) ys)
  rw[GY p r ys (i+1),Bool.and_assoc,show i+1+r.length=i+(r.length+1) by omega]
theorem JK{α:Type}{p q:Nat->α->Bool}:∀(xs:List α) (i:Nat),(∀j x,xs[j]?=some x->p (i+j) x=q (i+j) x)->jP p i xs=jP q i xs
 | [],_,_=>rfl
 | x::r,i,h=>by
  show (p i x&&jP p (i+1) r)=(q i x&&jP q (i+1) r)
  have e:jP p (i+1) r=jP q (i+1) r:=JK (p:=p) (q:=q) r (i+1) λj y b=>by
   have a:=h (j+1) y (by simpa using b);have ea:i+(j+1)=i+1+j:=by omega
   rw[ea]at a;exact a
  rw[show p i x=q i x from h 0 x rfl,e]
theorem Yi(xs:List Str)(s:Str):dsB (xs++[s])=(dsB xs&&!xs.contains s):=by
 unfold dsB;rw[GY];congr 1
 ·refine JK xs 0 λj x a=>?_
  have:=(zC.1 a).1;rw[amw,List.take_append_of_le_length (by omega)]
 ·show ((!((xs++[s]).take (0+xs.length)).contains s)&&true)=_
  rw[amw,List.take_left,Bool.and_true]
theorem agd{xs:List Str}{s:Str}(h:clB xs=true)(a:nmB s=true)(d:xs.length<4)(hc:xs.contains s=false):clB (xs++[s])=true:=by
 unfold clB at h ⊢;simp only[zI,decide_eq_true_eq]at h;obtain⟨b,_,c⟩:=h;rw[List.all_append,b,Yi,c,hc];simp only[List.all_cons,List.all_nil,a,Bool.and_self,Bool.and_true,amy,Bool.not_false,zI,decide_eq_true_eq,a8,amr,List.length_nil];omega
theorem Ov{n:Int}(h:nB n=true):Fit B20 (.base .int) n:=by
 unfold nB at h;rw[zI,decide_eq_true_eq,decide_eq_true_eq]at h;intro d a;rw[show Ty.cells (.base .int) n=[.int .i64 n]from rfl,amd]at a;rw[a];exact og (dN h.1 h.2)
theorem TS{s:Str}(h:(s.length:Int)<=1048576):Fit B20 (.base .str) s:=by
 intro d a;rw[show Ty.cells (.base .str) s=[.str s]from rfl,amd]at a;rw[a];exact FZ h
theorem aeM{s:Str}{xs:List Str}(h:posOf s 0 xs = -1):xs.contains s=false:=(qV s xs 0).1 (by rw[h];omega)
theorem aln{P:List aj}(a b c d:af)(N:VOk P a)(O:VOk P b)(hc:VOk P c)(w:VOk P d):Al P (sU a b c d) (rQ a b c d):=by
 unfold sU rQ;rw[aC,aC,aC,aC];refine qJ [2,2,2,5] (fit4 N.fit O.fit hc.fit w.fit) rfl (λe=>eF e) (λe=>eF e) λhv hk=>?_
 have Q:d.kind=5:=hk 3 d 5 rfl rfl;have R:a.kind=2:=hk 0 a 2 rfl rfl;obtain⟨S,T⟩:=tY (hv d (by simp)) Q;obtain⟨_,z⟩:=tX (hv a (by simp)) R;unfold txB at z;rw[zI,decide_eq_true_eq]at z;have tb:=Dx T;have A:(d.columns.length:Int)<=1048576:=by have:=tb.c4;omega
 have U:=tb.len;have V:=tb.c4;have W:=(dQ.1 w.fit).2.2.2.2.2.1;simp only[zV,aa,Es d _ A,DV d _ A,OJ a.text (by omega),MC a.text (by omega),zA,kz,jZ,aC,fG d w.fit,iG d w.fit,IX,Dz];cases D:nmB a.text with
 | false=>exact⟨dM 7,rfl,rfl,bG (by omega) (by omega)⟩
 | true=>
 simp only[aR,aa];rcases jM a.text d.columns with hp | ⟨n,f,hp,_⟩
 case inr=>
  rw[hp,show decide ((n:Int)>=0)=true by simp]
  exact⟨dM 7,rfl,rfl,bG (by omega) (by omega)⟩
 have E:=aeM hp;rw[hp,show decide ((-1:Int)>=0)=false from rfl];simp only[aa];rcases jM b.text d.columns with q | ⟨o,X,q,_⟩
 ·rw[q];exact⟨dM 7,rfl,rfl,bG (by omega) (by omega)⟩
 rw[q,Yl o];simp only[aa];rcases jM c.text d.columns with r | ⟨p,Y,r,_⟩
 ·rw[r];exact⟨dM 7,rfl,rfl,bG (by omega) (by omega)⟩
 rw[r,Yl p];simp only[aa];by_cases Z:d.columns.length=4
 ·rw[Z];exact⟨dM 6,rfl,rfl,bG (by omega) (by omega)⟩
 rw[ae (show ¬((d.columns.length:Int)>=4) by omega),show ((d.columns.length:Int)==4)=false by rw[beq_eq_false_iff_ne];omega];simp only[aa,bI (show d.columns.length+([a.text]:List Str).length<=34359738368 by simp;omega),zA];refine jS (λ(s:List aB) (i:Nat)=>((0:Int),(0:Int),(0:Int),([]:Str),([]:List af),([]:List Str),([]:List aB),(o:Int),(p:Int),d.kind,d.n,d.step,d.text,d.list,d.columns++([a.text]:List Str),s,d.rows,(d.rows.length:Int),(i:Int)))
  (λ(s:List aB) (i:Nat)=>(d.kind,d.n,d.step,d.text,d.list,d.columns,d.rows,(0:Int),(0:Int),(0:Int),([]:Str),([]:List af),([]:List Str),([]:List aB),(o:Int),(p:Int),d.kind,d.n,d.step,d.text,d.list,d.columns++([a.text]:List Str),s,(i:Int)))
  d.rows (λi s=>s.length=d.rows.length/\(∀j:Nat,i<=j->s[j]?=d.rows[j]?)/\∀(j:Nat) y,j<i->s[j]?=some y->∃x m,d.rows[j]?=some x/\y=aB.mk (x.cells++[m]) x.orig/\nB m=true) _ (λi x s g F=>?_) (λs F=>?_) d.rows ⟨rfl,λj _=>rfl,λj y h=>absurd h (aml _)⟩
 ·obtain⟨l,t,u⟩:=F;obtain⟨r1,r2,_⟩:=tb.row x (zG g);have hi:=(zC.1 g).1;have e1:x.cells[o]?=some x.cells[o]:=zF (by omega);have e2:x.cells[p]?=some x.cells[p]:=zF (by omega);have es:s[i]?=some x:=by rw[t i (aD _),g]
  have d1:decide ((i:Int)<(s.length:Int))=true:=by rw[l];simp;omega
  have hg:gd (x.cells.length+[w64 (x.cells[o]+x.cells[p])].length)=some ():=bI (by simp only[amr,List.length_nil];omega);simp only[dD g,d1,ac,aP,g,e1,e2,es,zA,dY g (by omega),aE,hg,and_self,if_true];cases hm:nB (w64 (x.cells[o]+x.cells[p]))with
  | false=>exact .inr ⟨dM 5,rfl,rfl,bG (by omega) (by omega)⟩
  | true=>
   refine .inl ⟨s.set i (aB.mk (x.cells++[w64 (x.cells[o]+x.cells[p])]) x.orig),rfl,rfl,by rw[List.length_set];exact l,λj C=>?_,λj y C k=>?_⟩
   ·rw[List.getElem?_set_ne (by omega)];exact t j (by omega)
   ·by_cases he:j=i
    ·subst he;rw[List.getElem?_set_self (by omega)]at k;exact⟨x,_,g,(a7 k).symm,hm⟩
    ·rw[List.getElem?_set_ne (by omega)]at k;exact u j y (by omega) k
 ·obtain⟨l,t,u⟩:=F;have hall:∀y,y∈s->∃x m,x∈d.rows/\y=aB.mk (x.cells++[m]) x.orig/\nB m=true:=λy k=>by
   obtain⟨j,C⟩:=List.mem_iff_getElem?.1 k;obtain⟨x,m,v,q2,B⟩:=u j y (by have:=(zC.1 C).1;omega) C;exact⟨x,m,zG v,q2,B⟩
  have G:d.kind=5/\d.n=0/\d.step=0/\d.text=[]/\d.list=[]:=by rw[S];exact⟨rfl,rfl,rfl,rfl,rfl⟩
  obtain⟨H,I,J,K,L⟩:=G;refine⟨tK (d.columns++[a.text]) s,?_,?_,Hq (dB (by simp;omega) λx g=>?_) (by omega) λy k=>?_,?_⟩
  ·simp only[bM,aa,H,I,J,K,L];rfl
  ·simp only[l,bM,aa,H,I,J,K,L];rfl
  ·rcases List.mem_append.1 g with g | g
   ·exact W.dG x g
   ·rw[amd]at g;rw[g];exact TS (by omega)
  ·obtain⟨x,m,v,rfl,B⟩:=hall y k;have M:=w.row v;obtain⟨w1,w2,_⟩:=tb.row x v;refine⟨iq.2 ⟨dB (by simp;omega) λn f=>?_,(iq.1 M.fit).2⟩,M.org⟩;rcases List.mem_append.1 f with f | f
   ·exact Ov (w2 n f)
   ·rw[amd]at f;rw[f];exact Ov B
  ·rw[BA];refine Rk (agd tb.cl D (by omega) E) (by omega) λy k=>?_
   obtain⟨x,m,v,rfl,B⟩:=hall y k;obtain⟨w1,w2,w3⟩:=tb.row x v;refine⟨by simp[w1],λn f=>?_,w3⟩;rcases List.mem_append.1 f with f | f
   ·exact w2 n f
   ·rw[amd]at f;rw[f];exact B
def FY:Nat->List aj->List aj->List aj
 | 0,_,_=>[]
 | _+1,[],b=>b
 | _+1,x::a,[]=>x::a
 | n+1,x::a,y::b=>bif orB x y then x::FY n a (y::b)else bif orB y x then y::FY n (x::a) b else x::FY n a b
theorem rZ{z:aj}:∀(n:Nat) (a b:List aj),a.length+b.length<n->(z∈FY n a b↔z∈a\/z∈b)
 | 0,_,_,h=>absurd h (aml _)
 | _+1,[],b,_=>by simp[FY]
 | _+1,x::a,[],_=>by simp[FY]
 | n+1,x::a,y::b,h=>by
  simp only[amr]at h;unfold FY;cases f:orB x y with
  | true=>
   simp only[ac,bh,rZ n a (y::b) (by simp only[amr];omega)];exact (or_assoc).symm
  | false=>
   simp only[aa];cases c:orB y x with
   | true=>
    simp only[ac,bh,rZ n (x::a) b (by simp only[amr];omega)];exact or_left_comm
   | false=>
    have e:x=y:=by
     cases d:eqO x y with
     | true=>exact uM.1 d
     | false=>rw[KQ d f]at c;cases c
    subst e;simp only[aa,bh,rZ n a b (by omega)];exact⟨λhh=>hh.elim (λh=>.inl (.inl h)) λhh=>hh.elim (λh=>.inl (.inr h)) λh=>.inr (.inr h),λhh=>hh.elim (λhh=>hh.elim (λh=>.inl h) λh=>.inr (.inl h)) λhh=>hh.elim (λh=>.inl h) λh=>.inr (.inr h)⟩
theorem GX:∀(n:Nat) (a b:List aj),a.length+b.length<n->Asc a->Asc b->Asc (FY n a b)
 | 0,_,_,h,_,_=>absurd h (aml _)
 | _+1,[],b,_,_,j=>j
 | _+1,x::a,[],_,k,_=>k
 | n+1,x::a,y::b,h,k,j=>by
  simp only[amr]at h;obtain⟨d,g⟩:=List.pairwise_cons.1 k;obtain⟨f,i⟩:=List.pairwise_cons.1 j;unfold FY;cases m:orB x y with
  | true=>
   simp only[ac];refine List.pairwise_cons.2 ⟨λz c=>?_,GX n a (y::b) (by simp only[amr];omega) g j⟩;rcases (rZ n a (y::b) (by simp only[amr];omega)).1 c with c | c
   ·exact d z c
   ·rcases bh.1 c with rfl | c
    ·exact m
    ·exact wI m (f z c)
  | false=>
   simp only[aa];cases l:orB y x with
   | true=>
    simp only[ac];refine List.pairwise_cons.2 ⟨λz c=>?_,GX n (x::a) b (by simp only[amr];omega) k i⟩;rcases (rZ n (x::a) b (by simp only[amr];omega)).1 c with c | c
    ·rcases bh.1 c with rfl | c
     ·exact l
     ·exact wI l (d z c)
    ·exact f z c
   | false=>
    have e:x=y:=by
     cases o:eqO x y with
     | true=>exact uM.1 o
     | false=>rw[KQ o m]at l;cases l
    subst e;simp only[aa];refine List.pairwise_cons.2 ⟨λz c=>?_,GX n a b (by omega) g i⟩;rcases (rZ n a b (by omega)).1 c with c | c
    ·exact d z c
    ·exact f z c
theorem ahB{a b:List aj}(c:Asc a)(d:Asc b):FY (a.length+b.length+1) a b=kR a b:=
 Lh (GX _ a b (Nat.lt_succ_self _) c d) (GU a b) λo=>by rw[rZ _ a b (Nat.lt_succ_self _),wL]
theorem Xq:∀(n:Nat) (b:List aj),b.length<n->FY n [] b=b
 | 0,_,h=>absurd h (aml _)
 | _+1,_,_=>rfl
theorem RX:∀(n:Nat) (a:List aj),a.length<n->FY n a []=a
 | 0,_,h=>absurd h (aml _)
 | _+1,[],_=>rfl
 | _+1,_::_,_=>rfl
theorem ahA{X:Type}{g:X->Option (X⊕List aj)}(pk:List aj->Nat->Nat->X)(a b:List aj)
  (p:∀out i k x,a[i]?=some x->k<=b.length->(∀y,b[k]?=some y->orB x y=true)->out.length<=i+k->g (pk out i k)=some (.inl (pk (out++[x]) (i+1) k)))
  (q:∀out i k y,b[k]?=some y->i<=a.length->(∀x,a[i]?=some x->orB x y=false/\orB y x=true)->out.length<=i+k->g (pk out i k)=some (.inl (pk (out++[y]) i (k+1))))
  (s:∀out i k x y,a[i]?=some x->b[k]?=some y->orB x y=false->orB y x=false->out.length<=i+k->g (pk out i k)=some (.inl (pk (out++[x]) (i+1) (k+1))))
  (t:∀out,g (pk out a.length b.length)=some (.inr out)) :
  ∀(n i k:Nat) (out:List aj),(a.length-i)+(b.length-k)<n->i<=a.length->k<=b.length->out.length<=i+k->aN g (pk out i k)=some (out++FY n (a.drop i) (b.drop k)):=by
 intro n;induction n with
 | zero=>intro i k out h;omega
 | succ n ih=>
  intro i k out h hi hk f;by_cases m:i=a.length
  ·subst m;by_cases c:k=b.length
   ·subst c;rw[aX,t,List.drop_length,List.drop_length];show _=some (out++[])
    rw[amA]
   ·have d:b[k]?=some b[k]:=zF (by omega);rw[aX,q out a.length k _ d hi (λx e=>by simp at e) f];simp only;rw[ih a.length (k+1) _ (by omega) hi (by omega) (by simp;omega),List.drop_length,Xq _ _ (by rw[amx];omega),Xq _ _ (by rw[amx];omega),amg (show k<b.length by omega),ba];rfl
  ·have e:a[i]?=some a[i]:=zF (by omega);by_cases c:k=b.length
   ·subst c;rw[aX,p out i b.length _ e hk (λy d=>by simp at d) f];simp only;rw[ih (i+1) b.length _ (by omega) (by omega) hk (by simp;omega),List.drop_length,RX _ _ (by rw[amx];omega),RX _ _ (by rw[amx];omega),amg (show i<a.length by omega),ba];rfl
   ·have d:b[k]?=some b[k]:=zF (by omega);rw[aX,amg (show i<a.length by omega),amg (show k<b.length by omega)];unfold FY;cases o:orB a[i] b[k]with
    | true=>
     rw[p out i k _ e hk (λy j=>by rw[d]at j;cases j;exact o) f];simp only[ac];rw[ih (i+1) k _ (by omega) (by omega) hk (by simp;omega),<- amg (show k<b.length by omega),ba];rfl
    | false=>
     cases r:orB b[k] a[i]with
     | true=>
      rw[q out i k _ d hi (λx l=>by rw[e]at l;cases l;exact⟨o,r⟩) f];simp only[ac,aa];rw[ih i (k+1) _ (by omega) hi (by omega) (by simp;omega),<- amg (show i<a.length by omega),ba];rfl
     | false=>
      rw[s out i k _ _ e d o r f];simp only[aa];rw[ih (i+1) (k+1) _ (by omega) (by omega) (by omega) (by simp;omega),ba];rfl
theorem VR(a b:aj):bfB a b=orB a b:=rfl
theorem upN{i:Nat}(h:(i:Int)<=8388608):w64 ((i:Int)+1)=((i+1:Nat):Int):=by rw[bQ (by omega) (by omega)];rfl
theorem agY(a b:List aj)(n:Asc a)(o:Asc b)(v:(a.length:Int)+(b.length:Int)<=4194304):rf a b=some (kR a b):=by
 unfold rf;rw[<- ahB n o];refine (ahA (λout i k=>((a,b,out,(i:Int),(k:Int)):(List aj)×(List aj)×(List aj)×Int×Int)) a b (λout i k x c hk f m=>?_) (λout i k y f hi c m=>?_) (λout i k x y c f p q m=>?_) (λout=>?_) (a.length+b.length+1) 0 0 [] (by omega) (Nat.zero_le _) (Nat.zero_le _) (by simp)).trans (by simp)
 ·have hi:=(zC.1 c).1;have g:gd (out.length+[x].length)=some ():=bI (by simp;omega);by_cases r:k=b.length
  ·have e:((k:Int)==(b.length:Int))=true:=by rw[beq_iff_eq];omega
   simp only[dD c,ac,e,aP,c,zA,g,upN (show (i:Int)<=8388608 by omega)]
  ·have e:((k:Int)==(b.length:Int))=false:=by rw[beq_eq_false_iff_ne];omega
   have j:b[k]?=some b[k]:=zF (by omega);simp only[dD c,ac,aa,e,aP,c,j,zA,UG,VR,f _ j,g,upN (show (i:Int)<=8388608 by omega)]
 ·have hk:=(zC.1 f).1;have g:gd (out.length+[y].length)=some ():=bI (by simp;omega);have e:((k:Int)==(b.length:Int))=false:=by rw[beq_eq_false_iff_ne];omega
  by_cases s:i=a.length
  ·have d:decide ((i:Int)<(a.length:Int))=false:=by rw[decide_eq_false_iff_not];omega
   have l:((i:Int)==(a.length:Int))=true:=by rw[beq_iff_eq];omega
   simp only[d,dD f,e,l,ac,aa,aP,f,zA,g,upN (show (k:Int)<=8388608 by omega)]
  ·have h:a[i]?=some a[i]:=zF (by omega);have l:((i:Int)==(a.length:Int))=false:=by rw[beq_eq_false_iff_ne];omega
   obtain⟨t,u⟩:=c _ h;simp only[dD h,e,l,ac,aa,aP,h,f,zA,UG,VR,t,u,g,upN (show (k:Int)<=8388608 by omega)]
 ·have hi:=(zC.1 c).1;have hk:=(zC.1 f).1;have g:gd (out.length+[x].length)=some ():=bI (by simp;omega);have e:((k:Int)==(b.length:Int))=false:=by rw[beq_eq_false_iff_ne];omega
  have l:((i:Int)==(a.length:Int))=false:=by rw[beq_eq_false_iff_ne];omega
  simp only[dD c,e,l,ac,aa,aP,c,f,zA,UG,VR,p,q,g,upN (show (i:Int)<=8388608 by omega),upN (show (k:Int)<=8388608 by omega)]
 ·simp only[bM,aa]
theorem GV:∀xs:List aj,(∀(j:Nat) x y,xs[j]?=some x->xs[j+1]?=some y->orB x y=true)->Asc xs
 | [],_=>List.Pairwise.nil
 | [x],_=>List.pairwise_singleton _ _
 | x::y::r,h=>by
  have e:Asc (y::r):=GV (y::r) λj a b f g=>h (j+1) a b (by simpa using f) (by simpa using g)
  have c:orB x y=true:=h 0 x y rfl rfl;refine List.pairwise_cons.2 ⟨λz d=>?_,e⟩;rcases bh.1 d with rfl | d
  ·exact c
  ·exact wI c ((List.pairwise_cons.1 e).1 z d)
theorem CS{α:Type}{p:Nat->α->Bool}:∀(xs:List α) (i:Nat),jP p i xs=true->∀(j:Nat) x,xs[j]?=some x->p (i+j) x=true
 | [],_,_,j,x,a=>by simp at a
 | y::r,i,h,j,x,a=>by
  have h:(p i y&&jP p (i+1) r)=true:=h;rw[zI]at h;cases j with
  | zero=>
   have:y=x:=by simpa using a
   rw[<- this];exact h.1
  | succ j=>
   have:=CS r (i+1) h.2 j x (by simpa using a);rw[show i+(j+1)=i+1+j by omega];exact this
theorem aau{xs:List aj}(h:PK xs=true):Asc xs:=by
 refine GV xs λj x y a b=>?_
 have:=CS xs 0 h (j+1) y b;rw[amw]at this;unfold VT at this;simp only[Nat.add_sub_cancel,a,zI]at this;exact this.2
theorem NY{α β X ρ:Type}{g:X->Option (X⊕ρ)}(pk:List β->Nat->X)(xs:List α)(f:α->β)(yes:ρ)
  (a:∀i x,xs[i]?=some x->((xs.take i).map f).length=i->g (pk ((xs.take i).map f) i)=some (.inl (pk ((xs.take i).map f++[f x]) (i+1))))
  (hf:g (pk (xs.map f) xs.length)=some (.inr yes)):aN g (pk [] 0)=some yes:=by
 obtain⟨l,h⟩:=VG pk xs (λ_=>true) f (λ_=>yes) yes (λi x b c=>by rw[a i x b c];rfl) hf;rw[h,List.all_eq_true.2 λ_ _=>rfl];rfl
theorem abq{α β X ρ:Type}{g:X->Option (X⊕ρ)}(pk:List β->Nat->X)(xs:List α)(p:α->Bool)(f:α->β)(no yes:ρ)
  (d:∀i x,xs[i]?=some x->((xs.take i).map f).length=i->g (pk ((xs.take i).map f) i)=bif p x then some (.inl (pk ((xs.take i).map f++[f x]) (i+1)))else some (.inr no))
  (hf:xs.all p=true->g (pk (xs.map f) xs.length)=some (.inr yes)):aN g (pk [] 0)=some (bif xs.all p then yes else no):=by
 have key:∀(k i:Nat),xs.length=i+k->(xs.take i).all p=true->aN g (pk ((xs.take i).map f) i)=some (bif (xs.drop i).all p then yes else no):=by
  intro k;induction k with
  | zero=>
   intro i hi b;have:i=xs.length:=by omega
   subst this;rw[List.take_length]at b;rw[List.take_length,List.drop_length,aX,hf b];rfl
  | succ k ih=>
   intro i hi b;have a:i<xs.length:=by omega
   have c:xs[i]?=some xs[i]:=zF a;rw[aX,d i _ c (by rw[amv,bc];omega),amg a,List.all_cons];cases hp:p xs[i]with
   | false=>rfl
   | true=>
    simp only[ac,amy];have:(xs.take i).map f++[f xs[i]]=(xs.take (i+1)).map f:=by rw[take_snoc c,List.map_append];rfl
    rw[this];refine ih (i+1) (by omega) ?_;rw[take_snoc c,List.all_append,b];simp[hp]
 exact key xs.length 0 (by omega) rfl
theorem RU{α:Type}[BEq α][LawfulBEq α]:∀(xs ys:List α),xs.Nodup->(∀x,x∈xs->x∈ys)->xs.length<=ys.length
 | [],ys,_,_=>Nat.zero_le _
 | x::r,ys,d,a=>by
  obtain⟨e,f⟩:=List.nodup_cons.1 d;have b:x∈ys:=a x aw;have:=RU r (ys.erase x) f λy c=>(List.mem_erase_of_ne (by rintro rfl;exact e c)).2 (a y (ar _ c))
  rw[List.length_erase_of_mem b]at this;have:0<ys.length:=List.length_pos_of_mem b;simp only[amr];omega
theorem SQ(xs:List Str)(h:dsB xs=true):xs.Nodup:=by
 rw[List.nodup_iff_pairwise_ne,List.pairwise_iff_getElem];intro i j hi a b c;have:=CS xs 0 h j xs[j] (zF a);rw[amw]at this;simp only[Bool.not_eq_true',List.contains_eq_mem,decide_eq_false_iff_not]at this;exact this (List.mem_iff_getElem.2 ⟨i,by rw[bc];omega,by rw[List.getElem_take];exact c⟩)
theorem akg(s:Str)(xs:List Str):decide (posOf s 0 xs<0) = !decide (posOf s 0 xs>=0):=by
 by_cases h:posOf s 0 xs<0
 ·rw[aq h,ae (by omega)];rfl
 ·rw[ae h,aq (by omega)];rfl
def Gu(cs:List Str)(s:Str):Bool:=decide (posOf s 0 cs>=0)
theorem O3{cs:List Str}{s:Str}(h:Gu cs s=true):∃n:Nat,n<cs.length/\posOf s 0 cs=(n:Int)/\s∈cs:=by
 unfold Gu at h;have h:=of_decide_eq_true h;rcases jM s cs with hp | ⟨n,a,hp,b⟩
 ·omega
 ·exact⟨n,a,hp,zG b⟩
def keepR(cs cols:List Str)(r:aB):aB:=aB.mk (cols.map λs=>r.cells.getD (posOf s 0 cs).toNat 0) r.orig
theorem abX(a:Str):1<=(Go.Lib.split a [32]).length:=by
 rw[Nat.succ_le_iff,List.length_pos_iff];exact adY _ _
set_option maxRecDepth 4000 in
theorem ahK{P:List aj}(a b:af)(J:VOk P a)(q:VOk P b):Al P (nO a b) (nG a b):=by
 unfold nO nG;rw[aC,aC];refine qJ [2,5] (VH J.fit q.fit) rfl (λe=>eF e) (λe=>eF e) λhv hk=>?_
 have K:b.kind=5:=hk 1 b 5 rfl rfl;have L:a.kind=2:=hk 0 a 2 rfl rfl;obtain⟨Y,M⟩:=tY (hv b ab4) K;obtain⟨_,r⟩:=tX (hv a afV) L;unfold txB at r;rw[zI,decide_eq_true_eq]at r;have tb:=Dx M;have N:=tb.c4;have t:(b.columns.length:Int)<=1048576:=by omega
 have O:=tb.len;obtain⟨Z,Q⟩:=Rq a.text [32];have q0:=abX a.text;have E:cu B20 (.list (.base .str) (Go.Lib.split a.text [32])):=dB (by omega) λx c=>by
  have:=Q x c;exact TS (by omega)
 have S:mD a.text 32=some (Go.Lib.split a.text [32]):=Sl a.text 32 (by omega);have T:oq a.text 32=some (Go.Lib.split a.text [32]):=Rx a.text 32 (by omega);generalize Go.Lib.split a.text [32]=cols at *;have f:(cols.length:Int)<=1048576:=by omega
 have F:∀(v:af) (s:Str),v.columns=b.columns->dL v s=some (posOf s 0 b.columns):=λv s h=>by rw[Es v s (by rw[h];exact t),h]
 have u:∀(v:af) (s:Str),v.columns=b.columns->dW v s=some (posOf s 0 b.columns):=λv s h=>by rw[DV v s (by rw[h];exact t),h]
 have cell:∀(x:aB),x∈b.rows->∀s,s∈cols->cols.all (Gu b.columns)=true->idx x.cells (posOf s 0 b.columns)=some (x.cells.getD (posOf s 0 b.columns).toNat 0):=λx c s d G=>by
  obtain⟨n,C,hp,_⟩:=O3 (List.all_eq_true.1 G s d);obtain⟨U,_⟩:=tb.row x c;rw[hp,aP,aE,zF (by omega),zE,zF (by omega)];rfl
 simp only[zV,aa,S,T,zA];let R:af:=bif cols.all (Gu b.columns)then bif dsB cols then tK cols (b.rows.map (keepR b.columns cols))else dM 7 else dM 7
 refine⟨R,?_,?_,?_⟩
 ·refine abq (λ(s:List Int) (i:Nat)=>((b.kind,b.n,b.step,b.text,b.list,b.columns,b.rows,0,0,0,[],[],[],[],5,0,0,[],[],cols,[],s,cols,(cols.length:Int),(i:Int)) :
   Int×Int×Int×Str×(List af)×(List Str)×(List aB)×Int×Int×Int×Str×(List af)×(List Str)×(List aB)×Int×Int×Int×Str×(List af)×(List Str)×(List aB)×(List Int)×(List Str)×Int×Int)) cols (Gu b.columns) (λs=>posOf s 0 b.columns) (dM 7) (bif dsB cols then tK cols (b.rows.map (keepR b.columns cols))else dM 7)
   (λi x c p=>?_) (λhall=>?_)
  ·have hi:=(zC.1 c).1;have g:gd (((cols.take i).map λs=>posOf s 0 b.columns).length+[posOf x 0 b.columns].length)=some ():=bI (by rw[p];simp;omega);simp only[dD c,ac,aP,c,zA,F,akg,kz,aC,g,dY c f];unfold Gu;cases decide (posOf x 0 b.columns>=0)<;>rfl
  ·simp only[bM,aa,aag cols f,zA,kz,aC];cases dsB cols with
   | false=>rfl
   | true=>
    simp only[aR,aa,ac];refine congrArg (λo=>Option.bind o _) (NY (λ(s:List aB) (i:Nat)=>((0,0,0,[],[],[],[],5,0,0,[],[],cols,s,cols.map (λs=>posOf s 0 b.columns),b.rows,(b.rows.length:Int),(i:Int)) :
     Int×Int×Int×Str×(List af)×(List Str)×(List aB)×Int×Int×Int×Str×(List af)×(List Str)×(List aB)×(List Int)×(List aB)×Int×Int)) b.rows (keepR b.columns cols) (tK cols (b.rows.map (keepR b.columns cols))) (λi x c p=>?_) ?_)
    ·have w:=zG c;have hi:=(zC.1 c).1;have D:=bW (iq.1 (q.row w).fit).2;simp only[dD c,ac,aP,c,zA,bI (show 0+x.orig.length<=34359738368 by omega),List.nil_append];refine NY (λ(s:List Int) (j:Nat)=>((0,0,0,[],[],[],[],5,0,0,[],[],cols,(b.rows.take i).map (keepR b.columns cols),cols.map (λs=>posOf s 0 b.columns),x.cells,x.orig,s,x.orig,b.rows,(b.rows.length:Int),(i:Int),cols.map (λs=>posOf s 0 b.columns),((cols.map (λs=>posOf s 0 b.columns)).length:Int),(j:Int)) :
      Int×Int×Int×Str×(List af)×(List Str)×(List aB)×Int×Int×Int×Str×(List af)×(List Str)×(List aB)×(List Int)×(List Int)×(List aj)×(List Int)×(List aj)×(List aB)×Int×Int×(List Int)×Int×Int)) (cols.map (λs=>posOf s 0 b.columns)) (λk=>x.cells.getD k.toNat 0) _ (λj k hk l=>?_) ?_
     ·have V:=(zC.1 hk).1;have z:=hk;rw[amh]at z;obtain⟨s,d,rfl⟩:=Option.map_eq_some_iff.1 z;have H:((cols.map (λs=>posOf s 0 b.columns)).length:Int)<=1048576:=by rw[amv];exact f
      have g:gd ((((cols.map (λs=>posOf s 0 b.columns)).take j).map (λk=>x.cells.getD k.toNat 0)).length+[x.cells.getD (posOf s 0 b.columns).toNat 0].length)=some ():=bI (by rw[l];simp only[List.length_singleton];omega);simp only[dD hk,ac,aP,hk,zA,cell x w s (zG d) hall,g,dY hk H]
     ·have g:gd (((b.rows.take i).map (keepR b.columns cols)).length+[aB.mk ((cols.map λs=>posOf s 0 b.columns).map λk=>x.cells.getD k.toNat 0) x.orig].length)=some ():=bI (by rw[p];simp only[List.length_singleton];omega);simp only[bM,aa,g,zA,dY c (show (b.rows.length:Int)<=1048576 by omega)];rw[List.map_map];rfl
    ·simp only[bM,aa];rfl
 ·have I:∀(X:af),(bif cols.all (λs=>Gu b.columns s&&dsB cols)then X else dM 7)=bif cols.all (Gu b.columns)then bif dsB cols then X else dM 7 else dM 7:=λX=>by
   cases A:dsB cols with
   | true=>simp only[Bool.and_true,ac]
   | false=>
    simp only[Bool.and_false,aa];have:(cols.all λ_=>false)=false:=by
     cases cols with
     | nil=>simp at q0
     | cons _ _=>rfl
    rw[this];cases cols.all (Gu b.columns)<;>rfl
  show _=some (bif cols.all (Gu b.columns)then bif dsB cols then tK cols (b.rows.map (keepR b.columns cols))else dM 7 else dM 7)
  rw[<- I];refine abq (λ(_:List Unit) (i:Nat)=>((b.kind,b.n,b.step,b.text,b.list,b.columns,b.rows,0,0,0,[],[],[],[],cols,5,0,0,[],[],cols,[],(i:Int)) :
   Int×Int×Int×Str×(List af)×(List Str)×(List aB)×Int×Int×Int×Str×(List af)×(List Str)×(List aB)×(List Str)×Int×Int×Int×Str×(List af)×(List Str)×(List aB)×Int)) cols (λs=>Gu b.columns s&&dsB cols) (λ_=>()) (dM 7) (tK cols (b.rows.map (keepR b.columns cols)))
   (λi x c p=>?_) (λhall=>?_)
  ·simp only[dD c,ac,aP,c,zA,u,akg,jZ,aC,Zo cols f,dY c f];unfold Gu;cases decide (posOf x 0 b.columns>=0)<;>cases dsB cols<;>rfl
  ·have hall:cols.all (Gu b.columns)=true:=List.all_eq_true.2 λs d=>by
    have:=List.all_eq_true.1 hall s d;rw[zI]at this;exact this.1
   simp only[bM,aa];refine congrArg (λo=>Option.bind o _) (NY (λ(s:List aB) (i:Nat)=>((b.kind,b.n,b.step,b.text,b.list,b.columns,b.rows,0,0,0,[],[],[],[],cols,5,0,0,[],[],cols,s,(i:Int)) :
    Int×Int×Int×Str×(List af)×(List Str)×(List aB)×Int×Int×Int×Str×(List af)×(List Str)×(List aB)×(List Str)×Int×Int×Int×Str×(List af)×(List Str)×(List aB)×Int)) b.rows (keepR b.columns cols) (tK cols (b.rows.map (keepR b.columns cols))) (λi x c p=>?_) ?_)
   ·have w:=zG c;have hi:=(zC.1 c).1;have D:=bW (iq.1 (q.row w).fit).2;simp only[dD c,ac,aP,c,zA,bI (show 0+x.orig.length<=34359738368 by omega),List.nil_append];refine NY (λ(s:List Int) (j:Nat)=>((b.kind,b.n,b.step,b.text,b.list,b.columns,b.rows,0,0,0,[],[],[],[],cols,5,0,0,[],[],cols,(b.rows.take i).map (keepR b.columns cols),(i:Int),s,x.orig,(j:Int)) :
     Int×Int×Int×Str×(List af)×(List Str)×(List aB)×Int×Int×Int×Str×(List af)×(List Str)×(List aB)×(List Str)×Int×Int×Int×Str×(List af)×(List Str)×(List aB)×Int×(List Int)×(List aj)×Int)) cols (λs=>x.cells.getD (posOf s 0 b.columns).toNat 0) _ (λj s d l=>?_) ?_
    ·have V:=(zC.1 d).1;have g:gd (((cols.take j).map (λs=>x.cells.getD (posOf s 0 b.columns).toNat 0)).length+[x.cells.getD (posOf s 0 b.columns).toNat 0].length)=some ():=bI (by rw[l];simp only[List.length_singleton];omega);simp only[dD d,ac,aP,d,c,zA,u,cell x w s (zG d) hall,g,dY d f]
    ·have g:gd (((b.rows.take i).map (keepR b.columns cols)).length+[aB.mk (cols.map λs=>x.cells.getD (posOf s 0 b.columns).toNat 0) x.orig].length)=some ():=bI (by rw[p];simp only[List.length_singleton];omega);simp only[bM,aa,g,zA,dY c (show (b.rows.length:Int)<=1048576 by omega)];rfl
   ·simp only[bM,aa];rfl
 ·cases hall:cols.all (Gu b.columns)with
  | false=>simp only[R,hall,aa];exact bG (by omega) (by omega)
  | true=>
   cases A:dsB cols with
   | false=>simp only[R,hall,A,ac,aa];exact bG (by omega) (by omega)
   | true=>
    simp only[R,hall,A,ac];have hsub:∀s,s∈cols->s∈b.columns:=λs d=>by
     obtain⟨_,_,_,h⟩:=O3 (List.all_eq_true.1 hall s d);exact h
    have h4:=RU cols b.columns (SQ cols A) hsub;have m:=tb.cl;unfold clB at m;simp only[zI,decide_eq_true_eq]at m;have hclc:clB cols=true:=by
     unfold clB;simp only[zI,decide_eq_true_eq];exact⟨List.all_eq_true.2 λs d=>List.all_eq_true.1 m.1 s (hsub s d),⟨by omega,by omega⟩,A⟩
    have hrow:∀y,y∈b.rows.map (keepR b.columns cols)->∃x,x∈b.rows/\y.cells.length=cols.length/\(∀n,n∈y.cells->nB n=true)/\y.orig=x.orig:=λy B=>by
     obtain⟨x,c,rfl⟩:=List.mem_map.1 B;refine⟨x,c,amv _,λn C=>?_,rfl⟩;obtain⟨s,d,rfl⟩:=List.mem_map.1 C;obtain⟨k,hk,hp,_⟩:=O3 (List.all_eq_true.1 hall s d);obtain⟨U,W,_⟩:=tb.row x c;rw[hp,aE,zE,zF (by omega)];exact W _ (List.getElem_mem _)
    refine⟨Hq E (by rw[amv];omega) λy B=>?_,?_⟩
    ·obtain⟨x,c,w1,w2,w3⟩:=hrow y B;refine⟨iq.2 ⟨dB (by rw[w1];omega) λn C=>Ov (w2 n C),?_⟩,λo D=>?_⟩
     ·rw[w3];exact (iq.1 (q.row c).fit).2
     ·rw[w3]at D;exact (q.row c).org o D
    ·rw[BA];refine Rk hclc (by rw[amv];omega) λy B=>?_
     obtain⟨x,c,w1,w2,w3⟩:=hrow y B;exact⟨w1,w2,by rw[w3];exact (tb.row x c).2.2⟩
