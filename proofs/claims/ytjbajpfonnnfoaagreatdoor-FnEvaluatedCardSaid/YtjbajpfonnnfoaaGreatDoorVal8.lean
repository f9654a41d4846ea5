import Derived.Test.YtjbajpfonnnfoaaGreatDoorVal2
import Derived.Lib.SplitLaws
import Derived.Test.YtjbajpfonnnfoaaGreatDoorLink1
set_option linter.unusedSimpArgs false
set_option linter.unusedVariables false
/- Plain laws: lists that are built; scopes. -/
namespace Go.Proofs.YtjbajpfonnnfoaaGreatDoor
open Go.Abs Go.Proofs
theorem ahs{ρ:Type}(x:af)(A B:ρ):(bif (x.kind != 1)then bif (x.kind != 2)then bif (x.kind != 3)then A else B else B else B)=bif elB x then B else A:=by
 unfold elB;simp only[bne];cases (x.kind==1)<;>cases (x.kind==2)<;>cases (x.kind==3)<;>rfl
theorem Yd{P:List aj}(xs:List af)(d:(xs.length:Int)<=1048576)(h:∀x,x∈xs->VOk P x):Al P (jC xs) (iK xs):=by
 have hf:bZ B20 (.list (.base .val) xs):=dh d λx a=>(h x a).fit
 unfold jC iK;rw[FK xs hf,EG xs hf,zA,zA];cases g:opE xs with
 | some e=>
  obtain⟨x,y,z⟩:=E5 (P:=P) _ 0 g;refine⟨e,?_,?_,x,y⟩
  ·simp only[opR,ab,aC,fH e x.fit,zA]
  ·simp only[opR,ab,aC,iJ e x.fit,zA]
 | none=>
  have l:=zZ _ 0 g;simp only[opR,aa];refine jP (λ(_:Unit) (i:Nat)=>(xs,(0:Int),(0:Int),(0:Int),([]:Str),([]:List af),([]:List Str),([]:List aB),xs,(xs.length:Int),(i:Int)))
   (λ(_:Unit) (i:Nat)=>(xs,(0:Int),(0:Int),(0:Int),([]:Str),([]:List af),([]:List Str),([]:List aB),(i:Int))) xs
   (λi _=>∀x,x∈xs.take i->elB x=true) _ (λi x s a c=>?_) (λs c=>?_) () (λx a=>by simp at a)
  ·simp only[dw a,ab,aQ,a,zA,aC,adU,jY,jX,dW a d,ahs];cases hk:elB x with
   | false=>exact .inr ⟨dI 4,rfl,rfl,bD (by omega) (by omega)⟩
   | true=>
    refine .inl ⟨(),rfl,rfl,λy b=>?_⟩;rw[take_snoc a]at b;rcases List.mem_append.1 b with b | b
    ·exact c y b
    ·rw[List.mem_singleton]at b;rw[b];exact hk
  ·rw[List.take_length]at c;simp only[bP,aa,U8 xs hf,TQ xs hf,zA,aC,jY,jX];refine aa5 ?_;have f:=Iu (P:=P) d h;rw[aaR _ f.fit,aay _ f.fit];simp only[zA];by_cases j:(xs.length:Int)>8
   ·rw[ae j];exact⟨dI 6,rfl,rfl,bD (by omega) (by omega)⟩
   ·rw[ac j];by_cases k:dep (nT xs)>3
    ·rw[ae k];exact⟨dI 6,rfl,rfl,bD (by omega) (by omega)⟩
    ·rw[ac k];refine⟨nT xs,rfl,rfl,f,?_⟩;rw[aaM,(rq xs).2 λx a=>⟨c x a,(l x a).1⟩,ae (by omega)];have m:dep (nT xs)=w64 (oI xs 0+1):=AL _;rw[<- m,ae (by omega)];rfl
def pW(xs:List ak)(s:Str):Nat->af
 | 0=>dI 1
 | n+1=>match xs[n]? with
  | some b=>bif b.name==s then b.value else pW xs s n
  | none=>dI 1
def nD(xs:List ak)(s:Str):af:=pW xs s xs.length
structure acZ(P:List aj)(xs:List ak):Prop where
 len:(xs.length:Int)<=1073741824
 val:∀b,b∈xs->VOk P b.value
theorem ae1{P:List aj}(xs:List ak)(s:Str)(h:acZ P xs):KJ xs s=some (nD xs s):=by
 have k:=h.len;unfold KJ nD;have key:∀(g:_) (pk:Int->(List ak)×Str×Int×Int×Int×Str×(List af)×(List Str)×(List aB)×Int) (c:∀(n:Nat) (b:ak),xs[n]?=some b->g (pk (n:Int))=bif b.name==s then some (.inr b.value)else some (.inl (pk ((n:Int)-1)))) (e:g (pk (-1))=some (.inr (dI 1))) (n:Nat),n<=xs.length->aO g (pk ((n:Int)-1))=some (pW xs s n):=by
  intro g pk c e n;induction n with
  | zero=>
   intro _;rw[show ((0:Nat):Int)-1 = -1 from rfl,aX,e];rfl
  | succ n ih=>
   intro j;have f:xs[n]?=some xs[n]:=zF (by omega);rw[show ((n+1:Nat):Int)-1=(n:Int) by omega,aX,c n _ f];show _=some (match xs[n]? with | some b=>bif b.name==s then b.value else pW xs s n | none=>dI 1)
   rw[f];simp only;cases (xs[n].name==s)with
   | true=>rfl
   | false=>exact ih (by omega)
 rw[show w64 ((xs.length:Int)-1)=(xs.length:Int)-1 from bQ (by omega) (by omega)];refine key _ (λi=>(xs,s,0,0,0,[],[],[],[],i)) (λn b a=>?_) ?_ xs.length (ar _)
 ·have j:=(zC.1 a).1;have d:decide ((n:Int)>=0)=true:=by simp
  simp only[d,ab,aQ,a,zA,aC,fH _ (h.val b (zG a)).fit,show w64 ((n:Int)-1)=(n:Int)-1 from bQ (by omega) (by omega)]
 ·rfl
theorem adH{P:List aj}(xs:List ak)(s:Str)(h:acZ P xs):J9 xs s=some (nD xs s):=by
 have k:=h.len;unfold J9 nD;have key:∀(g:_) (pk:Int->(List ak)×Str×Int×Int×Int×Str×(List af)×(List Str)×(List aB)×Int) (c:∀(n:Nat) (b:ak),xs[n]?=some b->g (pk (n:Int))=bif b.name==s then some (.inr b.value)else some (.inl (pk ((n:Int)-1)))) (e:g (pk (-1))=some (.inr (dI 1))) (n:Nat),n<=xs.length->aO g (pk ((n:Int)-1))=some (pW xs s n):=by
  intro g pk c e n;induction n with
  | zero=>
   intro _;rw[show ((0:Nat):Int)-1 = -1 from rfl,aX,e];rfl
  | succ n ih=>
   intro j;have f:xs[n]?=some xs[n]:=zF (by omega);rw[show ((n+1:Nat):Int)-1=(n:Int) by omega,aX,c n _ f];show _=some (match xs[n]? with | some b=>bif b.name==s then b.value else pW xs s n | none=>dI 1)
   rw[f];simp only;cases (xs[n].name==s)with
   | true=>rfl
   | false=>exact ih (by omega)
 rw[show w64 ((xs.length:Int)-1)=(xs.length:Int)-1 from bQ (by omega) (by omega)];refine key _ (λi=>(xs,s,0,0,0,[],[],[],[],i)) (λn b a=>?_) ?_ xs.length (ar _)
 ·have j:=(zC.1 a).1;have d:decide ((n:Int)>=0)=true:=by simp
  simp only[d,ab,aQ,a,zA,aC,iJ _ (h.val b (zG a)).fit,show w64 ((n:Int)-1)=(n:Int)-1 from bQ (by omega) (by omega)]
 ·rfl
theorem Xh{P:List aj}(xs:List ak)(s:Str)(h:acZ P xs):∀n,VOk P (pW xs s n)
 | 0=>(bD (by omega) (by omega)).1
 | n+1=>by
  unfold pW;cases a:xs[n]? with
  | none=>exact (bD (by omega) (by omega)).1
  | some b=>
   simp only;cases (b.name==s)with
   | true=>exact h.val b (zG a)
   | false=>exact Xh xs s h n
theorem up30{α:Type}{xs:List α}{i:Nat}{x:α}(h:xs[i]?=some x)(a:(xs.length:Int)<=1073741824):w64 ((i:Int)+1)=((i+1:Nat):Int):=by
 have:=(zC.1 h).1;rw[bQ (by omega) (by omega)];rfl
theorem OG{P:List aj}(xs:List ak)(s:Str)(v:af)(h:acZ P xs)(d:VOk P v):XF xs s v=some (xs++[ak.mk s v]):=by
 have e:=h.len;unfold XF;refine yC (λ(o:List ak) (i:Nat)=>((s,v.kind,v.n,v.step,v.text,v.list,v.columns,v.rows,o,xs,(xs.length:Int),(i:Int)):Str×Int×Int×Int×Str×(List af)×(List Str)×(List aB)×(List ak)×(List ak)×Int×Int)) xs (some (xs++[ak.mk s v])) (λi y a f=>?_) ?_
 ·have:=(zC.1 a).1;have b:gd ((xs.take i).length+[ak.mk y.name y.value].length)=some ():=bK (by rw[f];simp;omega);simp only[dw a,ab,aQ,a,aC,zA,fH _ (h.val y (zG a)).fit,b,up30 a e]
 ·have b:gd (xs.length+[ak.mk s v].length)=some ():=bK (by simp;omega);have c:(af.mk v.kind v.n v.step v.text v.list v.columns v.rows)=v:=by cases v;rfl
  simp only[bP,aa,c,fH v d.fit,zA,aC,b]
theorem Wx{P:List aj}(xs:List ak)(s:Str)(v:af)(h:acZ P xs)(d:VOk P v):Wy xs s v=some (xs++[ak.mk s v]):=by
 have e:=h.len;unfold Wy;refine yC (λ(o:List ak) (i:Nat)=>((xs,s,v.kind,v.n,v.step,v.text,v.list,v.columns,v.rows,o,(i:Int)):(List ak)×Str×Int×Int×Int×Str×(List af)×(List Str)×(List aB)×(List ak)×Int)) xs (some (xs++[ak.mk s v])) (λi y a f=>?_) ?_
 ·have:=(zC.1 a).1;have b:gd ((xs.take i).length+[ak.mk y.name y.value].length)=some ():=bK (by rw[f];simp;omega);simp only[dw a,ab,aQ,a,aC,zA,iJ _ (h.val y (zG a)).fit,b,up30 a e]
 ·have b:gd (xs.length+[ak.mk s v].length)=some ():=bK (by simp;omega);have c:(af.mk v.kind v.n v.step v.text v.list v.columns v.rows)=v:=by cases v;rfl
  simp only[bP,aa,c,iJ v d.fit,zA,aC,b]
def Em(v:af):Bool:=(v.kind==1)&&(v.n != 0)
theorem aeX(v:af):KN v=some (Em v):=by
 unfold KN Em;cases (v.kind==1)<;>rfl
theorem adD(v:af):Ku v=some (Em v):=by
 unfold Ku Em;cases (v.kind==1)<;>rfl
theorem akA(a:Str)(b k:Nat)(c:b<=k)(d:k<=a.length):eff.cutL a (some (b:Int)) (some (k:Int))=some ((a.take k).drop b):=by
 unfold eff.cutL;simp only[Option.getD_some];rw[if_pos]
 ·simp
 ·omega
theorem acV(s:Str):bytesOf (NF s)=s:=by
 unfold bytesOf NF;rw[List.map_map];refine (List.map_congr_left λc _=>?_).trans (List.map_id s);show UInt8.ofNat ((c.toNat:Int)).toNat=c
 rw[aw];exact UInt8.ofNat_toNat
theorem abv{s sub:Str}{i:Nat}(hsub:sub≠[])(h:Go.Lib.NoOcc s sub i)(b:i<=s.length)(c:Go.Lib.occAt s sub i=true):Go.Lib.split s sub=s.take i::Go.Lib.split (s.drop (i+sub.length)) sub:=by
 have a:=Go.Lib.index_hit h b c;have hc:=Go.Lib.count_hit hsub a;unfold Go.Lib.split;rw[hc,Nat.add_comm 1];show (if Go.Lib.index s sub == -1 then [s]else s.take ((Go.Lib.index s sub).toNat+0)::Go.Lib.splitK sub 0 _ (s.drop ((Go.Lib.index s sub).toNat+sub.length)))=_
 rw[a];have e:((i:Int) == -1)=false:=by simp
 rw[e];simp
theorem YD{s sub:Str}(h:∀j,j<=s.length->Go.Lib.occAt s sub j=false):Go.Lib.split s sub=[s]:=by
 have a:=Go.Lib.index_none h;have hc:=Go.Lib.count_miss a;unfold Go.Lib.split;rw[hc];rfl
theorem Io(s:Str)(c:UInt8)(i:Nat):Go.Lib.occAt s [c] i=(s[i]? == some c):=by
 unfold Go.Lib.occAt;cases h:s.drop i with
 | nil=>
  have:s[i]?=none:=zJ (List.drop_eq_nil_iff.1 h);rw[this];rfl
 | cons x r=>
  have:s[i]?=some x:=by
   have:=congrArg (·[0]?) h;simpa using this
  rw[this];show ((c==x)&&true)=(x==c)
  rw[Bool.and_true];by_cases e:c=x
  ·subst e;rfl
  ·have a:(c==x)=false:=by simpa using e
   have b:(x==c)=false:=by simpa using λh=>e h.symm
   rw[a,b]
theorem DU(s sub:Str)(f j:Nat):Go.Lib.occAt (s.drop f) sub j=Go.Lib.occAt s sub (f+j):=by
 unfold Go.Lib.occAt;rw[List.drop_drop]
abbrev SpX:=Str×Int×(List Str)×Int×Int
noncomputable def uM:SpX->Option (SpX⊕List Str):=(λ(a:Str×Int×(List Str)×Int×Int)=>
      bif (decide (a.2.2.2.2<=(a.1.length:Int)))then
       bif (a.2.2.2.2==(a.1.length:Int))then
        (eff.cutL a.1 (some a.2.2.2.1) (some a.2.2.2.2)).bind λb=>
        (gd (a.2.2.1.length+([b]:List Str).length)).bind λ_=>
        some (.inl (a.1,a.2.1,a.2.2.1++([b]:List Str),w64 (a.2.2.2.2+1),w64 (a.2.2.2.2+1)))
       else
        (idx a.1 a.2.2.2.2).bind λc3=>
        bif ((c3.toNat:Int)==a.2.1)then
         (eff.cutL a.1 (some a.2.2.2.1) (some a.2.2.2.2)).bind λc=>
         (gd (a.2.2.1.length+([c]:List Str).length)).bind λ_=>
         some (.inl (a.1,a.2.1,a.2.2.1++([c]:List Str),w64 (a.2.2.2.2+1),w64 (a.2.2.2.2+1)))
        else
         some (.inl (a.1,a.2.1,a.2.2.1,a.2.2.2.1,w64 (a.2.2.2.2+1)))
      else
       some (.inr (a.2.2.1))
  )
theorem QV(s:Str)(c:UInt8)(y:s.length<=1048576):nY s (c.toNat:Int)=some (Go.Lib.split s [c]):=by
 have key:∀(k i f:Nat) (out:List Str),s.length+1=i+k->f<=i->i<=s.length->out.length<=i->(∀j,f<=j->j<i->Go.Lib.occAt s [c] j=false) ->
   aO uM (s,(c.toNat:Int),out,(f:Int),(i:Int))=some (out++Go.Lib.split (s.drop f) [c]):=by
  intro k;induction k with
  | zero=>intro i f out l _ t;omega
  | succ k ih=>
   intro i f out hk hf v z a;have m:decide ((i:Int)<=(s.length:Int))=true:=by simp;omega
   have n:w64 ((i:Int)+1)=((i+1:Nat):Int):=by rw[bQ (by omega) (by omega)];omega
   have u:∀x:Str,gd (out.length+([x]:List Str).length)=some ():=λx=>bK (by simp;omega)
   have hcut:=akA s f i hf v;have hNo:Go.Lib.NoOcc (s.drop f) [c] (i-f):=λj o=>by rw[DU];exact a (f+j) (by omega) (by omega)
   rw[aX];by_cases w:i=s.length
   ·subst w;have e:((s.length:Int)==(s.length:Int))=true:=by simp
    have b:uM (s,(c.toNat:Int),out,(f:Int),(s.length:Int))=some (.inl (s,(c.toNat:Int),out++[(s.take s.length).drop f],((s.length+1:Nat):Int),((s.length+1:Nat):Int))):=by
     simp only[uM,m,e,ab,hcut,zA,u,n]
    rw[b];simp only;rw[aX];have d:decide (((s.length+1:Nat):Int)<=(s.length:Int))=false:=by simp;omega
    have p:uM (s,(c.toNat:Int),out++[(s.take s.length).drop f],((s.length+1:Nat):Int),((s.length+1:Nat):Int))=some (.inr (out++[(s.take s.length).drop f])):=by
     simp only[uM,d,aa]
    rw[p];simp only;rw[YD (s:=s.drop f) (sub:=[c]) λj o=>?_,List.take_length];rw[DU];by_cases q:f+j<s.length
    ·exact a (f+j) (by omega) q
    ·rw[Io,zJ (by omega)];rfl
   ·have r:i<s.length:=by omega
    have e:((i:Int)==(s.length:Int))=false:=by simp;omega
    have g:=zF r;by_cases hc:s[i]=c
    ·have d:((s[i].toNat:Int)==(c.toNat:Int))=true:=by rw[hc];simp
     have b:uM (s,(c.toNat:Int),out,(f:Int),(i:Int))=some (.inl (s,(c.toNat:Int),out++[(s.take i).drop f],((i+1:Nat):Int),((i+1:Nat):Int))):=by
      simp only[uM,m,e,d,ab,aa,aQ,g,hcut,zA,u,n]
     rw[b];simp only;rw[ih (i+1) (i+1) (out++[(s.take i).drop f]) (by omega) (ar _) (by omega) (by simp;omega) (λj l t=>by omega)];rw[abv (s:=s.drop f) (sub:=[c]) (i:=i-f) (by simp) hNo (by simp;omega) (by rw[DU,Io,show f+(i-f)=i by omega,g,hc];simp)];rw[List.drop_drop,List.drop_take,show f+(i-f+[c].length)=i+1 by simp;omega];simp
    ·have d:((s[i].toNat:Int)==(c.toNat:Int))=false:=by
      have:¬s[i].toNat=c.toNat:=λh=>hc (UInt8.toNat_inj.1 h)
      simp;omega
     have b:uM (s,(c.toNat:Int),out,(f:Int),(i:Int))=some (.inl (s,(c.toNat:Int),out,(f:Int),((i+1:Nat):Int))):=by
      simp only[uM,m,e,d,ab,aa,aQ,g,zA,n]
     rw[b];simp only;refine ih (i+1) f out (by omega) (by omega) (by omega) (by omega) λj l t=>?_
     by_cases o:j<i
     ·exact a j l o
     ·have:j=i:=by omega
      subst this;rw[Io,g];simpa using hc
 have:=key (s.length+1) 0 0 [] (by omega) (ar _) (Nat.zero_le _) (Nat.zero_le _) (λj _ h=>by omega);show aO uM (s,(c.toNat:Int),[],0,0)=_
 simpa using this
theorem Rw(s:Str)(c:UInt8)(a:s.length<=1048576):lY s (c.toNat:Int)=some (Go.Lib.split s [c]):=by
 unfold lY wE;have e:bytesOf [(c.toNat:Int)]=[c]:=acV [c];rw[e,if_pos ⟨by omega,by simp⟩];rfl
theorem adu(s sub:Str):Go.Lib.split s sub≠[]:=by
 unfold Go.Lib.split;cases Go.Lib.count s sub with
 | zero=>simp[Go.Lib.splitK]
 | succ k=>
  unfold Go.Lib.splitK;split<;>simp
theorem QS(s sub:Str):(Go.Lib.split s sub).length<=s.length+2/\∀p,p∈Go.Lib.split s sub->p.length<=s.length:=by
 have key:∀(k:Nat) (s:Str),(Go.Lib.splitK sub 0 k s).length<=k+1/\∀p,p∈Go.Lib.splitK sub 0 k s->p.length<=s.length:=by
  intro k;induction k with
  | zero=>intro s;exact⟨ar _,λp hp=>by rw[List.mem_singleton.1 hp];exact ar _⟩
  | succ k ih=>
   intro s;unfold Go.Lib.splitK;split
   ·exact⟨by simp,λp hp=>by rw[List.mem_singleton.1 hp];exact ar _⟩
   ·obtain⟨b,a⟩:=ih (s.drop ((Go.Lib.index s sub).toNat+sub.length));refine⟨by simp only[List.length_cons];omega,λp hp=>?_⟩;rcases ba.1 hp with rfl | hp
    ·rw[a8];omega
    ·have:=a p hp;rw[List.length_drop]at this;omega
 have hc:=Go.Lib.count_le s sub;obtain⟨b,a⟩:=key (Go.Lib.count s sub) s;exact⟨by unfold Go.Lib.split;omega,a⟩
theorem WN(s:Str):∀(xs:List Str) (i:Nat),(fQ (λi (x:Str)=>bif x==s then some (i:Int)else none) i xs).getD (-1)=posOf s i xs
 | [],_=>rfl
 | x::r,i=>by
  unfold fQ posOf;cases h:(x==s)with
  | true=>rfl
  | false=>exact WN s r (i+1)
theorem Jg(xs:List Str)(s:Str)(b:(xs.length:Int)<=1048576):zN xs s=some (posOf s 0 xs):=by
 unfold zN;rw[<- WN];refine qQ (λi=>((xs,s,(i:Int)):(List Str)×Str×Int)) xs _ _ (λi x a=>?_) ?_
 ·simp only[dw a,ab,aQ,a,zA,dW a b];cases (x==s)<;>rfl
 ·simp only[bP,aa]
theorem D9(v:af)(s:Str)(a:(v.columns.length:Int)<=1048576):dH v s=some (posOf s 0 v.columns):=by
 unfold dH;rw[Ar _ _ (by omega)];rfl
theorem Dy(v:af)(s:Str)(a:(v.columns.length:Int)<=1048576):dS v s=some (posOf s 0 v.columns):=by
 unfold dS;rw[Jg _ _ a];rfl
theorem Ji(s:Str):∀(xs:List Str) (i:Nat),posOf s i xs = -1\/∃n:Nat,n<xs.length/\posOf s i xs=((i+n:Nat):Int)/\xs[n]?=some s
 | [],_=>.inl rfl
 | x::r,i=>by
  unfold posOf;by_cases h:(x==s)=true
  ·rw[if_pos h];exact .inr ⟨0,by simp,rfl,by simpa using h⟩
  ·rw[if_neg h];rcases Ji s r (i+1)with a | ⟨n,d,b,c⟩
   ·exact .inl a
   ·exact .inr ⟨n+1,by simp;omega,by rw[b];omega,by simpa using c⟩
theorem jI(s:Str)(xs:List Str):posOf s 0 xs = -1\/∃n:Nat,n<xs.length/\posOf s 0 xs=(n:Int)/\xs[n]?=some s:=by
 rcases Ji s xs 0 with h | ⟨n,a,b,c⟩
 ·exact .inl h
 ·exact .inr ⟨n,a,by rw[b,Nat.zero_add],c⟩
structure TbF(c:List Str)(r:List aB):Prop where
 cl:clB c=true
 c4:c.length<=4
 len:(r.length:Int)<=12
 row:∀x,x∈r->x.cells.length=c.length/\(∀n,n∈x.cells->nB n=true)/\Pe x.orig=true
theorem Df{c:List Str}{r:List aB}(h:tbB c r=true):TbF c r:=by
 unfold tbB at h;simp only[zI,decide_eq_true_eq,List.all_eq_true]at h;obtain⟨b,d,e⟩:=h;have a:=b;unfold clB at a;simp only[zI,decide_eq_true_eq]at a;refine⟨b,by omega,d,λx f=>?_⟩;have:=e x f;unfold rwB at this;simp only[zI,beq_iff_eq,List.all_eq_true]at this;exact⟨by omega,this.2.1,this.2.2⟩
theorem QN{c:List Str}{r:List aB}(d:clB c=true)(e:(r.length:Int)<=12)(a:∀x,x∈r->x.cells.length=c.length/\(∀n,n∈x.cells->nB n=true)/\Pe x.orig=true):tbB c r=true:=by
 unfold tbB;simp only[zI,decide_eq_true_eq,List.all_eq_true];refine⟨d,e,λx b=>?_⟩;unfold rwB;simp only[zI,beq_iff_eq,List.all_eq_true];exact⟨by rw[(a x b).1],(a x b).2.1,(a x b).2.2⟩
structure RwOk(P:List aj)(r:aB):Prop where
 fit:Fit B20 (.base .row) r
 org:∀o,o∈r.orig->o∈P
theorem VOk.row{P:List aj}{v:af}(h:VOk P v){x:aB}(a:x∈v.rows):RwOk P x:=by
 obtain⟨f,o⟩:=h;obtain⟨_,_,_,_,_,_,b⟩:=dK.1 f;cases o with
 | mk c _=>exact⟨b.dB x a,c x a⟩
theorem GZ{P:List aj}{c:List Str}{r:List aB}(hc:bZ B20 (.list (.base .str) c))(b:(r.length:Int)<=1048576)(h:∀x,x∈r->RwOk P x):VOk P (tK c r):=
 ⟨dK.2 ⟨nU (dL (by simp[tK]) (by simp[tK])),nU (dL (by simp[tK]) (by simp[tK])),nU (dL (by simp[tK]) (by simp[tK])),qm,pU,hc,dh b λx a=>(h x a).fit⟩,.mk (λx a=>(h x a).org) λx a=>by cases a⟩
theorem X5(n:Nat):decide ((n:Int)<0)=false:=by simp
theorem acR{P:List aj}(a b:af)(k:VOk P a)(l:VOk P b):Al P (wP a b) (wo a b):=by
 unfold wP wo;rw[aC,aC];refine qN [2,5] (Vt k.fit l.fit) rfl (λe=>dZ e) (λe=>dZ e) λo hk=>?_
 have p:b.kind=5:=hk 1 b 5 rfl rfl;obtain⟨v,q⟩:=tY (o b abA) p;have tb:=Df q;have g:(b.columns.length:Int)<=1048576:=by have:=tb.c4;omega
 have r:=tb.len;simp only[zV,aa,D9 b _ g,Dy b _ g,zA,jY,jX,aC,Oj,LV];rcases jI a.text b.columns with hp | ⟨n,w,hp,_⟩
 ·rw[hp];exact⟨dI 7,rfl,rfl,bD (by omega) (by omega)⟩
 rw[hp,X5 n];simp only[aa];by_cases j:(b.rows.length:Int)>8
 ·rw[ae j];exact⟨dI 6,rfl,rfl,bD (by omega) (by omega)⟩
 rw[ac j];simp only[aa];refine jP (λ(s:List af) (i:Nat)=>((0:Int),(0:Int),(0:Int),([]:Str),([]:List af),([]:List Str),([]:List aB),(n:Int),(3:Int),(0:Int),(0:Int),([]:Str),s,([]:List Str),([]:List aB),b.rows,(b.rows.length:Int),(i:Int)))
  (λ(s:List af) (i:Nat)=>(b.kind,b.n,b.step,b.text,b.list,b.columns,b.rows,(0:Int),(0:Int),(0:Int),([]:Str),([]:List af),([]:List Str),([]:List aB),(n:Int),(3:Int),(0:Int),(0:Int),([]:Str),s,([]:List Str),([]:List aB),(i:Int)))
  b.rows (λi s=>s.length=i/\∀x,x∈s->∃m,x=lX m/\nB m=true) _ (λi x s c d=>?_) (λs d=>?_) [] ⟨rfl,λx c=>by cases c⟩
 ·obtain⟨z,t,_⟩:=tb.row x (zG c);have A:=(zC.1 c).1;have hc:x.cells[n]?=some x.cells[n]:=zF (by omega);have u:gd (s.length+[lX x.cells[n]].length)=some ():=bK (by rw[d.1];simp;omega);simp only[dw c,ab,aQ,c,hc,zA,dW c (by omega),u];refine .inl ⟨s++[lX x.cells[n]],rfl,rfl,by simp[d.1],λy f=>?_⟩;rcases List.mem_append.1 f with f | f
  ·exact d.2 y f
  ·rw[List.mem_singleton]at f;exact⟨_,f,t _ (zG hc)⟩
 ·refine⟨nT s,by simp only[bP,aa];rfl,by simp only[bP,aa];rfl,Iu (by omega) λx c=>?_,(uw s).2 ⟨λx c=>?_,by omega⟩⟩
  ·obtain⟨m,rfl,h⟩:=d.2 x c;exact (iO h).1
  ·obtain⟨m,rfl,h⟩:=d.2 x c;exact⟨rfl,(iO (P:=P) h).2,by rw[AL];simp only[lX,oI];decide⟩
theorem ac4{P:List aj}(a b c:af)(l:VOk P a)(m:VOk P b)(hc:VOk P c):Al P (pY a b c) (o9 a b c):=by
 unfold pY o9;rw[aC,aC,aC];refine qN [2,1,5] (akp l.fit m.fit hc.fit) rfl (λe=>dZ e) (λe=>dZ e) λo hk=>?_
 have p:c.kind=5:=hk 2 c 5 rfl rfl;obtain⟨v,q⟩:=tY (o c (by simp)) p;have tb:=Df q;have h:(c.columns.length:Int)<=1048576:=by have:=tb.c4;omega
 have r:=tb.len;simp only[zV,aa,D9 c _ h,Dy c _ h,zA,jY,jX,aC];rcases jI a.text c.columns with hp | ⟨n,w,hp,_⟩
 ·rw[hp];exact⟨dI 7,rfl,rfl,bD (by omega) (by omega)⟩
 rw[hp,X5 n];simp only[aa,bK (show 0+c.columns.length<=34359738368 by omega),zA];refine jP (λ(s:List aB) (i:Nat)=>(b.kind,b.n,b.step,b.text,b.list,b.columns,b.rows,(0:Int),(0:Int),(0:Int),([]:Str),([]:List af),([]:List Str),([]:List aB),(n:Int),(5:Int),(0:Int),(0:Int),([]:Str),([]:List af),[]++c.columns,s,c.rows,(c.rows.length:Int),(i:Int)))
  (λ(s:List aB) (i:Nat)=>(b.kind,b.n,b.step,b.text,b.list,b.columns,b.rows,c.kind,c.n,c.step,c.text,c.list,c.columns,c.rows,(0:Int),(0:Int),(0:Int),([]:Str),([]:List af),([]:List Str),([]:List aB),(n:Int),(5:Int),(0:Int),(0:Int),([]:Str),([]:List af),[]++c.columns,s,(i:Int)))
  c.rows (λi s=>s.length<=i/\∀x,x∈s->x∈c.rows) _ (λi x s d f=>?_) (λs f=>?_) [] ⟨ar _,λx d=>by cases d⟩
 ·have j:=zG d;obtain⟨z,A,_⟩:=tb.row x j;have B:=(zC.1 d).1;have k:x.cells[n]?=some x.cells[n]:=zF (by omega);have t:gd (s.length+[x].length)=some ():=bK (by have:=f.1;simp;omega);simp only[dw d,ab,aQ,d,k,zA,dW d (by omega),Jq x (hc.row j).fit,QW x (hc.row j).fit,t];cases (x.cells[n]==b.n)with
  | false=>exact .inl ⟨s,rfl,rfl,by omega,f.2⟩
  | true=>
   refine .inl ⟨s++[x],rfl,rfl,by have:=f.1;simp;omega,λy g=>?_⟩;rcases List.mem_append.1 g with g | g
   ·exact f.2 y g
   ·rw[List.mem_singleton]at g;rw[g];exact j
 ·have u:=(dK.1 hc.fit).2.2.2.2.2.1;refine⟨tK c.columns s,by simp only[bP,aa];rfl,by simp only[bP,aa];rfl,GZ u (by have:=f.1;omega) λx d=>hc.row (f.2 x d),?_⟩;rw[AY];exact QN tb.cl (by have:=f.1;omega) λx d=>tb.row x (f.2 x d)
theorem Vq{α β X ρ:Type}{g:X->Option (X⊕ρ)}(pk:List β->Nat->X)(xs:List α)(p:α->Bool)(f:α->β)(no:List β->ρ)(yes:ρ)
  (c:∀i x,xs[i]?=some x->((xs.take i).map f).length=i->g (pk ((xs.take i).map f) i)=bif p x then some (.inl (pk ((xs.take i).map f++[f x]) (i+1)))else some (.inr (no ((xs.take i).map f))))
  (hf:g (pk (xs.map f) xs.length)=some (.inr yes)):∃l,aO g (pk [] 0)=some (bif xs.all p then yes else no l):=by
 have key:∀(k i:Nat),xs.length=i+k->∃l,aO g (pk ((xs.take i).map f) i)=some (bif (xs.drop i).all p then yes else no l):=by
  intro k;induction k with
  | zero=>
   intro i d;have:i=xs.length:=by omega
   subst this;rw[List.take_length,List.drop_length,aX,hf];exact⟨[],rfl⟩
  | succ k ih=>
   intro i d;have a:i<xs.length:=by omega
   have b:xs[i]?=some xs[i]:=zF a;rw[aX,c i _ b (by rw[List.length_map,a8];omega),List.drop_eq_getElem_cons a,List.all_cons];cases p xs[i]with
   | false=>exact⟨_,rfl⟩
   | true=>
    simp only[ab,Bool.true_and];have:(xs.take i).map f++[f xs[i]]=(xs.take (i+1)).map f:=by rw[take_snoc b,List.map_append];rfl
    rw[this];exact ih (i+1) (by omega)
 exact key xs.length 0 (by omega)
theorem via{σ X Y ρ:Type}{A:Option (X⊕ρ)}{B:Option (Y⊕ρ)}(q:Bool)(s':σ)(e:ρ){b:σ->X}{c:σ->Y}{J:σ->Prop}{R:ρ->Prop}
  (a:∃_:List Int,A=some (bif q then .inl (b s')else .inr e)) (d:B=some (bif q then .inl (c s')else .inr e)) (f:q=true->J s') (g:R e) :
  (∃s',A=some (.inl (b s'))/\B=some (.inl (c s'))/\J s')\/∃r,A=some (.inr r)/\B=some (.inr r)/\R r:=by
 obtain⟨_,a⟩:=a;cases q with
 | false=>exact .inr ⟨e,a,d,g⟩
 | true=>exact .inl ⟨s',a,d,f rfl⟩
def isN(v:af):Bool:=v.kind==1
theorem adF(v:af)(b:(v.list.length:Int)<=1048576):∃l,xA v=some (bif v.list.all isN then (v.list.map (·.n),v.kind==3)else (l,false)):=by
 unfold xA;refine Vq (λ(s:List Int) (i:Nat)=>((v.kind,v.n,v.step,v.text,v.list,v.columns,v.rows,s,(i:Int)):Int×Int×Int×Str×(List af)×(List Str)×(List aB)×(List Int)×Int)) v.list isN (·.n) (λl=>(l,false)) _ (λi x a c=>?_) ?_
 ·have d:=(zC.1 a).1;have e:gd (((v.list.take i).map (·.n)).length+[x.n].length)=some ():=bK (by rw[c];simp;omega);unfold isN;simp only[dw a,ab,aQ,a,zA,dW a b,e,bne];cases (x.kind==1)<;>rfl
 ·simp only[bP,aa]
theorem adn{P:List aj}(a b:af)(M:VOk P a)(G:VOk P b):Al P (Aj a b) (y5 a b):=by
 unfold Aj y5;rw[aC,aC];refine qN [2,3] (Vt M.fit G.fit) rfl (λe=>dZ e) (λe=>dZ e) λH hk=>?_
 have N:a.kind=2:=hk 0 a 2 rfl rfl;have O:b.kind=3:=hk 1 b 3 rfl rfl;obtain⟨_,I⟩:=tX (H a afa) N;obtain⟨Q,v,R,_⟩:=kD (H b abA) O;have w:=(rq _).1 v;unfold txB at I;rw[zI,decide_eq_true_eq]at I;obtain⟨Y,S⟩:=QS a.text [32];have h:bZ B20 (.list (.base .str) (Go.Lib.split a.text [32])):=dh (by omega) λx f=>by
  have:=S x f;intro d p;rw[show Ty.cells (.base .str) x=[.str x]from rfl,List.mem_singleton]at p;rw[p];exact Fz (by omega)
 have T:lY a.text 32=some (Go.Lib.split a.text [32]):=Rw a.text 32 (by omega);have U:nY a.text 32=some (Go.Lib.split a.text [32]):=QV a.text 32 (by omega);generalize Go.Lib.split a.text [32]=cols at *;simp only[zV,aa,T,U,ae5 cols h,adV cols h,zA,jY,jX,aC];cases A:clB cols with
 | false=>exact⟨dI 7,rfl,rfl,bD (by omega) (by omega)⟩
 | true=>
 simp only[aL,aa];refine jP (λ(s:List aB) (i:Nat)=>((0:Int),(0:Int),(0:Int),([]:Str),([]:List af),([]:List Str),([]:List aB),(5:Int),(0:Int),(0:Int),([]:Str),([]:List af),cols,s,b.list,(b.list.length:Int),(i:Int)))
  (λ(s:List aB) (i:Nat)=>(b.kind,b.n,b.step,b.text,b.list,b.columns,b.rows,(0:Int),(0:Int),(0:Int),([]:Str),([]:List af),([]:List Str),([]:List aB),(5:Int),(0:Int),(0:Int),([]:Str),([]:List af),cols,s,(i:Int)))
  b.list (λi s=>s.length=i/\∀x,x∈s->x.cells.length=cols.length/\(∀n,n∈x.cells->nB n=true)/\x.orig=[]) _ (λi x s f k=>?_) (λs k=>?_) [] ⟨rfl,λx f=>by cases f⟩
 ·have J:=zG f;have Z:=(zC.1 f).1;have B:=G.mem J;have q:=bT (dK.1 B.fit).2.2.2.2.1;obtain⟨l,r⟩:=adF x q;simp only[dw f,ab,aQ,f,zA,dW f (by omega),r,bne];by_cases m:x.kind=3
  case neg=>
   have C:(x.kind==3)=false:=by simpa using m
   rw[C]
   refine .inr ⟨dI 4,rfl,?_,bD (by omega) (by omega)⟩
   cases x.list.all isN<;>rfl
  have C:(x.kind==3)=true:=by simpa using m
  rw[C];simp only[aL,aa];by_cases D:x.list.length=cols.length
  case neg=>
   have el:((x.list.length:Int)==(cols.length:Int))=false:=by rw[beq_eq_false_iff_ne];omega
   rw[el]
   refine .inr ⟨dI 4,rfl,?_,bD (by omega) (by omega)⟩
   cases x.list.all isN with
   | false=>rfl
   | true=>
    simp only[ab,aL,aa,List.length_map,el]
    rfl
  have el:((x.list.length:Int)==(cols.length:Int))=true:=by rw[beq_iff_eq];omega
  rw[el];simp only[aL,aa];have E:=dW f (show (b.list.length:Int)<=1048576 by omega);refine via (x.list.all isN) (s++[aB.mk (x.list.map (·.n)) []]) (dI 4) ?_ ?_ (λV=>⟨by simp[k.1],λy g=>?_⟩) (bD (by omega) (by omega))
  ·refine Vq (λ(c:List Int) (j:Nat)=>((0:Int),(0:Int),(0:Int),([]:Str),([]:List af),([]:List Str),([]:List aB),(5:Int),(0:Int),(0:Int),([]:Str),([]:List af),cols,s,c,([]:List aj),b.list,(b.list.length:Int),(i:Int),x.list,(x.list.length:Int),(j:Int))) x.list isN (·.n) (λ_=>Sum.inr (dI 4)) _ (λj y g W=>?_) ?_
   ·have X:=(zC.1 g).1;have t:gd (((x.list.take j).map (·.n)).length+[y.n].length)=some ():=bK (by rw[W];simp;omega);unfold isN;simp only[dw g,ab,aQ,g,zA,dW g q,t];cases (y.kind==1)<;>rfl
   ·have t:gd (s.length+[aB.mk (x.list.map (·.n)) []].length)=some ():=bK (by rw[k.1];simp;omega);simp only[bP,aa,t,zA,E]
  ·have t:gd (s.length+[aB.mk (x.list.map (·.n)) []].length)=some ():=bK (by rw[k.1];simp;omega);cases x.list.all isN with
   | false=>rfl
   | true=>simp only[ab,aL,aa,List.length_map,el,t,zA]
  ·rcases List.mem_append.1 g with g | g
   ·exact k.2 y g
   ·rw[List.mem_singleton]at g;rw[g];refine⟨by rw[List.length_map];exact D,λn r=>?_,rfl⟩;obtain⟨z,K,rfl⟩:=List.mem_map.1 r;have F:z.kind=1:=by
     have:=List.all_eq_true.1 V z K;unfold isN at this;simpa using this
    have u:=(w x J).2;obtain⟨_,w1,_,_⟩:=kD u m;exact (SV ((rq _).1 w1 z K).2 F).2
 ·refine⟨tK cols s,by simp only[bP,aa];rfl,by simp only[bP,aa];rfl,GZ h (by omega) λx f=>?_,?_⟩
  ·obtain⟨w1,w2,w3⟩:=k.2 x f;exact⟨iy.2 ⟨dh (by rw[w1];exact bT h) λn r=>by
    have:=w2 n r;unfold nB at this;rw[zI,decide_eq_true_eq,decide_eq_true_eq]at this;intro d p;rw[show Ty.cells (.base .int) n=[.int .i64 n]from rfl,List.mem_singleton]at p;rw[p];exact nU (dL this.1 this.2),by rw[w3];exact pU⟩,λo L=>by rw[w3]at L;cases L⟩
  ·rw[AY];exact QN A (by omega) λx f=>by
    obtain⟨w1,w2,w3⟩:=k.2 x f;exact⟨w1,w2,by rw[w3];rfl⟩
theorem Gy{α:Type}(p:Nat->α->Bool):∀(xs ys:List α) (i:Nat),jK p i (xs++ys)=(jK p i xs&&jK p (i+xs.length) ys)
 | [],ys,i=>rfl
 | x::r,ys,i=>by
  show (p i x&&jK p (i+1) (r++ys))=((p i x&&jK p (i+1) r)&&jK p (i+(r.length+1)) ys)
  rw[Gy p r ys (i+1),Bool.and_assoc,show i+1+r.length=i+(r.length+1) by omega]
theorem JB{α:Type}{p q:Nat->α->Bool}:∀(xs:List α) (i:Nat),(∀j x,xs[j]?=some x->p (i+j) x=q (i+j) x)->jK p i xs=jK q i xs
 | [],_,_=>rfl
 | x::r,i,h=>by
  show (p i x&&jK p (i+1) r)=(q i x&&jK q (i+1) r)
  have e:jK p (i+1) r=jK q (i+1) r:=JB (p:=p) (q:=q) r (i+1) λj y b=>by
   have a:=h (j+1) y (by simpa using b);have ea:i+(j+1)=i+1+j:=by omega
   rw[ea]at a;exact a
  rw[show p i x=q i x from h 0 x rfl,e]
theorem X0(xs:List Str)(s:Str):dsB (xs++[s])=(dsB xs&&!xs.contains s):=by
 unfold dsB;rw[Gy];congr 1
 ·refine JB xs 0 λj x a=>?_
  have:=(zC.1 a).1;rw[Nat.zero_add,List.take_append_of_le_length (by omega)]
 ·show ((!((xs++[s]).take (0+xs.length)).contains s)&&true)=_
  rw[Nat.zero_add,List.take_left,Bool.and_true]
theorem aft{xs:List Str}{s:Str}(h:clB xs=true)(a:nmB s=true)(d:xs.length<4)(hc:xs.contains s=false):clB (xs++[s])=true:=by
 unfold clB at h ⊢;simp only[zI,decide_eq_true_eq]at h;obtain⟨b,_,c⟩:=h;rw[List.all_append,b,X0,c,hc];simp only[List.all_cons,List.all_nil,a,Bool.and_self,Bool.and_true,Bool.true_and,Bool.not_false,zI,decide_eq_true_eq,a6,List.length_cons,List.length_nil];omega
theorem N9{n:Int}(h:nB n=true):Fit B20 (.base .int) n:=by
 unfold nB at h;rw[zI,decide_eq_true_eq,decide_eq_true_eq]at h;intro d a;rw[show Ty.cells (.base .int) n=[.int .i64 n]from rfl,List.mem_singleton]at a;rw[a];exact nU (dL h.1 h.2)
theorem Tz{s:Str}(h:(s.length:Int)<=1048576):Fit B20 (.base .str) s:=by
 intro d a;rw[show Ty.cells (.base .str) s=[.str s]from rfl,List.mem_singleton]at a;rw[a];exact Fz h
theorem ad8{s:Str}{xs:List Str}(h:posOf s 0 xs = -1):xs.contains s=false:=(Ii s xs 0).1 (by rw[h];omega)
theorem akF{P:List aj}(a b c d:af)(O:VOk P a)(Q:VOk P b)(hc:VOk P c)(w:VOk P d):Al P (sU a b c d) (rW a b c d):=by
 unfold sU rW;rw[aC,aC,aC,aC];refine qN [2,2,2,5] (fit4 O.fit Q.fit hc.fit w.fit) rfl (λe=>dZ e) (λe=>dZ e) λH hk=>?_
 have R:d.kind=5:=hk 3 d 5 rfl rfl;have S:a.kind=2:=hk 0 a 2 rfl rfl;obtain⟨T,U⟩:=tY (H d (by simp)) R;obtain⟨_,z⟩:=tX (H a (by simp)) S;unfold txB at z;rw[zI,decide_eq_true_eq]at z;have tb:=Df U;have A:(d.columns.length:Int)<=1048576:=by have:=tb.c4;omega
 have V:=tb.len;have W:=tb.c4;have X:=(dK.1 w.fit).2.2.2.2.2.1;simp only[zV,aa,D9 d _ A,Dy d _ A,Om a.text (by omega),LW a.text (by omega),zA,jY,jX,aC,fH d w.fit,iJ d w.fit,IB,Dj];cases D:nmB a.text with
 | false=>exact⟨dI 7,rfl,rfl,bD (by omega) (by omega)⟩
 | true=>
 simp only[aL,aa];rcases jI a.text d.columns with hp | ⟨n,f,hp,_⟩
 case inr=>
  rw[hp,show decide ((n:Int)>=0)=true by simp]
  exact⟨dI 7,rfl,rfl,bD (by omega) (by omega)⟩
 have E:=ad8 hp;rw[hp,show decide ((-1:Int)>=0)=false from rfl];simp only[aa];rcases jI b.text d.columns with q | ⟨o,Y,q,_⟩
 ·rw[q];exact⟨dI 7,rfl,rfl,bD (by omega) (by omega)⟩
 rw[q,X5 o];simp only[aa];rcases jI c.text d.columns with r | ⟨p,Z,r,_⟩
 ·rw[r];exact⟨dI 7,rfl,rfl,bD (by omega) (by omega)⟩
 rw[r,X5 p];simp only[aa];by_cases h4:d.columns.length=4
 ·rw[h4];exact⟨dI 6,rfl,rfl,bD (by omega) (by omega)⟩
 rw[ac (show ¬((d.columns.length:Int)>=4) by omega),show ((d.columns.length:Int)==4)=false by rw[beq_eq_false_iff_ne];omega];simp only[aa,bK (show d.columns.length+([a.text]:List Str).length<=34359738368 by simp;omega),zA];refine jP (λ(s:List aB) (i:Nat)=>((0:Int),(0:Int),(0:Int),([]:Str),([]:List af),([]:List Str),([]:List aB),(o:Int),(p:Int),d.kind,d.n,d.step,d.text,d.list,d.columns++([a.text]:List Str),s,d.rows,(d.rows.length:Int),(i:Int)))
  (λ(s:List aB) (i:Nat)=>(d.kind,d.n,d.step,d.text,d.list,d.columns,d.rows,(0:Int),(0:Int),(0:Int),([]:Str),([]:List af),([]:List Str),([]:List aB),(o:Int),(p:Int),d.kind,d.n,d.step,d.text,d.list,d.columns++([a.text]:List Str),s,(i:Int)))
  d.rows (λi s=>s.length=d.rows.length/\(∀j:Nat,i<=j->s[j]?=d.rows[j]?)/\∀(j:Nat) y,j<i->s[j]?=some y->∃x m,d.rows[j]?=some x/\y=aB.mk (x.cells++[m]) x.orig/\nB m=true) _ (λi x s g F=>?_) (λs F=>?_) d.rows ⟨rfl,λj _=>rfl,λj y h=>absurd h (Nat.not_lt_zero _)⟩
 ·obtain⟨l,t,u⟩:=F;obtain⟨r1,r2,_⟩:=tb.row x (zG g);have hi:=(zC.1 g).1;have e1:x.cells[o]?=some x.cells[o]:=zF (by omega);have e2:x.cells[p]?=some x.cells[p]:=zF (by omega);have es:s[i]?=some x:=by rw[t i (ar _),g]
  have d1:decide ((i:Int)<(s.length:Int))=true:=by rw[l];simp;omega
  have hg:gd (x.cells.length+[w64 (x.cells[o]+x.cells[p])].length)=some ():=bK (by simp only[List.length_cons,List.length_nil];omega);simp only[dw g,d1,ab,aQ,g,e1,e2,es,zA,dW g (by omega),aw,hg,and_self,if_true];cases hm:nB (w64 (x.cells[o]+x.cells[p]))with
  | false=>exact .inr ⟨dI 5,rfl,rfl,bD (by omega) (by omega)⟩
  | true=>
   refine .inl ⟨s.set i (aB.mk (x.cells++[w64 (x.cells[o]+x.cells[p])]) x.orig),rfl,rfl,by rw[List.length_set];exact l,λj C=>?_,λj y C k=>?_⟩
   ·rw[List.getElem?_set_ne (by omega)];exact t j (by omega)
   ·by_cases he:j=i
    ·subst he;rw[List.getElem?_set_self (by omega)]at k;exact⟨x,_,g,(aR k).symm,hm⟩
    ·rw[List.getElem?_set_ne (by omega)]at k;exact u j y (by omega) k
 ·obtain⟨l,t,u⟩:=F;have hall:∀y,y∈s->∃x m,x∈d.rows/\y=aB.mk (x.cells++[m]) x.orig/\nB m=true:=λy k=>by
   obtain⟨j,C⟩:=List.mem_iff_getElem?.1 k;obtain⟨x,m,v,q2,B⟩:=u j y (by have:=(zC.1 C).1;omega) C;exact⟨x,m,zG v,q2,B⟩
  have G:d.kind=5/\d.n=0/\d.step=0/\d.text=[]/\d.list=[]:=by rw[T];exact⟨rfl,rfl,rfl,rfl,rfl⟩
  obtain⟨I,J,K,L,M⟩:=G;refine⟨tK (d.columns++[a.text]) s,?_,?_,GZ (dh (by simp;omega) λx g=>?_) (by omega) λy k=>?_,?_⟩
  ·simp only[bP,aa,I,J,K,L,M];rfl
  ·simp only[l,bP,aa,I,J,K,L,M];rfl
  ·rcases List.mem_append.1 g with g | g
   ·exact X.dB x g
   ·rw[List.mem_singleton]at g;rw[g];exact Tz (by omega)
  ·obtain⟨x,m,v,rfl,B⟩:=hall y k;have N:=w.row v;obtain⟨w1,w2,_⟩:=tb.row x v;refine⟨iy.2 ⟨dh (by simp;omega) λn f=>?_,(iy.1 N.fit).2⟩,N.org⟩;rcases List.mem_append.1 f with f | f
   ·exact N9 (w2 n f)
   ·rw[List.mem_singleton]at f;rw[f];exact N9 B
  ·rw[AY];refine QN (aft tb.cl D (by omega) E) (by omega) λy k=>?_
   obtain⟨x,m,v,rfl,B⟩:=hall y k;obtain⟨w1,w2,w3⟩:=tb.row x v;refine⟨by simp[w1],λn f=>?_,w3⟩;rcases List.mem_append.1 f with f | f
   ·exact w2 n f
   ·rw[List.mem_singleton]at f;rw[f];exact B
def Fv:Nat->List aj->List aj->List aj
 | 0,_,_=>[]
 | _+1,[],b=>b
 | _+1,x::a,[]=>x::a
 | n+1,x::a,y::b=>bif orB x y then x::Fv n a (y::b)else bif orB y x then y::Fv n (x::a) b else x::Fv n a b
theorem su{z:aj}:∀(n:Nat) (a b:List aj),a.length+b.length<n->(z∈Fv n a b↔z∈a\/z∈b)
 | 0,_,_,h=>absurd h (Nat.not_lt_zero _)
 | _+1,[],b,_=>by simp[Fv]
 | _+1,x::a,[],_=>by simp[Fv]
 | n+1,x::a,y::b,h=>by
  simp only[List.length_cons]at h;unfold Fv;cases f:orB x y with
  | true=>
   simp only[ab,ba,su n a (y::b) (by simp only[List.length_cons];omega)];exact (or_assoc).symm
  | false=>
   simp only[aa];cases c:orB y x with
   | true=>
    simp only[ab,ba,su n (x::a) b (by simp only[List.length_cons];omega)];exact or_left_comm
   | false=>
    have e:x=y:=by
     cases d:eqO x y with
     | true=>exact uH.1 d
     | false=>rw[KE d f]at c;cases c
    subst e;simp only[aa,ba,su n a b (by omega)];exact⟨λhh=>hh.elim (λh=>.inl (.inl h)) λhh=>hh.elim (λh=>.inl (.inr h)) λh=>.inr (.inr h),λhh=>hh.elim (λhh=>hh.elim (λh=>.inl h) λh=>.inr (.inl h)) λhh=>hh.elim (λh=>.inl h) λh=>.inr (.inr h)⟩
theorem Gx:∀(n:Nat) (a b:List aj),a.length+b.length<n->Asc a->Asc b->Asc (Fv n a b)
 | 0,_,_,h,_,_=>absurd h (Nat.not_lt_zero _)
 | _+1,[],b,_,_,j=>j
 | _+1,x::a,[],_,k,_=>k
 | n+1,x::a,y::b,h,k,j=>by
  simp only[List.length_cons]at h;obtain⟨d,g⟩:=List.pairwise_cons.1 k;obtain⟨f,i⟩:=List.pairwise_cons.1 j;unfold Fv;cases m:orB x y with
  | true=>
   simp only[ab];refine List.pairwise_cons.2 ⟨λz c=>?_,Gx n a (y::b) (by simp only[List.length_cons];omega) g j⟩;rcases (su n a (y::b) (by simp only[List.length_cons];omega)).1 c with c | c
   ·exact d z c
   ·rcases ba.1 c with rfl | c
    ·exact m
    ·exact wz m (f z c)
  | false=>
   simp only[aa];cases l:orB y x with
   | true=>
    simp only[ab];refine List.pairwise_cons.2 ⟨λz c=>?_,Gx n (x::a) b (by simp only[List.length_cons];omega) k i⟩;rcases (su n (x::a) b (by simp only[List.length_cons];omega)).1 c with c | c
    ·rcases ba.1 c with rfl | c
     ·exact l
     ·exact wz l (d z c)
    ·exact f z c
   | false=>
    have e:x=y:=by
     cases o:eqO x y with
     | true=>exact uH.1 o
     | false=>rw[KE o m]at l;cases l
    subst e;simp only[aa];refine List.pairwise_cons.2 ⟨λz c=>?_,Gx n a b (by omega) g i⟩;rcases (su n a b (by omega)).1 c with c | c
    ·exact d z c
    ·exact f z c
theorem agV{a b:List aj}(c:Asc a)(d:Asc b):Fv (a.length+b.length+1) a b=kP a b:=
 KU (Gx _ a b (Nat.lt_succ_self _) c d) (Gv a b) λo=>by rw[su _ a b (Nat.lt_succ_self _),wC]
theorem Xd:∀(n:Nat) (b:List aj),b.length<n->Fv n [] b=b
 | 0,_,h=>absurd h (Nat.not_lt_zero _)
 | _+1,_,_=>rfl
theorem Rn:∀(n:Nat) (a:List aj),a.length<n->Fv n a []=a
 | 0,_,h=>absurd h (Nat.not_lt_zero _)
 | _+1,[],_=>rfl
 | _+1,_::_,_=>rfl
theorem agU{X:Type}{g:X->Option (X⊕List aj)}(pk:List aj->Nat->Nat->X)(a b:List aj)
  (q:∀out i k x,a[i]?=some x->k<=b.length->(∀y,b[k]?=some y->orB x y=true)->out.length<=i+k->g (pk out i k)=some (.inl (pk (out++[x]) (i+1) k)))
  (r:∀out i k y,b[k]?=some y->i<=a.length->(∀x,a[i]?=some x->orB x y=false/\orB y x=true)->out.length<=i+k->g (pk out i k)=some (.inl (pk (out++[y]) i (k+1))))
  (t:∀out i k x y,a[i]?=some x->b[k]?=some y->orB x y=false->orB y x=false->out.length<=i+k->g (pk out i k)=some (.inl (pk (out++[x]) (i+1) (k+1))))
  (u:∀out,g (pk out a.length b.length)=some (.inr out)) :
  ∀(n i k:Nat) (out:List aj),(a.length-i)+(b.length-k)<n->i<=a.length->k<=b.length->out.length<=i+k->aO g (pk out i k)=some (out++Fv n (a.drop i) (b.drop k)):=by
 intro n;induction n with
 | zero=>intro i k out h;omega
 | succ n ih=>
  intro i k out h m hk f;by_cases o:i=a.length
  ·subst o;by_cases c:k=b.length
   ·subst c;rw[aX,u,List.drop_length,List.drop_length];show _=some (out++[])
    rw[List.append_nil]
   ·have d:b[k]?=some b[k]:=zF (by omega);rw[aX,r out a.length k _ d m (λx e=>by simp at e) f];simp only;rw[ih a.length (k+1) _ (by omega) m (by omega) (by simp;omega),List.drop_length,Xd _ _ (by rw[List.length_drop];omega),Xd _ _ (by rw[List.length_drop];omega),List.drop_eq_getElem_cons (show k<b.length by omega),a7];rfl
  ·have e:a[i]?=some a[i]:=zF (by omega);by_cases c:k=b.length
   ·subst c;rw[aX,q out i b.length _ e hk (λy d=>by simp at d) f];simp only;rw[ih (i+1) b.length _ (by omega) (by omega) hk (by simp;omega),List.drop_length,Rn _ _ (by rw[List.length_drop];omega),Rn _ _ (by rw[List.length_drop];omega),List.drop_eq_getElem_cons (show i<a.length by omega),a7];rfl
   ·have d:b[k]?=some b[k]:=zF (by omega);rw[aX,List.drop_eq_getElem_cons (show i<a.length by omega),List.drop_eq_getElem_cons (show k<b.length by omega)];unfold Fv;cases p:orB a[i] b[k]with
    | true=>
     rw[q out i k _ e hk (λy j=>by rw[d]at j;cases j;exact p) f];simp only[ab];rw[ih (i+1) k _ (by omega) (by omega) hk (by simp;omega),<- List.drop_eq_getElem_cons (show k<b.length by omega),a7];rfl
    | false=>
     cases s:orB b[k] a[i]with
     | true=>
      rw[r out i k _ d m (λx l=>by rw[e]at l;cases l;exact⟨p,s⟩) f];simp only[ab,aa];rw[ih i (k+1) _ (by omega) m (by omega) (by simp;omega),<- List.drop_eq_getElem_cons (show i<a.length by omega),a7];rfl
     | false=>
      rw[t out i k _ _ e d p s f];simp only[aa];rw[ih (i+1) (k+1) _ (by omega) (by omega) (by omega) (by simp;omega),a7];rfl
theorem VE(a b:aj):bfB a b=orB a b:=rfl
theorem upN{i:Nat}(h:(i:Int)<=8388608):w64 ((i:Int)+1)=((i+1:Nat):Int):=by rw[bQ (by omega) (by omega)];rfl
theorem agd(a b:List aj)(o:Asc a)(p:Asc b)(w:(a.length:Int)+(b.length:Int)<=4194304):rD a b=some (kP a b):=by
 unfold rD;rw[<- agV o p];refine (agU (λout i k=>((a,b,out,(i:Int),(k:Int)):(List aj)×(List aj)×(List aj)×Int×Int)) a b (λout i k x c hk f m=>?_) (λout i k y f n c m=>?_) (λout i k x y c f q r m=>?_) (λout=>?_) (a.length+b.length+1) 0 0 [] (by omega) (Nat.zero_le _) (Nat.zero_le _) (by simp)).trans (by simp)
 ·have n:=(zC.1 c).1;have g:gd (out.length+[x].length)=some ():=bK (by simp;omega);by_cases s:k=b.length
  ·have e:((k:Int)==(b.length:Int))=true:=by rw[beq_iff_eq];omega
   simp only[dw c,ab,e,aQ,c,zA,g,upN (show (i:Int)<=8388608 by omega)]
  ·have e:((k:Int)==(b.length:Int))=false:=by rw[beq_eq_false_iff_ne];omega
   have j:b[k]?=some b[k]:=zF (by omega);simp only[dw c,ab,aa,e,aQ,c,j,zA,Ur,VE,f _ j,g,upN (show (i:Int)<=8388608 by omega)]
 ·have hk:=(zC.1 f).1;have g:gd (out.length+[y].length)=some ():=bK (by simp;omega);have e:((k:Int)==(b.length:Int))=false:=by rw[beq_eq_false_iff_ne];omega
  by_cases t:i=a.length
  ·have d:decide ((i:Int)<(a.length:Int))=false:=by rw[decide_eq_false_iff_not];omega
   have l:((i:Int)==(a.length:Int))=true:=by rw[beq_iff_eq];omega
   simp only[d,dw f,e,l,ab,aa,aQ,f,zA,g,upN (show (k:Int)<=8388608 by omega)]
  ·have h:a[i]?=some a[i]:=zF (by omega);have l:((i:Int)==(a.length:Int))=false:=by rw[beq_eq_false_iff_ne];omega
   obtain⟨u,v⟩:=c _ h;simp only[dw h,e,l,ab,aa,aQ,h,f,zA,Ur,VE,u,v,g,upN (show (k:Int)<=8388608 by omega)]
 ·have n:=(zC.1 c).1;have hk:=(zC.1 f).1;have g:gd (out.length+[x].length)=some ():=bK (by simp;omega);have e:((k:Int)==(b.length:Int))=false:=by rw[beq_eq_false_iff_ne];omega
  have l:((i:Int)==(a.length:Int))=false:=by rw[beq_eq_false_iff_ne];omega
  simp only[dw c,e,l,ab,aa,aQ,c,f,zA,Ur,VE,q,r,g,upN (show (i:Int)<=8388608 by omega),upN (show (k:Int)<=8388608 by omega)]
 ·simp only[bP,aa]
theorem Gw:∀xs:List aj,(∀(j:Nat) x y,xs[j]?=some x->xs[j+1]?=some y->orB x y=true)->Asc xs
 | [],_=>List.Pairwise.nil
 | [x],_=>List.pairwise_singleton _ _
 | x::y::r,h=>by
  have e:Asc (y::r):=Gw (y::r) λj a b f g=>h (j+1) a b (by simpa using f) (by simpa using g)
  have c:orB x y=true:=h 0 x y rfl rfl;refine List.pairwise_cons.2 ⟨λz d=>?_,e⟩;rcases ba.1 d with rfl | d
  ·exact c
  ·exact wz c ((List.pairwise_cons.1 e).1 z d)
theorem BV{α:Type}{p:Nat->α->Bool}:∀(xs:List α) (i:Nat),jK p i xs=true->∀(j:Nat) x,xs[j]?=some x->p (i+j) x=true
 | [],_,_,j,x,a=>by simp at a
 | y::r,i,h,j,x,a=>by
  have h:(p i y&&jK p (i+1) r)=true:=h;rw[zI]at h;cases j with
  | zero=>
   have:y=x:=by simpa using a
   rw[<- this];exact h.1
  | succ j=>
   have:=BV r (i+1) h.2 j x (by simpa using a);rw[show i+(j+1)=i+1+j by omega];exact this
theorem Z8{xs:List aj}(h:Pe xs=true):Asc xs:=by
 refine Gw xs λj x y a b=>?_
 have:=BV xs 0 h (j+1) y b;rw[Nat.zero_add]at this;unfold VG at this;simp only[Nat.add_sub_cancel,a,zI]at this;exact this.2
theorem NH{α β X ρ:Type}{g:X->Option (X⊕ρ)}(pk:List β->Nat->X)(xs:List α)(f:α->β)(yes:ρ)
  (a:∀i x,xs[i]?=some x->((xs.take i).map f).length=i->g (pk ((xs.take i).map f) i)=some (.inl (pk ((xs.take i).map f++[f x]) (i+1))))
  (hf:g (pk (xs.map f) xs.length)=some (.inr yes)):aO g (pk [] 0)=some yes:=by
 obtain⟨l,h⟩:=Vq pk xs (λ_=>true) f (λ_=>yes) yes (λi x b c=>by rw[a i x b c];rfl) hf;rw[h,List.all_eq_true.2 λ_ _=>rfl];rfl
theorem aaV{α β X ρ:Type}{g:X->Option (X⊕ρ)}(pk:List β->Nat->X)(xs:List α)(p:α->Bool)(f:α->β)(no yes:ρ)
  (d:∀i x,xs[i]?=some x->((xs.take i).map f).length=i->g (pk ((xs.take i).map f) i)=bif p x then some (.inl (pk ((xs.take i).map f++[f x]) (i+1)))else some (.inr no))
  (hf:xs.all p=true->g (pk (xs.map f) xs.length)=some (.inr yes)):aO g (pk [] 0)=some (bif xs.all p then yes else no):=by
 have key:∀(k i:Nat),xs.length=i+k->(xs.take i).all p=true->aO g (pk ((xs.take i).map f) i)=some (bif (xs.drop i).all p then yes else no):=by
  intro k;induction k with
  | zero=>
   intro i e b;have:i=xs.length:=by omega
   subst this;rw[List.take_length]at b;rw[List.take_length,List.drop_length,aX,hf b];rfl
  | succ k ih=>
   intro i e b;have a:i<xs.length:=by omega
   have c:xs[i]?=some xs[i]:=zF a;rw[aX,d i _ c (by rw[List.length_map,a8];omega),List.drop_eq_getElem_cons a,List.all_cons];cases hp:p xs[i]with
   | false=>rfl
   | true=>
    simp only[ab,Bool.true_and];have:(xs.take i).map f++[f xs[i]]=(xs.take (i+1)).map f:=by rw[take_snoc c,List.map_append];rfl
    rw[this];refine ih (i+1) (by omega) ?_;rw[take_snoc c,List.all_append,b];simp[hp]
 exact key xs.length 0 (by omega) rfl
theorem Rj{α:Type}[BEq α][LawfulBEq α]:∀(xs ys:List α),xs.Nodup->(∀x,x∈xs->x∈ys)->xs.length<=ys.length
 | [],ys,_,_=>Nat.zero_le _
 | x::r,ys,d,a=>by
  obtain⟨e,f⟩:=List.nodup_cons.1 d;have b:x∈ys:=a x aq;have:=Rj r (ys.erase x) f λy c=>(List.mem_erase_of_ne (by rintro rfl;exact e c)).2 (a y (ao _ c))
  rw[List.length_erase_of_mem b]at this;have:0<ys.length:=List.length_pos_of_mem b;simp only[List.length_cons];omega
theorem RX(xs:List Str)(h:dsB xs=true):xs.Nodup:=by
 rw[List.nodup_iff_pairwise_ne,List.pairwise_iff_getElem];intro i j d a b c;have:=BV xs 0 h j xs[j] (zF a);rw[Nat.zero_add]at this;simp only[Bool.not_eq_true',List.contains_eq_mem,decide_eq_false_iff_not]at this;exact this (List.mem_iff_getElem.2 ⟨i,by rw[a8];omega,by rw[List.getElem_take];exact c⟩)
theorem ajx(s:Str)(xs:List Str):decide (posOf s 0 xs<0) = !decide (posOf s 0 xs>=0):=by
 by_cases h:posOf s 0 xs<0
 ·rw[ae h,ac (by omega)];rfl
 ·rw[ac h,ae (by omega)];rfl
def FV(cs:List Str)(s:Str):Bool:=decide (posOf s 0 cs>=0)
theorem OI{cs:List Str}{s:Str}(h:FV cs s=true):∃n:Nat,n<cs.length/\posOf s 0 cs=(n:Int)/\s∈cs:=by
 unfold FV at h;have h:=of_decide_eq_true h;rcases jI s cs with hp | ⟨n,a,hp,b⟩
 ·omega
 ·exact⟨n,a,hp,zG b⟩
def keepR(cs cols:List Str)(r:aB):aB:=aB.mk (cols.map λs=>r.cells.getD (posOf s 0 cs).toNat 0) r.orig
theorem abu(a:Str):1<=(Go.Lib.split a [32]).length:=by
 rw[Nat.succ_le_iff,List.length_pos_iff];exact adu _ _
set_option maxRecDepth 4000 in
theorem ag5{P:List aj}(a b:af)(L:VOk P a)(q:VOk P b):Al P (nI a b) (ng a b):=by
 unfold nI ng;rw[aC,aC];refine qN [2,5] (Vt L.fit q.fit) rfl (λe=>dZ e) (λe=>dZ e) λJ hk=>?_
 have M:b.kind=5:=hk 1 b 5 rfl rfl;have N:a.kind=2:=hk 0 a 2 rfl rfl;obtain⟨h0,O⟩:=tY (J b abA) M;obtain⟨_,r⟩:=tX (J a afa) N;unfold txB at r;rw[zI,decide_eq_true_eq]at r;have tb:=Df O;have Q:=tb.c4;have t:(b.columns.length:Int)<=1048576:=by omega
 have S:=tb.len;obtain⟨q1,T⟩:=QS a.text [32];have q0:=abu a.text;have E:bZ B20 (.list (.base .str) (Go.Lib.split a.text [32])):=dh (by omega) λx c=>by
  have:=T x c;exact Tz (by omega)
 have U:lY a.text 32=some (Go.Lib.split a.text [32]):=Rw a.text 32 (by omega);have V:nY a.text 32=some (Go.Lib.split a.text [32]):=QV a.text 32 (by omega);generalize Go.Lib.split a.text [32]=cols at *;have f:(cols.length:Int)<=1048576:=by omega
 have F:∀(v:af) (s:Str),v.columns=b.columns->dH v s=some (posOf s 0 b.columns):=λv s h=>by rw[D9 v s (by rw[h];exact t),h]
 have u:∀(v:af) (s:Str),v.columns=b.columns->dS v s=some (posOf s 0 b.columns):=λv s h=>by rw[Dy v s (by rw[h];exact t),h]
 have cell:∀(x:aB),x∈b.rows->∀s,s∈cols->cols.all (FV b.columns)=true->idx x.cells (posOf s 0 b.columns)=some (x.cells.getD (posOf s 0 b.columns).toNat 0):=λx c s d G=>by
  obtain⟨n,C,hp,_⟩:=OI (List.all_eq_true.1 G s d);obtain⟨W,_⟩:=tb.row x c;rw[hp,aQ,aw,zF (by omega),zE,zF (by omega)];rfl
 simp only[zV,aa,U,V,zA];let R:af:=bif cols.all (FV b.columns)then bif dsB cols then tK cols (b.rows.map (keepR b.columns cols))else dI 7 else dI 7
 refine⟨R,?_,?_,?_⟩
 ·refine aaV (λ(s:List Int) (i:Nat)=>((b.kind,b.n,b.step,b.text,b.list,b.columns,b.rows,0,0,0,[],[],[],[],5,0,0,[],[],cols,[],s,cols,(cols.length:Int),(i:Int)) :
   Int×Int×Int×Str×(List af)×(List Str)×(List aB)×Int×Int×Int×Str×(List af)×(List Str)×(List aB)×Int×Int×Int×Str×(List af)×(List Str)×(List aB)×(List Int)×(List Str)×Int×Int)) cols (FV b.columns) (λs=>posOf s 0 b.columns) (dI 7) (bif dsB cols then tK cols (b.rows.map (keepR b.columns cols))else dI 7)
   (λi x c p=>?_) (λhall=>?_)
  ·have K:=(zC.1 c).1;have g:gd (((cols.take i).map λs=>posOf s 0 b.columns).length+[posOf x 0 b.columns].length)=some ():=bK (by rw[p];simp;omega);simp only[dw c,ab,aQ,c,zA,F,ajx,jY,aC,g,dW c f];unfold FV;cases decide (posOf x 0 b.columns>=0)<;>rfl
  ·simp only[bP,aa,ZN cols f,zA,jY,aC];cases dsB cols with
   | false=>rfl
   | true=>
    simp only[aL,aa,ab];refine congrArg (λo=>Option.bind o _) (NH (λ(s:List aB) (i:Nat)=>((0,0,0,[],[],[],[],5,0,0,[],[],cols,s,cols.map (λs=>posOf s 0 b.columns),b.rows,(b.rows.length:Int),(i:Int)) :
     Int×Int×Int×Str×(List af)×(List Str)×(List aB)×Int×Int×Int×Str×(List af)×(List Str)×(List aB)×(List Int)×(List aB)×Int×Int)) b.rows (keepR b.columns cols) (tK cols (b.rows.map (keepR b.columns cols))) (λi x c p=>?_) ?_)
    ·have w:=zG c;have K:=(zC.1 c).1;have D:=bT (iy.1 (q.row w).fit).2;simp only[dw c,ab,aQ,c,zA,bK (show 0+x.orig.length<=34359738368 by omega),List.nil_append];refine NH (λ(s:List Int) (j:Nat)=>((0,0,0,[],[],[],[],5,0,0,[],[],cols,(b.rows.take i).map (keepR b.columns cols),cols.map (λs=>posOf s 0 b.columns),x.cells,x.orig,s,x.orig,b.rows,(b.rows.length:Int),(i:Int),cols.map (λs=>posOf s 0 b.columns),((cols.map (λs=>posOf s 0 b.columns)).length:Int),(j:Int)) :
      Int×Int×Int×Str×(List af)×(List Str)×(List aB)×Int×Int×Int×Str×(List af)×(List Str)×(List aB)×(List Int)×(List Int)×(List aj)×(List Int)×(List aj)×(List aB)×Int×Int×(List Int)×Int×Int)) (cols.map (λs=>posOf s 0 b.columns)) (λk=>x.cells.getD k.toNat 0) _ (λj k hk l=>?_) ?_
     ·have Y:=(zC.1 hk).1;have z:=hk;rw[List.getElem?_map]at z;obtain⟨s,d,rfl⟩:=Option.map_eq_some_iff.1 z;have H:((cols.map (λs=>posOf s 0 b.columns)).length:Int)<=1048576:=by rw[List.length_map];exact f
      have g:gd ((((cols.map (λs=>posOf s 0 b.columns)).take j).map (λk=>x.cells.getD k.toNat 0)).length+[x.cells.getD (posOf s 0 b.columns).toNat 0].length)=some ():=bK (by rw[l];simp only[List.length_singleton];omega);simp only[dw hk,ab,aQ,hk,zA,cell x w s (zG d) hall,g,dW hk H]
     ·have g:gd (((b.rows.take i).map (keepR b.columns cols)).length+[aB.mk ((cols.map λs=>posOf s 0 b.columns).map λk=>x.cells.getD k.toNat 0) x.orig].length)=some ():=bK (by rw[p];simp only[List.length_singleton];omega);simp only[bP,aa,g,zA,dW c (show (b.rows.length:Int)<=1048576 by omega)];rw[List.map_map];rfl
    ·simp only[bP,aa];rfl
 ·have I:∀(X:af),(bif cols.all (λs=>FV b.columns s&&dsB cols)then X else dI 7)=bif cols.all (FV b.columns)then bif dsB cols then X else dI 7 else dI 7:=λX=>by
   cases A:dsB cols with
   | true=>simp only[Bool.and_true,ab]
   | false=>
    simp only[Bool.and_false,aa];have:(cols.all λ_=>false)=false:=by
     cases cols with
     | nil=>simp at q0
     | cons _ _=>rfl
    rw[this];cases cols.all (FV b.columns)<;>rfl
  show _=some (bif cols.all (FV b.columns)then bif dsB cols then tK cols (b.rows.map (keepR b.columns cols))else dI 7 else dI 7)
  rw[<- I];refine aaV (λ(_:List Unit) (i:Nat)=>((b.kind,b.n,b.step,b.text,b.list,b.columns,b.rows,0,0,0,[],[],[],[],cols,5,0,0,[],[],cols,[],(i:Int)) :
   Int×Int×Int×Str×(List af)×(List Str)×(List aB)×Int×Int×Int×Str×(List af)×(List Str)×(List aB)×(List Str)×Int×Int×Int×Str×(List af)×(List Str)×(List aB)×Int)) cols (λs=>FV b.columns s&&dsB cols) (λ_=>()) (dI 7) (tK cols (b.rows.map (keepR b.columns cols)))
   (λi x c p=>?_) (λhall=>?_)
  ·simp only[dw c,ab,aQ,c,zA,u,ajx,jX,aC,Za cols f,dW c f];unfold FV;cases decide (posOf x 0 b.columns>=0)<;>cases dsB cols<;>rfl
  ·have hall:cols.all (FV b.columns)=true:=List.all_eq_true.2 λs d=>by
    have:=List.all_eq_true.1 hall s d;rw[zI]at this;exact this.1
   simp only[bP,aa];refine congrArg (λo=>Option.bind o _) (NH (λ(s:List aB) (i:Nat)=>((b.kind,b.n,b.step,b.text,b.list,b.columns,b.rows,0,0,0,[],[],[],[],cols,5,0,0,[],[],cols,s,(i:Int)) :
    Int×Int×Int×Str×(List af)×(List Str)×(List aB)×Int×Int×Int×Str×(List af)×(List Str)×(List aB)×(List Str)×Int×Int×Int×Str×(List af)×(List Str)×(List aB)×Int)) b.rows (keepR b.columns cols) (tK cols (b.rows.map (keepR b.columns cols))) (λi x c p=>?_) ?_)
   ·have w:=zG c;have K:=(zC.1 c).1;have D:=bT (iy.1 (q.row w).fit).2;simp only[dw c,ab,aQ,c,zA,bK (show 0+x.orig.length<=34359738368 by omega),List.nil_append];refine NH (λ(s:List Int) (j:Nat)=>((b.kind,b.n,b.step,b.text,b.list,b.columns,b.rows,0,0,0,[],[],[],[],cols,5,0,0,[],[],cols,(b.rows.take i).map (keepR b.columns cols),(i:Int),s,x.orig,(j:Int)) :
     Int×Int×Int×Str×(List af)×(List Str)×(List aB)×Int×Int×Int×Str×(List af)×(List Str)×(List aB)×(List Str)×Int×Int×Int×Str×(List af)×(List Str)×(List aB)×Int×(List Int)×(List aj)×Int)) cols (λs=>x.cells.getD (posOf s 0 b.columns).toNat 0) _ (λj s d l=>?_) ?_
    ·have Y:=(zC.1 d).1;have g:gd (((cols.take j).map (λs=>x.cells.getD (posOf s 0 b.columns).toNat 0)).length+[x.cells.getD (posOf s 0 b.columns).toNat 0].length)=some ():=bK (by rw[l];simp only[List.length_singleton];omega);simp only[dw d,ab,aQ,d,c,zA,u,cell x w s (zG d) hall,g,dW d f]
    ·have g:gd (((b.rows.take i).map (keepR b.columns cols)).length+[aB.mk (cols.map λs=>x.cells.getD (posOf s 0 b.columns).toNat 0) x.orig].length)=some ():=bK (by rw[p];simp only[List.length_singleton];omega);simp only[bP,aa,g,zA,dW c (show (b.rows.length:Int)<=1048576 by omega)];rfl
   ·simp only[bP,aa];rfl
 ·cases hall:cols.all (FV b.columns)with
  | false=>simp only[R,hall,aa];exact bD (by omega) (by omega)
  | true=>
   cases A:dsB cols with
   | false=>simp only[R,hall,A,ab,aa];exact bD (by omega) (by omega)
   | true=>
    simp only[R,hall,A,ab];have hsub:∀s,s∈cols->s∈b.columns:=λs d=>by
     obtain⟨_,_,_,h⟩:=OI (List.all_eq_true.1 hall s d);exact h
    have h4:=Rj cols b.columns (RX cols A) hsub;have m:=tb.cl;unfold clB at m;simp only[zI,decide_eq_true_eq]at m;have hclc:clB cols=true:=by
     unfold clB;simp only[zI,decide_eq_true_eq];exact⟨List.all_eq_true.2 λs d=>List.all_eq_true.1 m.1 s (hsub s d),⟨by omega,by omega⟩,A⟩
    have hrow:∀y,y∈b.rows.map (keepR b.columns cols)->∃x,x∈b.rows/\y.cells.length=cols.length/\(∀n,n∈y.cells->nB n=true)/\y.orig=x.orig:=λy B=>by
     obtain⟨x,c,rfl⟩:=List.mem_map.1 B;refine⟨x,c,List.length_map _,λn C=>?_,rfl⟩;obtain⟨s,d,rfl⟩:=List.mem_map.1 C;obtain⟨k,hk,hp,_⟩:=OI (List.all_eq_true.1 hall s d);obtain⟨W,Z,_⟩:=tb.row x c;rw[hp,aw,zE,zF (by omega)];exact Z _ (List.getElem_mem _)
    refine⟨GZ E (by rw[List.length_map];omega) λy B=>?_,?_⟩
    ·obtain⟨x,c,w1,w2,w3⟩:=hrow y B;refine⟨iy.2 ⟨dh (by rw[w1];omega) λn C=>N9 (w2 n C),?_⟩,λo D=>?_⟩
     ·rw[w3];exact (iy.1 (q.row c).fit).2
     ·rw[w3]at D;exact (q.row c).org o D
    ·rw[AY];refine QN hclc (by rw[List.length_map];omega) λy B=>?_
     obtain⟨x,c,w1,w2,w3⟩:=hrow y B;exact⟨w1,w2,by rw[w3];exact (tb.row x c).2.2⟩
