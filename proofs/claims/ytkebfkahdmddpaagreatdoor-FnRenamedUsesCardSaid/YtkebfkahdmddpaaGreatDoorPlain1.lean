import Derived.Test.YtkebfkahdmddpaaGreatDoorModels
import Derived.Test.YtkebfkahdmddpaaGreatDoorS4
set_option linter.unusedSimpArgs false
set_option linter.unusedVariables false
/- Plain laws of the evaluator's loops over lists. -/
namespace Go.Proofs.YtkebfkahdmddpaaGreatDoor
open Go.Abs Go.Proofs
theorem bK{n:Int}(a:-9223372036854775808<=n)(b:n<9223372036854775808):w64 n=n:=by
 simp only[w64,IntKind.wrap,IntKind.bits,IntKind.signed];simp;omega
theorem au{α:Type}(xs:List α)(i:Nat):idx xs (i:Int)=xs[i]?:=by
 simp[idx]
def II{α σ ρ:Type}(f:α->Nat->σ->Option (σ⊕ρ))(fin:σ->Option ρ):List α->Nat->σ->Option ρ
 | [],_,s=>fin s
 | x::r,i,s=>match f x i s with
  | none=>none
  | some (.inl s')=>II f fin r (i+1) s'
  | some (.inr r)=>some r
theorem vY{α σ ρ X:Type}{g:X->Option (X⊕ρ)}(pk:σ->Nat->X)(xs:List α)(f:α->Nat->σ->Option (σ⊕ρ))(fin:σ->Option ρ)
  (b:∀i x s,xs[i]?=some x->g (pk s i)=match f x i s with
   | none=>none
   | some (.inl s')=>some (.inl (pk s' (i+1)))
   | some (.inr r)=>some (.inr r))
  (c:∀s,g (pk s xs.length)=(fin s).bind fun r=>some (.inr r)) (s:σ):ak g (pk s 0)=II f fin xs 0 s:=by
 have key:∀(n i:Nat) (s:σ),xs.length=i+n->ak g (pk s i)=II f fin (xs.drop i) i s:=by
  intro n;induction n with
  | zero=>
   intro i s hi;rw[List.drop_eq_nil_of_le (by omega)];rw[aJ];have:i=xs.length:=by omega
   subst this;rw[c];show _=fin s
   cases fin s<;>rfl
  | succ n ih=>
   intro i s hi;have a:i<xs.length:=by omega
   rw[List.drop_eq_getElem_cons a,aJ,b i xs[i] s (zF a)];simp only[II];cases f xs[i] i s with
   | none=>rfl
   | some y=>cases y with
    | inl s'=>exact ih (i+1) s' (by omega)
    | inr r=>rfl
 simpa using key xs.length 0 s (by omega)
end Go.Proofs.YtkebfkahdmddpaaGreatDoor
/- Plain laws: where a name stands in a list of names. -/
namespace Go.Proofs.YtkebfkahdmddpaaGreatDoor
open Go.Abs Go.Proofs
def posOf(s:Str):Nat->List Str->Int
 | _,[]=>-1
 | i,x::r=>if x==s then i else posOf s (i+1) r
theorem pq(s:Str):∀(xs:List Str) (i:Nat),(posOf s i xs<0)↔xs.contains s=false
 | [],i=>by simp[posOf]
 | x::r,i=>by
  unfold posOf;by_cases h:x==s
  ·rw[if_pos h];have e:x=s:=by simpa using h
   subst e;constructor
   ·intro h;omega
   ·intro h;simp at h
  ·rw[if_neg h,pq s r (i+1)];have e:¬x=s:=by simpa using h
   have a:¬s=x:=fun h=>e h.symm
   simp[a]
theorem uK(xs:List Str)(s:Str)(d:xs.length<=34359738368):mJ xs s=some (posOf s 0 xs):=by
 unfold mJ;have key:∀(ys:List Str) (i:Nat),II (fun (x:Str) i (_:Unit)=>if x==s then some (.inr (i:Int))else some (.inl ())) (fun _=>some (-1)) ys i ()=some (posOf s i ys):=by
  intro ys;induction ys with
  | nil=>intro i;rfl
  | cons y r ih=>
   intro i;unfold II posOf;by_cases h:y==s
   ·simp[h]
   ·simp only[h,if_false,aL];exact ih (i+1)
 rw[<- key xs 0];refine vY (fun (_:Unit) i=>(s,xs,(xs.length:Int),(i:Int))) xs _ _ ?_ ?_ ()
 ·intro i x u a;have hi:i<xs.length:=(zC.1 a).1;have b:w64 ((i:Int)+1)=((i+1:Nat):Int):=by rw[bK (by omega) (by omega)];rfl
  simp only[au,a,zA,b];have c:decide ((i:Int)<(xs.length:Int))=true:=by simp;omega
  rw[c];simp only[ac];by_cases h:x==s
  ·simp[h]
  ·simp[h]
 ·intro u;simp
end Go.Proofs.YtkebfkahdmddpaaGreatDoor
/- Plain laws: valid names. -/
namespace Go.Proofs.YtkebfkahdmddpaaGreatDoor
open Go.Abs Go.Proofs
def Kt(i:Nat)(c:UInt8):Bool:=decide (97<=c.toNat/\c.toNat<=122)||(decide (i≠0)&&decide (48<=c.toNat/\c.toNat<=57))
def gq:Nat->Str->Bool
 | _,[]=>true
 | i,c::r=>Kt i c&&gq (i+1) r
theorem IG(fin:Bool):∀(xs:Str) (i:Nat),II (fun (c:UInt8) i (_:Unit)=>if Kt i c=true then some (.inl ())else some (.inr false)) (fun _=>some fin) xs i ()=some (gq i xs&&fin)
 | [],i=>by simp[II,gq]
 | c::r,i=>by
  unfold II gq;cases h:Kt i c with
  | true=>simp only[if_true];rw[IG fin r (i+1)];simp
  | false=>simp
theorem pF(a b c:Int):kN a b c=some (decide (b<=a)&&decide (a<=c)):=by
 unfold kN;cases decide (b<=a)<;>simp
theorem OV(i:Nat)(c:UInt8):Kt i c=if 97<=c.toNat/\c.toNat<=122 then true else if i=0 then false else if 48<=c.toNat/\c.toNat<=57 then true else false:=by
 unfold Kt;by_cases a:97<=c.toNat/\c.toNat<=122
 ·simp[a]
 ·by_cases b:i=0
  ·simp[a,b]
  ·by_cases d:48<=c.toNat/\c.toNat<=57<;>simp[a,b,d]
theorem nD(a:Str)(r:a.length<=34359738368):KO a=some (gq 0 a&&(decide (1<=(a.length:Int))&&decide ((a.length:Int)<=8))):=by
 rw[<- IG _ a 0];unfold KO;refine vY (fun (_:Unit) i=>(a,(i:Int))) a _ _ ?_ ?_ ()
 ·intro i c u b;have hi:i<a.length:=(zC.1 b).1;have d:w64 ((i:Int)+1)=((i+1:Nat):Int):=by rw[bK (by omega) (by omega)];rfl
  have e:decide ((i:Int)<(a.length:Int))=true:=by simp;omega
  have f:((i:Int)==0)=decide (i=0):=by by_cases h:i=0<;>simp[h]
  simp only[au,b,zA,d,e,f,ac,OV];have g:decide ((c.toNat:Int)>=97)=decide (97<=c.toNat):=decide_eq_decide.2 (by omega);have j:decide ((c.toNat:Int)<=122)=decide (c.toNat<=122):=decide_eq_decide.2 (by omega);have k:decide ((c.toNat:Int)<48) = !decide (48<=c.toNat):=by by_cases h:48<=c.toNat<;>simp[h]<;>omega
  have l:decide ((c.toNat:Int)>57) = !decide (c.toNat<=57):=by by_cases h:c.toNat<=57<;>simp[h]<;>omega
  rw[g,j,k,l];by_cases m:97<=c.toNat<;>by_cases n:c.toNat<=122<;>by_cases o:i=0<;>by_cases p:48<=c.toNat<;>by_cases q:c.toNat<=57<;>simp[m,n,o,p,q]
 ·intro u;simp[pF]
theorem VW(a:Str)(r:a.length<=34359738368):zK a=some (gq 0 a&&decide ((a.length:Int)>0)):=by
 rw[<- IG _ a 0];unfold zK;refine vY (fun (_:Unit) i=>(a,(i:Int))) a _ _ ?_ ?_ ()
 ·intro i c u b;have hi:i<a.length:=(zC.1 b).1;have d:w64 ((i:Int)+1)=((i+1:Nat):Int):=by rw[bK (by omega) (by omega)];rfl
  have e:decide ((i:Int)<(a.length:Int))=true:=by simp;omega
  have f:((i:Int)==0)=decide (i=0):=by by_cases h:i=0<;>simp[h]
  simp only[au,b,zA,d,e,f,ac,OV];have g:decide ((c.toNat:Int)>=97)=decide (97<=c.toNat):=decide_eq_decide.2 (by omega);have j:decide ((c.toNat:Int)<=122)=decide (c.toNat<=122):=decide_eq_decide.2 (by omega);have k:decide ((c.toNat:Int)>=48)=decide (48<=c.toNat):=decide_eq_decide.2 (by omega);have l:decide ((c.toNat:Int)<=57)=decide (c.toNat<=57):=decide_eq_decide.2 (by omega);rw[g,j,k,l];by_cases m:97<=c.toNat<;>by_cases n:c.toNat<=122<;>by_cases o:i=0<;>by_cases p:48<=c.toNat<;>by_cases q:c.toNat<=57<;>simp[m,n,o,p,q]<;>omega
 ·intro u;simp
theorem oP(xs:List Str)(s:Str)(d:xs.length<=34359738368):lU xs s=some (xs.contains s):=by
 have key:∀(ys:List Str) (i:Nat),II (fun (x:Str) i (_:Unit)=>if x==s then some (.inr true)else some (.inl ())) (fun _=>some false) ys i ()=some (ys.contains s):=by
  intro ys;induction ys with
  | nil=>intro i;rfl
  | cons y r ih=>
   intro i;unfold II;by_cases h:y==s
   ·have e:y=s:=by simpa using h
    subst e;simp
   ·simp only[h,if_false,aL];rw[ih (i+1)];have e:¬s=y:=fun e=>h (by simp[e])
    simp[e]
 rw[<- key xs 0];unfold lU;refine vY (fun (_:Unit) i=>(xs,s,(i:Int))) xs _ _ ?_ ?_ ()
 ·intro i x u a;have hi:i<xs.length:=(zC.1 a).1;have b:w64 ((i:Int)+1)=((i+1:Nat):Int):=by rw[bK (by omega) (by omega)];rfl
  have c:decide ((i:Int)<(xs.length:Int))=true:=by simp;omega
  simp only[au,a,zA,b,c,ac];by_cases h:x==s<;>simp[h]
 ·intro u;simp
theorem aeF(a:Str):fD a=cu a:=rfl
theorem MZ(a:Str):jT a=kS a:=by
 unfold kS qj;simp only[zA];rw[oP _ _ (by decide)];simp only[zA];by_cases h:a∈([[108,101,116],[105,110],[105,102],[116,104,101,110],[101,108,115,101],[102,111,114],[100,111],[108,101,110],[115,117,109],[116,97,107,101],[115,107,105,112],[114,97,110,103,101],[110,116,104],[119,104,101,114,101],[107,101,101,112],[97,100,100],[103,114,111,117,112],[106,111,105,110],[99,111,108,117,109,110],[114,111,119,115],[99,108,111,99,107],[99,104,97,110,99,101],[102,105,108,101],[116,97,98,108,101]]:List Str)
 ·simp only[bc,List.not_mem_nil,or_false]at h;rcases h with rfl | rfl | rfl | rfl | rfl | rfl | rfl | rfl | rfl | rfl | rfl | rfl | rfl | rfl | rfl | rfl | rfl | rfl | rfl | rfl | rfl | rfl | rfl | rfl<;>rfl
 ·have b:([[108,101,116],[105,110],[105,102],[116,104,101,110],[101,108,115,101],[102,111,114],[100,111],[108,101,110],[115,117,109],[116,97,107,101],[115,107,105,112],[114,97,110,103,101],[110,116,104],[119,104,101,114,101],[107,101,101,112],[97,100,100],[103,114,111,117,112],[106,111,105,110],[99,111,108,117,109,110],[114,111,119,115],[99,108,111,99,107],[99,104,97,110,99,101],[102,105,108,101],[116,97,98,108,101]]:List Str).contains a=false:=by
   rw[Bool.eq_false_iff];intro hh;exact h (by simpa using hh)
  rw[b];simp only[bc,List.not_mem_nil,or_false,not_or]at h;unfold jT fD;simp[Bool.cond_eq_ite,h]
theorem nI(a:Str)(b:a.length<=34359738368):aT a=aX a:=by
 unfold aT aX;rw[nD a b,VW a b,MZ];simp only[zA];cases gq 0 a with
 | false=>simp
 | true=>
  by_cases c:a.length=0
  ·simp[c]
  ·have d:decide (1<=(a.length:Int))=true:=by simp;omega
   have e:decide ((a.length:Int)>0)=true:=by simp;omega
   rw[d,e];simp only[Bool.true_and,ac]
theorem lC(a:Str)(b:a.length<=34359738368):∃v,aT a=some v:=by
 unfold aT;rw[nD a b,MZ];unfold kS qj;simp only[zA];rw[oP _ _ (by decide)];simp only[zA];cases (gq 0 a&&(decide (1<=(a.length:Int))&&decide ((a.length:Int)<=8)))with
 | false=>exact⟨_,rfl⟩
 | true=>exact⟨_,rfl⟩
end Go.Proofs.YtkebfkahdmddpaaGreatDoor
/- Plain laws: the text of a number. Plain laws: digits read as a number. -/
namespace Go.Proofs.YtkebfkahdmddpaaGreatDoor
open Go.Abs Go.Proofs
noncomputable def rD:Int×Bool×Str->Option ((Int×Bool×Str)⊕Str):=fun a=>
  bif (a.1 != 0)then
   bif (decide ((a.1.tmod 10)<0))then
    (gd ((bytesOf [w8 (w64 (48+(w64 (0-(a.1.tmod 10)))))]).length+a.2.2.length)).bind fun _=>
    some (.inl (w64 (a.1.tdiv 10),a.2.1,(bytesOf [w8 (w64 (48+(w64 (0-(a.1.tmod 10)))))])++a.2.2))
   else
    (gd ((bytesOf [w8 (w64 (48+(a.1.tmod 10)))]).length+a.2.2.length)).bind fun _=>
    some (.inl (w64 (a.1.tdiv 10),a.2.1,(bytesOf [w8 (w64 (48+(a.1.tmod 10)))])++a.2.2))
  else
   (
    bif a.2.1 then
     (gd ([45].length+a.2.2.length)).bind fun _=>
     some ([45]++a.2.2)
    else
     some (a.2.2)
   ).bind fun r=>some (.inr r)
theorem yK(a:Int):dM a=bif (a==0)then some [48]else ak rD (a,decide (a<0),[]):=rfl
theorem OO(d:Nat)(h:d<10):bytesOf [w8 (w64 (48+(d:Int)))]=[UInt8.ofNat (48+d)]:=by
 have a:w64 (48+(d:Int))=((48+d:Nat):Int):=by
  simp only[w64,IntKind.wrap,IntKind.bits,IntKind.signed];simp;omega
 have b:w8 ((48+d:Nat):Int)=((48+d:Nat):Int):=by
  simp only[w8,IntKind.wrap,IntKind.bits,IntKind.signed];simp;omega
 rw[a,b];show [UInt8.ofNat ((48+d:Nat):Int).toNat]=_
 rw[aD]
theorem agr:∀(n:Nat) (s:Str) (q:Nat),0<n->n<10 ^ q->n<9223372036854775808->s.length+q<=40->ak rD ((n:Int),false,s)=some (Go.Lib.decDigits n++s):=by
 intro n;induction n using Nat.strongRecOn with
 | _ n ih=>
  intro s q l a m o;have c:0<q:=by
   rcases Nat.eq_zero_or_pos q with h | h
   ·subst h;simp at a;omega
   ·exact h
  have d:((n:Int) != 0)=true:=by simp;omega
  have em:(n:Int).tmod 10=((n % 10:Nat):Int):=by
   rw[Int.tmod_eq_emod_of_nonneg (by omega)];omega
  have ed:(n:Int).tdiv 10=((n / 10:Nat):Int):=by
   rw[Int.tdiv_eq_ediv_of_nonneg (by omega)];omega
  have e:decide ((n:Int).tmod 10<0)=false:=by rw[em];simp;omega
  have f:w64 ((n:Int).tdiv 10)=((n / 10:Nat):Int):=by
   rw[ed];simp only[w64,IntKind.wrap,IntKind.bits,IntKind.signed];simp;omega
  have g:gd ([UInt8.ofNat (48+n % 10)].length+s.length)=some ():=by
   unfold gd;simp;omega
  have i:bytesOf [w8 (w64 (48+((n:Int).tmod 10)))]=[UInt8.ofNat (48+n % 10)]:=by rw[em];exact OO _ (by omega)
  have hstep:rD ((n:Int),false,s)=some (.inl (((n / 10:Nat):Int),false,UInt8.ofNat (48+n % 10)::s)):=by
   unfold rD;simp only[d,e,ac,aa,i,g,zA,f];rfl
  rw[aJ,hstep];simp only;by_cases b:n<10
  ·have j:n / 10=0:=by omega
   rw[j,aJ];have:rD (((0:Nat):Int),false,UInt8.ofNat (48+n % 10)::s)=some (.inr (UInt8.ofNat (48+n % 10)::s)):=rfl;rw[this];rw[Go.Lib.decDigits,dif_pos b,Nat.mod_eq_of_lt b];rfl
  ·have k:10 ^ q=10 ^ (q-1)*10:=by rw[<- Nat.pow_succ];congr 1;omega
   rw[ih (n / 10) (by omega) (UInt8.ofNat (48+n % 10)::s) (q-1) (by omega) (by rw[k]at a;generalize 10 ^ (q-1)=p at a ⊢;omega) (by omega) (by simp;omega)];conv=>rhs;rw[Go.Lib.decDigits,dif_neg b]
   simp
theorem uV(n:Int)(a:0<=n)(d:n<9223372036854775808):dM n=some (Go.Lib.itoa n):=by
 rw[yK];obtain⟨m,rfl⟩:=Int.eq_ofNat_of_zero_le a;have hi:Go.Lib.itoa (m:Int)=Go.Lib.decDigits m:=by unfold Go.Lib.itoa;rw[if_neg (by omega)];rfl
 by_cases b:m=0
 ·subst b;rw[hi,Go.Lib.decDigits,dif_pos (by decide)];rfl
 ·have e:((m:Int)==0)=false:=by simp;omega
  have c:decide ((m:Int)<0)=false:=by simp
  rw[e,c,aa,agr m [] 19 (by omega) (by have:(10:Nat) ^ 19=10000000000000000000:=rfl;omega) (by omega) (by decide),hi];simp
def iR(c:UInt8):Prop:=48<=c.toNat/\c.toNat<=57
def aQ(acc:Nat)(t:Str):Nat:=t.foldl (fun a c=>a*10+(c.toNat-48)) acc
theorem rX:∀(t:Str) (acc:Nat),(∀c,c∈t->iR c)->aQ acc t<(acc+1)*10 ^ t.length
 | [],acc,_=>by simp[aQ]
 | c::r,acc,h=>by
  have a:=h c (by simp);have:=rX r (acc*10+(c.toNat-48)) (fun d b=>h d (by simp[b]));have e:aQ acc (c::r)=aQ (acc*10+(c.toNat-48)) r:=rfl;rw[e];refine aE this ?_;have f:10 ^ (c::r).length=10*10 ^ r.length:=by rw[List.length_cons,Nat.pow_succ,Nat.mul_comm]
  rw[f,<- Nat.mul_assoc];refine Nat.mul_le_mul_right _ ?_;unfold iR at a;omega
theorem uY:∀(t:Str) (acc:Nat),(∀c,c∈t->iR c)->(acc+1)*10 ^ t.length<=1000000000000000->Go.Lib.parseUint10 acc t=.ok (aQ acc t)
 | [],acc,_,_=>rfl
 | c::r,acc,h,a=>by
  have b:=h c (by simp);unfold iR at b;have e:10 ^ (c::r).length=10*10 ^ r.length:=by rw[List.length_cons,Nat.pow_succ,Nat.mul_comm]
  rw[e,<- Nat.mul_assoc]at a;have f:1<=10 ^ r.length:=Nat.one_le_pow _ _ (by decide);have hacc:(acc+1)*10<=1000000000000000:=by
   refine Nat.le_trans ?_ a;exact Nat.le_mul_of_pos_right _ f
  unfold Go.Lib.parseUint10;rw[if_pos b,if_neg (by omega),if_neg (by omega)];rw[uY r (acc*10+(c.toNat-48)) (fun d g=>h d (by simp[g])) ?_]
  ·rfl
  ·refine Nat.le_trans ?_ a;exact Nat.mul_le_mul_right _ (by omega)
theorem Yb(t:Str)(h:∀c,c∈t->iR c)(a:t≠[])(b:t.length<=12):Go.Lib.atoiAll t=.ok (aQ 0 t:Int):=by
 obtain⟨c,r,rfl⟩:=List.exists_cons_of_ne_nil a;have d:=h c (by simp);unfold iR at d;have e:10 ^ (c::r).length<=10 ^ 12:=Nat.pow_le_pow_right (by decide) b;have hv:=rX (c::r) 0 h;unfold Go.Lib.atoiAll;simp only;rw[if_neg (by omega)];unfold Go.Lib.parseMag;rw[if_neg a,uY (c::r) 0 h (by omega)];simp only;rw[if_neg (by omega),if_neg (by omega),if_neg (by omega)]
def adb(s:Int)(c:UInt8):Int:=w64 (w64 (10*s)+w64 (w8 ((c.toNat:Int)-48)))
theorem ada(n:Nat)(c:UInt8)(a:iR c)(f:n<=1000000000000000):adb (n:Int) c=((n*10+(c.toNat-48):Nat):Int):=by
 unfold iR at a;have b:w64 (10*(n:Int))=((10*n:Nat):Int):=by
  simp only[w64,IntKind.wrap,IntKind.bits,IntKind.signed];simp;omega
 have d:w8 ((c.toNat:Int)-48)=((c.toNat-48:Nat):Int):=by
  simp only[w8,IntKind.wrap,IntKind.bits,IntKind.signed];simp;omega
 have e:w64 ((c.toNat-48:Nat):Int)=((c.toNat-48:Nat):Int):=by
  simp only[w64,IntKind.wrap,IntKind.bits,IntKind.signed];simp;omega
 unfold adb;rw[b,d,e];simp only[w64,IntKind.wrap,IntKind.bits,IntKind.signed];simp;omega
theorem XE{ρ:Type}(fin:Int->Option ρ):∀(ys:Str) (i n:Nat),(∀c,c∈ys->iR c)->(n+1)*10 ^ ys.length<=1000000000000000 ->
  II (fun (c:UInt8) _ (s:Int)=>some (.inl (adb s c))) fin ys i (n:Int)=fin (aQ n ys:Int)
 | [],i,n,_,_=>rfl
 | c::r,i,n,h,a=>by
  have b:=h c (by simp);have e:10 ^ (c::r).length=10*10 ^ r.length:=by rw[List.length_cons,Nat.pow_succ,Nat.mul_comm]
  rw[e,<- Nat.mul_assoc]at a;have f:1<=10 ^ r.length:=Nat.one_le_pow _ _ (by decide);have hacc:(n+1)*10<=1000000000000000:=Nat.le_trans (Nat.le_mul_of_pos_right _ f) a;unfold II;rw[ada n c b (by omega)];simp only;have:=XE fin r (i+1) (n*10+(c.toNat-48)) (fun d g=>h d (by simp[g])) (Nat.le_trans (Nat.mul_le_mul_right _ (by unfold iR at b;omega)) a);rw[this];rfl
theorem Q9(t:Str)(h:∀c,c∈t->iR c)(o:t≠[])(C:t.length<=1000):Bo t 12=some (if t.length<=12/\Go.Lib.itoa (aQ 0 t:Int)=t then ((aQ 0 t:Int),true)else (0,false)):=by
 have a:0<t.length:=List.length_pos_iff.2 o;have e:∃c,t[0]?=some c/\iR c:=⟨t[0],zF a,h _ (List.getElem_mem a)⟩;obtain⟨c,p,f⟩:=e;have b:=f;unfold iR at b;have r:decide ((t.length:Int)>0)=true:=by simp;omega
 have u:decide ((t.length:Int)<1)=false:=by simp;omega
 have v:((c.toNat:Int)==45)=false:=by simp;omega
 have g:idx t 0=some c:=by have:=au t 0;rw[p]at this;exact this
 unfold Bo;rw[r,u];simp only[ac,aa,g,zA,v];by_cases j:t.length<=12
 ·have k:decide ((t.length:Int)>12)=false:=by simp;omega
  rw[k];simp only[aa];have D:10 ^ t.length<=10 ^ 12:=Nat.pow_le_pow_right (by decide) j;have hv:=rX t 0 h;have key:=XE (fun s=>(dM s).bind fun l=>bif (!(l==t))then some ((0:Int),false)else some (s,true)) t 0 0 h (by omega);have w:=uV (aQ 0 t:Int) (by omega) (by omega);simp only[w,zA]at key;have fin:(bif (!(Go.Lib.itoa (aQ 0 t:Int)==t))then some ((0:Int),false)else some ((aQ 0 t:Int),true))=some (if t.length<=12/\Go.Lib.itoa (aQ 0 t:Int)=t then ((aQ 0 t:Int),true)else (0,false)):=by
   by_cases d:Go.Lib.itoa (aQ 0 t:Int)=t
   ·rw[if_pos ⟨j,d⟩];have:(Go.Lib.itoa (aQ 0 t:Int)==t)=true:=by simp[d]
    rw[this];rfl
   ·rw[if_neg (fun q=>d q.2)];have:(Go.Lib.itoa (aQ 0 t:Int)==t)=false:=by simpa using d
    rw[this];rfl
  rw[<- fin,<- key];refine vY (fun (s:Int) i=>(t,false,t,s,(i:Int))) t _ _ ?_ ?_ 0
  ·intro i x s m;have hi:i<t.length:=(zC.1 m).1;have n:=h x (zG m);unfold iR at n;have y:w64 ((i:Int)+1)=((i+1:Nat):Int):=by rw[bK (by omega) (by omega)];rfl
   have z:decide ((i:Int)<(t.length:Int))=true:=by simp;omega
   have A:decide ((x.toNat:Int)<48)=false:=by simp;omega
   have B:decide ((x.toNat:Int)>57)=false:=by simp;omega
   simp only[au,m,zA,y,z,A,B,ac,aa];rfl
  ·intro s;simp
 ·have k:decide ((t.length:Int)>12)=true:=by simp;omega
  rw[k,if_neg (fun q=>j q.1)];rfl
theorem vg:∀(q n:Nat),n<10 ^ q->(Go.Lib.decDigits n).length<=max q 1
 | 0,n,h=>by
  have:n=0:=by simpa using h
  subst this;rw[Go.Lib.decDigits,dif_pos (by decide)];simp
 | q+1,n,h=>by
  rw[Go.Lib.decDigits];by_cases b:n<10
  ·rw[dif_pos b];simp
  ·rw[dif_neg b];have c:10 ^ (q+1)=10 ^ q*10:=Nat.pow_succ 10 q;have d:0<q:=by
    rcases Nat.eq_zero_or_pos q with a | a
    ·subst a;simp at h;omega
    ·exact a
   have:=vg q (n / 10) (by rw[c]at h;generalize 10 ^ q=p at h ⊢;omega);simp only[a7,List.length_cons,List.length_nil];omega
theorem abW(t:Str)(h:∀c,c∈t->iR c)(g:t≠[])(j:t.length<=1000):∃(vi vs:Int) (ok oks:Bool),lW t 0 1000000000=some (vi,ok)/\gU t=some (vs,oks)/\ok=(oks&&decide (vs<=1000000000))/\(ok=true->vi=vs):=by
 have e:gd t.length=some ():=by unfold gd;simp;omega
 have k:gU t=some (if t.length<=12/\Go.Lib.itoa (aQ 0 t:Int)=t then ((aQ 0 t:Int),true)else (0,false)):=by
  unfold gU;rw[Q9 t h g j];rfl
 rw[k];have hi:lW t 0 1000000000=some (match Go.Lib.atoiAll t with
  | .ok v=>if v<0\/1000000000<v\/Go.Lib.itoa v≠t then (0,false)else (v,true)
  | _=>(0,false)):=by
  unfold lW qC
  rw[e];rfl
 rw[hi];by_cases d:t.length<=12
 ·rw[Yb t h g d];simp only;by_cases a:Go.Lib.itoa (aQ 0 t:Int)=t
  ·have f:(if t.length<=12/\Go.Lib.itoa (aQ 0 t:Int)=t then ((aQ 0 t:Int),true)else (0,false))=((aQ 0 t:Int),true):=if_pos ⟨d,a⟩;rw[f];by_cases hv:(aQ 0 t:Int)<=1000000000
   ·have b:(if (aQ 0 t:Int)<0\/1000000000<(aQ 0 t:Int)\/Go.Lib.itoa (aQ 0 t:Int)≠t then ((0:Int),false)else ((aQ 0 t:Int),true))=((aQ 0 t:Int),true):=if_neg (fun q=>by
     rcases q with q | q | q
     ·omega
     ·omega
     ·exact q a)
    rw[b];exact⟨_,_,_,_,rfl,rfl,by simp[hv],fun _=>rfl⟩
   ·have b:(if (aQ 0 t:Int)<0\/1000000000<(aQ 0 t:Int)\/Go.Lib.itoa (aQ 0 t:Int)≠t then ((0:Int),false)else ((aQ 0 t:Int),true))=(0,false):=if_pos (.inr (.inl (by omega)));rw[b];exact⟨_,_,_,_,rfl,rfl,by simp[hv],fun q=>by cases q⟩
  ·have f:(if t.length<=12/\Go.Lib.itoa (aQ 0 t:Int)=t then ((aQ 0 t:Int),true)else (0,false))=(0,false):=if_neg (fun q=>a q.2);have b:(if (aQ 0 t:Int)<0\/1000000000<(aQ 0 t:Int)\/Go.Lib.itoa (aQ 0 t:Int)≠t then ((0:Int),false)else ((aQ 0 t:Int),true))=(0,false):=if_pos (.inr (.inr a));rw[f,b];exact⟨_,_,_,_,rfl,rfl,rfl,fun q=>by cases q⟩
 ·rw[if_neg (fun q=>d q.1)];have l:(match Go.Lib.atoiAll t with
   | .ok v=>if v<0\/1000000000<v\/Go.Lib.itoa v≠t then ((0:Int),false)else (v,true)
   | _=>(0,false))=(0,false):=by
   cases hv:Go.Lib.atoiAll t with
   | ok v=>
    simp only
    rw[if_pos]
    by_cases i:v<0
    ·exact .inl i
    by_cases m:1000000000<v
    ·exact .inr (.inl m)
    refine .inr (.inr fun a=>d ?_)
    have hi:Go.Lib.itoa v=Go.Lib.decDigits v.toNat:=by unfold Go.Lib.itoa;rw[if_neg i]
    rw[<- a,hi]
    have:=vg 10 v.toNat (by omega)
    omega
   | range=>rfl
   | _=>rfl
  rw[l];exact⟨_,_,_,_,rfl,rfl,rfl,fun q=>by cases q⟩
end Go.Proofs.YtkebfkahdmddpaaGreatDoor
