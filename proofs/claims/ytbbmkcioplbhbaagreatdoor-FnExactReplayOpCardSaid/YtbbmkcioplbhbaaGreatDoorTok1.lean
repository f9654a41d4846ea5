import Derived.Test.YtbbmkcioplbhbaaGreatDoorPlain1
import Derived.Test.YtbbmkcioplbhbaaGreatDoorParse1
set_option linter.unusedSimpArgs false
set_option linter.unusedVariables false
/- Plain laws: what the tokenizers scan. Plain laws: tokens, the two tokenizers side by side. Plain laws: texts among the tokens, the two tokenizers side by side. Plain laws: symbols among the tokens, the two tokenizers side by side. Plain laws: one token, the two tokenizers side by side. Plain laws: the two tokenizers are alike. -/
namespace Go.Proofs.YtbbmkcioplbhbaaGreatDoor
open Go.Abs Go.Proofs
theorem He(a:Str):gY a=fV a:=rfl
def isLet(c:UInt8):Bool:=decide (97<=c.toNat)&&decide (c.toNat<=122)
def fF(c:UInt8):Bool:=decide (48<=c.toNat)&&decide (c.toNat<=57)
theorem pz(c:UInt8):wX (c.toNat:Int)=some (isLet c):=by
 have a:decide ((c.toNat:Int)>=97)=decide (97<=c.toNat):=decide_eq_decide.2 (by omega);have b:decide ((c.toNat:Int)<=122)=decide (c.toNat<=122):=decide_eq_decide.2 (by omega);unfold wX isLet;rw[a,b];cases decide (97<=c.toNat)<;>simp
theorem pJ(c:UInt8):wY (c.toNat:Int)=some (fF c):=by
 have a:decide ((c.toNat:Int)>=48)=decide (48<=c.toNat):=decide_eq_decide.2 (by omega);have b:decide ((c.toNat:Int)<=57)=decide (c.toNat<=57):=decide_eq_decide.2 (by omega);unfold wY fF;rw[a,b];cases decide (48<=c.toNat)<;>simp
def bU(p:UInt8->Bool):Str->Nat
 | []=>0
 | c::r=>if p c=true then bU p r+1 else 0
theorem pK(p:UInt8->Bool):∀(s:Str),bU p s<=s.length
 | []=>aw _
 | c::r=>by
  unfold bU;have:=pK p r;split
  ·simp;omega
  ·omega
theorem Qd(p:UInt8->Bool):∀(s:Str) c,c∈s.take (bU p s)->p c=true
 | [],c,h=>by simp at h
 | x::r,c,h=>by
  unfold bU at h;split at h
  ·rename_i a;rw[List.take_succ_cons]at h;rcases ba.1 h with rfl | h
   ·exact a
   ·exact Qd p r c h
  ·simp at h
theorem wU{X ρ:Type}{g:X->Option (X⊕ρ)}(pk:Nat->X)(a:Str)(p:UInt8->Bool)(fin:Nat->Option ρ)
  (h1:∀i c,a[i]?=some c->p c=true->g (pk i)=some (.inl (pk (i+1)))) (h2:∀i c,a[i]?=some c->p c=false->g (pk i)=(fin i).bind fun r=>some (.inr r))
  (e:g (pk a.length)=(fin a.length).bind fun r=>some (.inr r)):∀(n i:Nat),a.length=i+n->au g (pk i)=fin (i+bU p (a.drop i)):=by
 intro n;induction n with
 | zero=>
  intro i hi;have:i=a.length:=by omega
  subst this;rw[aH,e,List.drop_length];show _=fin (a.length+0)
  rw[Nat.add_zero];cases fin a.length<;>rfl
 | succ n ih=>
  intro i hi;have b:i<a.length:=by omega
  rw[List.drop_eq_getElem_cons b,aH];unfold bU;cases d:p a[i]with
  | true=>
   rw[h1 i a[i] (zF b) d];simp only[if_true];rw[ih (i+1) (by omega)];congr 1;omega
  | false=>
   rw[h2 i a[i] (zF b) d];simp only[aE,if_false,Nat.add_zero];cases fin i<;>rfl
theorem qw(a:Str)(b k:Nat)(h1:b<=k)(h2:k<=a.length):eff.cutL a (some (b:Int)) (some (k:Int))=some ((a.take k).drop b):=by
 unfold eff.cutL;simp only[Option.getD_some];rw[if_pos]
 ·simp
 ·omega
def rZ(c:UInt8):Bool:=isLet c||fF c
theorem gJ{n:Nat}(h:n<=1000):w64 ((n:Int)+1)=((n+1:Nat):Int):=by rw[aT (by omega) (by omega)];rfl
theorem Be{k b:Nat}(h:b<=k)(a:k<=1000):w64 ((k:Int)-(b:Int))=((k-b:Nat):Int):=by rw[aT (by omega) (by omega)];omega
theorem acO(a:Str)(b:Nat)(o:a.length<=120){c:UInt8}(j:a[b]?=some c)(m:isLet c=true) :
  ng a (b:Int)=some (⟨1,0,b,(a.take (b+bU rZ (a.drop b))).drop b⟩,if bU rZ (a.drop b)>8 then 0 else (bU rZ (a.drop b):Int)):=by
 have p:b<a.length:=(zC.1 j).1;have h:b+bU rZ (a.drop b)<=a.length:=by
  have:=pK rZ (a.drop b);rw[List.length_drop]at this;omega
 unfold ng;rw[aA,j];simp only[zA,pz,m,ac];have fin:∀k:Nat,b<=k->k<=a.length->((eff.cutL a (some (b:Int)) (some (k:Int))).bind fun f=>bif (decide ((w64 ((k:Int)-(b:Int)))>8))then some (aJ.mk 1 0 (b:Int) f,(0:Int))else some (aJ.mk 1 0 (b:Int) f,w64 ((k:Int)-(b:Int))))=some (⟨1,0,b,(a.take k).drop b⟩,if k-b>8 then 0 else ((k-b:Nat):Int)):=by
  intro k h1 h2;rw[qw a b k h1 h2,Be h1 (by omega)];simp only[zA];by_cases l:k-b>8
  ·have:decide (((k-b:Nat):Int)>8)=true:=by simp;omega
   rw[this,if_pos l];rfl
  ·have:decide (((k-b:Nat):Int)>8)=false:=by simp;omega
   rw[this,if_neg l];rfl
 have n:b+bU rZ (a.drop b)-b=bU rZ (a.drop b):=by omega
 refine (wU (fun k=>(a,(b:Int),(0:Int),(0:Int),(0:Int),([]:Str),(0:Int),(0:Int),(b:Int),([]:Str),(k:Int))) a rZ (fun k=>(eff.cutL a (some (b:Int)) (some (k:Int))).bind fun f=>bif (decide ((w64 ((k:Int)-(b:Int)))>8))then some (aJ.mk 1 0 (b:Int) f,(0:Int))else some (aJ.mk 1 0 (b:Int) f,w64 ((k:Int)-(b:Int)))) ?_ ?_ ?_ (a.length-b) b (by omega)).trans ?_
 ·intro i d hd e;have hi:i<a.length:=(zC.1 hd).1;have g:decide ((i:Int)<(a.length:Int))=true:=by simp;omega
  simp only[g,ac,aA,hd,zA,pz,pJ,gJ (show i<=1000 by omega)];unfold rZ at e;cases h1:isLet d with
  | true=>rfl
  | false=>
   rw[h1,Bool.false_or]at e;simp only[aa,e,ac]
 ·intro i d hd e;have hi:i<a.length:=(zC.1 hd).1;have g:decide ((i:Int)<(a.length:Int))=true:=by simp;omega
  simp only[g,ac,aA,hd,zA,pz,pJ];unfold rZ at e;rw[Bool.or_eq_false_iff]at e;simp only[e.1,e.2,aa]
 ·have g:decide ((a.length:Int)<(a.length:Int))=false:=by simp
  simp only[g,aa]
 ·rw[fin _ (by omega) h,n]
theorem yG(d:UInt8):decide ((d.toNat:Int)>=97)=decide (97<=d.toNat)/\decide ((d.toNat:Int)<=122)=decide (d.toNat<=122)/\decide ((d.toNat:Int)>=48)=decide (48<=d.toNat)/\decide ((d.toNat:Int)<=57)=decide (d.toNat<=57):=
 ⟨decide_eq_decide.2 (by omega),decide_eq_decide.2 (by omega),decide_eq_decide.2 (by omega),decide_eq_decide.2 (by omega)⟩
theorem agV(a:Str)(b:Nat)(p:a.length<=120){c:UInt8}(n:a[b]?=some c)(g:isLet c=true) :
  jv a (b:Int)=some (⟨1,0,b,(a.take (b+bU rZ (a.drop b))).drop b⟩,((b+bU rZ (a.drop b):Nat):Int),decide (bU rZ (a.drop b)<=8)):=by
 have q:b<a.length:=(zC.1 n).1;have h:b+bU rZ (a.drop b)<=a.length:=by
  have:=pK rZ (a.drop b);rw[List.length_drop]at this;omega
 unfold isLet at g;rw[zI]at g;unfold jv;rw[aA,n];simp only[zA,(yG c).1,(yG c).2.1,g.1,g.2,ac];have fin:∀k:Nat,b<=k->k<=a.length->((eff.cutL a (some (b:Int)) (some (k:Int))).bind fun j=>some (aJ.mk 1 0 (b:Int) j,(k:Int),(decide ((w64 ((k:Int)-(b:Int)))<=8))))=some (⟨1,0,b,(a.take k).drop b⟩,(k:Int),decide (k-b<=8)):=by
  intro k h1 h2;rw[qw a b k h1 h2,Be h1 (by omega)];simp only[zA];have:decide (((k-b:Nat):Int)<=8)=decide (k-b<=8):=decide_eq_decide.2 (by omega);rw[this]
 have o:b+bU rZ (a.drop b)-b=bU rZ (a.drop b):=by omega
 refine (wU (fun k=>(a,(b:Int),(0:Int),(0:Int),(0:Int),([]:Str),(k:Int))) a rZ (fun k=>(eff.cutL a (some (b:Int)) (some (k:Int))).bind fun j=>some (aJ.mk 1 0 (b:Int) j,(k:Int),(decide ((w64 ((k:Int)-(b:Int)))<=8)))) ?_ ?_ ?_ (a.length-b) b (by omega)).trans ?_
 ·intro i d hd e;have hi:i<a.length:=(zC.1 hd).1;have f:decide ((i:Int)<(a.length:Int))=true:=by simp;omega
  simp only[f,ac,aA,hd,zA,(yG d).1,(yG d).2.1,(yG d).2.2.1,(yG d).2.2.2,gJ (show i<=1000 by omega)];unfold rZ isLet fF at e;cases h1:decide (97<=d.toNat)<;>cases h2:decide (d.toNat<=122)<;>cases l:decide (48<=d.toNat)<;>cases m:decide (d.toNat<=57)<;>rw[h1,h2,l,m]at e<;>first | rfl | cases e
 ·intro i d hd e;have hi:i<a.length:=(zC.1 hd).1;have f:decide ((i:Int)<(a.length:Int))=true:=by simp;omega
  simp only[f,ac,aA,hd,zA,(yG d).1,(yG d).2.1,(yG d).2.2.1,(yG d).2.2.2];unfold rZ isLet fF at e;cases h1:decide (97<=d.toNat)<;>cases h2:decide (d.toNat<=122)<;>cases l:decide (48<=d.toNat)<;>cases m:decide (d.toNat<=57)<;>rw[h1,h2,l,m]at e<;>first | rfl | cases e
 ·have f:decide ((a.length:Int)<(a.length:Int))=false:=by simp
  simp only[f,aa]
 ·rw[fin _ (by omega) h,o]
theorem aku(a:Str)(b:Nat)(J:a.length<=120){c:UInt8}(l:a[b]?=some c)(f:fF c=true) :
  ∃(vi vs:Int) (ok oks:Bool),jv a (b:Int)=some (⟨2,vi,b,[]⟩,((b+bU fF (a.drop b):Nat):Int),ok) /\
   ng a (b:Int)=some (⟨2,vs,b,[]⟩,if (oks&&decide (vs<=1000000000))=true then (bU fF (a.drop b):Int)else 0)/\ok=(oks&&decide (vs<=1000000000))/\(ok=true->vi=vs):=by
 have B:b<a.length:=(zC.1 l).1;have m:b+bU fF (a.drop b)<=a.length:=by
  have:=pK fF (a.drop b);rw[List.length_drop]at this;omega
 have o:(a.take (b+bU fF (a.drop b))).drop b=(a.drop b).take (bU fF (a.drop b)):=by rw[List.drop_take];congr 1;omega
 have hdig:∀d,d∈(a.take (b+bU fF (a.drop b))).drop b->jq d:=by
  intro d hd;rw[o]at hd;have:=Qd fF _ d hd;unfold fF at this;unfold jq;simpa using this
 have C:1<=bU fF (a.drop b):=by
  have p:a.drop b=a[b]::a.drop (b+1):=List.drop_eq_getElem_cons B;have q:a[b]=c:=by rw[zF B]at l;exact aR l
  rw[p];unfold bU;rw[q,if_pos f];omega
 have r:(a.take (b+bU fF (a.drop b))).drop b≠[]:=by
  intro h;have:=congrArg List.length h;rw[List.length_drop,a8]at this;simp at this;omega
 obtain⟨vi,vs,ok,oks,D,E,F,G⟩:=agC _ hdig r (by rw[List.length_drop,a8];omega);refine⟨vi,vs,ok,oks,?_,?_,F,G⟩
 ·unfold fF at f;rw[zI]at f;have H:48<=c.toNat:=by simpa using f.1
  have s:c.toNat<=57:=by simpa using f.2
  have t:decide ((c.toNat:Int)>=97)=false:=by simp;omega
  unfold jv;rw[aA,l];simp only[zA,t,(yG c).2.2.1,(yG c).2.2.2,f.1,f.2,ac,aa];refine (wU (fun k=>(a,(b:Int),(0:Int),(0:Int),(0:Int),([]:Str),(k:Int))) a fF (fun k=>(eff.cutL a (some (b:Int)) (some (k:Int))).bind fun u=>(mF u 0 1000000000).bind fun n=>some (aJ.mk 2 n.1 (b:Int) [],(k:Int),n.2)) ?_ ?_ ?_ (a.length-b) b (by omega)).trans ?_
  ·intro i d hd e;have hi:i<a.length:=(zC.1 hd).1;have g:decide ((i:Int)<(a.length:Int))=true:=by simp;omega
   simp only[g,ac,aA,hd,zA,(yG d).2.2.1,(yG d).2.2.2,gJ (show i<=1000 by omega)];unfold fF at e;cases v:decide (48<=d.toNat)<;>cases w:decide (d.toNat<=57)<;>rw[v,w]at e<;>first | rfl | cases e
  ·intro i d hd e;have hi:i<a.length:=(zC.1 hd).1;have g:decide ((i:Int)<(a.length:Int))=true:=by simp;omega
   simp only[g,ac,aA,hd,zA,(yG d).2.2.1,(yG d).2.2.2];unfold fF at e;cases v:decide (48<=d.toNat)<;>cases w:decide (d.toNat<=57)<;>rw[v,w]at e<;>first | rfl | cases e
  ·have g:decide ((a.length:Int)<(a.length:Int))=false:=by simp
   simp only[g,aa]
  ·rw[qw a b _ (by omega) m];simp only[zA,D]
 ·have x:isLet c=false:=by
   unfold fF at f;rw[zI]at f;have s:c.toNat<=57:=by simpa using f.2
   unfold isLet;have:decide (97<=c.toNat)=false:=by simp;omega
   rw[this];rfl
  unfold ng;rw[aA,l];simp only[zA,pz,pJ,x,f,ac,aa];refine (wU (fun k=>(a,(b:Int),(0:Int),(0:Int),(0:Int),([]:Str),(0:Int),(0:Int),(b:Int),([]:Str),(k:Int))) a fF (fun k=>(eff.cutL a (some (b:Int)) (some (k:Int))).bind fun y=>(jK y).bind fun j=>bif (!j.2)then some (aJ.mk 2 j.1 (b:Int) [],(0:Int))else bif (decide (j.1>1000000000))then some (aJ.mk 2 j.1 (b:Int) [],(0:Int))else some (aJ.mk 2 j.1 (b:Int) [],w64 ((k:Int)-(b:Int)))) ?_ ?_ ?_ (a.length-b) b (by omega)).trans ?_
  ·intro i d hd e;have hi:i<a.length:=(zC.1 hd).1;have g:decide ((i:Int)<(a.length:Int))=true:=by simp;omega
   simp only[g,ac,aA,hd,zA,pJ,e,gJ (show i<=1000 by omega)]
  ·intro i d hd e;have hi:i<a.length:=(zC.1 hd).1;have g:decide ((i:Int)<(a.length:Int))=true:=by simp;omega
   simp only[g,ac,aA,hd,zA,pJ,e,aa]
  ·have g:decide ((a.length:Int)<(a.length:Int))=false:=by simp
   simp only[g,aa]
  ·rw[qw a b _ (by omega) m,Be (by omega) (by omega)];simp only[zA,E];have I:b+bU fF (a.drop b)-b=bU fF (a.drop b):=by omega
   rw[I];cases oks with
   | false=>rfl
   | true=>
    by_cases hv:vs<=1000000000
    ·have z:decide (vs>1000000000)=false:=by simp;omega
     have A:decide (vs<=1000000000)=true:=by simpa using hv
     rw[z,A];rfl
    ·have z:decide (vs>1000000000)=true:=by simp;omega
     have A:decide (vs<=1000000000)=false:=by simpa using hv
     rw[z,A];rfl
def noQ(c:UInt8):Bool:=!(c==34)
theorem Fh:∀(l:Str),Go.Lib.indexByte l 34=if bU noQ l<l.length then (bU noQ l:Int)else -1
 | []=>rfl
 | c::r=>by
  unfold Go.Lib.indexByte bU noQ;by_cases h:c=34
  ·subst h;simp
  ·have e:(c==34)=false:=by simpa using h
   rw[e,Fh r];simp only[aE,if_false,Bool.not_false,if_true];by_cases d:bU noQ r<r.length
   ·have f:¬((bU noQ r:Int) == -1)=true:=by simp
    have a:bU noQ r+1<(c::r).length:=by simp;omega
    rw[if_pos d,if_neg f];have b:(bU (fun c=>!c==34) r+1<(c::r).length):=a;rw[if_pos b];show (bU noQ r:Int)+1=((bU noQ r+1:Nat):Int)
    omega
   ·have a:¬(bU noQ r+1<(c::r).length):=by simp;omega
    have b:¬(bU (fun c=>!c==34) r+1<(c::r).length):=a;rw[if_neg d,if_neg b];rfl
theorem Dt(a:Str)(b:Nat)(h:b<=a.length):eff.cutL a (some (b:Int)) none=some (a.drop b):=by
 unfold eff.cutL;simp only[Option.getD_some,Option.getD_none];rw[if_pos]
 ·simp
 ·omega
def ak9(c:UInt8):Bool:=!(decide ((c.toNat:Int)<32))&&!(decide ((c.toNat:Int)>126))&&!((c.toNat:Int)==34)
theorem G9(a:Str)(m:a.length<=120):∃v,gY a=some v:=by
 have:=wU (g:=fun (c:Str×Int)=>
  bif (decide (c.2<(c.1.length:Int)))then
   (idx c.1 c.2).bind fun h=>
   bif (decide ((h.toNat:Int)<32))then
    some (.inr (false))
   else
    (idx c.1 c.2).bind fun j=>
    bif (decide ((j.toNat:Int)>126))then
     some (.inr (false))
    else
     (idx c.1 c.2).bind fun l=>
     bif ((l.toNat:Int)==34)then
      some (.inr (false))
     else
      some (.inl (c.1,w64 (c.2+1)))
  else
   some (.inr ((decide ((c.1.length:Int)<=20))))) (fun k=>(a,(k:Int))) a ak9 (fun k=>if k<a.length then some false else some (decide ((a.length:Int)<=20))) ?_ ?_ ?_ a.length 0 (by omega)
 ·refine⟨if 0+bU ak9 (a.drop 0)<a.length then false else decide ((a.length:Int)<=20),?_⟩;refine (this:gY a=_).trans ?_;split<;>rfl
 ·intro i d hd b;have hi:i<a.length:=(zC.1 hd).1;have e:decide ((i:Int)<(a.length:Int))=true:=by simp;omega
  simp only[e,ac,aA,hd,zA,gJ (show i<=1000 by omega)];unfold ak9 at b;cases h1:decide ((d.toNat:Int)<32)<;>cases h2:decide ((d.toNat:Int)>126)<;>cases f:((d.toNat:Int)==34)<;>rw[h1,h2,f]at b<;>first | rfl | cases b
 ·intro i d hd b;have hi:i<a.length:=(zC.1 hd).1;have e:decide ((i:Int)<(a.length:Int))=true:=by simp;omega
  simp only[e,ac,aA,hd,zA,if_pos hi];unfold ak9 at b;cases h1:decide ((d.toNat:Int)<32)<;>cases h2:decide ((d.toNat:Int)>126)<;>cases f:((d.toNat:Int)==34)<;>rw[h1,h2,f]at b<;>first | rfl | cases b
 ·have e:decide ((a.length:Int)<(a.length:Int))=false:=by simp
  simp only[e,aa,Nat.lt_irrefl,if_false];rfl
theorem aeI(d:UInt8):((d.toNat:Int) != 34)=noQ d:=by
 unfold noQ;by_cases h:d=34
 ·subst h;rfl
 ·have h1:¬(d.toNat=34):=fun e=>h (UInt8.toNat_inj.1 e)
  have h2:((d.toNat:Int)==34)=false:=by
   rw[beq_eq_false_iff_ne];intro e;exact h1 (by exact_mod_cast e)
  have a:(d==34)=false:=by simpa using h
  rw[bne,h2,a]
theorem acN(a:Str)(b:Nat)(r:a.length<=120)(m:a[b]?=some 34)(k:Nat)(n:k=b+1+bU noQ (a.drop (b+1))) :
  ng a (b:Int)=if k<a.length then (fV ((a.take k).drop (b+1))).bind (fun v=>some (⟨3,0,b,(a.take k).drop (b+1)⟩,bif v then ((k+1-b:Nat):Int)else 0))
   else some (⟨3,0,b,(a.take k).drop (b+1)⟩,0):=by
 have s:b<a.length:=(zC.1 m).1;have h:k<=a.length:=by
  have:=pK noQ (a.drop (b+1));rw[List.length_drop]at this;omega
 have o:isLet (34:UInt8)=false:=rfl;have p:fF (34:UInt8)=false:=rfl;have q:(((34:UInt8).toNat:Int)==34)=true:=rfl;unfold ng;rw[aA,m];simp only[zA,pz,pJ,o,p,q,ac,aa,gJ (show b<=1000 by omega)];refine (wU (fun k=>(a,(b:Int),(0:Int),(0:Int),(0:Int),([]:Str),(0:Int),(0:Int),(b:Int),([]:Str),(k:Int))) a noQ
  (fun k=>(eff.cutL a (some ((b+1:Nat):Int)) (some (k:Int))).bind fun c=>bif ((k:Int)==(a.length:Int))then some (aJ.mk 3 0 (b:Int) c,(0:Int))else
   (fV c).bind fun j=>bif (!j)then some (aJ.mk 3 0 (b:Int) c,(0:Int))else some (aJ.mk 3 0 (b:Int) c,w64 ((w64 ((k:Int)+1))-(b:Int)))) ?_ ?_ ?_ (a.length-(b+1)) (b+1) (by omega)).trans ?_
 ·intro i d hd e;have hi:i<a.length:=(zC.1 hd).1;have f:decide ((i:Int)<(a.length:Int))=true:=by simp;omega
  simp only[f,ac,aA,hd,zA,aeI,e,gJ (show i<=1000 by omega)]
 ·intro i d hd e;have hi:i<a.length:=(zC.1 hd).1;have f:decide ((i:Int)<(a.length:Int))=true:=by simp;omega
  simp only[f,ac,aA,hd,zA,aeI,e,aa,gJ (show b<=1000 by omega)]
 ·have f:decide ((a.length:Int)<(a.length:Int))=false:=by simp
  simp only[f,aa,gJ (show b<=1000 by omega)]
 ·rw[<- n,qw a (b+1) k (by omega) h];simp only[zA];by_cases g:k<a.length
  ·have l:((k:Int)==(a.length:Int))=false:=by rw[beq_eq_false_iff_ne];omega
   rw[if_pos g,l];simp only[aa,gJ (show k<=1000 by omega),Be (show b<=k+1 by omega) (show k+1<=1000 by omega)];congr 1;funext v;cases v<;>rfl
  ·have l:((k:Int)==(a.length:Int))=true:=by rw[beq_iff_eq];omega
   rw[if_neg g,l];rfl
theorem agT(a:Str)(b:Nat)(m:a.length<=120)(e:a[b]?=some 34)(k:Nat)(o:k=b+1+bU noQ (a.drop (b+1))) :
  jv a (b:Int)=if k<a.length then (gY ((a.take k).drop (b+1))).bind (fun v=>some (⟨3,0,b,(a.take k).drop (b+1)⟩,((k+1:Nat):Int),v))
   else some (⟨0,0,0,[]⟩,0,false):=by
 have p:b<a.length:=(zC.1 e).1;have d:k<=a.length:=by
  have:=pK noQ (a.drop (b+1));rw[List.length_drop]at this;omega
 have f:decide (((34:UInt8).toNat:Int)>=97)=false:=rfl;have g:decide (((34:UInt8).toNat:Int)>=48)=false:=rfl;have h:(((34:UInt8).toNat:Int)==34)=true:=rfl;have ld:(a.drop (b+1)).length=a.length-(b+1):=List.length_drop;have ib:dX (a.drop (b+1)) 34=some (if bU noQ (a.drop (b+1))<(a.drop (b+1)).length then (bU noQ (a.drop (b+1)):Int)else -1):=by
  rw[<- Fh];rfl
 unfold jv;rw[aA,e];simp only[zA,f,g,h,ac,aa,gJ (show b<=1000 by omega),Dt a (b+1) (by omega),ib];by_cases c:k<a.length
 ·have h1:bU noQ (a.drop (b+1))<(a.drop (b+1)).length:=by omega
  have i:decide ((bU noQ (a.drop (b+1)):Int)<0)=false:=by simp
  have j:w64 (((b+1:Nat):Int)+(bU noQ (a.drop (b+1)):Int))=(k:Int):=by rw[aT (by omega) (by omega)];omega
  have l:w64 ((w64 ((b:Int)+(bU noQ (a.drop (b+1)):Int)))+2)=((k+1:Nat):Int):=by
   rw[aT (n:=(b:Int)+(bU noQ (a.drop (b+1)):Int)) (by omega) (by omega),aT (by omega) (by omega)];omega
  rw[if_pos h1,if_pos c,i];simp only[aa,j,l,qw a (b+1) k (by omega) d,zA]
 ·have h1:¬bU noQ (a.drop (b+1))<(a.drop (b+1)).length:=by omega
  rw[if_neg h1,if_neg c];rfl
theorem neN(c n:UInt8)(h:c≠n):((c.toNat:Int)==(n.toNat:Int))=false:=by
 rw[beq_eq_false_iff_ne];intro e;exact h (UInt8.toNat_inj.1 (by exact_mod_cast e))
def sy9(c:UInt8):Prop:=c=40\/c=41\/c=91\/c=93\/c=44\/c=43\/c=45\/c=42\/c=60
theorem apn(a:Str)(b:Nat){c:UInt8}(d:a[b]?=some c)(h:sy9 c):lQ a (b:Int)=some 1:=by
 unfold lQ;rw[aA,d];simp only[zA];rcases h with rfl | rfl | rfl | rfl | rfl | rfl | rfl | rfl | rfl<;>rfl
theorem apo(a:Str)(b:Nat){c:UInt8}(e:a[b]?=some c)(h:¬sy9 c)(h1:c≠61):lQ a (b:Int)=some 0:=by
 unfold sy9 at h;simp only[not_or]at h;obtain⟨f,g,i,j,k,l,m,n,o⟩:=h;have p:((c.toNat:Int)==40)=false:=neN c 40 f;have q:((c.toNat:Int)==41)=false:=neN c 41 g;have r:((c.toNat:Int)==91)=false:=neN c 91 i;have s:((c.toNat:Int)==93)=false:=neN c 93 j;have t:((c.toNat:Int)==44)=false:=neN c 44 k;have u:((c.toNat:Int)==43)=false:=neN c 43 l;have v:((c.toNat:Int)==45)=false:=neN c 45 m;have w:((c.toNat:Int)==42)=false:=neN c 42 n;have x:((c.toNat:Int)==60)=false:=neN c 60 o;have d:((c.toNat:Int)==61)=false:=neN c 61 h1;unfold lQ;rw[aA,e];simp only[zA,p,q,r,s,t,u,v,w,x,d,aa]
theorem apm(a:Str)(b:Nat)(g:a.length<=120)(e:a[b]?=some 61):lQ a (b:Int)=some (if a[b+1]?=some 61 then 2 else 1):=by
 have i:b<a.length:=(zC.1 e).1;unfold lQ;rw[aA,e];simp only[zA,gJ (show b<=1000 by omega)];show (bif (decide (((b+1:Nat):Int)<(a.length:Int)))then _ else _)=_
 by_cases c:b+1<a.length
 ·have d:decide (((b+1:Nat):Int)<(a.length:Int))=true:=by simp;omega
  rw[d,aA,zF c];simp only[ac,zA];by_cases h:a[b+1]=61
  ·rw[h];rfl
  ·have f:((a[b+1].toNat:Int)==61)=false:=neN _ 61 h;rw[f,if_neg (by simpa using h)];rfl
 ·have d:decide (((b+1:Nat):Int)<(a.length:Int))=false:=by simp;omega
  rw[d,zJ (by omega)];rfl
noncomputable def wQ(a:Str)(b:Nat)(c:UInt8):Nat:=open Classical in if sy9 c then 1 else if c=61 then (if a[b+1]?=some 61 then 2 else 1)else 0
theorem akB(a:Str)(b:Nat)(e:a.length<=120){c:UInt8}(d:a[b]?=some c):lQ a (b:Int)=some (wQ a b c:Int):=by
 unfold wQ;by_cases h:sy9 c
 ·rw[if_pos h];exact apn a b d h
 ·rw[if_neg h];by_cases h1:c=61
  ·subst h1;rw[if_pos rfl,apm a b e d];split<;>rfl
  ·rw[if_neg h1];exact apo a b d h h1
theorem aeN(a:Str)(b:Nat){c:UInt8}(d:a[b]?=some c):b+wQ a b c<=a.length/\wQ a b c<=2:=by
 have e:b<a.length:=(zC.1 d).1;unfold wQ;split
 ·omega
 ·split
  ·split
   ·rename_i h;have:=(zC.1 h).1;omega
   ·omega
  ·omega
theorem af7(a:Str)(b:Nat)(e:a.length<=120){c:UInt8}(d:a[b]?=some c)(h1:isLet c=false)(h2:fF c=false)(f:c≠34) :
  ng a (b:Int)=some (⟨4,0,b,(a.take (b+wQ a b c)).drop b⟩,(wQ a b c:Int)):=by
 have k:b<a.length:=(zC.1 d).1;have g:=aeN a b d;have h:((c.toNat:Int)==34)=false:=neN c 34 f;have i:w64 ((b:Int)+(wQ a b c:Int))=((b+wQ a b c:Nat):Int):=by rw[aT (by omega) (by omega)];omega
 have j:b+wQ a b c-b=wQ a b c:=by omega
 unfold ng;rw[aA,d];simp only[zA,pz,pJ,h1,h2,h,aa,akB a b e d,i,qw a b _ (Nat.le_add_right _ _) g.1,Be (Nat.le_add_right b (wQ a b c)) (show b+wQ a b c<=1000 by omega),j]
theorem agU(a:Str)(b:Nat)(p:a.length<=120){c:UInt8}(h:a[b]?=some c)(h1:isLet c=false)(h2:fF c=false)(i:c≠34) :
  jv a (b:Int)=bif Go.Lib.hasPrefix (a.drop b) [61,61]then some (⟨4,0,b,[61,61]⟩,((b+2:Nat):Int),true)
   else some (⟨4,0,b,(a.take (b+1)).drop b⟩,((b+1:Nat):Int),decide (Go.Lib.indexByte [40,41,91,93,44,43,45,42,60,61] c>=0)):=by
 have q:b<a.length:=(zC.1 h).1;have j:((c.toNat:Int)==34)=false:=neN c 34 i;have k:w64 ((b:Int)+2)=((b+2:Nat):Int):=by rw[aT (by omega) (by omega)];rfl
 have ep:jo (a.drop b) [61,61]=some (Go.Lib.hasPrefix (a.drop b) [61,61]):=rfl;have eb:dX [40,41,91,93,44,43,45,42,60,61] (c.toNat:Int)=some (Go.Lib.indexByte [40,41,91,93,44,43,45,42,60,61] c):=by
  unfold dX;rw[az];simp
 have core:((eff.cutL a (some (b:Int)) none).bind fun d=>(jo d [61,61]).bind fun e=>
   bif e then some (aJ.mk 4 0 (b:Int) [61,61],w64 ((b:Int)+2),true)else
   (eff.cutL a (some (b:Int)) (some (w64 ((b:Int)+1)))).bind fun f=>
   (dX [40,41,91,93,44,43,45,42,60,61] (c.toNat:Int)).bind fun g=>some (aJ.mk 4 0 (b:Int) f,w64 ((b:Int)+1),(decide (g>=0)))) =
   bif Go.Lib.hasPrefix (a.drop b) [61,61]then some (⟨4,0,b,[61,61]⟩,((b+2:Nat):Int),true)
   else some (⟨4,0,b,(a.take (b+1)).drop b⟩,((b+1:Nat):Int),decide (Go.Lib.indexByte [40,41,91,93,44,43,45,42,60,61] c>=0)):=by
  simp only[Dt a b (by omega),zA,ep,eb,gJ (show b<=1000 by omega),k,qw a b (b+1) (by omega) (by omega)]
 unfold isLet at h1;unfold fF at h2;unfold jv;rw[aA,h];simp only[zA,(yG c).1,(yG c).2.1,(yG c).2.2.1,(yG c).2.2.2,j];cases l:decide (97<=c.toNat)<;>cases m:decide (c.toNat<=122)<;>cases n:decide (48<=c.toNat)<;>cases o:decide (c.toNat<=57)<;>rw[l,m]at h1<;>rw[n,o]at h2<;>first | exact core | exact absurd h1 (by decide) | exact absurd h2 (by decide)
theorem drop_cons(a:Str)(b:Nat){c:UInt8}(d:a[b]?=some c):a.drop b=c::a.drop (b+1):=by
 have f:b<a.length:=(zC.1 d).1;have e:a[b]=c:=by rw[zF f]at d;exact aR d
 rw[List.drop_eq_getElem_cons f,e]
theorem ajv(a:Str)(b:Nat)(n:a.length<=120){c:UInt8}(m:a[b]?=some c)(h1:isLet c=false)(h2:fF c=false)(o:c≠34) :
  (wQ a b c=0->∃t e,jv a (b:Int)=some (t,e,false)) /\
  (0<wQ a b c->jv a (b:Int)=some (⟨4,0,b,(a.take (b+wQ a b c)).drop b⟩,((b+wQ a b c:Nat):Int),true)):=by
 have hd:=drop_cons a b m;rw[agU a b n m h1 h2 o];unfold wQ;by_cases h:sy9 c
 ·have f:Go.Lib.hasPrefix (a.drop b) [61,61]=false:=by
   rw[hd];rcases h with rfl | rfl | rfl | rfl | rfl | rfl | rfl | rfl | rfl<;>rfl
  have hi:decide (Go.Lib.indexByte [40,41,91,93,44,43,45,42,60,61] c>=0)=true:=by
   rcases h with rfl | rfl | rfl | rfl | rfl | rfl | rfl | rfl | rfl<;>rfl
  rw[if_pos h,f,hi];exact⟨fun e=>absurd e (by decide),fun _=>rfl⟩
 ·rw[if_neg h];by_cases j:c=61
  ·subst j;rw[if_pos rfl];by_cases h2q:a[b+1]?=some 61
   ·have i:=drop_cons a (b+1) h2q;have f:Go.Lib.hasPrefix (a.drop b) [61,61]=true:=by rw[hd,i];rfl
    have p:(a.take (b+2)).drop b=[61,61]:=by
     rw[List.drop_take,hd,i];have:b+2-b=2:=by omega
     rw[this];rfl
    rw[if_pos h2q,f,p];exact⟨fun e=>absurd e (by decide),fun _=>rfl⟩
   ·have f:Go.Lib.hasPrefix (a.drop b) [61,61]=false:=by
     rw[hd];cases q:a.drop (b+1)with
     | nil=>rfl
     | cons d r=>
      have k:a[b+1]?=some d:=by
       have:=congrArg (fun l:Str=>l[0]?) q;simpa using this
      have g:(61==d)=false:=by
       rw[beq_eq_false_iff_ne];intro e;exact h2q (by rw[k,e])
      show (((61:UInt8)==61)&&((61==d)&&_))=false
      rw[g];rfl
    rw[if_neg h2q,f];exact⟨fun e=>absurd e (by decide),fun _=>rfl⟩
  ·rw[if_neg j];unfold sy9 at h;simp only[not_or]at h;obtain⟨s,u,v,w,x,y,z,A,B⟩:=h;have f:Go.Lib.hasPrefix (a.drop b) [61,61]=false:=by
    rw[hd];have g:(61==c)=false:=by rw[beq_eq_false_iff_ne];exact fun e=>j e.symm
    show ((61==c)&&_)=false
    rw[g];rfl
   have hi:decide (Go.Lib.indexByte [40,41,91,93,44,43,45,42,60,61] c>=0)=false:=by
    simp[Go.Lib.indexByte,Ne.symm s,Ne.symm u,Ne.symm v,Ne.symm w,Ne.symm x,Ne.symm y,Ne.symm z,Ne.symm A,Ne.symm B,Ne.symm j]
   rw[f,hi];exact⟨fun _=>⟨_,_,rfl⟩,fun e=>absurd e (by decide)⟩
theorem F8{p:UInt8->Bool}{a:Str}{b:Nat}{c:UInt8}(d:a[b]?=some c)(e:p c=true):1<=bU p (a.drop b):=by
 rw[drop_cons a b d];unfold bU;rw[if_pos e];omega
theorem Vo{a:Str}{b n:Nat}{c:UInt8}(d:a[b]?=some c)(h:1<=n):∃r,(a.take (b+n)).drop b=c::r:=by
 obtain⟨k,rfl⟩:∃k,n=k+1:=⟨n-1,by omega⟩;rw[List.drop_take,drop_cons a b d];have e:b+(k+1)-b=k+1:=by omega
 rw[e,List.take_succ_cons];exact⟨_,rfl⟩
theorem Xc{a:Str}{b k:Nat}(c:a.length<=120):((a.take k).drop b).length<=120:=by simp;omega
theorem IJ(c:UInt8)(r:Str):letter (c::r)=isLet c:=by
 show decide (97<=c.toNat/\c.toNat<=122)=isLet c
 unfold isLet;rw[Bool.decide_and]
theorem afG(a:Str)(b:Nat)(g:a.length<=120){c:UInt8}(f:a[b]?=some c) :
  (∃(t:aJ) (n:Nat),1<=n/\b+n<=a.length/\WB t/\jv a (b:Int)=some (t,((b+n:Nat):Int),true)/\ng a (b:Int)=some (t,(n:Int))) \/
  ((∃t e,jv a (b:Int)=some (t,e,false))/\∃t,ng a (b:Int)=some (t,0)):=by
 have w:b<a.length:=(zC.1 f).1;have hrun:∀(p:UInt8->Bool),b+bU p (a.drop b)<=a.length:=by
  intro p;have:=pK p (a.drop b);rw[List.length_drop]at this;omega
 cases h1:isLet c with
 | true=>
  have m:rZ c=true:=by unfold rZ;rw[h1];rfl
  have hi:=agV a b g f h1;have d:=acO a b g f h1;by_cases o:bU rZ (a.drop b)<=8
  ·rw[al o]at hi;rw[if_neg (by omega)]at d;exact .inl ⟨_,_,F8 f m,hrun rZ,⟨Int.natCast_nonneg b,fun _=>by obtain⟨r,e⟩:=Vo f (F8 f m);exact (congrArg letter e).trans ((IJ c r).trans h1),fun e=>absurd e (by simp),Xc g⟩,hi,d⟩
  ·rw[ae o]at hi;rw[if_pos (by omega)]at d;exact .inr ⟨⟨_,_,hi⟩,⟨_,d⟩⟩
 | false=>
  cases h2:fF c with
  | true=>
   obtain⟨vi,vs,ok,oks,hi,d,i,s⟩:=aku a b g f h2;cases j:ok with
   | true=>
    rw[j]at i hi;have u:=s j;subst u;rw[if_pos i.symm]at d;exact .inl ⟨_,_,F8 f h2,hrun fF,⟨Int.natCast_nonneg b,fun e=>absurd e (by simp),fun e=>absurd e (by simp),by simp⟩,hi,d⟩
   | false=>
    rw[j]at i hi;rw[if_neg (by rw[<- i];decide)]at d;exact .inr ⟨⟨_,_,hi⟩,⟨_,d⟩⟩
  | false=>
   by_cases k:c=34
   ·subst k;have hi:=agT a b g f _ rfl;have d:=acN a b g f _ rfl;by_cases h:b+1+bU noQ (a.drop (b+1))<a.length
    ·rw[if_pos h]at hi d;obtain⟨v,hv⟩:=G9 ((a.take (b+1+bU noQ (a.drop (b+1)))).drop (b+1)) (by simp;omega);have l:fV ((a.take (b+1+bU noQ (a.drop (b+1)))).drop (b+1))=some v:=hv;rw[hv]at hi;rw[l]at d;cases v with
     | true=>
      refine .inl ⟨_,b+1+bU noQ (a.drop (b+1))+1-b,by omega,by omega,⟨Int.natCast_nonneg b,fun e=>absurd e (by simp),fun e=>absurd e (by simp),Xc g⟩,?_,d⟩;have e:b+(b+1+bU noQ (a.drop (b+1))+1-b)=b+1+bU noQ (a.drop (b+1))+1:=by omega
      rw[e];exact hi
     | false=>exact .inr ⟨⟨_,_,hi⟩,⟨_,d⟩⟩
    ·rw[if_neg h]at hi d;exact .inr ⟨⟨_,_,hi⟩,⟨_,d⟩⟩
   ·have hi:=ajv a b g f h1 h2 k;have d:=af7 a b g f h1 h2 k;by_cases q:wQ a b c=0
    ·rw[q]at d;exact .inr ⟨hi.1 q,⟨_,d⟩⟩
    ·exact .inl ⟨_,_,by omega,(aeN a b f).1,⟨Int.natCast_nonneg b,fun e=>absurd e (by simp),fun _=>by obtain⟨r,e⟩:=Vo f (show 1<=wQ a b c by omega);exact (congrArg letter e).trans ((IJ c r).trans h1),Xc g⟩,hi.2 (by omega),d⟩
theorem adF{ρ:Type}{X:Type}(f g:X->Option (X⊕ρ))(P:Nat->X->Prop)(R:ρ->Prop)
  (h:∀m x,P m x->(∃r,R r/\f x=some (.inr r)/\g x=some (.inr r))\/(∃y k,k<m/\P k y/\f x=some (.inl y)/\g x=some (.inl y))) :
  ∀m x,P m x->∃r,R r/\au f x=some r/\au g x=some r:=by
 intro m;induction m using Nat.strongRecOn with
 | _ m ih=>
  intro x c;rw[aH f,aH g];rcases h m x c with ⟨r,d,a,b⟩ | ⟨y,k,e,i,a,b⟩
  ·rw[a,b];exact⟨r,d,rfl,rfl⟩
  ·rw[a,b];exact ih k e y i
theorem OO(a:Str):∃r,(r.2<0->dJ r.1 (a.length:Int))/\xW a=some r/\wV a=some r:=by
 unfold xW wV;by_cases j:(a.length:Int)>120
 ·rw[al j];exact⟨_,fun h=>absurd h (by decide),rfl,rfl⟩
 ·rw[ae j];simp only[aa];have d:a.length<=120:=by omega
  refine adF _ _ (fun m x=>∃toks b,x=(a,toks,((b:Nat):Int))/\b<=a.length/\m=a.length-b/\toks.length<=60/\∀t,t∈toks->WB t) (fun (r:List aJ×Int)=>r.2<0->dJ r.1 (a.length:Int)) ?_ a.length (a,[],0) ⟨[],0,rfl,by omega,by omega,by simp,by simp⟩;rintro m _ ⟨toks,b,rfl,q,rfl,k,hall⟩;simp only;by_cases f:b<a.length
  ·have g:decide ((b:Int)<(a.length:Int))=true:=by simp;omega
   have l:=zF f;simp only[g,ac,aA,l,zA];cases s:((a[b].toNat:Int)==32)with
   | true=>
    exact .inr ⟨(a,toks,((b+1:Nat):Int)),a.length-(b+1),by omega,⟨toks,b+1,rfl,by omega,rfl,k,hall⟩,by rw[gJ (by omega)];rfl,by rw[gJ (by omega)];rfl⟩
   | false=>
    rcases afG a b d l with ⟨t,n,h1,h2,i,ei,es⟩ | ⟨⟨t,e,ei⟩,⟨t',es⟩⟩
    ·have en:((n:Int)==0)=false:=by rw[beq_eq_false_iff_ne];omega
     have ew:w64 ((b:Int)+(n:Int))=((b+n:Nat):Int):=by rw[aT (by omega) (by omega)];omega
     simp only[ei,es,zA,en,ew,aa,aL];cases o:((toks.length:Int)==60)with
     | true=>exact .inl ⟨([],(b:Int)),fun h=>by simp at h;omega,rfl,rfl⟩
     | false=>
      have v:toks.length<60:=by
       have:¬((toks.length:Int)=60):=by simpa using o
       omega
      have p:gd (toks.length+[t].length)=some ():=by
       unfold gd;rw[if_pos (by simp;omega)]
      rw[p];exact .inr ⟨(a,toks++[t],((b+n:Nat):Int)),a.length-(b+n),by omega,⟨toks++[t],b+n,rfl,h2,rfl,by simp;omega,fun u c=>by rcases List.mem_append.1 c with c | c;exact hall u c;rw[List.mem_singleton.1 c];exact i⟩,rfl,rfl⟩
    ·simp only[ei,es,zA];exact .inl ⟨([],(b:Int)),fun h=>by simp at h;omega,rfl,rfl⟩
  ·have g:decide ((b:Int)<(a.length:Int))=false:=by simp;omega
   simp only[g,aa];exact .inl ⟨(toks,-1),fun _=>⟨hall,by simp,k⟩,rfl,rfl⟩
end Go.Proofs.YtbbmkcioplbhbaaGreatDoor
/- Plain laws: one node, valid on both sides alike. Plain laws: nesting and nodes of expressions alike. Plain laws: expressions that a parser reads: few nodes, short texts; validity is alike on both sides. -/
namespace Go.Proofs.YtbbmkcioplbhbaaGreatDoor
open Go.Abs Go.Proofs
theorem oG{α:Type}(c:Bool){a b a' b':α}(h1:a=a')(h2:b=b'):(bif c then a else b)=bif c then a' else b':=by rw[h1,h2]
theorem Vg(a b c:Int):jr a b c=rH a b c:=rfl
theorem nX(a b c:Int):rH a b c=some (decide (a>=b)&&decide (a<=c)):=by
 unfold rH;cases decide (a>=b)<;>rfl
theorem ace(a:Str):fG a=dP a:=rfl
theorem ady(e:af)(c:e.text.length<=34359738368)(d:∃v,fV e.text=some v)(f:∃v,bM e.text=some v):Es e=oL e:=by
 obtain⟨v,hv⟩:=d;obtain⟨u,g⟩:=f;unfold Es oL;simp only[Vg,nX,ace,He,nY e.text c,hv,g,zA];generalize (e.text==[])=p;generalize ((e.args.length:Int)==0)=a;generalize ((e.args.length:Int)==2)=b;generalize (decide (e.n>=0)&&decide (e.n<=1000000000))=h;generalize (decide (e.n>=1)&&decide (e.n<=5))=i;refine oG _ ?_ (oG _ ?_ (oG _ ?_ (oG _ rfl (oG _ rfl (oG _ ?_ (oG _ ?_ (oG _ ?_ rfl)))))))
 ·cases p<;>cases a<;>cases h<;>rfl
 ·cases a<;>cases v<;>cases (e.n==0)<;>rfl
 ·cases a<;>cases u<;>cases (e.n==0)<;>rfl
 ·cases p<;>cases b<;>cases i<;>rfl
 ·cases b<;>cases u<;>cases (e.n==0)<;>rfl
 ·cases b<;>cases u<;>cases (e.n==0)<;>rfl
theorem Q8{X ρ:Type}{f:X->Option (X⊕ρ)}{x:X}{r:ρ}{n:Nat}(a:iter f n x=some r):au f x=some r:=by
 have hh:∃n r,iter f n x=some r:=⟨n,r,a⟩;unfold au;rw[dif_pos hh];exact congrArg some (KA hh.choose_spec.choose_spec a)
theorem aaK{X Y ρ:Type}{f:X->Option (X⊕ρ)}{g:Y->Option (Y⊕ρ)}(P:X->Y->Prop)
  (H:∀x y,P x y->(f x=none/\g y=none)\/(∃r,f x=some (.inr r)/\g y=some (.inr r))\/(∃x' y',P x' y'/\f x=some (.inl x')/\g y=some (.inl y')))
  {x:X} {y:Y} (h:P x y):au f x=au g y:=by
 have hi:∀(n:Nat) (x:X) (y:Y),P x y->iter f n x=iter g n y:=by
  intro n;induction n with
  | zero=>intro x y _;rfl
  | succ n ih=>
   intro x y i;unfold iter;rcases H x y i with ⟨b,a⟩ | ⟨r,b,a⟩ | ⟨x',y',d,b,a⟩
   ·rw[b,a]
   ·rw[b,a]
   ·rw[b,a];exact ih x' y' d
 cases e:au f x with
 | some r=>
  obtain⟨n,c⟩:=nN e;rw[hi n x y h]at c;exact (Q8 c).symm
 | none=>
  cases a:au g y with
  | none=>rfl
  | some r=>
   obtain⟨n,c⟩:=nN a;rw[<- hi n x y h]at c;rw[Q8 c]at e;cases e
theorem VD(m r:Int):FY m r=some (if r>m then r else m):=by
 unfold FY;by_cases h:m>r
 ·rw[al h,if_neg (by omega)];rfl
 ·rw[ae h];by_cases h2:r>m
  ·rw[if_pos h2];rfl
  ·rw[if_neg h2];have:r=m:=by omega
   rw[this];rfl
theorem Um:∀(n:Nat) (e:af),qQ n e=jY n e:=by
 intro n;induction n with
 | zero=>intro e;rfl
 | succ n ih=>
  intro e;show CY (qQ n) e=qH (jY n) e
  unfold CY qH;refine aaK (fun x y=>∃m i:Int,x=(m,e.args,(e.args.length:Int),i)/\y=(e.kind,e.n,e.text,e.args,m,i)) ?_ ⟨0,0,rfl,rfl⟩;rintro _ _ ⟨m,i,rfl,rfl⟩;simp only;cases decide (i<(e.args.length:Int))with
  | false=>exact .inr (.inl ⟨_,rfl,rfl⟩)
  | true=>
   simp only[ac];cases idx e.args i with
   | none=>exact .inl ⟨rfl,rfl⟩
   | some x=>
    simp only[zA,ih];cases jY n (aj x)with
    | none=>exact .inl ⟨rfl,rfl⟩
    | some r=>
     simp only[zA,VD];exact .inr (.inr ⟨_,_,⟨_,_,rfl,rfl⟩,rfl,rfl⟩)
theorem agt(x:af):aj x=x:=by cases x;rfl
theorem aju{α:Type}{xs:List α}{i:Int}{x:α}(h:idx xs i=some x):x∈xs:=by
 unfold idx at h;split at h
 ·exact zG h
 ·cases h
theorem aaF(P:af->Prop)(hsub:∀e x,P e->x∈e.args->P x)(hnode:∀e,P e->Es e=oL e):∀(n:Nat) (e:af),P e->uK n e=qL n e:=by
 intro n;induction n with
 | zero=>intro e _;rfl
 | succ n ih=>
  intro e a;show GY (uK n) e=BQ (qL n) e
  unfold GY BQ;refine aaK (fun x y=>∃i:Int,x=(e.kind,e.n,e.text,e.args,e.args,(e.args.length:Int),i)/\y=(e.kind,e.n,e.text,e.args,i)) ?_ ⟨0,rfl,rfl⟩;rintro _ _ ⟨i,rfl,rfl⟩;simp only;cases decide (i<(e.args.length:Int))with
  | false=>
   have b:Es ⟨e.kind,e.n,e.text,e.args⟩=oL ⟨e.kind,e.n,e.text,e.args⟩:=by
    have:=hnode e a;cases e;exact this
   simp only[aa,b];cases oL ⟨e.kind,e.n,e.text,e.args⟩with
   | none=>exact .inl ⟨rfl,rfl⟩
   | some r=>exact .inr (.inl ⟨_,rfl,rfl⟩)
  | true=>
   simp only[ac];cases c:idx e.args i with
   | none=>exact .inl ⟨rfl,rfl⟩
   | some x=>
    simp only[zA,agt,ih x (hsub e x a (aju c))];cases qL n x with
    | none=>exact .inl ⟨rfl,rfl⟩
    | some r=>
     simp only[zA];cases r with
     | false=>exact .inr (.inl ⟨_,rfl,rfl⟩)
     | true=>exact .inr (.inr ⟨_,_,⟨_,rfl,rfl⟩,rfl,rfl⟩)
theorem WI{x:af}:∀ {xs:List af},x∈xs->wtE x<=wtL xs
 | [],h=>by cases h
 | y::r,h=>by
  rcases ba.1 h with rfl | h
  ·show _<=wtE x+wtL r;omega
  ·have:=WI h;show _<=wtE y+wtL r;omega
theorem DJ(e:af):1+wtL e.args<=wtE e:=by
 obtain⟨k,n,t,a⟩:=e;show 1+wtL a<=(if t.length<=120 then 1 else 18446744073709551616)+wtL a
 split<;>omega
theorem aeD(e:af):1<=wtE e:=by have:=DJ e;omega
theorem WJ:∀(xs:List af),xs.length<=wtL xs
 | []=>by simp
 | x::r=>by
  have:=WJ r;have:=aeD x;show r.length+1<=wtE x+wtL r;omega
theorem ru{x e:af}(h:x∈e.args):wtE x+1<=wtE e:=by
 have:=WI h;have:=DJ e;omega
theorem Oe{e:af}(h:wtE e<=1048576):e.text.length<=120:=by
 obtain⟨k,n,t,a⟩:=e;have h:(if t.length<=120 then 1 else 18446744073709551616)+wtL a<=1048576:=h;show t.length<=120
 split at h
 ·assumption
 ·omega
theorem ahy{e:af}(h:wtE e<=1048576):wtE e=1+wtL e.args:=by
 have:=Oe h;obtain⟨k,n,t,a⟩:=e;exact wP this
theorem tN{e:af}:e.args.length+1<=wtE e:=by
 have:=DJ e;have:=WJ e.args;omega
theorem Vx{e:af}:siz e.args<siz e:=by
 cases e;simp only[siz];rw[af.mk.sizeOf_spec];omega
theorem ZJ{x:af}{xs:List af}(h:x∈xs):siz x+1<=siz xs:=by
 have:=List.sizeOf_lt_of_mem h;simp only[siz];omega
theorem fH{x e:af}(h:x∈e.args):siz x+2<=siz e:=by
 have:=ZJ h;have:=Vx (e:=e);omega
theorem OC{xs:List af}{i:Nat}{x:af}(h:xs[i]?=some x):wtL (xs.take (i+1))=wtL (xs.take i)+wtE x:=by
 obtain⟨hi,rfl⟩:=zC.1 h;rw[List.take_succ_eq_append_getElem hi,yK,WH]
theorem vC(xs:List af)(i:Nat):wtL (xs.take i)<=wtL xs:=by
 have h:wtL (xs.take i)+wtL (xs.drop i)=wtL xs:=by rw[<- yK,List.take_append_drop]
 omega
theorem dH{α X ρ σ:Type}{g:X->Option (X⊕ρ)}(pk:σ->Nat->X)(xs:List α)(I:Nat->σ->Prop)(R:ρ->Prop)
  (f:∀i x s,xs[i]?=some x->I i s->(∃s',g (pk s i)=some (.inl (pk s' (i+1)))/\I (i+1) s')\/∃r,g (pk s i)=some (.inr r)/\R r)
  (h:∀s,I xs.length s->∃r,g (pk s xs.length)=some (.inr r)/\R r) (s:σ) (j:I 0 s):∃r,au g (pk s 0)=some r/\R r:=by
 have key:∀(k i:Nat) (s:σ),xs.length=i+k->I i s->∃r,au g (pk s i)=some r/\R r:=by
  intro k;induction k with
  | zero=>
   intro i s hi b;have:i=xs.length:=by omega
   subst this;obtain⟨r,e,a⟩:=h s b;exact⟨r,by rw[aH,e],a⟩
  | succ k ih=>
   intro i s hi b;have c:i<xs.length:=by omega
   rcases f i _ s (zF c) b with ⟨s',e,d⟩ | ⟨r,e,a⟩
   ·obtain⟨r,e',a⟩:=ih (i+1) s' (by omega) d;exact⟨r,by rw[aH,e];exact e',a⟩
   ·exact⟨r,by rw[aH,e],a⟩
 exact key xs.length 0 s (by omega) j
theorem bY{α:Type}{xs:List α}{i:Nat}{x:α}(h:xs[i]?=some x):decide ((i:Int)<(xs.length:Int))=true:=by
 have:=(zC.1 h).1;simp;omega
theorem bJ{α:Type}(xs:List α):decide ((xs.length:Int)<(xs.length:Int))=false:=by simp
theorem cZ{α:Type}{xs:List α}{i:Nat}{x:α}(h:xs[i]?=some x)(a:xs.length<=34359738368):w64 ((i:Int)+1)=((i+1:Nat):Int):=by
 have:=(zC.1 h).1;rw[aT (by omega) (by omega)];omega
theorem IB:∀(n:Nat) (e:af),siz e<n->wtE e<=1048576->ou n e=some (wtE e:Int)
 | 0,e,h,_=>absurd h (Nat.not_lt_zero _)
 | n+1,e,l,d=>by
  have ih:=IB n;have m:=tN (e:=e);show CV (ou n) e=_
  unfold CV;have key:=dH (fun (s:Unit) (i:Nat)=>((((1+wtL (e.args.take i):Nat):Int),e.args,(e.args.length:Int),(i:Int)):Int×(List af)×Int×Int)) e.args (fun _ _=>True) (fun r=>r=(wtE e:Int)) (g:=fun (a:Int×(List af)×Int×Int)=>
   bif (decide (a.2.2.2<a.2.2.1))then
    (idx a.2.1 a.2.2.2).bind fun f=>
    (ou n (aj f)).bind fun j=>
    some (.inl (w64 (a.1+j),a.2.1,a.2.2.1,w64 (a.2.2.2+1)))
   else
    some (.inr (a.1))) (fun i x s b _=>.inl ⟨(),by
   have c:=zG b
   have h1:=ru c
   have h2:=OC b
   have o:=vC e.args (i+1)
   have p:=DJ e
   simp only[bY b,ac,aA,b,zA,aS,ih x (by have:=fH c;omega) (by omega),cZ b (by omega),h2]
   rw[aT (by omega) (by omega)]
   congr 4
   omega,trivial⟩) (fun s _=>⟨_,by simp only[bJ,aa];rfl,by rw[List.take_length,ahy d]⟩) () trivial
  obtain⟨r,k,rfl⟩:=key;exact k
theorem afc:∀(n:Nat) (e:af) (b:Int),siz e<n->wtE e<=1048576->0<=b->b<=1048576 ->
  ∃r,xk n e b=some r/\(0<=b-wtE e->r=b-wtE e)/\(b-wtE e<0->r = -1)
 | 0,e,b,h,_,_,_=>absurd h (Nat.not_lt_zero _)
 | n+1,e,b,v,m,w,h1=>by
  have ih:=afc n;have y:=tN (e:=e);have o:=ahy m;show ∃r,JY (xk n) e b=some r/\_
  unfold JY;rw[aT (n:=b-1) (by omega) (by omega)];refine dH (fun (s:Int) (i:Nat)=>((s,e.kind,e.n,e.text,e.args,(i:Int)):Int×Int×Int×Str×(List af)×Int)) e.args
   (fun i s=>(0<=b-1-wtL (e.args.take i)->s=b-1-wtL (e.args.take i))/\(b-1-wtL (e.args.take i)<0->s = -1)) _ (fun i x s c g=>?_) (fun s g=>?_) (b-1) ⟨fun _=>by simp[wtL],fun h=>by simp[wtL]at h;omega⟩
  ·obtain⟨a,d⟩:=g;have l:=zG c;have h1:=ru l;have h2:=OC c;have z:=vC e.args (i+1);by_cases j:s>=0
   ·obtain⟨r,p,q,t⟩:=ih x s (by have:=fH l;omega) (by omega) j (by
     by_cases f:0<=b-1-wtL (e.args.take i)
     ·have:=a f;omega
     ·have:=d (by omega);omega)
    have u:s=b-1-wtL (e.args.take i):=by
     by_cases f:0<=b-1-wtL (e.args.take i)
     ·exact a f
     ·have:=d (by omega);omega
    refine .inl ⟨r,?_,fun k=>?_,fun k=>?_⟩
    ·simp only[bY c,ac,al j,aA,c,zA,aS,p,cZ c (by omega)]
    ·rw[h2]at k ⊢;rw[q (by omega)];omega
    ·rw[h2]at k;exact t (by omega)
   ·refine .inr ⟨s,?_,fun h=>?_,fun h=>?_⟩
    ·simp only[bY c,ac,ae j,aa]
    ·have:=vC e.args i;have:=a (by omega);omega
    ·have:=a;by_cases f:0<=b-1-wtL (e.args.take i)
     ·have:=a f;omega
     ·exact d (by omega)
  ·obtain⟨a,d⟩:=g;rw[List.take_length]at a d;exact⟨s,by simp only[bJ,aa],fun h=>by rw[a (by omega)];omega,fun h=>d (by omega)⟩
theorem QD:∀(n:Nat) (e:af),siz e<n->wtE e<=1048576->∃r,jY n e=some r/\True
 | 0,e,h,_=>absurd h (Nat.not_lt_zero _)
 | n+1,e,f,g=>by
  have ih:=QD n;have j:=tN (e:=e);show ∃r,qH (jY n) e=some r/\_
  unfold qH;refine dH (fun (s:Int) (i:Nat)=>((e.kind,e.n,e.text,e.args,s,(i:Int)):Int×Int×Str×(List af)×Int×Int)) e.args (fun _ _=>True) _ (fun i x s a c=>?_) (fun s c=>?_) 0 trivial
  ·have b:=zG a;obtain⟨r,d,_⟩:=ih x (by have:=fH b;omega) (by have:=ru b;omega);refine .inl ⟨if r>s then r else s,?_,trivial⟩;simp only[bY a,ac,aA,a,zA,aS,d,VD,cZ a (by omega)]
  ·exact⟨_,by simp only[bJ,aa];rfl,trivial⟩
theorem acd(a:Str):∃r,dP a=some r/\r<=4/\(0<=r->a.length<=6):=by
 unfold dP;have go:∀(w:Str) (k:Int) (z:Option Int),w.length<=6->k<=4->(∃r,z=some r/\r<=4/\(0<=r->a.length<=6))->∃r,(bif (a==w)then some k else z)=some r/\r<=4/\(0<=r->a.length<=6):=by
  intro w k z b c d;cases h:(a==w)with
  | true=>
   have e:=eq_of_beq h;exact⟨k,rfl,c,fun _=>by rw[e];exact b⟩
  | false=>exact d
 repeat refine go _ _ _ (by decide) (by decide) ?_
 exact⟨-1,rfl,by decide,fun h=>by omega⟩
structure NC(e:af):Prop where
 k0:1<=e.kind
 k9:e.kind<=9
 num:e.kind=1->0<=e.n/\e.n<=1000000000
 call:e.kind=5->e.args.length<=4
 list:e.kind=4->e.args.length<=8
 op:e.kind=6->e.args.length=2/\1<=e.n/\e.n<=5
 two:e.kind=7\/e.kind=9->e.args.length=2
 three:e.kind=8->e.args.length=3
 leaf:e.kind=1\/e.kind=2\/e.kind=3->e.args=[]
inductive uY:af->Prop
 | mk (e:af) (h:NC e) (hs:∀x,x∈e.args->uY x):uY e
theorem alb(e:af)(i:∃v,fV e.text=some v)(j:∃v,bM e.text=some v):∃v,oL e=some v/\(v=true->NC e):=by
 have l:=nX e.n 0 1000000000;have m:=nX e.n 1 5;obtain⟨s,o⟩:=i;obtain⟨t,p⟩:=j;obtain⟨u,q,w,r⟩:=acd e.text;have no:∃v,(some false:Option Bool)=some v/\(v=true->NC e):=⟨false,rfl,fun h=>(by cases h)⟩;have bb:∀(c:Bool) (z:Option Bool),(c=true->∃v,z=some v/\(v=true->NC e))->∃v,(bif c then z else some false)=some v/\(v=true->NC e):=by
  intro c z f;cases c with
  | true=>exact f rfl
  | false=>exact no
 have kk:∀(k:Int) (z z':Option Bool),(e.kind=k->∃v,z=some v/\(v=true->NC e))->(¬e.kind=k->∃v,z'=some v/\(v=true->NC e))->∃v,(bif (e.kind==k)then z else z')=some v/\(v=true->NC e):=by
  intro k z z' f g;cases h:(e.kind==k)with
  | true=>exact f (eq_of_beq h)
  | false=>exact g (by simpa using h)
 have nil:((e.args.length:Int)==0)=true->e.args=[]:=fun h=>by
  have h:=eq_of_beq h;exact List.length_eq_zero_iff.1 (by omega)
 unfold oL;simp only[l,o,p,q,m,zA];refine kk 1 _ _ (fun d=>bb _ _ fun b=>bb _ _ fun a=>⟨_,rfl,fun hv=>?_⟩) fun x=>?_
 ·have hv:0<=e.n/\e.n<=1000000000:=by simpa using hv
  exact⟨by omega,by omega,fun _=>hv,fun h=>by omega,fun h=>by omega,fun h=>by omega,fun h=>by omega,fun h=>by omega,fun _=>nil b⟩
 refine kk 2 _ _ (fun d=>bb _ _ fun b=>bb _ _ fun a=>⟨_,rfl,fun hv=>?_⟩) fun y=>?_
 ·exact⟨by omega,by omega,fun h=>by omega,fun h=>by omega,fun h=>by omega,fun h=>by omega,fun h=>by omega,fun h=>by omega,fun _=>nil b⟩
 refine kk 3 _ _ (fun d=>bb _ _ fun b=>bb _ _ fun a=>⟨_,rfl,fun hv=>?_⟩) fun A=>?_
 ·exact⟨by omega,by omega,fun h=>by omega,fun h=>by omega,fun h=>by omega,fun h=>by omega,fun h=>by omega,fun h=>by omega,fun _=>nil b⟩
 refine kk 4 _ _ (fun d=>bb _ _ fun b=>bb _ _ fun a=>⟨_,rfl,fun hv=>?_⟩) fun B=>?_
 ·have hv:=of_decide_eq_true hv;exact⟨by omega,by omega,fun h=>by omega,fun h=>by omega,fun h=>by omega,fun h=>by omega,fun h=>by omega,fun h=>by omega,fun h=>by omega⟩
 refine kk 5 _ _ (fun d=>bb _ _ fun b=>⟨_,rfl,fun hv=>?_⟩) fun C=>?_
 ·have hv:=eq_of_beq hv;exact⟨by omega,by omega,fun h=>by omega,fun h=>by omega,fun h=>by omega,fun h=>by omega,fun h=>by omega,fun h=>by omega,fun h=>by omega⟩
 refine kk 6 _ _ (fun d=>bb _ _ fun b=>bb _ _ fun a=>⟨_,rfl,fun hv=>?_⟩) fun D=>?_
 ·have a:=eq_of_beq a;have hv:1<=e.n/\e.n<=5:=by simpa using hv
  exact⟨by omega,by omega,fun h=>by omega,fun h=>by omega,fun h=>by omega,fun _=>⟨by omega,hv⟩,fun h=>by omega,fun h=>by omega,fun h=>by omega⟩
 refine kk 7 _ _ (fun d=>bb _ _ fun b=>bb _ _ fun a=>⟨_,rfl,fun hv=>?_⟩) fun E=>?_
 ·have a:=eq_of_beq a;exact⟨by omega,by omega,fun h=>by omega,fun h=>by omega,fun h=>by omega,fun h=>by omega,fun _=>by omega,fun h=>by omega,fun h=>by omega⟩
 refine kk 9 _ _ (fun d=>bb _ _ fun b=>bb _ _ fun a=>⟨_,rfl,fun hv=>?_⟩) fun F=>?_
 ·have a:=eq_of_beq a;exact⟨by omega,by omega,fun h=>by omega,fun h=>by omega,fun h=>by omega,fun h=>by omega,fun _=>by omega,fun h=>by omega,fun h=>by omega⟩
 refine kk 8 _ _ (fun d=>bb _ _ fun b=>bb _ _ fun a=>⟨_,rfl,fun hv=>?_⟩) fun G=>no
 ·have hv:=eq_of_beq hv;exact⟨by omega,by omega,fun h=>by omega,fun h=>by omega,fun h=>by omega,fun h=>by omega,fun h=>by omega,fun _=>by omega,fun h=>by omega⟩
theorem yP(e:af)(b:wtE e<=1048576):(∃v,fV e.text=some v)/\∃v,bM e.text=some v:=by
 have a:=Oe b;refine⟨?_,?_⟩
 ·obtain⟨v,hv⟩:=G9 e.text a;exact⟨v,by rw[<- He];exact hv⟩
 ·exact⟨_,DX e.text a⟩
theorem akn:∀(n:Nat) (e:af),siz e<n->wtE e<=1048576->∃v,qL n e=some v/\(v=true->uY e)
 | 0,e,h,_=>absurd h (Nat.not_lt_zero _)
 | n+1,e,m,k=>by
  have ih:=akn n;have o:=tN (e:=e);show ∃v,BQ (qL n) e=some v/\_
  unfold BQ;refine dH (fun (_:Unit) (i:Nat)=>((e.kind,e.n,e.text,e.args,(i:Int)):Int×Int×Str×(List af)×Int)) e.args (fun i _=>∀j x,e.args[j]?=some x->j<i->uY x) _ (fun i x s a c=>?_) (fun s c=>?_) () (fun j x _ b=>absurd b (Nat.not_lt_zero _))
  ·have l:=zG a;obtain⟨v,d,h1⟩:=ih x (by have:=fH l;omega) (by have:=ru l;omega);simp only[bY a,ac,aA,a,zA,aS,d,cZ a (by omega)];cases v with
   | false=>exact .inr ⟨false,rfl,fun h=>(by cases h)⟩
   | true=>
    refine .inl ⟨(),rfl,fun j y f b=>?_⟩;by_cases g:j=i
    ·subst g;rw[a]at f;cases f
     exact h1 rfl
    ·exact c j y f (by omega)
  ·obtain⟨v,d,h1⟩:=alb e (yP e k).1 (yP e k).2;have eta:af.mk e.kind e.n e.text e.args=e:=by cases e;rfl
   refine⟨v,by simp only[bJ,aa,eta,d,zA],fun hv=>.mk e (h1 hv) fun x a=>?_⟩;obtain⟨j,b⟩:=List.mem_iff_getElem?.1 a;exact c j x b (zC.1 b).1
theorem adx(e:af)(a:wtE e<=1048576):Ez e=Ol e:=
 aaF (fun e=>wtE e<=1048576) (fun e x h b=>by have:=ru b;omega) (fun e h=>ady e (by have:=Oe h;omega) (yP e h).1 (yP e h).2) _ e a
theorem vF(e:af)(a:wtE e<=1048576):∃v,gZ e=some v/\iK e=some v/\(v=true->uY e/\wtE e<=40):=by
 have f:GL e=some (wtE e:Int):=IB _ e (Nat.lt_succ_self _) a;obtain⟨r,d,g,i⟩:=afc _ e 40 (Nat.lt_succ_self _) a (by omega) (by omega);have d:PX e 40=some r:=d;obtain⟨m,b,_⟩:=QD _ e (Nat.lt_succ_self _) a;have b:FX e=some m:=b;have j:GN e=some m:=(Um _ e).trans b;obtain⟨v,c,k⟩:=akn _ e (Nat.lt_succ_self _) a;have c:Ol e=some v:=c;have l:Ez e=some v:=(adx e a).trans c;unfold gZ iK;simp only[aS,f,d,b,j,c,l,zA];have hd:decide ((wtE e:Int)<=40)=decide (r>=0):=by
  by_cases h:(wtE e:Int)<=40
  ·have:=g (by omega);rw[al h,al (by omega)]
  ·have:=i (by omega);rw[ae h,ae (by omega)]
 rw[<- hd];by_cases h:(wtE e:Int)<=40
 ·rw[al h];simp only[ac];cases decide (m<=8)with
  | true=>exact⟨v,rfl,rfl,fun hv=>⟨k hv,by omega⟩⟩
  | false=>exact⟨false,rfl,rfl,fun h=>(by cases h)⟩
 ·rw[ae h];exact⟨false,rfl,rfl,fun h=>(by cases h)⟩
theorem MK(a:Str):∃(e:af) (p:Int),qc a=some (e,p)/\pq a=some (e,p)/\(p<0->uY e/\wtE e<=40):=by
 obtain⟨⟨toks,t⟩,c,hi,d⟩:=OO a;obtain⟨e,p,h1,h2,f⟩:=adq a hi d c (fun e j=>by
  obtain⟨v,b,g,_⟩:=vF e (by omega);exact⟨v,b,g⟩)
 refine⟨e,p,h1,h2,fun h=>?_⟩;obtain⟨hv,k⟩:=f h;obtain⟨v,b,_,i⟩:=vF e (by omega);rw[hv]at b;cases b
 exact i rfl
end Go.Proofs.YtbbmkcioplbhbaaGreatDoor
