import Derived.Test.YtkebfkahdmddpaaGreatDoorPlain1
import Derived.Test.YtkebfkahdmddpaaGreatDoorParse1
set_option linter.unusedSimpArgs false
set_option linter.unusedVariables false
/- Plain laws: what the tokenizers scan. Plain laws: tokens, the two tokenizers side by side. Plain laws: texts among the tokens, the two tokenizers side by side. Plain laws: symbols among the tokens, the two tokenizers side by side. Plain laws: one token, the two tokenizers side by side. Plain laws: the two tokenizers are alike. -/
namespace Go.Proofs.YtkebfkahdmddpaaGreatDoor
open Go.Abs Go.Proofs
theorem Ez(a:Str):fV a=dw a:=rfl
def isLet(c:UInt8):Bool:=decide (97<=c.toNat)&&decide (c.toNat<=122)
def dA(c:UInt8):Bool:=decide (48<=c.toNat)&&decide (c.toNat<=57)
theorem oN(c:UInt8):vF (c.toNat:Int)=some (isLet c):=by
 have a:decide ((c.toNat:Int)>=97)=decide (97<=c.toNat):=decide_eq_decide.2 (by omega);have b:decide ((c.toNat:Int)<=122)=decide (c.toNat<=122):=decide_eq_decide.2 (by omega);unfold vF isLet;rw[a,b];cases decide (97<=c.toNat)<;>simp
theorem oW(c:UInt8):vG (c.toNat:Int)=some (dA c):=by
 have a:decide ((c.toNat:Int)>=48)=decide (48<=c.toNat):=decide_eq_decide.2 (by omega);have b:decide ((c.toNat:Int)<=57)=decide (c.toNat<=57):=decide_eq_decide.2 (by omega);unfold vG dA;rw[a,b];cases decide (48<=c.toNat)<;>simp
def bC(p:UInt8->Bool):Str->Nat
 | []=>0
 | c::r=>if p c=true then bC p r+1 else 0
theorem o6(p:UInt8->Bool):∀(s:Str),bC p s<=s.length
 | []=>az _
 | c::r=>by
  unfold bC;have:=o6 p r;split
  ·simp;omega
  ·omega
theorem DJ(p:UInt8->Bool):∀(s:Str) c,c∈s.take (bC p s)->p c=true
 | [],c,h=>by simp at h
 | x::r,c,h=>by
  unfold bC at h;split at h
  ·rename_i a;rw[List.take_succ_cons]at h;rcases bc.1 h with rfl | h
   ·exact a
   ·exact DJ p r c h
  ·simp at h
theorem vC{X ρ:Type}{g:X->Option (X⊕ρ)}(pk:Nat->X)(a:Str)(p:UInt8->Bool)(fin:Nat->Option ρ)
  (e:∀i c,a[i]?=some c->p c=true->g (pk i)=some (.inl (pk (i+1)))) (f:∀i c,a[i]?=some c->p c=false->g (pk i)=(fin i).bind fun r=>some (.inr r))
  (h:g (pk a.length)=(fin a.length).bind fun r=>some (.inr r)):∀(n i:Nat),a.length=i+n->ak g (pk i)=fin (i+bC p (a.drop i)):=by
 intro n;induction n with
 | zero=>
  intro i hi;have:i=a.length:=by omega
  subst this;rw[aJ,h,List.drop_length];show _=fin (a.length+0)
  rw[Nat.add_zero];cases fin a.length<;>rfl
 | succ n ih=>
  intro i hi;have b:i<a.length:=by omega
  rw[List.drop_eq_getElem_cons b,aJ];unfold bC;cases d:p a[i]with
  | true=>
   rw[e i a[i] (zF b) d];simp only[if_true];rw[ih (i+1) (by omega)];congr 1;omega
  | false=>
   rw[f i a[i] (zF b) d];simp only[aL,if_false,Nat.add_zero];cases fin i<;>rfl
theorem pY(a:Str)(b k:Nat)(c:b<=k)(d:k<=a.length):eff.cutL a (some (b:Int)) (some (k:Int))=some ((a.take k).drop b):=by
 unfold eff.cutL;simp only[Option.getD_some];rw[if_pos]
 ·simp
 ·omega
def lV(c:UInt8):Bool:=isLet c||dA c
theorem fG{n:Nat}(h:n<=1000):w64 ((n:Int)+1)=((n+1:Nat):Int):=by rw[bK (by omega) (by omega)];rfl
theorem y5{k b:Nat}(h:b<=k)(a:k<=1000):w64 ((k:Int)-(b:Int))=((k-b:Nat):Int):=by rw[bK (by omega) (by omega)];omega
theorem LW(a:Str)(b:Nat)(r:a.length<=120){c:UInt8}(m:a[b]?=some c)(o:isLet c=true) :
  jD a (b:Int)=some (⟨1,0,b,(a.take (b+bC lV (a.drop b))).drop b⟩,if bC lV (a.drop b)>8 then 0 else (bC lV (a.drop b):Int)):=by
 have s:b<a.length:=(zC.1 m).1;have l:b+bC lV (a.drop b)<=a.length:=by
  have:=o6 lV (a.drop b);rw[List.length_drop]at this;omega
 unfold jD;rw[au,m];simp only[zA,oN,o,ac];have fin:∀k:Nat,b<=k->k<=a.length->((eff.cutL a (some (b:Int)) (some (k:Int))).bind fun f=>bif (decide ((w64 ((k:Int)-(b:Int)))>8))then some (aA.mk 1 0 (b:Int) f,(0:Int))else some (aA.mk 1 0 (b:Int) f,w64 ((k:Int)-(b:Int))))=some (⟨1,0,b,(a.take k).drop b⟩,if k-b>8 then 0 else ((k-b:Nat):Int)):=by
  intro k j p;rw[pY a b k j p,y5 j (by omega)];simp only[zA];by_cases n:k-b>8
  ·have:decide (((k-b:Nat):Int)>8)=true:=by simp;omega
   rw[this,if_pos n];rfl
  ·have:decide (((k-b:Nat):Int)>8)=false:=by simp;omega
   rw[this,if_neg n];rfl
 have q:b+bC lV (a.drop b)-b=bC lV (a.drop b):=by omega
 refine (vC (fun k=>(a,(b:Int),(0:Int),(0:Int),(0:Int),([]:Str),(0:Int),(0:Int),(b:Int),([]:Str),(k:Int))) a lV (fun k=>(eff.cutL a (some (b:Int)) (some (k:Int))).bind fun f=>bif (decide ((w64 ((k:Int)-(b:Int)))>8))then some (aA.mk 1 0 (b:Int) f,(0:Int))else some (aA.mk 1 0 (b:Int) f,w64 ((k:Int)-(b:Int)))) ?_ ?_ ?_ (a.length-b) b (by omega)).trans ?_
 ·intro i d g e;have hi:i<a.length:=(zC.1 g).1;have h:decide ((i:Int)<(a.length:Int))=true:=by simp;omega
  simp only[h,ac,au,g,zA,oN,oW,fG (show i<=1000 by omega)];unfold lV at e;cases j:isLet d with
  | true=>rfl
  | false=>
   rw[j,Bool.false_or]at e;simp only[aa,e,ac]
 ·intro i d g e;have hi:i<a.length:=(zC.1 g).1;have h:decide ((i:Int)<(a.length:Int))=true:=by simp;omega
  simp only[h,ac,au,g,zA,oN,oW];unfold lV at e;rw[Bool.or_eq_false_iff]at e;simp only[e.1,e.2,aa]
 ·have h:decide ((a.length:Int)<(a.length:Int))=false:=by simp
  simp only[h,aa]
 ·rw[fin _ (by omega) l,q]
theorem wQ(d:UInt8):decide ((d.toNat:Int)>=97)=decide (97<=d.toNat)/\decide ((d.toNat:Int)<=122)=decide (d.toNat<=122)/\decide ((d.toNat:Int)>=48)=decide (48<=d.toNat)/\decide ((d.toNat:Int)<=57)=decide (d.toNat<=57):=
 ⟨decide_eq_decide.2 (by omega),decide_eq_decide.2 (by omega),decide_eq_decide.2 (by omega),decide_eq_decide.2 (by omega)⟩
theorem ach(a:Str)(b:Nat)(s:a.length<=120){c:UInt8}(q:a[b]?=some c)(l:isLet c=true) :
  jh a (b:Int)=some (⟨1,0,b,(a.take (b+bC lV (a.drop b))).drop b⟩,((b+bC lV (a.drop b):Nat):Int),decide (bC lV (a.drop b)<=8)):=by
 have t:b<a.length:=(zC.1 q).1;have m:b+bC lV (a.drop b)<=a.length:=by
  have:=o6 lV (a.drop b);rw[List.length_drop]at this;omega
 unfold isLet at l;rw[zI]at l;unfold jh;rw[au,q];simp only[zA,(wQ c).1,(wQ c).2.1,l.1,l.2,ac];have fin:∀k:Nat,b<=k->k<=a.length->((eff.cutL a (some (b:Int)) (some (k:Int))).bind fun n=>some (aA.mk 1 0 (b:Int) n,(k:Int),(decide ((w64 ((k:Int)-(b:Int)))<=8))))=some (⟨1,0,b,(a.take k).drop b⟩,(k:Int),decide (k-b<=8)):=by
  intro k f g;rw[pY a b k f g,y5 f (by omega)];simp only[zA];have:decide (((k-b:Nat):Int)<=8)=decide (k-b<=8):=decide_eq_decide.2 (by omega);rw[this]
 have r:b+bC lV (a.drop b)-b=bC lV (a.drop b):=by omega
 refine (vC (fun k=>(a,(b:Int),(0:Int),(0:Int),(0:Int),([]:Str),(k:Int))) a lV (fun k=>(eff.cutL a (some (b:Int)) (some (k:Int))).bind fun n=>some (aA.mk 1 0 (b:Int) n,(k:Int),(decide ((w64 ((k:Int)-(b:Int)))<=8)))) ?_ ?_ ?_ (a.length-b) b (by omega)).trans ?_
 ·intro i d h e;have hi:i<a.length:=(zC.1 h).1;have j:decide ((i:Int)<(a.length:Int))=true:=by simp;omega
  simp only[j,ac,au,h,zA,(wQ d).1,(wQ d).2.1,(wQ d).2.2.1,(wQ d).2.2.2,fG (show i<=1000 by omega)];unfold lV isLet dA at e;cases f:decide (97<=d.toNat)<;>cases g:decide (d.toNat<=122)<;>cases o:decide (48<=d.toNat)<;>cases p:decide (d.toNat<=57)<;>rw[f,g,o,p]at e<;>first | rfl | cases e
 ·intro i d h e;have hi:i<a.length:=(zC.1 h).1;have j:decide ((i:Int)<(a.length:Int))=true:=by simp;omega
  simp only[j,ac,au,h,zA,(wQ d).1,(wQ d).2.1,(wQ d).2.2.1,(wQ d).2.2.2];unfold lV isLet dA at e;cases f:decide (97<=d.toNat)<;>cases g:decide (d.toNat<=122)<;>cases o:decide (48<=d.toNat)<;>cases p:decide (d.toNat<=57)<;>rw[f,g,o,p]at e<;>first | rfl | cases e
 ·have j:decide ((a.length:Int)<(a.length:Int))=false:=by simp
  simp only[j,aa]
 ·rw[fin _ (by omega) m,r]
theorem Z9(a:Str)(b:Nat)(K:a.length<=120){c:UInt8}(m:a[b]?=some c)(g:dA c=true) :
  ∃(vi vs:Int) (ok oks:Bool),jh a (b:Int)=some (⟨2,vi,b,[]⟩,((b+bC dA (a.drop b):Nat):Int),ok) /\
   jD a (b:Int)=some (⟨2,vs,b,[]⟩,if (oks&&decide (vs<=1000000000))=true then (bC dA (a.drop b):Int)else 0)/\ok=(oks&&decide (vs<=1000000000))/\(ok=true->vi=vs)/\gU ((a.take (b+bC dA (a.drop b))).drop b)=some (vs,oks):=by
 have C:b<a.length:=(zC.1 m).1;have n:b+bC dA (a.drop b)<=a.length:=by
  have:=o6 dA (a.drop b);rw[List.length_drop]at this;omega
 have p:(a.take (b+bC dA (a.drop b))).drop b=(a.drop b).take (bC dA (a.drop b)):=by rw[List.drop_take];congr 1;omega
 have hdig:∀d,d∈(a.take (b+bC dA (a.drop b))).drop b->iR d:=by
  intro d f;rw[p]at f;have:=DJ dA _ d f;unfold dA at this;unfold iR;simpa using this
 have E:1<=bC dA (a.drop b):=by
  have q:a.drop b=a[b]::a.drop (b+1):=List.drop_eq_getElem_cons C;have r:a[b]=c:=by rw[zF C]at m;exact a6 m
  rw[q];unfold bC;rw[r,if_pos g];omega
 have s:(a.take (b+bC dA (a.drop b))).drop b≠[]:=by
  intro h;have:=congrArg List.length h;rw[List.length_drop,ba]at this;simp at this;omega
 obtain⟨vi,vs,ok,oks,F,D,G,H⟩:=abW _ hdig s (by rw[List.length_drop,ba];omega);refine⟨vi,vs,ok,oks,?_,?_,G,H,D⟩
 ·unfold dA at g;rw[zI]at g;have I:48<=c.toNat:=by simpa using g.1
  have t:c.toNat<=57:=by simpa using g.2
  have u:decide ((c.toNat:Int)>=97)=false:=by simp;omega
  unfold jh;rw[au,m];simp only[zA,u,(wQ c).2.2.1,(wQ c).2.2.2,g.1,g.2,ac,aa];refine (vC (fun k=>(a,(b:Int),(0:Int),(0:Int),(0:Int),([]:Str),(k:Int))) a dA (fun k=>(eff.cutL a (some (b:Int)) (some (k:Int))).bind fun v=>(lW v 0 1000000000).bind fun o=>some (aA.mk 2 o.1 (b:Int) [],(k:Int),o.2)) ?_ ?_ ?_ (a.length-b) b (by omega)).trans ?_
  ·intro i d f e;have hi:i<a.length:=(zC.1 f).1;have j:decide ((i:Int)<(a.length:Int))=true:=by simp;omega
   simp only[j,ac,au,f,zA,(wQ d).2.2.1,(wQ d).2.2.2,fG (show i<=1000 by omega)];unfold dA at e;cases w:decide (48<=d.toNat)<;>cases x:decide (d.toNat<=57)<;>rw[w,x]at e<;>first | rfl | cases e
  ·intro i d f e;have hi:i<a.length:=(zC.1 f).1;have j:decide ((i:Int)<(a.length:Int))=true:=by simp;omega
   simp only[j,ac,au,f,zA,(wQ d).2.2.1,(wQ d).2.2.2];unfold dA at e;cases w:decide (48<=d.toNat)<;>cases x:decide (d.toNat<=57)<;>rw[w,x]at e<;>first | rfl | cases e
  ·have j:decide ((a.length:Int)<(a.length:Int))=false:=by simp
   simp only[j,aa]
  ·rw[pY a b _ (by omega) n];simp only[zA,F]
 ·have y:isLet c=false:=by
   unfold dA at g;rw[zI]at g;have t:c.toNat<=57:=by simpa using g.2
   unfold isLet;have:decide (97<=c.toNat)=false:=by simp;omega
   rw[this];rfl
  unfold jD;rw[au,m];simp only[zA,oN,oW,y,g,ac,aa];refine (vC (fun k=>(a,(b:Int),(0:Int),(0:Int),(0:Int),([]:Str),(0:Int),(0:Int),(b:Int),([]:Str),(k:Int))) a dA (fun k=>(eff.cutL a (some (b:Int)) (some (k:Int))).bind fun z=>(gU z).bind fun l=>bif (!l.2)then some (aA.mk 2 l.1 (b:Int) [],(0:Int))else bif (decide (l.1>1000000000))then some (aA.mk 2 l.1 (b:Int) [],(0:Int))else some (aA.mk 2 l.1 (b:Int) [],w64 ((k:Int)-(b:Int)))) ?_ ?_ ?_ (a.length-b) b (by omega)).trans ?_
  ·intro i d f e;have hi:i<a.length:=(zC.1 f).1;have j:decide ((i:Int)<(a.length:Int))=true:=by simp;omega
   simp only[j,ac,au,f,zA,oW,e,fG (show i<=1000 by omega)]
  ·intro i d f e;have hi:i<a.length:=(zC.1 f).1;have j:decide ((i:Int)<(a.length:Int))=true:=by simp;omega
   simp only[j,ac,au,f,zA,oW,e,aa]
  ·have j:decide ((a.length:Int)<(a.length:Int))=false:=by simp
   simp only[j,aa]
  ·rw[pY a b _ (by omega) n,y5 (by omega) (by omega)];simp only[zA,D];have J:b+bC dA (a.drop b)-b=bC dA (a.drop b):=by omega
   rw[J];cases oks with
   | false=>rfl
   | true=>
    by_cases hv:vs<=1000000000
    ·have A:decide (vs>1000000000)=false:=by simp;omega
     have B:decide (vs<=1000000000)=true:=by simpa using hv
     rw[A,B];rfl
    ·have A:decide (vs>1000000000)=true:=by simp;omega
     have B:decide (vs<=1000000000)=false:=by simpa using hv
     rw[A,B];rfl
def noQ(c:UInt8):Bool:=!(c==34)
theorem Df:∀(l:Str),Go.Lib.indexByte l 34=if bC noQ l<l.length then (bC noQ l:Int)else -1
 | []=>rfl
 | c::r=>by
  unfold Go.Lib.indexByte bC noQ;by_cases h:c=34
  ·subst h;simp
  ·have e:(c==34)=false:=by simpa using h
   rw[e,Df r];simp only[aL,if_false,Bool.not_false,if_true];by_cases d:bC noQ r<r.length
   ·have f:¬((bC noQ r:Int) == -1)=true:=by simp
    have a:bC noQ r+1<(c::r).length:=by simp;omega
    rw[if_pos d,if_neg f];have b:(bC (fun c=>!c==34) r+1<(c::r).length):=a;rw[if_pos b];show (bC noQ r:Int)+1=((bC noQ r+1:Nat):Int)
    omega
   ·have a:¬(bC noQ r+1<(c::r).length):=by simp;omega
    have b:¬(bC (fun c=>!c==34) r+1<(c::r).length):=a;rw[if_neg d,if_neg b];rfl
theorem AP(a:Str)(b:Nat)(h:b<=a.length):eff.cutL a (some (b:Int)) none=some (a.drop b):=by
 unfold eff.cutL;simp only[Option.getD_some,Option.getD_none];rw[if_pos]
 ·simp
 ·omega
def prC(c:UInt8):Bool:=decide (32<=c.toNat)&&decide (c.toNat<=126)
def prn(s:Str):Bool:=s.all prC
theorem fO(a b:Str):prn (a++b)=(prn a&&prn b):=List.all_append
def P8(c:UInt8):Bool:=!(decide ((c.toNat:Int)<32))&&!(decide ((c.toNat:Int)>126))&&!((c.toNat:Int)==34)
theorem afX{c:UInt8}(h:P8 c=true):prC c=true:=by
 unfold P8 at h;unfold prC;simp at h ⊢;omega
theorem xh(a:Str)(s:a.length<=120):∃v,fV a=some v/\(v=true->prn a=true/\∀c,c∈a->P8 c=true):=by
 have:=vC (g:=fun (e:Str×Int)=>
  bif (decide (e.2<(e.1.length:Int)))then
   (idx e.1 e.2).bind fun o=>
   bif (decide ((o.toNat:Int)<32))then
    some (.inr (false))
   else
    (idx e.1 e.2).bind fun p=>
    bif (decide ((p.toNat:Int)>126))then
     some (.inr (false))
    else
     (idx e.1 e.2).bind fun q=>
     bif ((q.toNat:Int)==34)then
      some (.inr (false))
     else
      some (.inl (e.1,w64 (e.2+1)))
  else
   some (.inr ((decide ((e.1.length:Int)<=20))))) (fun k=>(a,(k:Int))) a P8 (fun k=>if k<a.length then some false else some (decide ((a.length:Int)<=20))) ?_ ?_ ?_ a.length 0 (by omega)
 ·refine⟨if 0+bC P8 (a.drop 0)<a.length then false else decide ((a.length:Int)<=20),?_,fun hv=>?_⟩
  ·refine (this:fV a=_).trans ?_;split<;>rfl
  ·split at hv
   ·cases hv
   ·rename_i r;rw[List.drop_zero]at r;have all:∀c,c∈a->P8 c=true:=fun c j=>DJ P8 a c (by rw[List.take_of_length_le (by omega)];exact j)
    exact⟨List.all_eq_true.2 fun c j=>afX (all c j),all⟩
 ·intro i d f b;have hi:i<a.length:=(zC.1 f).1;have h:decide ((i:Int)<(a.length:Int))=true:=by simp;omega
  simp only[h,ac,au,f,zA,fG (show i<=1000 by omega)];unfold P8 at b;cases l:decide ((d.toNat:Int)<32)<;>cases m:decide ((d.toNat:Int)>126)<;>cases n:((d.toNat:Int)==34)<;>rw[l,m,n]at b<;>first | rfl | cases b
 ·intro i d f b;have hi:i<a.length:=(zC.1 f).1;have h:decide ((i:Int)<(a.length:Int))=true:=by simp;omega
  simp only[h,ac,au,f,zA,if_pos hi];unfold P8 at b;cases l:decide ((d.toNat:Int)<32)<;>cases m:decide ((d.toNat:Int)>126)<;>cases n:((d.toNat:Int)==34)<;>rw[l,m,n]at b<;>first | rfl | cases b
 ·have h:decide ((a.length:Int)<(a.length:Int))=false:=by simp
  simp only[h,aa,Nat.lt_irrefl,if_false];rfl
theorem aad(d:UInt8):((d.toNat:Int) != 34)=noQ d:=by
 unfold noQ;by_cases h:d=34
 ·subst h;rfl
 ·have a:¬(d.toNat=34):=fun e=>h (UInt8.toNat_inj.1 e)
  have b:((d.toNat:Int)==34)=false:=by
   rw[beq_eq_false_iff_ne];intro e;exact a (by exact_mod_cast e)
  have c:(d==34)=false:=by simpa using h
  rw[bne,b,c]
theorem LV(a:Str)(b:Nat)(s:a.length<=120)(n:a[b]?=some 34)(k:Nat)(o:k=b+1+bC noQ (a.drop (b+1))) :
  jD a (b:Int)=if k<a.length then (dw ((a.take k).drop (b+1))).bind (fun v=>some (⟨3,0,b,(a.take k).drop (b+1)⟩,bif v then ((k+1-b:Nat):Int)else 0))
   else some (⟨3,0,b,(a.take k).drop (b+1)⟩,0):=by
 have t:b<a.length:=(zC.1 n).1;have j:k<=a.length:=by
  have:=o6 noQ (a.drop (b+1));rw[List.length_drop]at this;omega
 have p:isLet (34:UInt8)=false:=rfl;have q:dA (34:UInt8)=false:=rfl;have r:(((34:UInt8).toNat:Int)==34)=true:=rfl;unfold jD;rw[au,n];simp only[zA,oN,oW,p,q,r,ac,aa,fG (show b<=1000 by omega)];refine (vC (fun k=>(a,(b:Int),(0:Int),(0:Int),(0:Int),([]:Str),(0:Int),(0:Int),(b:Int),([]:Str),(k:Int))) a noQ
  (fun k=>(eff.cutL a (some ((b+1:Nat):Int)) (some (k:Int))).bind fun c=>bif ((k:Int)==(a.length:Int))then some (aA.mk 3 0 (b:Int) c,(0:Int))else
   (dw c).bind fun l=>bif (!l)then some (aA.mk 3 0 (b:Int) c,(0:Int))else some (aA.mk 3 0 (b:Int) c,w64 ((w64 ((k:Int)+1))-(b:Int)))) ?_ ?_ ?_ (a.length-(b+1)) (b+1) (by omega)).trans ?_
 ·intro i d f e;have hi:i<a.length:=(zC.1 f).1;have g:decide ((i:Int)<(a.length:Int))=true:=by simp;omega
  simp only[g,ac,au,f,zA,aad,e,fG (show i<=1000 by omega)]
 ·intro i d f e;have hi:i<a.length:=(zC.1 f).1;have g:decide ((i:Int)<(a.length:Int))=true:=by simp;omega
  simp only[g,ac,au,f,zA,aad,e,aa,fG (show b<=1000 by omega)]
 ·have g:decide ((a.length:Int)<(a.length:Int))=false:=by simp
  simp only[g,aa,fG (show b<=1000 by omega)]
 ·rw[<- o,pY a (b+1) k (by omega) j];simp only[zA];by_cases h:k<a.length
  ·have m:((k:Int)==(a.length:Int))=false:=by rw[beq_eq_false_iff_ne];omega
   rw[if_pos h,m];simp only[aa,fG (show k<=1000 by omega),y5 (show b<=k+1 by omega) (show k+1<=1000 by omega)];congr 1;funext v;cases v<;>rfl
  ·have m:((k:Int)==(a.length:Int))=true:=by rw[beq_iff_eq];omega
   rw[if_neg h,m];rfl
theorem acf(a:Str)(b:Nat)(o:a.length<=120)(f:a[b]?=some 34)(k:Nat)(p:k=b+1+bC noQ (a.drop (b+1))) :
  jh a (b:Int)=if k<a.length then (fV ((a.take k).drop (b+1))).bind (fun v=>some (⟨3,0,b,(a.take k).drop (b+1)⟩,((k+1:Nat):Int),v))
   else some (⟨0,0,0,[]⟩,0,false):=by
 have q:b<a.length:=(zC.1 f).1;have d:k<=a.length:=by
  have:=o6 noQ (a.drop (b+1));rw[List.length_drop]at this;omega
 have g:decide (((34:UInt8).toNat:Int)>=97)=false:=rfl;have h:decide (((34:UInt8).toNat:Int)>=48)=false:=rfl;have i:(((34:UInt8).toNat:Int)==34)=true:=rfl;have ld:(a.drop (b+1)).length=a.length-(b+1):=List.length_drop;have ib:dW (a.drop (b+1)) 34=some (if bC noQ (a.drop (b+1))<(a.drop (b+1)).length then (bC noQ (a.drop (b+1)):Int)else -1):=by
  rw[<- Df];rfl
 unfold jh;rw[au,f];simp only[zA,g,h,i,ac,aa,fG (show b<=1000 by omega),AP a (b+1) (by omega),ib];by_cases c:k<a.length
 ·have e:bC noQ (a.drop (b+1))<(a.drop (b+1)).length:=by omega
  have j:decide ((bC noQ (a.drop (b+1)):Int)<0)=false:=by simp
  have l:w64 (((b+1:Nat):Int)+(bC noQ (a.drop (b+1)):Int))=(k:Int):=by rw[bK (by omega) (by omega)];omega
  have m:w64 ((w64 ((b:Int)+(bC noQ (a.drop (b+1)):Int)))+2)=((k+1:Nat):Int):=by
   rw[bK (n:=(b:Int)+(bC noQ (a.drop (b+1)):Int)) (by omega) (by omega),bK (by omega) (by omega)];omega
  rw[if_pos e,if_pos c,j];simp only[aa,l,m,pY a (b+1) k (by omega) d,zA]
 ·have e:¬bC noQ (a.drop (b+1))<(a.drop (b+1)).length:=by omega
  rw[if_neg e,if_neg c];rfl
theorem neN(c n:UInt8)(h:c≠n):((c.toNat:Int)==(n.toNat:Int))=false:=by
 rw[beq_eq_false_iff_ne];intro e;exact h (UInt8.toNat_inj.1 (by exact_mod_cast e))
def sy9(c:UInt8):Prop:=c=40\/c=41\/c=91\/c=93\/c=44\/c=43\/c=45\/c=42\/c=60
theorem ai0(a:Str)(b:Nat){c:UInt8}(d:a[b]?=some c)(h:sy9 c):lF a (b:Int)=some 1:=by
 unfold lF;rw[au,d];simp only[zA];rcases h with rfl | rfl | rfl | rfl | rfl | rfl | rfl | rfl | rfl<;>rfl
theorem ai1(a:Str)(b:Nat){c:UInt8}(e:a[b]?=some c)(h:¬sy9 c)(f:c≠61):lF a (b:Int)=some 0:=by
 unfold sy9 at h;simp only[not_or]at h;obtain⟨g,i,j,k,l,m,n,o,p⟩:=h;have q:((c.toNat:Int)==40)=false:=neN c 40 g;have r:((c.toNat:Int)==41)=false:=neN c 41 i;have s:((c.toNat:Int)==91)=false:=neN c 91 j;have t:((c.toNat:Int)==93)=false:=neN c 93 k;have u:((c.toNat:Int)==44)=false:=neN c 44 l;have v:((c.toNat:Int)==43)=false:=neN c 43 m;have w:((c.toNat:Int)==45)=false:=neN c 45 n;have x:((c.toNat:Int)==42)=false:=neN c 42 o;have y:((c.toNat:Int)==60)=false:=neN c 60 p;have d:((c.toNat:Int)==61)=false:=neN c 61 f;unfold lF;rw[au,e];simp only[zA,q,r,s,t,u,v,w,x,y,d,aa]
theorem aiZ(a:Str)(b:Nat)(g:a.length<=120)(e:a[b]?=some 61):lF a (b:Int)=some (if a[b+1]?=some 61 then 2 else 1):=by
 have i:b<a.length:=(zC.1 e).1;unfold lF;rw[au,e];simp only[zA,fG (show b<=1000 by omega)];show (bif (decide (((b+1:Nat):Int)<(a.length:Int)))then _ else _)=_
 by_cases c:b+1<a.length
 ·have d:decide (((b+1:Nat):Int)<(a.length:Int))=true:=by simp;omega
  rw[d,au,zF c];simp only[ac,zA];by_cases h:a[b+1]=61
  ·rw[h];rfl
  ·have f:((a[b+1].toNat:Int)==61)=false:=neN _ 61 h;rw[f,if_neg (by simpa using h)];rfl
 ·have d:decide (((b+1:Nat):Int)<(a.length:Int))=false:=by simp;omega
  rw[d,zJ (by omega)];rfl
noncomputable def qQ(a:Str)(b:Nat)(c:UInt8):Nat:=open Classical in if sy9 c then 1 else if c=61 then (if a[b+1]?=some 61 then 2 else 1)else 0
theorem afr(a:Str)(b:Nat)(f:a.length<=120){c:UInt8}(d:a[b]?=some c):lF a (b:Int)=some (qQ a b c:Int):=by
 unfold qQ;by_cases h:sy9 c
 ·rw[if_pos h];exact ai0 a b d h
 ·rw[if_neg h];by_cases e:c=61
  ·subst e;rw[if_pos rfl,aiZ a b f d];split<;>rfl
  ·rw[if_neg e];exact ai1 a b d h e
theorem aaf(a:Str)(b:Nat){c:UInt8}(d:a[b]?=some c):b+qQ a b c<=a.length/\qQ a b c<=2:=by
 have e:b<a.length:=(zC.1 d).1;unfold qQ;split
 ·omega
 ·split
  ·split
   ·rename_i h;have:=(zC.1 h).1;omega
   ·omega
  ·omega
theorem Ri(a:Str)(b:Nat)(e:a.length<=120){c:UInt8}(d:a[b]?=some c)(f:isLet c=false)(g:dA c=false)(h:c≠34) :
  jD a (b:Int)=some (⟨4,0,b,(a.take (b+qQ a b c)).drop b⟩,(qQ a b c:Int)):=by
 have m:b<a.length:=(zC.1 d).1;have i:=aaf a b d;have j:((c.toNat:Int)==34)=false:=neN c 34 h;have k:w64 ((b:Int)+(qQ a b c:Int))=((b+qQ a b c:Nat):Int):=by rw[bK (by omega) (by omega)];omega
 have l:b+qQ a b c-b=qQ a b c:=by omega
 unfold jD;rw[au,d];simp only[zA,oN,oW,f,g,j,aa,afr a b e d,k,pY a b _ (Nat.le_add_right _ _) i.1,y5 (Nat.le_add_right b (qQ a b c)) (show b+qQ a b c<=1000 by omega),l]
theorem acg(a:Str)(b:Nat)(r:a.length<=120){c:UInt8}(j:a[b]?=some c)(d:isLet c=false)(e:dA c=false)(k:c≠34) :
  jh a (b:Int)=bif Go.Lib.hasPrefix (a.drop b) [61,61]then some (⟨4,0,b,[61,61]⟩,((b+2:Nat):Int),true)
   else some (⟨4,0,b,(a.take (b+1)).drop b⟩,((b+1:Nat):Int),decide (Go.Lib.indexByte [40,41,91,93,44,43,45,42,60,61] c>=0)):=by
 have s:b<a.length:=(zC.1 j).1;have l:((c.toNat:Int)==34)=false:=neN c 34 k;have m:w64 ((b:Int)+2)=((b+2:Nat):Int):=by rw[bK (by omega) (by omega)];rfl
 have ep:jg (a.drop b) [61,61]=some (Go.Lib.hasPrefix (a.drop b) [61,61]):=rfl;have eb:dW [40,41,91,93,44,43,45,42,60,61] (c.toNat:Int)=some (Go.Lib.indexByte [40,41,91,93,44,43,45,42,60,61] c):=by
  unfold dW;rw[aD];simp
 have core:((eff.cutL a (some (b:Int)) none).bind fun f=>(jg f [61,61]).bind fun g=>
   bif g then some (aA.mk 4 0 (b:Int) [61,61],w64 ((b:Int)+2),true)else
   (eff.cutL a (some (b:Int)) (some (w64 ((b:Int)+1)))).bind fun h=>
   (dW [40,41,91,93,44,43,45,42,60,61] (c.toNat:Int)).bind fun i=>some (aA.mk 4 0 (b:Int) h,w64 ((b:Int)+1),(decide (i>=0)))) =
   bif Go.Lib.hasPrefix (a.drop b) [61,61]then some (⟨4,0,b,[61,61]⟩,((b+2:Nat):Int),true)
   else some (⟨4,0,b,(a.take (b+1)).drop b⟩,((b+1:Nat):Int),decide (Go.Lib.indexByte [40,41,91,93,44,43,45,42,60,61] c>=0)):=by
  simp only[AP a b (by omega),zA,ep,eb,fG (show b<=1000 by omega),m,pY a b (b+1) (by omega) (by omega)]
 unfold isLet at d;unfold dA at e;unfold jh;rw[au,j];simp only[zA,(wQ c).1,(wQ c).2.1,(wQ c).2.2.1,(wQ c).2.2.2,l];cases n:decide (97<=c.toNat)<;>cases o:decide (c.toNat<=122)<;>cases p:decide (48<=c.toNat)<;>cases q:decide (c.toNat<=57)<;>rw[n,o]at d<;>rw[p,q]at e<;>first | exact core | exact absurd d (by decide) | exact absurd e (by decide)
theorem drop_cons(a:Str)(b:Nat){c:UInt8}(d:a[b]?=some c):a.drop b=c::a.drop (b+1):=by
 have f:b<a.length:=(zC.1 d).1;have e:a[b]=c:=by rw[zF f]at d;exact a6 d
 rw[List.drop_eq_getElem_cons f,e]
theorem aex(a:Str)(b:Nat)(o:a.length<=120){c:UInt8}(n:a[b]?=some c)(p:isLet c=false)(q:dA c=false)(s:c≠34) :
  (qQ a b c=0->∃t e,jh a (b:Int)=some (t,e,false)) /\
  (0<qQ a b c->jh a (b:Int)=some (⟨4,0,b,(a.take (b+qQ a b c)).drop b⟩,((b+qQ a b c:Nat):Int),true)):=by
 have i:=drop_cons a b n;rw[acg a b o n p q s];unfold qQ;by_cases h:sy9 c
 ·have f:Go.Lib.hasPrefix (a.drop b) [61,61]=false:=by
   rw[i];rcases h with rfl | rfl | rfl | rfl | rfl | rfl | rfl | rfl | rfl<;>rfl
  have hi:decide (Go.Lib.indexByte [40,41,91,93,44,43,45,42,60,61] c>=0)=true:=by
   rcases h with rfl | rfl | rfl | rfl | rfl | rfl | rfl | rfl | rfl<;>rfl
  rw[if_pos h,f,hi];exact⟨fun e=>absurd e (by decide),fun _=>rfl⟩
 ·rw[if_neg h];by_cases k:c=61
  ·subst k;rw[if_pos rfl];by_cases h2q:a[b+1]?=some 61
   ·have j:=drop_cons a (b+1) h2q;have f:Go.Lib.hasPrefix (a.drop b) [61,61]=true:=by rw[i,j];rfl
    have u:(a.take (b+2)).drop b=[61,61]:=by
     rw[List.drop_take,i,j];have:b+2-b=2:=by omega
     rw[this];rfl
    rw[if_pos h2q,f,u];exact⟨fun e=>absurd e (by decide),fun _=>rfl⟩
   ·have f:Go.Lib.hasPrefix (a.drop b) [61,61]=false:=by
     rw[i];cases v:a.drop (b+1)with
     | nil=>rfl
     | cons d r=>
      have m:a[b+1]?=some d:=by
       have:=congrArg (fun l:Str=>l[0]?) v;simpa using this
      have g:(61==d)=false:=by
       rw[beq_eq_false_iff_ne];intro e;exact h2q (by rw[m,e])
      show (((61:UInt8)==61)&&((61==d)&&_))=false
      rw[g];rfl
    rw[if_neg h2q,f];exact⟨fun e=>absurd e (by decide),fun _=>rfl⟩
  ·rw[if_neg k];unfold sy9 at h;simp only[not_or]at h;obtain⟨w,x,y,z,A,B,C,D,E⟩:=h;have f:Go.Lib.hasPrefix (a.drop b) [61,61]=false:=by
    rw[i];have g:(61==c)=false:=by rw[beq_eq_false_iff_ne];exact fun e=>k e.symm
    show ((61==c)&&_)=false
    rw[g];rfl
   have hi:decide (Go.Lib.indexByte [40,41,91,93,44,43,45,42,60,61] c>=0)=false:=by
    simp[Go.Lib.indexByte,Ne.symm w,Ne.symm x,Ne.symm y,Ne.symm z,Ne.symm A,Ne.symm B,Ne.symm C,Ne.symm D,Ne.symm E,Ne.symm k]
   rw[f,hi];exact⟨fun _=>⟨_,_,rfl⟩,fun e=>absurd e (by decide)⟩
theorem DI{p:UInt8->Bool}{a:Str}{b:Nat}{c:UInt8}(d:a[b]?=some c)(e:p c=true):1<=bC p (a.drop b):=by
 rw[drop_cons a b d];unfold bC;rw[if_pos e];omega
theorem QV{a:Str}{b n:Nat}{c:UInt8}(d:a[b]?=some c)(h:1<=n):∃r,(a.take (b+n)).drop b=c::r:=by
 obtain⟨k,rfl⟩:∃k,n=k+1:=⟨n-1,by omega⟩;rw[List.drop_take,drop_cons a b d];have e:b+(k+1)-b=k+1:=by omega
 rw[e,List.take_succ_cons];exact⟨_,rfl⟩
theorem TK{a:Str}{b k:Nat}(c:a.length<=120):((a.take k).drop b).length<=120:=by simp;omega
theorem FV(c:UInt8)(r:Str):letter (c::r)=isLet c:=by
 show decide (97<=c.toNat/\c.toNat<=122)=isLet c
 unfold isLet;rw[Bool.decide_and]
theorem abe(a:Str)(b:Nat)(g:a.length<=120){c:UInt8}(f:a[b]?=some c) :
  (∃(t:aA) (n:Nat),1<=n/\b+n<=a.length/\Td t/\jh a (b:Int)=some (t,((b+n:Nat):Int),true)/\jD a (b:Int)=some (t,(n:Int))) \/
  ((∃t e,jh a (b:Int)=some (t,e,false))/\∃t,jD a (b:Int)=some (t,0)):=by
 have y:b<a.length:=(zC.1 f).1;have hrun:∀(p:UInt8->Bool),b+bC p (a.drop b)<=a.length:=by
  intro p;have:=o6 p (a.drop b);rw[List.length_drop]at this;omega
 cases h:isLet c with
 | true=>
  have q:lV c=true:=by unfold lV;rw[h];rfl
  have hi:=ach a b g f h;have d:=LW a b g f h;by_cases s:bC lV (a.drop b)<=8
  ·rw[al s]at hi;rw[if_neg (by omega)]at d;exact .inl ⟨_,_,DI f q,hrun lV,⟨Int.natCast_nonneg b,fun _=>by obtain⟨r,e⟩:=QV f (DI f q);exact (congrArg letter e).trans ((FV c r).trans h),fun e=>absurd e (by simp),TK g⟩,hi,d⟩
  ·rw[ae s]at hi;rw[if_pos (by omega)]at d;exact .inr ⟨⟨_,_,hi⟩,⟨_,d⟩⟩
 | false=>
  cases j:dA c with
  | true=>
   obtain⟨vi,vs,ok,oks,hi,d,k,w,_⟩:=Z9 a b g f j;cases l:ok with
   | true=>
    rw[l]at k hi;have x:=w l;subst x;rw[if_pos k.symm]at d;exact .inl ⟨_,_,DI f j,hrun dA,⟨Int.natCast_nonneg b,fun e=>absurd e (by simp),fun e=>absurd e (by simp),by simp⟩,hi,d⟩
   | false=>
    rw[l]at k hi;rw[if_neg (by rw[<- k];decide)]at d;exact .inr ⟨⟨_,_,hi⟩,⟨_,d⟩⟩
  | false=>
   by_cases m:c=34
   ·subst m;have hi:=acf a b g f _ rfl;have d:=LV a b g f _ rfl;by_cases i:b+1+bC noQ (a.drop (b+1))<a.length
    ·rw[if_pos i]at hi d;obtain⟨v,hv,_⟩:=xh ((a.take (b+1+bC noQ (a.drop (b+1)))).drop (b+1)) (by simp;omega);have o:dw ((a.take (b+1+bC noQ (a.drop (b+1)))).drop (b+1))=some v:=hv;rw[hv]at hi;rw[o]at d;cases v with
     | true=>
      refine .inl ⟨_,b+1+bC noQ (a.drop (b+1))+1-b,by omega,by omega,⟨Int.natCast_nonneg b,fun e=>absurd e (by simp),fun e=>absurd e (by simp),TK g⟩,?_,d⟩;have e:b+(b+1+bC noQ (a.drop (b+1))+1-b)=b+1+bC noQ (a.drop (b+1))+1:=by omega
      rw[e];exact hi
     | false=>exact .inr ⟨⟨_,_,hi⟩,⟨_,d⟩⟩
    ·rw[if_neg i]at hi d;exact .inr ⟨⟨_,_,hi⟩,⟨_,d⟩⟩
   ·have hi:=aex a b g f h j m;have d:=Ri a b g f h j m;by_cases u:qQ a b c=0
    ·rw[u]at d;exact .inr ⟨hi.1 u,⟨_,d⟩⟩
    ·exact .inl ⟨_,_,by omega,(aaf a b f).1,⟨Int.natCast_nonneg b,fun e=>absurd e (by simp),fun _=>by obtain⟨r,e⟩:=QV f (show 1<=qQ a b c by omega);exact (congrArg letter e).trans ((FV c r).trans h),TK g⟩,hi.2 (by omega),d⟩
theorem Zm{ρ:Type}{X:Type}(f g:X->Option (X⊕ρ))(P:Nat->X->Prop)(R:ρ->Prop)
  (h:∀m x,P m x->(∃r,R r/\f x=some (.inr r)/\g x=some (.inr r))\/(∃y k,k<m/\P k y/\f x=some (.inl y)/\g x=some (.inl y))) :
  ∀m x,P m x->∃r,R r/\ak f x=some r/\ak g x=some r:=by
 intro m;induction m using Nat.strongRecOn with
 | _ m ih=>
  intro x c;rw[aJ f,aJ g];rcases h m x c with ⟨r,d,a,b⟩ | ⟨y,k,e,i,a,b⟩
  ·rw[a,b];exact⟨r,d,rfl,rfl⟩
  ·rw[a,b];exact ih k e y i
theorem rY(a:Str):∃r,(r.2<0->bI r.1 (a.length:Int))/\wB a=some r/\nK a=some r:=by
 unfold wB nK;by_cases j:(a.length:Int)>120
 ·rw[al j];exact⟨_,fun h=>absurd h (by decide),rfl,rfl⟩
 ·rw[ae j];simp only[aa];have d:a.length<=120:=by omega
  refine Zm _ _ (fun m x=>∃toks b,x=(a,toks,((b:Nat):Int))/\b<=a.length/\m=a.length-b/\toks.length<=60/\∀t,t∈toks->Td t) (fun (r:List aA×Int)=>r.2<0->bI r.1 (a.length:Int)) ?_ a.length (a,[],0) ⟨[],0,rfl,by omega,by omega,by simp,by simp⟩;rintro m _ ⟨toks,b,rfl,s,rfl,k,hall⟩;simp only;by_cases f:b<a.length
  ·have g:decide ((b:Int)<(a.length:Int))=true:=by simp;omega
   have l:=zF f;simp only[g,ac,au,l,zA];cases v:((a[b].toNat:Int)==32)with
   | true=>
    exact .inr ⟨(a,toks,((b+1:Nat):Int)),a.length-(b+1),by omega,⟨toks,b+1,rfl,by omega,rfl,k,hall⟩,by rw[fG (by omega)];rfl,by rw[fG (by omega)];rfl⟩
   | false=>
    rcases abe a b d l with ⟨t,n,w,o,i,ei,es⟩ | ⟨⟨t,e,ei⟩,⟨t',es⟩⟩
    ·have en:((n:Int)==0)=false:=by rw[beq_eq_false_iff_ne];omega
     have ew:w64 ((b:Int)+(n:Int))=((b+n:Nat):Int):=by rw[bK (by omega) (by omega)];omega
     simp only[ei,es,zA,en,ew,aa,aM];cases p:((toks.length:Int)==60)with
     | true=>exact .inl ⟨([],(b:Int)),fun h=>by simp at h;omega,rfl,rfl⟩
     | false=>
      have y:toks.length<60:=by
       have:¬((toks.length:Int)=60):=by simpa using p
       omega
      have q:gd (toks.length+[t].length)=some ():=by
       unfold gd;rw[if_pos (by simp;omega)]
      rw[q];exact .inr ⟨(a,toks++[t],((b+n:Nat):Int)),a.length-(b+n),by omega,⟨toks++[t],b+n,rfl,o,rfl,by simp;omega,fun u c=>by rcases List.mem_append.1 c with c | c;exact hall u c;rw[List.mem_singleton.1 c];exact i⟩,rfl,rfl⟩
    ·simp only[ei,es,zA];exact .inl ⟨([],(b:Int)),fun h=>by simp at h;omega,rfl,rfl⟩
  ·have g:decide ((b:Int)<(a.length:Int))=false:=by simp;omega
   simp only[g,aa];exact .inl ⟨(toks,-1),fun _=>⟨hall,by simp,k⟩,rfl,rfl⟩
end Go.Proofs.YtkebfkahdmddpaaGreatDoor
/- Plain laws: one node, valid on both sides alike. Plain laws: nesting and nodes of expressions alike. Plain laws: expressions that a parser reads: few nodes, short texts; validity is alike on both sides. -/
namespace Go.Proofs.YtkebfkahdmddpaaGreatDoor
open Go.Abs Go.Proofs
theorem nX{α:Type}(c:Bool){a b a' b':α}(d:a=a')(e:b=b'):(bif c then a else b)=bif c then a' else b':=by rw[d,e]
theorem QN(a b c:Int):kN a b c=qm a b c:=rfl
theorem iV(a b c:Int):qm a b c=some (decide (a>=b)&&decide (a<=c)):=by
 unfold qm;cases decide (a>=b)<;>rfl
theorem Yf(a:Str):fD a=cu a:=rfl
theorem Zi(e:af)(c:e.text.length<=34359738368)(d:∃v,dw e.text=some v)(f:∃v,aX e.text=some v):BO e=jd e:=by
 obtain⟨v,hv⟩:=d;obtain⟨u,g⟩:=f;unfold BO jd;simp only[QN,iV,Yf,Ez,nI e.text c,hv,g,zA];generalize (e.text==[])=p;generalize ((e.args.length:Int)==0)=a;generalize ((e.args.length:Int)==2)=b;generalize (decide (e.n>=0)&&decide (e.n<=1000000000))=h;generalize (decide (e.n>=1)&&decide (e.n<=5))=i;refine nX _ ?_ (nX _ ?_ (nX _ ?_ (nX _ rfl (nX _ rfl (nX _ ?_ (nX _ ?_ (nX _ ?_ rfl)))))))
 ·cases p<;>cases a<;>cases h<;>rfl
 ·cases a<;>cases v<;>cases (e.n==0)<;>rfl
 ·cases a<;>cases u<;>cases (e.n==0)<;>rfl
 ·cases p<;>cases b<;>cases i<;>rfl
 ·cases b<;>cases u<;>cases (e.n==0)<;>rfl
 ·cases b<;>cases u<;>cases (e.n==0)<;>rfl
theorem Og{X ρ:Type}{f:X->Option (X⊕ρ)}{x:X}{r:ρ}{n:Nat}(a:iter f n x=some r):ak f x=some r:=by
 have hh:∃n r,iter f n x=some r:=⟨n,r,a⟩;unfold ak;rw[dif_pos hh];exact congrArg some (Ij hh.choose_spec.choose_spec a)
theorem Xa{X Y ρ:Type}{f:X->Option (X⊕ρ)}{g:Y->Option (Y⊕ρ)}(P:X->Y->Prop)
  (H:∀x y,P x y->(f x=none/\g y=none)\/(∃r,f x=some (.inr r)/\g y=some (.inr r))\/(∃x' y',P x' y'/\f x=some (.inl x')/\g y=some (.inl y')))
  {x:X} {y:Y} (h:P x y):ak f x=ak g y:=by
 have hi:∀(n:Nat) (x:X) (y:Y),P x y->iter f n x=iter g n y:=by
  intro n;induction n with
  | zero=>intro x y _;rfl
  | succ n ih=>
   intro x y i;unfold iter;rcases H x y i with ⟨b,a⟩ | ⟨r,b,a⟩ | ⟨x',y',d,b,a⟩
   ·rw[b,a]
   ·rw[b,a]
   ·rw[b,a];exact ih x' y' d
 cases e:ak f x with
 | some r=>
  obtain⟨n,c⟩:=xU e;rw[hi n x y h]at c;exact (Og c).symm
 | none=>
  cases a:ak g y with
  | none=>rfl
  | some r=>
   obtain⟨n,c⟩:=xU a;rw[<- hi n x y h]at c;rw[Og c]at e;cases e
theorem Hr(m r:Int):Dz m r=some (if r>m then r else m):=by
 unfold Dz;by_cases h:m>r
 ·rw[al h,if_neg (by omega)];rfl
 ·rw[ae h];by_cases a:r>m
  ·rw[if_pos a];rfl
  ·rw[if_neg a];have:r=m:=by omega
   rw[this];rfl
theorem Qc:∀(n:Nat) (e:af),qE n e=eP n e:=by
 intro n;induction n with
 | zero=>intro e;rfl
 | succ n ih=>
  intro e;show Ak (qE n) e=ja (eP n) e
  unfold Ak ja;refine Xa (fun x y=>∃m i:Int,x=(m,e.args,(e.args.length:Int),i)/\y=(e.kind,e.n,e.text,e.args,m,i)) ?_ ⟨0,0,rfl,rfl⟩;rintro _ _ ⟨m,i,rfl,rfl⟩;simp only;cases decide (i<(e.args.length:Int))with
  | false=>exact .inr (.inl ⟨_,rfl,rfl⟩)
  | true=>
   simp only[ac];cases idx e.args i with
   | none=>exact .inl ⟨rfl,rfl⟩
   | some x=>
    simp only[zA,ih];cases eP n (ah x)with
    | none=>exact .inl ⟨rfl,rfl⟩
    | some r=>
     simp only[zA,Hr];exact .inr (.inr ⟨_,_,⟨_,_,rfl,rfl⟩,rfl,rfl⟩)
theorem abN(x:af):ah x=x:=by cases x;rfl
theorem aew{α:Type}{xs:List α}{i:Int}{x:α}(h:idx xs i=some x):x∈xs:=by
 unfold idx at h;split at h
 ·exact zG h
 ·cases h
theorem WW(P:af->Prop)(hsub:∀e x,P e->x∈e.args->P x)(hnode:∀e,P e->BO e=jd e):∀(n:Nat) (e:af),P e->sV n e=jI n e:=by
 intro n;induction n with
 | zero=>intro e _;rfl
 | succ n ih=>
  intro e a;show Ei (sV n) e=oh (jI n) e
  unfold Ei oh;refine Xa (fun x y=>∃i:Int,x=(e.kind,e.n,e.text,e.args,e.args,(e.args.length:Int),i)/\y=(e.kind,e.n,e.text,e.args,i)) ?_ ⟨0,rfl,rfl⟩;rintro _ _ ⟨i,rfl,rfl⟩;simp only;cases decide (i<(e.args.length:Int))with
  | false=>
   have b:BO ⟨e.kind,e.n,e.text,e.args⟩=jd ⟨e.kind,e.n,e.text,e.args⟩:=by
    have:=hnode e a;cases e;exact this
   simp only[aa,b];cases jd ⟨e.kind,e.n,e.text,e.args⟩with
   | none=>exact .inl ⟨rfl,rfl⟩
   | some r=>exact .inr (.inl ⟨_,rfl,rfl⟩)
  | true=>
   simp only[ac];cases c:idx e.args i with
   | none=>exact .inl ⟨rfl,rfl⟩
   | some x=>
    simp only[zA,abN,ih x (hsub e x a (aew c))];cases jI n x with
    | none=>exact .inl ⟨rfl,rfl⟩
    | some r=>
     simp only[zA];cases r with
     | false=>exact .inr (.inl ⟨_,rfl,rfl⟩)
     | true=>exact .inr (.inr ⟨_,_,⟨_,rfl,rfl⟩,rfl,rfl⟩)
theorem Tj{x:af}:∀ {xs:List af},x∈xs->wtE x<=wtL xs
 | [],h=>by cases h
 | y::r,h=>by
  rcases bc.1 h with rfl | h
  ·show _<=wtE x+wtL r;omega
  ·have:=Tj h;show _<=wtE y+wtL r;omega
theorem Be(e:af):1+wtL e.args<=wtE e:=by
 obtain⟨k,n,t,a⟩:=e;show 1+wtL a<=(if t.length<=120 then 1 else 18446744073709551616)+wtL a
 split<;>omega
theorem ZY(e:af):1<=wtE e:=by have:=Be e;omega
theorem Tm:∀(xs:List af),xs.length<=wtL xs
 | []=>by simp
 | x::r=>by
  have:=Tm r;have:=ZY x;show r.length+1<=wtE x+wtL r;omega
theorem lT{x e:af}(h:x∈e.args):wtE x+1<=wtE e:=by
 have:=Tj h;have:=Be e;omega
theorem Bc{e:af}(h:wtE e<=1048576):e.text.length<=120:=by
 obtain⟨k,n,t,a⟩:=e;have h:(if t.length<=120 then 1 else 18446744073709551616)+wtL a<=1048576:=h;show t.length<=120
 split at h
 ·assumption
 ·omega
theorem acQ{e:af}(h:wtE e<=1048576):wtE e=1+wtL e.args:=by
 have:=Bc h;obtain⟨k,n,t,a⟩:=e;exact Bd this
theorem oJ{e:af}:e.args.length+1<=wtE e:=by
 have:=Be e;have:=Tm e.args;omega
theorem QZ{e:af}:siz e.args<siz e:=by
 cases e;simp only[siz];rw[af.mk.sizeOf_spec];omega
theorem VG{x:af}{xs:List af}(h:x∈xs):siz x+1<=siz xs:=by
 have:=List.sizeOf_lt_of_mem h;simp only[siz];omega
theorem dI{x e:af}(h:x∈e.args):siz x+2<=siz e:=by
 have:=VG h;have:=QZ (e:=e);omega
theorem KY{xs:List af}{i:Nat}{x:af}(h:xs[i]?=some x):wtL (xs.take (i+1))=wtL (xs.take i)+wtE x:=by
 obtain⟨hi,rfl⟩:=zC.1 h;rw[List.take_succ_eq_append_getElem hi,Dt,ZX]
theorem tY(xs:List af)(i:Nat):wtL (xs.take i)<=wtL xs:=by
 have h:wtL (xs.take i)+wtL (xs.drop i)=wtL xs:=by rw[<- Dt,List.take_append_drop]
 omega
theorem bU{α X ρ σ:Type}{g:X->Option (X⊕ρ)}(pk:σ->Nat->X)(xs:List α)(I:Nat->σ->Prop)(R:ρ->Prop)
  (f:∀i x s,xs[i]?=some x->I i s->(∃s',g (pk s i)=some (.inl (pk s' (i+1)))/\I (i+1) s')\/∃r,g (pk s i)=some (.inr r)/\R r)
  (h:∀s,I xs.length s->∃r,g (pk s xs.length)=some (.inr r)/\R r) (s:σ) (j:I 0 s):∃r,ak g (pk s 0)=some r/\R r:=by
 have key:∀(k i:Nat) (s:σ),xs.length=i+k->I i s->∃r,ak g (pk s i)=some r/\R r:=by
  intro k;induction k with
  | zero=>
   intro i s hi b;have:i=xs.length:=by omega
   subst this;obtain⟨r,e,a⟩:=h s b;exact⟨r,by rw[aJ,e],a⟩
  | succ k ih=>
   intro i s hi b;have c:i<xs.length:=by omega
   rcases f i _ s (zF c) b with ⟨s',e,d⟩ | ⟨r,e,a⟩
   ·obtain⟨r,e',a⟩:=ih (i+1) s' (by omega) d;exact⟨r,by rw[aJ,e];exact e',a⟩
   ·exact⟨r,by rw[aJ,e],a⟩
 exact key xs.length 0 s (by omega) j
theorem bW{α:Type}{xs:List α}{i:Nat}{x:α}(h:xs[i]?=some x):decide ((i:Int)<(xs.length:Int))=true:=by
 have:=(zC.1 h).1;simp;omega
theorem bG{α:Type}(xs:List α):decide ((xs.length:Int)<(xs.length:Int))=false:=by simp
theorem bT{α:Type}{xs:List α}{i:Nat}{x:α}(h:xs[i]?=some x)(a:xs.length<=34359738368):w64 ((i:Int)+1)=((i+1:Nat):Int):=by
 have:=(zC.1 h).1;rw[bK (by omega) (by omega)];omega
theorem FQ:∀(n:Nat) (e:af),siz e<n->wtE e<=1048576->nT n e=some (wtE e:Int)
 | 0,e,h,_=>absurd h (Nat.not_lt_zero _)
 | n+1,e,m,d=>by
  have ih:=FQ n;have o:=oJ (e:=e);show Ai (nT n) e=_
  unfold Ai;have key:=bU (fun (s:Unit) (i:Nat)=>((((1+wtL (e.args.take i):Nat):Int),e.args,(e.args.length:Int),(i:Int)):Int×(List af)×Int×Int)) e.args (fun _ _=>True) (fun r=>r=(wtE e:Int)) (g:=fun (a:Int×(List af)×Int×Int)=>
   bif (decide (a.2.2.2<a.2.2.1))then
    (idx a.2.1 a.2.2.2).bind fun f=>
    (nT n (ah f)).bind fun j=>
    some (.inl (w64 (a.1+j),a.2.1,a.2.2.1,w64 (a.2.2.2+1)))
   else
    some (.inr (a.1))) (fun i x s b _=>.inl ⟨(),by
   have c:=zG b
   have p:=lT c
   have k:=KY b
   have q:=tY e.args (i+1)
   have t:=Be e
   simp only[bW b,ac,au,b,zA,aH,ih x (by have:=dI c;omega) (by omega),bT b (by omega),k]
   rw[bK (by omega) (by omega)]
   congr 4
   omega,trivial⟩) (fun s _=>⟨_,by simp only[bG,aa];rfl,by rw[List.take_length,acQ d]⟩) () trivial
  obtain⟨r,l,rfl⟩:=key;exact l
theorem UO:∀(n:Nat) (e:af) (b:Int),siz e<n->wtE e<=1048576->0<=b->b<=1048576 ->
  ∃r,oU n e b=some r/\(0<=b-wtE e->r=b-wtE e)/\(b-wtE e<0->r = -1)
 | 0,e,b,h,_,_,_=>absurd h (Nat.not_lt_zero _)
 | n+1,e,b,y,o,z,p=>by
  have ih:=UO n;have A:=oJ (e:=e);have q:=acQ o;show ∃r,vM (oU n) e b=some r/\_
  unfold vM;rw[bK (n:=b-1) (by omega) (by omega)];refine bU (fun (s:Int) (i:Nat)=>((s,e.kind,e.n,e.text,e.args,(i:Int)):Int×Int×Int×Str×(List af)×Int)) e.args
   (fun i s=>(0<=b-1-wtL (e.args.take i)->s=b-1-wtL (e.args.take i))/\(b-1-wtL (e.args.take i)<0->s = -1)) _ (fun i x s c g=>?_) (fun s g=>?_) (b-1) ⟨fun _=>by simp[wtL],fun h=>by simp[wtL]at h;omega⟩
  ·obtain⟨a,d⟩:=g;have l:=zG c;have p:=lT l;have m:=KY c;have B:=tY e.args (i+1);by_cases j:s>=0
   ·obtain⟨r,t,u,v⟩:=ih x s (by have:=dI l;omega) (by omega) j (by
     by_cases f:0<=b-1-wtL (e.args.take i)
     ·have:=a f;omega
     ·have:=d (by omega);omega)
    have w:s=b-1-wtL (e.args.take i):=by
     by_cases f:0<=b-1-wtL (e.args.take i)
     ·exact a f
     ·have:=d (by omega);omega
    refine .inl ⟨r,?_,fun k=>?_,fun k=>?_⟩
    ·simp only[bW c,ac,al j,au,c,zA,aH,t,bT c (by omega)]
    ·rw[m]at k ⊢;rw[u (by omega)];omega
    ·rw[m]at k;exact v (by omega)
   ·refine .inr ⟨s,?_,fun h=>?_,fun h=>?_⟩
    ·simp only[bW c,ac,ae j,aa]
    ·have:=tY e.args i;have:=a (by omega);omega
    ·have:=a;by_cases f:0<=b-1-wtL (e.args.take i)
     ·have:=a f;omega
     ·exact d (by omega)
  ·obtain⟨a,d⟩:=g;rw[List.take_length]at a d;exact⟨s,by simp only[bG,aa],fun h=>by rw[a (by omega)];omega,fun h=>d (by omega)⟩
theorem NI:∀(n:Nat) (e:af),siz e<n->wtE e<=1048576->∃r,eP n e=some r/\True
 | 0,e,h,_=>absurd h (Nat.not_lt_zero _)
 | n+1,e,f,g=>by
  have ih:=NI n;have j:=oJ (e:=e);show ∃r,ja (eP n) e=some r/\_
  unfold ja;refine bU (fun (s:Int) (i:Nat)=>((e.kind,e.n,e.text,e.args,s,(i:Int)):Int×Int×Str×(List af)×Int×Int)) e.args (fun _ _=>True) _ (fun i x s a c=>?_) (fun s c=>?_) 0 trivial
  ·have b:=zG a;obtain⟨r,d,_⟩:=ih x (by have:=dI b;omega) (by have:=lT b;omega);refine .inl ⟨if r>s then r else s,?_,trivial⟩;simp only[bW a,ac,au,a,zA,aH,d,Hr,bT a (by omega)]
  ·exact⟨_,by simp only[bG,aa];rfl,trivial⟩
theorem Ye(a:Str):∃r,cu a=some r/\r<=4/\(0<=r->a.length<=6/\prn a=true):=by
 unfold cu;have go:∀(w:Str) (k:Int) (z:Option Int),w.length<=6/\prn w=true->k<=4->(∃r,z=some r/\r<=4/\(0<=r->a.length<=6/\prn a=true))->∃r,(bif (a==w)then some k else z)=some r/\r<=4/\(0<=r->a.length<=6/\prn a=true):=by
  intro w k z b c d;cases h:(a==w)with
  | true=>
   have e:=eq_of_beq h;exact⟨k,rfl,c,fun _=>by rw[e];exact b⟩
  | false=>exact d
 repeat refine go _ _ _ (by decide) (by decide) ?_
 exact⟨-1,rfl,by decide,fun h=>by omega⟩
structure wW(e:af):Prop where
 pr:prn e.text=true
 k0:1<=e.kind
 k9:e.kind<=9
 num:e.kind=1->0<=e.n/\e.n<=1000000000
 call:e.kind=5->e.args.length<=4
 list:e.kind=4->e.args.length<=8
 op:e.kind=6->e.args.length=2/\1<=e.n/\e.n<=5
 two:e.kind=7\/e.kind=9->e.args.length=2
 three:e.kind=8->e.args.length=3
 leaf:e.kind=1\/e.kind=2\/e.kind=3->e.args=[]
 z:e.kind=1\/e.kind=4\/e.kind=6\/e.kind=8->e.text=[]
 w:e.kind≠1->e.kind≠6->e.n=0
 nm:e.kind=3\/e.kind=7\/e.kind=9->aX e.text=some true
 tx:e.kind=2->dw e.text=some true
 cl:e.kind=5->(e.args.length:Int)=nH e.text
inductive jA:af->Prop
 | mk (e:af) (h:wW e) (hs:∀x,x∈e.args->jA x):jA e
theorem af0(e:af)(q:∃v,dw e.text=some v/\(v=true->prn e.text=true))(r:∃v,aX e.text=some v/\(v=true->prn e.text=true)):∃v,jd e=some v/\(v=true->wW e):=by
 have s:=iV e.n 0 1000000000;have t:=iV e.n 1 5;obtain⟨w,d,u⟩:=q;obtain⟨v3,f,l⟩:=r;have nl:(e.text==[])=true->prn e.text=true:=fun h=>by rw[eq_of_beq h];rfl
 obtain⟨x,g,y,m⟩:=Ye e.text;have no:∃v,(some false:Option Bool)=some v/\(v=true->wW e):=⟨false,rfl,fun h=>(by cases h)⟩;have bb:∀(c:Bool) (z:Option Bool),(c=true->∃v,z=some v/\(v=true->wW e))->∃v,(bif c then z else some false)=some v/\(v=true->wW e):=by
  intro c z o;cases c with
  | true=>exact o rfl
  | false=>exact no
 have kk:∀(k:Int) (z z':Option Bool),(e.kind=k->∃v,z=some v/\(v=true->wW e))->(¬e.kind=k->∃v,z'=some v/\(v=true->wW e))->∃v,(bif (e.kind==k)then z else z')=some v/\(v=true->wW e):=by
  intro k z z' o p;cases h:(e.kind==k)with
  | true=>exact o (eq_of_beq h)
  | false=>exact p (by simpa using h)
 have nil:((e.args.length:Int)==0)=true->e.args=[]:=fun h=>by
  have h:=eq_of_beq h;exact List.length_eq_zero_iff.1 (by omega)
 unfold jd;simp only[s,d,f,g,t,zA];refine kk 1 _ _ (fun i=>bb _ _ fun b=>bb _ _ fun a=>⟨_,rfl,fun hv=>?_⟩) fun A=>?_
 ·have hv:0<=e.n/\e.n<=1000000000:=by simpa using hv
  exact⟨nl a,by omega,by omega,fun _=>hv,fun h=>by omega,fun h=>by omega,fun h=>by omega,fun h=>by omega,fun h=>by omega,fun _=>nil b,fun h=>(by first | exact eq_of_beq b | exact eq_of_beq a | omega),fun h j=>(by first | exact eq_of_beq b | exact eq_of_beq a | omega),fun h=>(by first | omega | rw[f,hv]),fun h=>(by first | omega | rw[d,hv]),fun h=>(by first | omega | (unfold nH;rw[g];exact hv))⟩
 refine kk 2 _ _ (fun i=>bb _ _ fun b=>bb _ _ fun a=>⟨_,rfl,fun hv=>?_⟩) fun B=>?_
 ·exact⟨u hv,by omega,by omega,fun h=>by omega,fun h=>by omega,fun h=>by omega,fun h=>by omega,fun h=>by omega,fun h=>by omega,fun _=>nil b,fun h=>(by first | exact eq_of_beq b | exact eq_of_beq a | omega),fun h j=>(by first | exact eq_of_beq b | exact eq_of_beq a | omega),fun h=>(by first | omega | rw[f,hv]),fun h=>(by first | omega | rw[d,hv]),fun h=>(by first | omega | (unfold nH;rw[g];exact hv))⟩
 refine kk 3 _ _ (fun i=>bb _ _ fun b=>bb _ _ fun a=>⟨_,rfl,fun hv=>?_⟩) fun C=>?_
 ·exact⟨l hv,by omega,by omega,fun h=>by omega,fun h=>by omega,fun h=>by omega,fun h=>by omega,fun h=>by omega,fun h=>by omega,fun _=>nil b,fun h=>(by first | exact eq_of_beq b | exact eq_of_beq a | omega),fun h j=>(by first | exact eq_of_beq b | exact eq_of_beq a | omega),fun h=>(by first | omega | rw[f,hv]),fun h=>(by first | omega | rw[d,hv]),fun h=>(by first | omega | (unfold nH;rw[g];exact hv))⟩
 refine kk 4 _ _ (fun i=>bb _ _ fun b=>bb _ _ fun a=>⟨_,rfl,fun hv=>?_⟩) fun D=>?_
 ·have hv:=of_decide_eq_true hv;exact⟨nl a,by omega,by omega,fun h=>by omega,fun h=>by omega,fun h=>by omega,fun h=>by omega,fun h=>by omega,fun h=>by omega,fun h=>by omega,fun h=>(by first | exact eq_of_beq b | exact eq_of_beq a | omega),fun h j=>(by first | exact eq_of_beq b | exact eq_of_beq a | omega),fun h=>(by first | omega | rw[f,hv]),fun h=>(by first | omega | rw[d,hv]),fun h=>(by first | omega | (unfold nH;rw[g];exact hv))⟩
 refine kk 5 _ _ (fun i=>bb _ _ fun b=>⟨_,rfl,fun hv=>?_⟩) fun E=>?_
 ·have hv:=eq_of_beq hv;exact⟨(m (by omega)).2,by omega,by omega,fun h=>by omega,fun h=>by omega,fun h=>by omega,fun h=>by omega,fun h=>by omega,fun h=>by omega,fun h=>by omega,fun h=>(by first | exact eq_of_beq b | exact eq_of_beq a | omega),fun h j=>(by first | exact eq_of_beq b | exact eq_of_beq a | omega),fun h=>(by first | omega | rw[f,hv]),fun h=>(by first | omega | rw[d,hv]),fun h=>(by first | omega | (unfold nH;rw[g];exact hv))⟩
 refine kk 6 _ _ (fun i=>bb _ _ fun b=>bb _ _ fun a=>⟨_,rfl,fun hv=>?_⟩) fun F=>?_
 ·have a:=eq_of_beq a;have hv:1<=e.n/\e.n<=5:=by simpa using hv
  exact⟨nl b,by omega,by omega,fun h=>by omega,fun h=>by omega,fun h=>by omega,fun _=>⟨by omega,hv⟩,fun h=>by omega,fun h=>by omega,fun h=>by omega,fun h=>(by first | exact eq_of_beq b | exact eq_of_beq a | omega),fun h j=>(by first | exact eq_of_beq b | exact eq_of_beq a | omega),fun h=>(by first | omega | rw[f,hv]),fun h=>(by first | omega | rw[d,hv]),fun h=>(by first | omega | (unfold nH;rw[g];exact hv))⟩
 refine kk 7 _ _ (fun i=>bb _ _ fun b=>bb _ _ fun a=>⟨_,rfl,fun hv=>?_⟩) fun G=>?_
 ·have a:=eq_of_beq a;exact⟨l hv,by omega,by omega,fun h=>by omega,fun h=>by omega,fun h=>by omega,fun h=>by omega,fun _=>by omega,fun h=>by omega,fun h=>by omega,fun h=>(by first | exact eq_of_beq b | exact eq_of_beq a | omega),fun h j=>(by first | exact eq_of_beq b | exact eq_of_beq a | omega),fun h=>(by first | omega | rw[f,hv]),fun h=>(by first | omega | rw[d,hv]),fun h=>(by first | omega | (unfold nH;rw[g];exact hv))⟩
 refine kk 9 _ _ (fun i=>bb _ _ fun b=>bb _ _ fun a=>⟨_,rfl,fun hv=>?_⟩) fun n9=>?_
 ·have a:=eq_of_beq a;exact⟨l hv,by omega,by omega,fun h=>by omega,fun h=>by omega,fun h=>by omega,fun h=>by omega,fun _=>by omega,fun h=>by omega,fun h=>by omega,fun h=>(by first | exact eq_of_beq b | exact eq_of_beq a | omega),fun h j=>(by first | exact eq_of_beq b | exact eq_of_beq a | omega),fun h=>(by first | omega | rw[f,hv]),fun h=>(by first | omega | rw[d,hv]),fun h=>(by first | omega | (unfold nH;rw[g];exact hv))⟩
 refine kk 8 _ _ (fun i=>bb _ _ fun b=>bb _ _ fun a=>⟨_,rfl,fun hv=>?_⟩) fun H=>no
 ·have hv:=eq_of_beq hv;exact⟨nl a,by omega,by omega,fun h=>by omega,fun h=>by omega,fun h=>by omega,fun h=>by omega,fun h=>by omega,fun _=>by omega,fun h=>by omega,fun h=>(by first | exact eq_of_beq b | exact eq_of_beq a | omega),fun h j=>(by first | exact eq_of_beq b | exact eq_of_beq a | omega),fun h=>(by first | omega | rw[f,hv]),fun h=>(by first | omega | rw[d,hv]),fun h=>(by first | omega | (unfold nH;rw[g];exact hv))⟩
theorem Z4:∀(s:Str) (i:Nat),gq i s=true->prn s=true
 | [],_,_=>rfl
 | c::r,i,h=>by
  have h:(Kt i c&&gq (i+1) r)=true:=h;rw[zI]at h;have a:=h.1;unfold Kt at a;show (prC c&&prn r)=true
  rw[Z4 r (i+1) h.2,Bool.and_true];unfold prC;simp at a ⊢;omega
theorem QR{a:Str}(c:a.length<=34359738368)(h:bZ a=true):prn a=true:=by
 unfold bZ aT at h;rw[nD a c,zA]at h;cases b:gq 0 a with
 | true=>exact Z4 a 0 b
 | false=>rw[b]at h;simp at h
theorem xu(e:af)(b:wtE e<=1048576):(∃v,dw e.text=some v/\(v=true->prn e.text=true))/\∃v,aX e.text=some v/\(v=true->prn e.text=true):=by
 have a:=Bc b;refine⟨?_,?_⟩
 ·obtain⟨v,hv,c⟩:=xh e.text a;exact⟨v,by rw[<- Ez];exact hv,fun h=>(c h).1⟩
 ·exact⟨_,nJ e.text a,QR (by omega)⟩
theorem ZR:∀(n:Nat) (e:af),siz e<n->wtE e<=1048576->∃v,jI n e=some v/\(v=true->jA e)
 | 0,e,h,_=>absurd h (Nat.not_lt_zero _)
 | n+1,e,o,l=>by
  have ih:=ZR n;have p:=oJ (e:=e);show ∃v,oh (jI n) e=some v/\_
  unfold oh;refine bU (fun (_:Unit) (i:Nat)=>((e.kind,e.n,e.text,e.args,(i:Int)):Int×Int×Str×(List af)×Int)) e.args (fun i _=>∀j x,e.args[j]?=some x->j<i->jA x) _ (fun i x s a c=>?_) (fun s c=>?_) () (fun j x _ b=>absurd b (Nat.not_lt_zero _))
  ·have m:=zG a;obtain⟨v,d,f⟩:=ih x (by have:=dI m;omega) (by have:=lT m;omega);simp only[bW a,ac,au,a,zA,aH,d,bT a (by omega)];cases v with
   | false=>exact .inr ⟨false,rfl,fun h=>(by cases h)⟩
   | true=>
    refine .inl ⟨(),rfl,fun j y g b=>?_⟩;by_cases k:j=i
    ·subst k;rw[a]at g;cases g
     exact f rfl
    ·exact c j y g (by omega)
  ·obtain⟨v,d,f⟩:=af0 e (xu e l).1 (xu e l).2;have eta:af.mk e.kind e.n e.text e.args=e:=by cases e;rfl
   refine⟨v,by simp only[bG,aa,eta,d,zA],fun hv=>.mk e (f hv) fun x a=>?_⟩;obtain⟨j,b⟩:=List.mem_iff_getElem?.1 a;exact c j x b (zC.1 b).1
theorem Zh(e:af)(a:wtE e<=1048576):BQ e=uy e:=
 WW (fun e=>wtE e<=1048576) (fun e x h b=>by have:=lT b;omega) (fun e h=>Zi e (by have:=Bc h;omega) ((xu e h).1.imp fun _ h=>h.1) ((xu e h).2.imp fun _ h=>h.1)) _ e a
theorem tZ(e:af)(a:wtE e<=1048576):∃v,fZ e=some v/\bV e=some v/\(v=true->jA e/\wtE e<=40):=by
 have f:Ec e=some (wtE e:Int):=FQ _ e (Nat.lt_succ_self _) a;obtain⟨r,d,g,i⟩:=UO _ e 40 (Nat.lt_succ_self _) a (by omega) (by omega);have d:zT e 40=some r:=d;obtain⟨m,b,_⟩:=NI _ e (Nat.lt_succ_self _) a;have b:sD e=some m:=b;have j:Ed e=some m:=(Qc _ e).trans b;obtain⟨v,c,k⟩:=ZR _ e (Nat.lt_succ_self _) a;have c:uy e=some v:=c;have l:BQ e=some v:=(Zh e a).trans c;unfold fZ bV;simp only[aH,f,d,b,j,c,l,zA];have n:decide ((wtE e:Int)<=40)=decide (r>=0):=by
  by_cases h:(wtE e:Int)<=40
  ·have:=g (by omega);rw[al h,al (by omega)]
  ·have:=i (by omega);rw[ae h,ae (by omega)]
 rw[<- n];by_cases h:(wtE e:Int)<=40
 ·rw[al h];simp only[ac];cases decide (m<=8)with
  | true=>exact⟨v,rfl,rfl,fun hv=>⟨k hv,by omega⟩⟩
  | false=>exact⟨false,rfl,rfl,fun h=>(by cases h)⟩
 ·rw[ae h];exact⟨false,rfl,rfl,fun h=>(by cases h)⟩
theorem WM(a:Str):∃(e:af) (p:Int),sS a=some (e,p)/\fB a=some (e,p)/\(p<0->jA e/\wtE e<=40):=by
 obtain⟨⟨toks,t⟩,c,hi,d⟩:=rY a;obtain⟨e,p,f,g,h⟩:=Za a hi d c (fun e l=>by
  obtain⟨v,b,i,_⟩:=tZ e (by omega);exact⟨v,b,i⟩)
 refine⟨e,p,f,g,fun j=>?_⟩;obtain⟨hv,m⟩:=h j;obtain⟨v,b,_,k⟩:=tZ e (by omega);rw[hv]at b;cases b
 exact k rfl
end Go.Proofs.YtkebfkahdmddpaaGreatDoor
/- The signs of an expression's text, with the blanks between them. -/
namespace Go.Proofs.YtkebfkahdmddpaaGreatDoor
open Go.Abs Go.Proofs
structure Tk where
 kind:Int
 n:Int
 text:Str
def sy(s:Str):Option Tk:=some ⟨4,0,s⟩
def kw(s:Str):Option Tk:=some ⟨1,0,s⟩
abbrev Pcs:=List (Option Tk)
def kX(n:Int):Nat:=if n=4\/n=5 then 1 else if n=3 then 3 else 2
def lvl(e:af):Nat:=if e.kind=7\/e.kind=8\/e.kind=9 then 0 else if e.kind=6 then kX e.n else 4
def opS(n:Int):Str:=if n=1 then [43]else if n=2 then [45]else if n=3 then [42]else if n=4 then [60]else [61,61]
def atP(x:Pcs×Nat)(b:Nat):Pcs:=if x.2<b then sy [40]::(x.1++[sy [41]])else x.1
def Es:List Pcs->Pcs
 | []=>[]
 | [x]=>x
 | x::y::r=>x++sy [44]::none::Es (y::r)
def oI(n:Int):Nat:=if kX n=1 then 2 else kX n
def ajx(k n:Int)(t:Str)(x y:Pcs×Nat):Pcs:=
 if k=7 then kw [108,101,116]::none::kw t::none::sy [61]::none::(x.1++none::kw [105,110]::none::y.1)
 else if k=9 then kw [102,111,114]::none::kw t::none::kw [105,110]::none::(x.1++none::kw [100,111]::none::y.1)
 else atP x (oI n)++none::sy (opS n)::none::atP y (kX n+1)
def aiS(k n:Int)(t:Str)(l:List (Pcs×Nat)):Pcs:=
 if k=1 then [some ⟨2,n,[]⟩]else if k=2 then [some ⟨3,0,t⟩]else if k=3 then [kw t]
 else if k=4 then sy [91]::(Es (l.map (·.1))++[sy [93]])
 else if k=5 then kw t::sy [40]::(Es (l.map (·.1))++[sy [41]])
 else match l with
  | [x,y]=>ajx k n t x y
  | [x,y,z]=>kw [105,102]::none::(x.1++none::kw [116,104,101,110]::none::(y.1++none::kw [101,108,115,101]::none::z.1))
  | _=>[]
mutual
def pcE:af->Pcs
 | ⟨k,n,t,a⟩=>aiS k n t (pcM a)
def pcM:List af->List (Pcs×Nat)
 | []=>[]
 | x::r=>(pcE x,lvl x)::pcM r
end
theorem afN(a:List af):pcM a=a.map fun x=>(pcE x,lvl x):=by
 induction a with
 | nil=>rfl
 | cons x r ih=>simp only[pcM,ih,List.map_cons]
theorem xN(e:af):pcE e=aiS e.kind e.n e.text (e.args.map fun x=>(pcE x,lvl x)):=by
 cases e
 show aiS _ _ _ (pcM _)=_
 rw[afN]
def pcA(e:af)(b:Nat):Pcs:=atP (pcE e,lvl e) b
def tkT(t:Tk):Str:=if t.kind=2 then Go.Lib.itoa t.n else if t.kind=3 then 34::(t.text++[34])else t.text
def txt:Pcs->Str
 | []=>[]
 | none::r=>32::txt r
 | some t::r=>tkT t++txt r
theorem fM:∀a b:Pcs,txt (a++b)=txt a++txt b
 | [],b=>rfl
 | none::r,b=>by
  show 32::txt (r++b)=(32::txt r)++txt b
  rw[fM r b];rfl
 | some t::r,b=>by
  show tkT t++txt (r++b)=(tkT t++txt r)++txt b
  rw[fM r b,a8]
theorem uQ(s:Str)(r:Pcs):txt (sy s::r)=s++txt r:=rfl
theorem xq(s:Str)(r:Pcs):txt (kw s::r)=s++txt r:=rfl
theorem l9(r:Pcs):txt (none::r)=[32]++txt r:=rfl
theorem qN:txt []=[]:=rfl
def tks:Pcs->List Tk
 | []=>[]
 | none::r=>tks r
 | some t::r=>t::tks r
theorem cZ:∀a b:Pcs,tks (a++b)=tks a++tks b
 | [],b=>rfl
 | none::r,b=>cZ r b
 | some t::r,b=>by
  show t::tks (r++b)=(t::tks r)++tks b
  rw[cZ r b];rfl
theorem iW(r:Pcs):tks (none::r)=tks r:=rfl
theorem jr(s:Str)(r:Pcs):tks (sy s::r)=⟨4,0,s⟩::tks r:=rfl
theorem oM(s:Str)(r:Pcs):tks (kw s::r)=⟨1,0,s⟩::tks r:=rfl
def tkE(e:af):List Tk:=tks (pcE e)
def tkA(e:af)(b:Nat):List Tk:=tks (pcA e b)
theorem lD{e:af}{b:Nat}(h:lvl e<b):tkA e b=⟨4,0,[40]⟩::(tkE e++[⟨4,0,[41]⟩]):=by
 unfold tkA pcA atP;rw[if_pos h,jr,cZ];rfl
theorem kQ{e:af}{b:Nat}(h:b<=lvl e):tkA e b=tkE e:=by
 unfold tkA pcA atP;rw[if_neg (by show ¬lvl e<b;omega)];rfl
theorem pc1{e:af}(h:e.kind=1):pcE e=[some ⟨2,e.n,[]⟩]:=by rw[xN,h];rfl
theorem pc2{e:af}(h:e.kind=2):pcE e=[some ⟨3,0,e.text⟩]:=by rw[xN,h];rfl
theorem pc3{e:af}(h:e.kind=3):pcE e=[kw e.text]:=by rw[xN,h];rfl
theorem pc4{e:af}(h:e.kind=4):pcE e=sy [91]::(Es (e.args.map pcE)++[sy [93]]):=by
 rw[xN,h];show sy [91]::(Es ((e.args.map _).map _)++_)=_
 rw[List.map_map];rfl
theorem pc5{e:af}(h:e.kind=5):pcE e=kw e.text::sy [40]::(Es (e.args.map pcE)++[sy [41]]):=by
 rw[xN,h];show kw e.text::sy [40]::(Es ((e.args.map _).map _)++_)=_
 rw[List.map_map];rfl
theorem pc7{e a b:af}(h:e.kind=7)(c:e.args=[a,b]):pcE e=kw [108,101,116]::none::kw e.text::none::sy [61]::none::(pcE a++none::kw [105,110]::none::pcE b):=by
 rw[xN,h,c];rfl
theorem pc9{e a b:af}(h:e.kind=9)(c:e.args=[a,b]):pcE e=kw [102,111,114]::none::kw e.text::none::kw [105,110]::none::(pcE a++none::kw [100,111]::none::pcE b):=by
 rw[xN,h,c];rfl
theorem pc8{e a b c:af}(h:e.kind=8)(d:e.args=[a,b,c]):pcE e=kw [105,102]::none::(pcE a++none::kw [116,104,101,110]::none::(pcE b++none::kw [101,108,115,101]::none::pcE c)):=by
 rw[xN,h,d];rfl
theorem pc6{e a b:af}(h:e.kind=6)(c:e.args=[a,b]):pcE e=pcA a (oI e.n)++none::sy (opS e.n)::none::pcA b (kX e.n+1):=by
 rw[xN,h,c];rfl
theorem IU(x:Pcs)(r:List Pcs)(h:r≠[]):Es (x::r)=x++sy [44]::none::Es r:=by
 cases r with
 | nil=>exact absurd rfl h
 | cons y r=>rfl
theorem X0:∀xs:List Pcs,txt (Es xs)=Go.Lib.join (xs.map txt) [44,32]
 | []=>rfl
 | [x]=>by show txt x=_;rw[List.map_cons,List.map_nil,Go.Lib.join_one]
 | x::y::r=>by
  rw[IU x (y::r) (by simp),fM,uQ,l9,X0 (y::r),List.map_cons,Go.Lib.join_cons,List.map_cons,Go.Lib.join_cons];show txt x++([44]++([32]++(txt y++Go.Lib.joinTail [44,32] (r.map txt))))=txt x++Go.Lib.joinTail [44,32] (txt y::r.map txt)
  simp[Go.Lib.joinTail]
theorem aiE(e:af):lvl e<=4:=by
 unfold lvl kX;split
 ·omega
 ·split
  ·split
   ·omega
   ·split<;>omega
  ·omega
end Go.Proofs.YtkebfkahdmddpaaGreatDoor
