import Derived.Test.YtngjomkjlonfpaaGreatNames2
import Derived.Test.YtngjomkjlonfpaaGreatParse1
set_option linter.unusedSimpArgs false
set_option linter.unusedVariables false
/- Plain laws: what the tokenizers scan. Plain laws: tokens, the two tokenizers side by side. Plain laws: texts among the tokens, the two tokenizers side by side. Plain laws: symbols among the tokens, the two tokenizers side by side. Plain laws: one token, the two tokenizers side by side. Plain laws: the two tokenizers are alike. -/
namespace Go.Proofs.YtngjomkjlonfpaaGreat
open Go.Abs Go.Proofs
theorem GH(a:Str):jb a=fK a:=rfl
def isLet(c:UInt8):Bool:=decide (97<=c.toNat)&&decide (c.toNat<=122)
def fP(c:UInt8):Bool:=decide (48<=c.toNat)&&decide (c.toNat<=57)
theorem ql(c:UInt8):yg (c.toNat:Int)=some (isLet c):=by
 have a:decide ((c.toNat:Int)>=97)=decide (97<=c.toNat):=decide_eq_decide.2 (by omega);have b:decide ((c.toNat:Int)<=122)=decide (c.toNat<=122):=decide_eq_decide.2 (by omega);unfold yg isLet;rw[a,b];cases decide (97<=c.toNat)<;>simp
theorem qA(c:UInt8):yh (c.toNat:Int)=some (fP c):=by
 have a:decide ((c.toNat:Int)>=48)=decide (48<=c.toNat):=decide_eq_decide.2 (by omega);have b:decide ((c.toNat:Int)<=57)=decide (c.toNat<=57):=decide_eq_decide.2 (by omega);unfold yh fP;rw[a,b];cases decide (48<=c.toNat)<;>simp
def cO(p:UInt8->Bool):Str->Nat
 | []=>0
 | c::r=>if p c=true then cO p r+1 else 0
theorem qB(p:UInt8->Bool):∀(s:Str),cO p s<=s.length
 | []=>ar _
 | c::r=>by
  unfold cO;have:=qB p r;split
  ·simp;omega
  ·omega
theorem FT(p:UInt8->Bool):∀(s:Str) c,c∈s.take (cO p s)->p c=true
 | [],c,h=>by simp at h
 | x::r,c,h=>by
  unfold cO at h;split at h
  ·rename_i a;rw[List.take_succ_cons]at h;rcases a8.1 h with rfl | h
   ·exact a
   ·exact FT p r c h
  ·simp at h
theorem xY{X ρ:Type}{g:X->Option (X⊕ρ)}(pk:Nat->X)(a:Str)(p:UInt8->Bool)(fin:Nat->Option ρ)
  (e:∀i c,a[i]?=some c->p c=true->g (pk i)=some (.inl (pk (i+1)))) (f:∀i c,a[i]?=some c->p c=false->g (pk i)=(fin i).bind fun r=>some (.inr r))
  (h:g (pk a.length)=(fin a.length).bind fun r=>some (.inr r)):∀(n i:Nat),a.length=i+n->aA g (pk i)=fin (i+cO p (a.drop i)):=by
 intro n;induction n with
 | zero=>
  intro i hi;have:i=a.length:=by omega
  subst this;rw[aF,h,List.drop_length];show _=fin (a.length+0)
  rw[Nat.add_zero];cases fin a.length<;>rfl
 | succ n ih=>
  intro i hi;have b:i<a.length:=by omega
  rw[List.drop_eq_getElem_cons b,aF];unfold cO;cases d:p a[i]with
  | true=>
   rw[e i a[i] (zF b) d];simp only[if_true];rw[ih (i+1) (by omega)];congr 1;omega
  | false=>
   rw[f i a[i] (zF b) d];simp only[aD,if_false,Nat.add_zero];cases fin i<;>rfl
theorem qW(a:Str)(b k:Nat)(c:b<=k)(d:k<=a.length):eff.cutL a (some (b:Int)) (some (k:Int))=some ((a.take k).drop b):=by
 unfold eff.cutL;simp only[Option.getD_some];rw[if_pos]
 ·simp
 ·omega
def tC(c:UInt8):Bool:=isLet c||fP c
theorem ig{n:Nat}(h:n<=1000):w64 ((n:Int)+1)=((n+1:Nat):Int):=by rw[bM (by omega) (by omega)];rfl
theorem BD{k b:Nat}(h:b<=k)(a:k<=1000):w64 ((k:Int)-(b:Int))=((k-b:Nat):Int):=by rw[bM (by omega) (by omega)];omega
theorem aaM(a:Str)(b:Nat)(r:a.length<=120){c:UInt8}(m:a[b]?=some c)(o:isLet c=true) :
  nS a (b:Int)=some (⟨1,0,b,(a.take (b+cO tC (a.drop b))).drop b⟩,if cO tC (a.drop b)>8 then 0 else (cO tC (a.drop b):Int)):=by
 have s:b<a.length:=(zC.1 m).1;have l:b+cO tC (a.drop b)<=a.length:=by
  have:=qB tC (a.drop b);rw[List.length_drop]at this;omega
 unfold nS;rw[au,m];simp only[zA,ql,o,ab];have fin:∀k:Nat,b<=k->k<=a.length->((eff.cutL a (some (b:Int)) (some (k:Int))).bind fun f=>bif (decide ((w64 ((k:Int)-(b:Int)))>8))then some (aI.mk 1 0 (b:Int) f,(0:Int))else some (aI.mk 1 0 (b:Int) f,w64 ((k:Int)-(b:Int))))=some (⟨1,0,b,(a.take k).drop b⟩,if k-b>8 then 0 else ((k-b:Nat):Int)):=by
  intro k j p;rw[qW a b k j p,BD j (by omega)];simp only[zA];by_cases n:k-b>8
  ·have:decide (((k-b:Nat):Int)>8)=true:=by simp;omega
   rw[this,if_pos n];rfl
  ·have:decide (((k-b:Nat):Int)>8)=false:=by simp;omega
   rw[this,if_neg n];rfl
 have q:b+cO tC (a.drop b)-b=cO tC (a.drop b):=by omega
 refine (xY (fun k=>(a,(b:Int),(0:Int),(0:Int),(0:Int),([]:Str),(0:Int),(0:Int),(b:Int),([]:Str),(k:Int))) a tC (fun k=>(eff.cutL a (some (b:Int)) (some (k:Int))).bind fun f=>bif (decide ((w64 ((k:Int)-(b:Int)))>8))then some (aI.mk 1 0 (b:Int) f,(0:Int))else some (aI.mk 1 0 (b:Int) f,w64 ((k:Int)-(b:Int)))) ?_ ?_ ?_ (a.length-b) b (by omega)).trans ?_
 ·intro i d g e;have hi:i<a.length:=(zC.1 g).1;have h:decide ((i:Int)<(a.length:Int))=true:=by simp;omega
  simp only[h,ab,au,g,zA,ql,qA,ig (show i<=1000 by omega)];unfold tC at e;cases j:isLet d with
  | true=>rfl
  | false=>
   rw[j,Bool.false_or]at e;simp only[aa,e,ab]
 ·intro i d g e;have hi:i<a.length:=(zC.1 g).1;have h:decide ((i:Int)<(a.length:Int))=true:=by simp;omega
  simp only[h,ab,au,g,zA,ql,qA];unfold tC at e;rw[Bool.or_eq_false_iff]at e;simp only[e.1,e.2,aa]
 ·have h:decide ((a.length:Int)<(a.length:Int))=false:=by simp
  simp only[h,aa]
 ·rw[fin _ (by omega) l,q]
theorem y7(d:UInt8):decide ((d.toNat:Int)>=97)=decide (97<=d.toNat)/\decide ((d.toNat:Int)<=122)=decide (d.toNat<=122)/\decide ((d.toNat:Int)>=48)=decide (48<=d.toNat)/\decide ((d.toNat:Int)<=57)=decide (d.toNat<=57):=
 ⟨decide_eq_decide.2 (by omega),decide_eq_decide.2 (by omega),decide_eq_decide.2 (by omega),decide_eq_decide.2 (by omega)⟩
theorem afj(a:Str)(b:Nat)(s:a.length<=120){c:UInt8}(q:a[b]?=some c)(l:isLet c=true) :
  kD a (b:Int)=some (⟨1,0,b,(a.take (b+cO tC (a.drop b))).drop b⟩,((b+cO tC (a.drop b):Nat):Int),decide (cO tC (a.drop b)<=8)):=by
 have t:b<a.length:=(zC.1 q).1;have m:b+cO tC (a.drop b)<=a.length:=by
  have:=qB tC (a.drop b);rw[List.length_drop]at this;omega
 unfold isLet at l;rw[zI]at l;unfold kD;rw[au,q];simp only[zA,(y7 c).1,(y7 c).2.1,l.1,l.2,ab];have fin:∀k:Nat,b<=k->k<=a.length->((eff.cutL a (some (b:Int)) (some (k:Int))).bind fun n=>some (aI.mk 1 0 (b:Int) n,(k:Int),(decide ((w64 ((k:Int)-(b:Int)))<=8))))=some (⟨1,0,b,(a.take k).drop b⟩,(k:Int),decide (k-b<=8)):=by
  intro k f g;rw[qW a b k f g,BD f (by omega)];simp only[zA];have:decide (((k-b:Nat):Int)<=8)=decide (k-b<=8):=decide_eq_decide.2 (by omega);rw[this]
 have r:b+cO tC (a.drop b)-b=cO tC (a.drop b):=by omega
 refine (xY (fun k=>(a,(b:Int),(0:Int),(0:Int),(0:Int),([]:Str),(k:Int))) a tC (fun k=>(eff.cutL a (some (b:Int)) (some (k:Int))).bind fun n=>some (aI.mk 1 0 (b:Int) n,(k:Int),(decide ((w64 ((k:Int)-(b:Int)))<=8)))) ?_ ?_ ?_ (a.length-b) b (by omega)).trans ?_
 ·intro i d h e;have hi:i<a.length:=(zC.1 h).1;have j:decide ((i:Int)<(a.length:Int))=true:=by simp;omega
  simp only[j,ab,au,h,zA,(y7 d).1,(y7 d).2.1,(y7 d).2.2.1,(y7 d).2.2.2,ig (show i<=1000 by omega)];unfold tC isLet fP at e;cases f:decide (97<=d.toNat)<;>cases g:decide (d.toNat<=122)<;>cases o:decide (48<=d.toNat)<;>cases p:decide (d.toNat<=57)<;>rw[f,g,o,p]at e<;>first | rfl | cases e
 ·intro i d h e;have hi:i<a.length:=(zC.1 h).1;have j:decide ((i:Int)<(a.length:Int))=true:=by simp;omega
  simp only[j,ab,au,h,zA,(y7 d).1,(y7 d).2.1,(y7 d).2.2.1,(y7 d).2.2.2];unfold tC isLet fP at e;cases f:decide (97<=d.toNat)<;>cases g:decide (d.toNat<=122)<;>cases o:decide (48<=d.toNat)<;>cases p:decide (d.toNat<=57)<;>rw[f,g,o,p]at e<;>first | rfl | cases e
 ·have j:decide ((a.length:Int)<(a.length:Int))=false:=by simp
  simp only[j,aa]
 ·rw[fin _ (by omega) m,r]
theorem aiz(a:Str)(b:Nat)(L:a.length<=120){c:UInt8}(m:a[b]?=some c)(g:fP c=true) :
  ∃(vi vs:Int) (ok oks:Bool),kD a (b:Int)=some (⟨2,vi,b,[]⟩,((b+cO fP (a.drop b):Nat):Int),ok) /\
   nS a (b:Int)=some (⟨2,vs,b,[]⟩,if (oks&&decide (vs<=1000000000))=true then (cO fP (a.drop b):Int)else 0)/\ok=(oks&&decide (vs<=1000000000))/\(ok=true->vi=vs):=by
 have C:b<a.length:=(zC.1 m).1;have n:b+cO fP (a.drop b)<=a.length:=by
  have:=qB fP (a.drop b);rw[List.length_drop]at this;omega
 have p:(a.take (b+cO fP (a.drop b))).drop b=(a.drop b).take (cO fP (a.drop b)):=by rw[List.drop_take];congr 1;omega
 have hdig:∀d,d∈(a.take (b+cO fP (a.drop b))).drop b->jE d:=by
  intro d f;rw[p]at f;have:=FT fP _ d f;unfold fP at this;unfold jE;simpa using this
 have E:1<=cO fP (a.drop b):=by
  have q:a.drop b=a[b]::a.drop (b+1):=List.drop_eq_getElem_cons C;have r:a[b]=c:=by rw[zF C]at m;exact aM m
  rw[q];unfold cO;rw[r,if_pos g];omega
 have s:(a.take (b+cO fP (a.drop b))).drop b≠[]:=by
  intro h;have:=congrArg List.length h;rw[List.length_drop,a7]at this;simp at this;omega
 obtain⟨vi,vs,ok,oks,F,G,H,I⟩:=ae3 _ hdig s (by rw[List.length_drop,a7];omega);refine⟨vi,vs,ok,oks,?_,?_,H,I⟩
 ·unfold fP at g;rw[zI]at g;have J:48<=c.toNat:=by simpa using g.1
  have t:c.toNat<=57:=by simpa using g.2
  have u:decide ((c.toNat:Int)>=97)=false:=by simp;omega
  unfold kD;rw[au,m];simp only[zA,u,(y7 c).2.2.1,(y7 c).2.2.2,g.1,g.2,ab,aa];refine (xY (fun k=>(a,(b:Int),(0:Int),(0:Int),(0:Int),([]:Str),(k:Int))) a fP (fun k=>(eff.cutL a (some (b:Int)) (some (k:Int))).bind fun v=>(oC v 0 1000000000).bind fun o=>some (aI.mk 2 o.1 (b:Int) [],(k:Int),o.2)) ?_ ?_ ?_ (a.length-b) b (by omega)).trans ?_
  ·intro i d f e;have hi:i<a.length:=(zC.1 f).1;have j:decide ((i:Int)<(a.length:Int))=true:=by simp;omega
   simp only[j,ab,au,f,zA,(y7 d).2.2.1,(y7 d).2.2.2,ig (show i<=1000 by omega)];unfold fP at e;cases w:decide (48<=d.toNat)<;>cases x:decide (d.toNat<=57)<;>rw[w,x]at e<;>first | rfl | cases e
  ·intro i d f e;have hi:i<a.length:=(zC.1 f).1;have j:decide ((i:Int)<(a.length:Int))=true:=by simp;omega
   simp only[j,ab,au,f,zA,(y7 d).2.2.1,(y7 d).2.2.2];unfold fP at e;cases w:decide (48<=d.toNat)<;>cases x:decide (d.toNat<=57)<;>rw[w,x]at e<;>first | rfl | cases e
  ·have j:decide ((a.length:Int)<(a.length:Int))=false:=by simp
   simp only[j,aa]
  ·rw[qW a b _ (by omega) n];simp only[zA,F]
 ·have y:isLet c=false:=by
   unfold fP at g;rw[zI]at g;have t:c.toNat<=57:=by simpa using g.2
   unfold isLet;have:decide (97<=c.toNat)=false:=by simp;omega
   rw[this];rfl
  unfold nS;rw[au,m];simp only[zA,ql,qA,y,g,ab,aa];refine (xY (fun k=>(a,(b:Int),(0:Int),(0:Int),(0:Int),([]:Str),(0:Int),(0:Int),(b:Int),([]:Str),(k:Int))) a fP (fun k=>(eff.cutL a (some (b:Int)) (some (k:Int))).bind fun z=>(jZ z).bind fun l=>bif (!l.2)then some (aI.mk 2 l.1 (b:Int) [],(0:Int))else bif (decide (l.1>1000000000))then some (aI.mk 2 l.1 (b:Int) [],(0:Int))else some (aI.mk 2 l.1 (b:Int) [],w64 ((k:Int)-(b:Int)))) ?_ ?_ ?_ (a.length-b) b (by omega)).trans ?_
  ·intro i d f e;have hi:i<a.length:=(zC.1 f).1;have j:decide ((i:Int)<(a.length:Int))=true:=by simp;omega
   simp only[j,ab,au,f,zA,qA,e,ig (show i<=1000 by omega)]
  ·intro i d f e;have hi:i<a.length:=(zC.1 f).1;have j:decide ((i:Int)<(a.length:Int))=true:=by simp;omega
   simp only[j,ab,au,f,zA,qA,e,aa]
  ·have j:decide ((a.length:Int)<(a.length:Int))=false:=by simp
   simp only[j,aa]
  ·rw[qW a b _ (by omega) n,BD (by omega) (by omega)];simp only[zA,G];have K:b+cO fP (a.drop b)-b=cO fP (a.drop b):=by omega
   rw[K];cases oks with
   | false=>rfl
   | true=>
    by_cases D:vs<=1000000000
    ·have A:decide (vs>1000000000)=false:=by simp;omega
     have B:decide (vs<=1000000000)=true:=by simpa using D
     rw[A,B];rfl
    ·have A:decide (vs>1000000000)=true:=by simp;omega
     have B:decide (vs<=1000000000)=false:=by simpa using D
     rw[A,B];rfl
def noQ(c:UInt8):Bool:=!(c==34)
theorem Fe:∀(l:Str),Go.Lib.indexByte l 34=if cO noQ l<l.length then (cO noQ l:Int)else -1
 | []=>rfl
 | c::r=>by
  unfold Go.Lib.indexByte cO noQ;by_cases h:c=34
  ·subst h;simp
  ·have e:(c==34)=false:=by simpa using h
   rw[e,Fe r];simp only[aD,if_false,Bool.not_false,if_true];by_cases d:cO noQ r<r.length
   ·have f:¬((cO noQ r:Int) == -1)=true:=by simp
    have a:cO noQ r+1<(c::r).length:=by simp;omega
    rw[if_pos d,if_neg f];have b:(cO (fun c=>!c==34) r+1<(c::r).length):=a;rw[if_pos b];show (cO noQ r:Int)+1=((cO noQ r+1:Nat):Int)
    omega
   ·have a:¬(cO noQ r+1<(c::r).length):=by simp;omega
    have b:¬(cO (fun c=>!c==34) r+1<(c::r).length):=a;rw[if_neg d,if_neg b];rfl
theorem DC(a:Str)(b:Nat)(h:b<=a.length):eff.cutL a (some (b:Int)) none=some (a.drop b):=by
 unfold eff.cutL;simp only[Option.getD_some,Option.getD_none];rw[if_pos]
 ·simp
 ·omega
def prC(c:UInt8):Bool:=decide (32<=c.toNat)&&decide (c.toNat<=126)
def prn(s:Str):Bool:=s.all prC
theorem iw(a b:Str):prn (a++b)=(prn a&&prn b):=List.all_append
def abU(c:UInt8):Bool:=!(decide ((c.toNat:Int)<32))&&!(decide ((c.toNat:Int)>126))&&!((c.toNat:Int)==34)
theorem ajh{c:UInt8}(h:abU c=true):prC c=true:=by
 unfold abU at h;unfold prC;simp at h ⊢;omega
theorem Gz(a:Str)(t:a.length<=120):∃v,jb a=some v/\(v=true->prn a=true):=by
 have:=xY (g:=fun (e:Str×Int)=>
  bif (decide (e.2<(e.1.length:Int)))then
   (idx e.1 e.2).bind fun o=>
   bif (decide ((o.toNat:Int)<32))then
    some (.inr (false))
   else
    (idx e.1 e.2).bind fun p=>
    bif (decide ((p.toNat:Int)>126))then
     some (.inr (false))
    else
     (idx e.1 e.2).bind fun q=>
     bif ((q.toNat:Int)==34)then
      some (.inr (false))
     else
      some (.inl (e.1,w64 (e.2+1)))
  else
   some (.inr ((decide ((e.1.length:Int)<=20))))) (fun k=>(a,(k:Int))) a abU (fun k=>if k<a.length then some false else some (decide ((a.length:Int)<=20))) ?_ ?_ ?_ a.length 0 (by omega)
 ·refine⟨if 0+cO abU (a.drop 0)<a.length then false else decide ((a.length:Int)<=20),?_,fun n=>?_⟩
  ·refine (this:jb a=_).trans ?_;split<;>rfl
  ·split at n
   ·cases n
   ·rename_i r;rw[List.drop_zero]at r;refine List.all_eq_true.2 fun c s=>ajh (FT abU a c ?_)
    rw[List.take_of_length_le (by omega)];exact s
 ·intro i d f b;have hi:i<a.length:=(zC.1 f).1;have h:decide ((i:Int)<(a.length:Int))=true:=by simp;omega
  simp only[h,ab,au,f,zA,ig (show i<=1000 by omega)];unfold abU at b;cases j:decide ((d.toNat:Int)<32)<;>cases l:decide ((d.toNat:Int)>126)<;>cases m:((d.toNat:Int)==34)<;>rw[j,l,m]at b<;>first | rfl | cases b
 ·intro i d f b;have hi:i<a.length:=(zC.1 f).1;have h:decide ((i:Int)<(a.length:Int))=true:=by simp;omega
  simp only[h,ab,au,f,zA,if_pos hi];unfold abU at b;cases j:decide ((d.toNat:Int)<32)<;>cases l:decide ((d.toNat:Int)>126)<;>cases m:((d.toNat:Int)==34)<;>rw[j,l,m]at b<;>first | rfl | cases b
 ·have h:decide ((a.length:Int)<(a.length:Int))=false:=by simp
  simp only[h,aa,Nat.lt_irrefl,if_false];rfl
theorem acQ(d:UInt8):((d.toNat:Int) != 34)=noQ d:=by
 unfold noQ;by_cases h:d=34
 ·subst h;rfl
 ·have a:¬(d.toNat=34):=fun e=>h (UInt8.toNat_inj.1 e)
  have b:((d.toNat:Int)==34)=false:=by
   rw[beq_eq_false_iff_ne];intro e;exact a (by exact_mod_cast e)
  have c:(d==34)=false:=by simpa using h
  rw[bne,b,c]
theorem aaL(a:Str)(b:Nat)(s:a.length<=120)(n:a[b]?=some 34)(k:Nat)(o:k=b+1+cO noQ (a.drop (b+1))) :
  nS a (b:Int)=if k<a.length then (fK ((a.take k).drop (b+1))).bind (fun v=>some (⟨3,0,b,(a.take k).drop (b+1)⟩,bif v then ((k+1-b:Nat):Int)else 0))
   else some (⟨3,0,b,(a.take k).drop (b+1)⟩,0):=by
 have t:b<a.length:=(zC.1 n).1;have j:k<=a.length:=by
  have:=qB noQ (a.drop (b+1));rw[List.length_drop]at this;omega
 have p:isLet (34:UInt8)=false:=rfl;have q:fP (34:UInt8)=false:=rfl;have r:(((34:UInt8).toNat:Int)==34)=true:=rfl;unfold nS;rw[au,n];simp only[zA,ql,qA,p,q,r,ab,aa,ig (show b<=1000 by omega)];refine (xY (fun k=>(a,(b:Int),(0:Int),(0:Int),(0:Int),([]:Str),(0:Int),(0:Int),(b:Int),([]:Str),(k:Int))) a noQ
  (fun k=>(eff.cutL a (some ((b+1:Nat):Int)) (some (k:Int))).bind fun c=>bif ((k:Int)==(a.length:Int))then some (aI.mk 3 0 (b:Int) c,(0:Int))else
   (fK c).bind fun l=>bif (!l)then some (aI.mk 3 0 (b:Int) c,(0:Int))else some (aI.mk 3 0 (b:Int) c,w64 ((w64 ((k:Int)+1))-(b:Int)))) ?_ ?_ ?_ (a.length-(b+1)) (b+1) (by omega)).trans ?_
 ·intro i d f e;have hi:i<a.length:=(zC.1 f).1;have g:decide ((i:Int)<(a.length:Int))=true:=by simp;omega
  simp only[g,ab,au,f,zA,acQ,e,ig (show i<=1000 by omega)]
 ·intro i d f e;have hi:i<a.length:=(zC.1 f).1;have g:decide ((i:Int)<(a.length:Int))=true:=by simp;omega
  simp only[g,ab,au,f,zA,acQ,e,aa,ig (show b<=1000 by omega)]
 ·have g:decide ((a.length:Int)<(a.length:Int))=false:=by simp
  simp only[g,aa,ig (show b<=1000 by omega)]
 ·rw[<- o,qW a (b+1) k (by omega) j];simp only[zA];by_cases h:k<a.length
  ·have m:((k:Int)==(a.length:Int))=false:=by rw[beq_eq_false_iff_ne];omega
   rw[if_pos h,m];simp only[aa,ig (show k<=1000 by omega),BD (show b<=k+1 by omega) (show k+1<=1000 by omega)];congr 1;funext v;cases v<;>rfl
  ·have m:((k:Int)==(a.length:Int))=true:=by rw[beq_iff_eq];omega
   rw[if_neg h,m];rfl
theorem afh(a:Str)(b:Nat)(o:a.length<=120)(f:a[b]?=some 34)(k:Nat)(p:k=b+1+cO noQ (a.drop (b+1))) :
  kD a (b:Int)=if k<a.length then (jb ((a.take k).drop (b+1))).bind (fun v=>some (⟨3,0,b,(a.take k).drop (b+1)⟩,((k+1:Nat):Int),v))
   else some (⟨0,0,0,[]⟩,0,false):=by
 have q:b<a.length:=(zC.1 f).1;have d:k<=a.length:=by
  have:=qB noQ (a.drop (b+1));rw[List.length_drop]at this;omega
 have g:decide (((34:UInt8).toNat:Int)>=97)=false:=rfl;have h:decide (((34:UInt8).toNat:Int)>=48)=false:=rfl;have i:(((34:UInt8).toNat:Int)==34)=true:=rfl;have ld:(a.drop (b+1)).length=a.length-(b+1):=List.length_drop;have ib:fV (a.drop (b+1)) 34=some (if cO noQ (a.drop (b+1))<(a.drop (b+1)).length then (cO noQ (a.drop (b+1)):Int)else -1):=by
  rw[<- Fe];rfl
 unfold kD;rw[au,f];simp only[zA,g,h,i,ab,aa,ig (show b<=1000 by omega),DC a (b+1) (by omega),ib];by_cases c:k<a.length
 ·have e:cO noQ (a.drop (b+1))<(a.drop (b+1)).length:=by omega
  have j:decide ((cO noQ (a.drop (b+1)):Int)<0)=false:=by simp
  have l:w64 (((b+1:Nat):Int)+(cO noQ (a.drop (b+1)):Int))=(k:Int):=by rw[bM (by omega) (by omega)];omega
  have m:w64 ((w64 ((b:Int)+(cO noQ (a.drop (b+1)):Int)))+2)=((k+1:Nat):Int):=by
   rw[bM (n:=(b:Int)+(cO noQ (a.drop (b+1)):Int)) (by omega) (by omega),bM (by omega) (by omega)];omega
  rw[if_pos e,if_pos c,j];simp only[aa,l,m,qW a (b+1) k (by omega) d,zA]
 ·have e:¬cO noQ (a.drop (b+1))<(a.drop (b+1)).length:=by omega
  rw[if_neg e,if_neg c];rfl
theorem neN(c n:UInt8)(h:c≠n):((c.toNat:Int)==(n.toNat:Int))=false:=by
 rw[beq_eq_false_iff_ne];intro e;exact h (UInt8.toNat_inj.1 (by exact_mod_cast e))
def sy9(c:UInt8):Prop:=c=40\/c=41\/c=91\/c=93\/c=44\/c=43\/c=45\/c=42\/c=60
theorem amv(a:Str)(b:Nat){c:UInt8}(d:a[b]?=some c)(h:sy9 c):mO a (b:Int)=some 1:=by
 unfold mO;rw[au,d];simp only[zA];rcases h with rfl | rfl | rfl | rfl | rfl | rfl | rfl | rfl | rfl<;>rfl
theorem amw(a:Str)(b:Nat){c:UInt8}(e:a[b]?=some c)(h:¬sy9 c)(f:c≠61):mO a (b:Int)=some 0:=by
 unfold sy9 at h;simp only[not_or]at h;obtain⟨g,i,j,k,l,m,n,o,p⟩:=h;have q:((c.toNat:Int)==40)=false:=neN c 40 g;have r:((c.toNat:Int)==41)=false:=neN c 41 i;have s:((c.toNat:Int)==91)=false:=neN c 91 j;have t:((c.toNat:Int)==93)=false:=neN c 93 k;have u:((c.toNat:Int)==44)=false:=neN c 44 l;have v:((c.toNat:Int)==43)=false:=neN c 43 m;have w:((c.toNat:Int)==45)=false:=neN c 45 n;have x:((c.toNat:Int)==42)=false:=neN c 42 o;have y:((c.toNat:Int)==60)=false:=neN c 60 p;have d:((c.toNat:Int)==61)=false:=neN c 61 f;unfold mO;rw[au,e];simp only[zA,q,r,s,t,u,v,w,x,y,d,aa]
theorem amu(a:Str)(b:Nat)(g:a.length<=120)(e:a[b]?=some 61):mO a (b:Int)=some (if a[b+1]?=some 61 then 2 else 1):=by
 have i:b<a.length:=(zC.1 e).1;unfold mO;rw[au,e];simp only[zA,ig (show b<=1000 by omega)];show (bif (decide (((b+1:Nat):Int)<(a.length:Int)))then _ else _)=_
 by_cases c:b+1<a.length
 ·have d:decide (((b+1:Nat):Int)<(a.length:Int))=true:=by simp;omega
  rw[d,au,zF c];simp only[ab,zA];by_cases h:a[b+1]=61
  ·rw[h];rfl
  ·have f:((a[b+1].toNat:Int)==61)=false:=neN _ 61 h;rw[f,if_neg (by simpa using h)];rfl
 ·have d:decide (((b+1:Nat):Int)<(a.length:Int))=false:=by simp;omega
  rw[d,zJ (by omega)];rfl
noncomputable def xX(a:Str)(b:Nat)(c:UInt8):Nat:=open Classical in if sy9 c then 1 else if c=61 then (if a[b+1]?=some 61 then 2 else 1)else 0
theorem aiB(a:Str)(b:Nat)(f:a.length<=120){c:UInt8}(d:a[b]?=some c):mO a (b:Int)=some (xX a b c:Int):=by
 unfold xX;by_cases h:sy9 c
 ·rw[if_pos h];exact amv a b d h
 ·rw[if_neg h];by_cases e:c=61
  ·subst e;rw[if_pos rfl,amu a b f d];split<;>rfl
  ·rw[if_neg e];exact amw a b d h e
theorem acS(a:Str)(b:Nat){c:UInt8}(d:a[b]?=some c):b+xX a b c<=a.length/\xX a b c<=2:=by
 have e:b<a.length:=(zC.1 d).1;unfold xX;split
 ·omega
 ·split
  ·split
   ·rename_i h;have:=(zC.1 h).1;omega
   ·omega
  ·omega
theorem aeo(a:Str)(b:Nat)(e:a.length<=120){c:UInt8}(d:a[b]?=some c)(f:isLet c=false)(g:fP c=false)(h:c≠34) :
  nS a (b:Int)=some (⟨4,0,b,(a.take (b+xX a b c)).drop b⟩,(xX a b c:Int)):=by
 have m:b<a.length:=(zC.1 d).1;have i:=acS a b d;have j:((c.toNat:Int)==34)=false:=neN c 34 h;have k:w64 ((b:Int)+(xX a b c:Int))=((b+xX a b c:Nat):Int):=by rw[bM (by omega) (by omega)];omega
 have l:b+xX a b c-b=xX a b c:=by omega
 unfold nS;rw[au,d];simp only[zA,ql,qA,f,g,j,aa,aiB a b e d,k,qW a b _ (Nat.le_add_right _ _) i.1,BD (Nat.le_add_right b (xX a b c)) (show b+xX a b c<=1000 by omega),l]
theorem afi(a:Str)(b:Nat)(r:a.length<=120){c:UInt8}(j:a[b]?=some c)(d:isLet c=false)(e:fP c=false)(k:c≠34) :
  kD a (b:Int)=bif Go.Lib.hasPrefix (a.drop b) [61,61]then some (⟨4,0,b,[61,61]⟩,((b+2:Nat):Int),true)
   else some (⟨4,0,b,(a.take (b+1)).drop b⟩,((b+1:Nat):Int),decide (Go.Lib.indexByte [40,41,91,93,44,43,45,42,60,61] c>=0)):=by
 have s:b<a.length:=(zC.1 j).1;have l:((c.toNat:Int)==34)=false:=neN c 34 k;have m:w64 ((b:Int)+2)=((b+2:Nat):Int):=by rw[bM (by omega) (by omega)];rfl
 have ep:mX (a.drop b) [61,61]=some (Go.Lib.hasPrefix (a.drop b) [61,61]):=rfl;have eb:fV [40,41,91,93,44,43,45,42,60,61] (c.toNat:Int)=some (Go.Lib.indexByte [40,41,91,93,44,43,45,42,60,61] c):=by
  unfold fV;rw[aw];simp
 have core:((eff.cutL a (some (b:Int)) none).bind fun f=>(mX f [61,61]).bind fun g=>
   bif g then some (aI.mk 4 0 (b:Int) [61,61],w64 ((b:Int)+2),true)else
   (eff.cutL a (some (b:Int)) (some (w64 ((b:Int)+1)))).bind fun h=>
   (fV [40,41,91,93,44,43,45,42,60,61] (c.toNat:Int)).bind fun i=>some (aI.mk 4 0 (b:Int) h,w64 ((b:Int)+1),(decide (i>=0)))) =
   bif Go.Lib.hasPrefix (a.drop b) [61,61]then some (⟨4,0,b,[61,61]⟩,((b+2:Nat):Int),true)
   else some (⟨4,0,b,(a.take (b+1)).drop b⟩,((b+1:Nat):Int),decide (Go.Lib.indexByte [40,41,91,93,44,43,45,42,60,61] c>=0)):=by
  simp only[DC a b (by omega),zA,ep,eb,ig (show b<=1000 by omega),m,qW a b (b+1) (by omega) (by omega)]
 unfold isLet at d;unfold fP at e;unfold kD;rw[au,j];simp only[zA,(y7 c).1,(y7 c).2.1,(y7 c).2.2.1,(y7 c).2.2.2,l];cases n:decide (97<=c.toNat)<;>cases o:decide (c.toNat<=122)<;>cases p:decide (48<=c.toNat)<;>cases q:decide (c.toNat<=57)<;>rw[n,o]at d<;>rw[p,q]at e<;>first | exact core | exact absurd d (by decide) | exact absurd e (by decide)
theorem drop_cons(a:Str)(b:Nat){c:UInt8}(d:a[b]?=some c):a.drop b=c::a.drop (b+1):=by
 have f:b<a.length:=(zC.1 d).1;have e:a[b]=c:=by rw[zF f]at d;exact aM d
 rw[List.drop_eq_getElem_cons f,e]
theorem ahA(a:Str)(b:Nat)(o:a.length<=120){c:UInt8}(n:a[b]?=some c)(p:isLet c=false)(q:fP c=false)(s:c≠34) :
  (xX a b c=0->∃t e,kD a (b:Int)=some (t,e,false)) /\
  (0<xX a b c->kD a (b:Int)=some (⟨4,0,b,(a.take (b+xX a b c)).drop b⟩,((b+xX a b c:Nat):Int),true)):=by
 have i:=drop_cons a b n;rw[afi a b o n p q s];unfold xX;by_cases h:sy9 c
 ·have f:Go.Lib.hasPrefix (a.drop b) [61,61]=false:=by
   rw[i];rcases h with rfl | rfl | rfl | rfl | rfl | rfl | rfl | rfl | rfl<;>rfl
  have hi:decide (Go.Lib.indexByte [40,41,91,93,44,43,45,42,60,61] c>=0)=true:=by
   rcases h with rfl | rfl | rfl | rfl | rfl | rfl | rfl | rfl | rfl<;>rfl
  rw[if_pos h,f,hi];exact⟨fun e=>absurd e (by decide),fun _=>rfl⟩
 ·rw[if_neg h];by_cases k:c=61
  ·subst k;rw[if_pos rfl];by_cases h2q:a[b+1]?=some 61
   ·have j:=drop_cons a (b+1) h2q;have f:Go.Lib.hasPrefix (a.drop b) [61,61]=true:=by rw[i,j];rfl
    have u:(a.take (b+2)).drop b=[61,61]:=by
     rw[List.drop_take,i,j];have:b+2-b=2:=by omega
     rw[this];rfl
    rw[if_pos h2q,f,u];exact⟨fun e=>absurd e (by decide),fun _=>rfl⟩
   ·have f:Go.Lib.hasPrefix (a.drop b) [61,61]=false:=by
     rw[i];cases v:a.drop (b+1)with
     | nil=>rfl
     | cons d r=>
      have m:a[b+1]?=some d:=by
       have:=congrArg (fun l:Str=>l[0]?) v;simpa using this
      have g:(61==d)=false:=by
       rw[beq_eq_false_iff_ne];intro e;exact h2q (by rw[m,e])
      show (((61:UInt8)==61)&&((61==d)&&_))=false
      rw[g];rfl
    rw[if_neg h2q,f];exact⟨fun e=>absurd e (by decide),fun _=>rfl⟩
  ·rw[if_neg k];unfold sy9 at h;simp only[not_or]at h;obtain⟨w,x,y,z,A,B,C,D,E⟩:=h;have f:Go.Lib.hasPrefix (a.drop b) [61,61]=false:=by
    rw[i];have g:(61==c)=false:=by rw[beq_eq_false_iff_ne];exact fun e=>k e.symm
    show ((61==c)&&_)=false
    rw[g];rfl
   have hi:decide (Go.Lib.indexByte [40,41,91,93,44,43,45,42,60,61] c>=0)=false:=by
    simp[Go.Lib.indexByte,Ne.symm w,Ne.symm x,Ne.symm y,Ne.symm z,Ne.symm A,Ne.symm B,Ne.symm C,Ne.symm D,Ne.symm E,Ne.symm k]
   rw[f,hi];exact⟨fun _=>⟨_,_,rfl⟩,fun e=>absurd e (by decide)⟩
theorem FQ{p:UInt8->Bool}{a:Str}{b:Nat}{c:UInt8}(d:a[b]?=some c)(e:p c=true):1<=cO p (a.drop b):=by
 rw[drop_cons a b d];unfold cO;rw[if_pos e];omega
theorem Un{a:Str}{b n:Nat}{c:UInt8}(d:a[b]?=some c)(h:1<=n):∃r,(a.take (b+n)).drop b=c::r:=by
 obtain⟨k,rfl⟩:∃k,n=k+1:=⟨n-1,by omega⟩;rw[List.drop_take,drop_cons a b d];have e:b+(k+1)-b=k+1:=by omega
 rw[e,List.take_succ_cons];exact⟨_,rfl⟩
theorem VK{a:Str}{b k:Nat}(c:a.length<=120):((a.take k).drop b).length<=120:=by simp;omega
theorem I4(c:UInt8)(r:Str):letter (c::r)=isLet c:=by
 show decide (97<=c.toNat/\c.toNat<=122)=isLet c
 unfold isLet;rw[Bool.decide_and]
theorem aea(a:Str)(b:Nat)(g:a.length<=120){c:UInt8}(f:a[b]?=some c) :
  (∃(t:aI) (n:Nat),1<=n/\b+n<=a.length/\Vo t/\kD a (b:Int)=some (t,((b+n:Nat):Int),true)/\nS a (b:Int)=some (t,(n:Int))) \/
  ((∃t e,kD a (b:Int)=some (t,e,false))/\∃t,nS a (b:Int)=some (t,0)):=by
 have z:b<a.length:=(zC.1 f).1;have hrun:∀(p:UInt8->Bool),b+cO p (a.drop b)<=a.length:=by
  intro p;have:=qB p (a.drop b);rw[List.length_drop]at this;omega
 cases h:isLet c with
 | true=>
  have q:tC c=true:=by unfold tC;rw[h];rfl
  have hi:=afj a b g f h;have d:=aaM a b g f h;by_cases s:cO tC (a.drop b)<=8
  ·rw[ae s]at hi;rw[if_neg (by omega)]at d;exact .inl ⟨_,_,FQ f q,hrun tC,⟨Int.natCast_nonneg b,fun _=>by obtain⟨r,e⟩:=Un f (FQ f q);exact (congrArg letter e).trans ((I4 c r).trans h),fun e=>absurd e (by simp),VK g⟩,hi,d⟩
  ·rw[ac s]at hi;rw[if_pos (by omega)]at d;exact .inr ⟨⟨_,_,hi⟩,⟨_,d⟩⟩
 | false=>
  cases j:fP c with
  | true=>
   obtain⟨vi,vs,ok,oks,hi,d,k,x⟩:=aiz a b g f j;cases l:ok with
   | true=>
    rw[l]at k hi;have y:=x l;subst y;rw[if_pos k.symm]at d;exact .inl ⟨_,_,FQ f j,hrun fP,⟨Int.natCast_nonneg b,fun e=>absurd e (by simp),fun e=>absurd e (by simp),by simp⟩,hi,d⟩
   | false=>
    rw[l]at k hi;rw[if_neg (by rw[<- k];decide)]at d;exact .inr ⟨⟨_,_,hi⟩,⟨_,d⟩⟩
  | false=>
   by_cases m:c=34
   ·subst m;have hi:=afh a b g f _ rfl;have d:=aaL a b g f _ rfl;by_cases i:b+1+cO noQ (a.drop (b+1))<a.length
    ·rw[if_pos i]at hi d;obtain⟨v,u,_⟩:=Gz ((a.take (b+1+cO noQ (a.drop (b+1)))).drop (b+1)) (by simp;omega);have o:fK ((a.take (b+1+cO noQ (a.drop (b+1)))).drop (b+1))=some v:=u;rw[u]at hi;rw[o]at d;cases v with
     | true=>
      refine .inl ⟨_,b+1+cO noQ (a.drop (b+1))+1-b,by omega,by omega,⟨Int.natCast_nonneg b,fun e=>absurd e (by simp),fun e=>absurd e (by simp),VK g⟩,?_,d⟩;have e:b+(b+1+cO noQ (a.drop (b+1))+1-b)=b+1+cO noQ (a.drop (b+1))+1:=by omega
      rw[e];exact hi
     | false=>exact .inr ⟨⟨_,_,hi⟩,⟨_,d⟩⟩
    ·rw[if_neg i]at hi d;exact .inr ⟨⟨_,_,hi⟩,⟨_,d⟩⟩
   ·have hi:=ahA a b g f h j m;have d:=aeo a b g f h j m;by_cases w:xX a b c=0
    ·rw[w]at d;exact .inr ⟨hi.1 w,⟨_,d⟩⟩
    ·exact .inl ⟨_,_,by omega,(acS a b f).1,⟨Int.natCast_nonneg b,fun e=>absurd e (by simp),fun _=>by obtain⟨r,e⟩:=Un f (show 1<=xX a b c by omega);exact (congrArg letter e).trans ((I4 c r).trans h),VK g⟩,hi.2 (by omega),d⟩
theorem ab5{ρ:Type}{X:Type}(f g:X->Option (X⊕ρ))(P:Nat->X->Prop)(R:ρ->Prop)
  (h:∀m x,P m x->(∃r,R r/\f x=some (.inr r)/\g x=some (.inr r))\/(∃y k,k<m/\P k y/\f x=some (.inl y)/\g x=some (.inl y))) :
  ∀m x,P m x->∃r,R r/\aA f x=some r/\aA g x=some r:=by
 intro m;induction m using Nat.strongRecOn with
 | _ m ih=>
  intro x c;rw[aF f,aF g];rcases h m x c with ⟨r,d,a,b⟩ | ⟨y,k,e,i,a,b⟩
  ·rw[a,b];exact⟨r,d,rfl,rfl⟩
  ·rw[a,b];exact ih k e y i
theorem OH(a:Str):∃r,(r.2<0->dW r.1 (a.length:Int))/\Ep a=some r/\xZ a=some r:=by
 unfold Ep xZ;by_cases j:(a.length:Int)>120
 ·rw[ae j];exact⟨_,fun h=>absurd h (by decide),rfl,rfl⟩
 ·rw[ac j];simp only[aa];have d:a.length<=120:=by omega
  refine ab5 _ _ (fun m x=>∃toks b,x=(a,toks,((b:Nat):Int))/\b<=a.length/\m=a.length-b/\toks.length<=60/\∀t,t∈toks->Vo t) (fun (r:List aI×Int)=>r.2<0->dW r.1 (a.length:Int)) ?_ a.length (a,[],0) ⟨[],0,rfl,by omega,by omega,by simp,by simp⟩;rintro m _ ⟨toks,b,rfl,s,rfl,k,hall⟩;simp only;by_cases f:b<a.length
  ·have g:decide ((b:Int)<(a.length:Int))=true:=by simp;omega
   have l:=zF f;simp only[g,ab,au,l,zA];cases v:((a[b].toNat:Int)==32)with
   | true=>
    exact .inr ⟨(a,toks,((b+1:Nat):Int)),a.length-(b+1),by omega,⟨toks,b+1,rfl,by omega,rfl,k,hall⟩,by rw[ig (by omega)];rfl,by rw[ig (by omega)];rfl⟩
   | false=>
    rcases aea a b d l with ⟨t,n,w,o,i,ei,es⟩ | ⟨⟨t,e,ei⟩,⟨t',es⟩⟩
    ·have en:((n:Int)==0)=false:=by rw[beq_eq_false_iff_ne];omega
     have ew:w64 ((b:Int)+(n:Int))=((b+n:Nat):Int):=by rw[bM (by omega) (by omega)];omega
     simp only[ei,es,zA,en,ew,aa,aE];cases p:((toks.length:Int)==60)with
     | true=>exact .inl ⟨([],(b:Int)),fun h=>by simp at h;omega,rfl,rfl⟩
     | false=>
      have y:toks.length<60:=by
       have:¬((toks.length:Int)=60):=by simpa using p
       omega
      have q:gd (toks.length+[t].length)=some ():=by
       unfold gd;rw[if_pos (by simp;omega)]
      rw[q];exact .inr ⟨(a,toks++[t],((b+n:Nat):Int)),a.length-(b+n),by omega,⟨toks++[t],b+n,rfl,o,rfl,by simp;omega,fun u c=>by rcases List.mem_append.1 c with c | c;exact hall u c;rw[List.mem_singleton.1 c];exact i⟩,rfl,rfl⟩
    ·simp only[ei,es,zA];exact .inl ⟨([],(b:Int)),fun h=>by simp at h;omega,rfl,rfl⟩
  ·have g:decide ((b:Int)<(a.length:Int))=false:=by simp;omega
   simp only[g,aa];exact .inl ⟨(toks,-1),fun _=>⟨hall,by simp,k⟩,rfl,rfl⟩
end Go.Proofs.YtngjomkjlonfpaaGreat
/- Plain laws: one node, valid on both sides alike. Plain laws: nesting and nodes of expressions alike. Plain laws: expressions that a parser reads: few nodes, short texts; validity is alike on both sides. -/
namespace Go.Proofs.YtngjomkjlonfpaaGreat
open Go.Abs Go.Proofs
theorem oV{α:Type}(c:Bool){a b a' b':α}(d:a=a')(e:b=b'):(bif c then a else b)=bif c then a' else b':=by rw[d,e]
theorem Uj(a b c:Int):iH a b c=kX a b c:=rfl
theorem oH(a b c:Int):kX a b c=some (decide (a>=b)&&decide (a<=c)):=by
 unfold kX;cases decide (a>=b)<;>rfl
theorem aal(a:Str):gQ a=dP a:=rfl
theorem abY(e:af)(c:e.text.length<=34359738368)(d:∃v,fK e.text=some v)(f:∃v,bU e.text=some v):Jk e=lU e:=by
 obtain⟨v,g⟩:=d;obtain⟨u,h⟩:=f;unfold Jk lU;simp only[Uj,oH,aal,GH,oI e.text c,g,h,zA];generalize (e.text==[])=p;generalize ((e.args.length:Int)==0)=a;generalize ((e.args.length:Int)==2)=b;generalize (decide (e.n>=0)&&decide (e.n<=1000000000))=w1;generalize (decide (e.n>=1)&&decide (e.n<=5))=i;refine oV _ ?_ (oV _ ?_ (oV _ ?_ (oV _ rfl (oV _ rfl (oV _ ?_ (oV _ ?_ (oV _ ?_ rfl)))))))
 ·cases p<;>cases a<;>cases w1<;>rfl
 ·cases a<;>cases v<;>cases (e.n==0)<;>rfl
 ·cases a<;>cases u<;>cases (e.n==0)<;>rfl
 ·cases p<;>cases b<;>cases i<;>rfl
 ·cases b<;>cases u<;>cases (e.n==0)<;>rfl
 ·cases b<;>cases u<;>cases (e.n==0)<;>rfl
theorem QO{X ρ:Type}{f:X->Option (X⊕ρ)}{x:X}{r:ρ}{n:Nat}(a:iter f n x=some r):aA f x=some r:=by
 have hh:∃n r,iter f n x=some r:=⟨n,r,a⟩;unfold aA;rw[dif_pos hh];exact congrArg some (KH hh.choose_spec.choose_spec a)
theorem Zd{X Y ρ:Type}{f:X->Option (X⊕ρ)}{g:Y->Option (Y⊕ρ)}(P:X->Y->Prop)
  (H:∀x y,P x y->(f x=none/\g y=none)\/(∃r,f x=some (.inr r)/\g y=some (.inr r))\/(∃x' y',P x' y'/\f x=some (.inl x')/\g y=some (.inl y')))
  {x:X} {y:Y} (h:P x y):aA f x=aA g y:=by
 have hi:∀(n:Nat) (x:X) (y:Y),P x y->iter f n x=iter g n y:=by
  intro n;induction n with
  | zero=>intro x y _;rfl
  | succ n ih=>
   intro x y i;unfold iter;rcases H x y i with ⟨b,a⟩ | ⟨r,b,a⟩ | ⟨x',y',d,b,a⟩
   ·rw[b,a]
   ·rw[b,a]
   ·rw[b,a];exact ih x' y' d
 cases e:aA f x with
 | some r=>
  obtain⟨n,c⟩:=qH e;rw[hi n x y h]at c;exact (QO c).symm
 | none=>
  cases a:aA g y with
  | none=>rfl
  | some r=>
   obtain⟨n,c⟩:=qH a;rw[<- hi n x y h]at c;rw[QO c]at e;cases e
theorem UC(m r:Int):pz m r=some (if r>m then r else m):=by
 unfold pz;by_cases h:m>r
 ·rw[ae h,if_neg (by omega)];rfl
 ·rw[ac h];by_cases a:r>m
  ·rw[if_pos a];rfl
  ·rw[if_neg a];have:r=m:=by omega
   rw[this];rfl
theorem TI:∀(n:Nat) (e:af),wS n e=je n e:=by
 intro n;induction n with
 | zero=>intro e;rfl
 | succ n ih=>
  intro e;show Dn (wS n) e=lS (je n) e
  unfold Dn lS;refine Zd (fun x y=>∃m i:Int,x=(m,e.args,(e.args.length:Int),i)/\y=(e.kind,e.n,e.text,e.args,m,i)) ?_ ⟨0,0,rfl,rfl⟩;rintro _ _ ⟨m,i,rfl,rfl⟩;simp only;cases decide (i<(e.args.length:Int))with
  | false=>exact .inr (.inl ⟨_,rfl,rfl⟩)
  | true=>
   simp only[ab];cases idx e.args i with
   | none=>exact .inl ⟨rfl,rfl⟩
   | some x=>
    simp only[zA,ih];cases je n (aj x)with
    | none=>exact .inl ⟨rfl,rfl⟩
    | some r=>
     simp only[zA,UC];exact .inr (.inr ⟨_,_,⟨_,_,rfl,rfl⟩,rfl,rfl⟩)
theorem aeU(x:af):aj x=x:=by cases x;rfl
theorem ahz{α:Type}{xs:List α}{i:Int}{x:α}(h:idx xs i=some x):x∈xs:=by
 unfold idx at h;split at h
 ·exact zG h
 ·cases h
theorem Y9(P:af->Prop)(hsub:∀e x,P e->x∈e.args->P x)(hnode:∀e,P e->Jk e=lU e):∀(n:Nat) (e:af),P e->Aw n e=nI n e:=by
 intro n;induction n with
 | zero=>intro e _;rfl
 | succ n ih=>
  intro e a;show Gq (Aw n) e=uU (nI n) e
  unfold Gq uU;refine Zd (fun x y=>∃i:Int,x=(e.kind,e.n,e.text,e.args,e.args,(e.args.length:Int),i)/\y=(e.kind,e.n,e.text,e.args,i)) ?_ ⟨0,rfl,rfl⟩;rintro _ _ ⟨i,rfl,rfl⟩;simp only;cases decide (i<(e.args.length:Int))with
  | false=>
   have b:Jk ⟨e.kind,e.n,e.text,e.args⟩=lU ⟨e.kind,e.n,e.text,e.args⟩:=by
    have:=hnode e a;cases e;exact this
   simp only[aa,b];cases lU ⟨e.kind,e.n,e.text,e.args⟩with
   | none=>exact .inl ⟨rfl,rfl⟩
   | some r=>exact .inr (.inl ⟨_,rfl,rfl⟩)
  | true=>
   simp only[ab];cases c:idx e.args i with
   | none=>exact .inl ⟨rfl,rfl⟩
   | some x=>
    simp only[zA,aeU,ih x (hsub e x a (ahz c))];cases nI n x with
    | none=>exact .inl ⟨rfl,rfl⟩
    | some r=>
     simp only[zA];cases r with
     | false=>exact .inr (.inl ⟨_,rfl,rfl⟩)
     | true=>exact .inr (.inr ⟨_,_,⟨_,rfl,rfl⟩,rfl,rfl⟩)
theorem Vs{x:af}:∀ {xs:List af},x∈xs->wtE x<=wtL xs
 | [],h=>by cases h
 | y::r,h=>by
  rcases a8.1 h with rfl | h
  ·show _<=wtE x+wtL r;omega
  ·have:=Vs h;show _<=wtE y+wtL r;omega
theorem DV(e:af):1+wtL e.args<=wtE e:=by
 obtain⟨k,n,t,a⟩:=e;show 1+wtL a<=(if t.length<=120 then 1 else 18446744073709551616)+wtL a
 split<;>omega
theorem acL(e:af):1<=wtE e:=by have:=DV e;omega
theorem Vt:∀(xs:List af),xs.length<=wtL xs
 | []=>by simp
 | x::r=>by
  have:=Vt r;have:=acL x;show r.length+1<=wtE x+wtL r;omega
theorem su{x e:af}(h:x∈e.args):wtE x+1<=wtE e:=by
 have:=Vs h;have:=DV e;omega
theorem NY{e:af}(h:wtE e<=1048576):e.text.length<=120:=by
 obtain⟨k,n,t,a⟩:=e;have h:(if t.length<=120 then 1 else 18446744073709551616)+wtL a<=1048576:=h;show t.length<=120
 split at h
 ·assumption
 ·omega
theorem afN{e:af}(h:wtE e<=1048576):wtE e=1+wtL e.args:=by
 have:=NY h;obtain⟨k,n,t,a⟩:=e;exact DU this
theorem uH{e:af}:e.args.length+1<=wtE e:=by
 have:=DV e;have:=Vt e.args;omega
theorem Uu{e:af}:siz e.args<siz e:=by
 cases e;simp only[siz];rw[af.mk.sizeOf_spec];omega
theorem XY{x:af}{xs:List af}(h:x∈xs):siz x+1<=siz xs:=by
 have:=List.sizeOf_lt_of_mem h;simp only[siz];omega
theorem gm{x e:af}(h:x∈e.args):siz x+2<=siz e:=by
 have:=XY h;have:=Uu (e:=e);omega
theorem Oq{xs:List af}{i:Nat}{x:af}(h:xs[i]?=some x):wtL (xs.take (i+1))=wtL (xs.take i)+wtE x:=by
 obtain⟨hi,rfl⟩:=zC.1 h;rw[List.take_succ_eq_append_getElem hi,Fv,acK]
theorem wz(xs:List af)(i:Nat):wtL (xs.take i)<=wtL xs:=by
 have h:wtL (xs.take i)+wtL (xs.drop i)=wtL xs:=by rw[<- Fv,List.take_append_drop]
 omega
theorem dL{α X ρ σ:Type}{g:X->Option (X⊕ρ)}(pk:σ->Nat->X)(xs:List α)(I:Nat->σ->Prop)(R:ρ->Prop)
  (f:∀i x s,xs[i]?=some x->I i s->(∃s',g (pk s i)=some (.inl (pk s' (i+1)))/\I (i+1) s')\/∃r,g (pk s i)=some (.inr r)/\R r)
  (h:∀s,I xs.length s->∃r,g (pk s xs.length)=some (.inr r)/\R r) (s:σ) (j:I 0 s):∃r,aA g (pk s 0)=some r/\R r:=by
 have key:∀(k i:Nat) (s:σ),xs.length=i+k->I i s->∃r,aA g (pk s i)=some r/\R r:=by
  intro k;induction k with
  | zero=>
   intro i s hi b;have:i=xs.length:=by omega
   subst this;obtain⟨r,e,a⟩:=h s b;exact⟨r,by rw[aF,e],a⟩
  | succ k ih=>
   intro i s hi b;have c:i<xs.length:=by omega
   rcases f i _ s (zF c) b with ⟨s',e,d⟩ | ⟨r,e,a⟩
   ·obtain⟨r,e',a⟩:=ih (i+1) s' (by omega) d;exact⟨r,by rw[aF,e];exact e',a⟩
   ·exact⟨r,by rw[aF,e],a⟩
 exact key xs.length 0 s (by omega) j
theorem dn{α:Type}{xs:List α}{i:Nat}{x:α}(h:xs[i]?=some x):decide ((i:Int)<(xs.length:Int))=true:=by
 have:=(zC.1 h).1;simp;omega
theorem bP{α:Type}(xs:List α):decide ((xs.length:Int)<(xs.length:Int))=false:=by simp
theorem dm{α:Type}{xs:List α}{i:Nat}{x:α}(h:xs[i]?=some x)(a:xs.length<=34359738368):w64 ((i:Int)+1)=((i+1:Nat):Int):=by
 have:=(zC.1 h).1;rw[bM (by omega) (by omega)];omega
theorem IV:∀(n:Nat) (e:af),siz e<n->wtE e<=1048576->rV n e=some (wtE e:Int)
 | 0,e,h,_=>absurd h (Nat.not_lt_zero _)
 | n+1,e,m,d=>by
  have ih:=IV n;have o:=uH (e:=e);show Dk (rV n) e=_
  unfold Dk;have key:=dL (fun (s:Unit) (i:Nat)=>((((1+wtL (e.args.take i):Nat):Int),e.args,(e.args.length:Int),(i:Int)):Int×(List af)×Int×Int)) e.args (fun _ _=>True) (fun r=>r=(wtE e:Int)) (g:=fun (a:Int×(List af)×Int×Int)=>
   bif (decide (a.2.2.2<a.2.2.1))then
    (idx a.2.1 a.2.2.2).bind fun f=>
    (rV n (aj f)).bind fun j=>
    some (.inl (w64 (a.1+j),a.2.1,a.2.2.1,w64 (a.2.2.2+1)))
   else
    some (.inr (a.1))) (fun i x s b _=>.inl ⟨(),by
   have c:=zG b
   have p:=su c
   have k:=Oq b
   have q:=wz e.args (i+1)
   have t:=DV e
   simp only[dn b,ab,au,b,zA,aP,ih x (by have:=gm c;omega) (by omega),dm b (by omega),k]
   rw[bM (by omega) (by omega)]
   congr 4
   omega,trivial⟩) (fun s _=>⟨_,by simp only[bP,aa];rfl,by rw[List.take_length,afN d]⟩) () trivial
  obtain⟨r,l,rfl⟩:=key;exact l
theorem adA:∀(n:Nat) (e:af) (b:Int),siz e<n->wtE e<=1048576->0<=b->b<=1048576 ->
  ∃r,qx n e b=some r/\(0<=b-wtE e->r=b-wtE e)/\(b-wtE e<0->r = -1)
 | 0,e,b,h,_,_,_=>absurd h (Nat.not_lt_zero _)
 | n+1,e,b,y,o,z,p=>by
  have ih:=adA n;have A:=uH (e:=e);have q:=afN o;show ∃r,yB (qx n) e b=some r/\_
  unfold yB;rw[bM (n:=b-1) (by omega) (by omega)];refine dL (fun (s:Int) (i:Nat)=>((s,e.kind,e.n,e.text,e.args,(i:Int)):Int×Int×Int×Str×(List af)×Int)) e.args
   (fun i s=>(0<=b-1-wtL (e.args.take i)->s=b-1-wtL (e.args.take i))/\(b-1-wtL (e.args.take i)<0->s = -1)) _ (fun i x s c g=>?_) (fun s g=>?_) (b-1) ⟨fun _=>by simp[wtL],fun h=>by simp[wtL]at h;omega⟩
  ·obtain⟨a,d⟩:=g;have l:=zG c;have p:=su l;have m:=Oq c;have B:=wz e.args (i+1);by_cases j:s>=0
   ·obtain⟨r,t,u,v⟩:=ih x s (by have:=gm l;omega) (by omega) j (by
     by_cases f:0<=b-1-wtL (e.args.take i)
     ·have:=a f;omega
     ·have:=d (by omega);omega)
    have w:s=b-1-wtL (e.args.take i):=by
     by_cases f:0<=b-1-wtL (e.args.take i)
     ·exact a f
     ·have:=d (by omega);omega
    refine .inl ⟨r,?_,fun k=>?_,fun k=>?_⟩
    ·simp only[dn c,ab,ae j,au,c,zA,aP,t,dm c (by omega)]
    ·rw[m]at k ⊢;rw[u (by omega)];omega
    ·rw[m]at k;exact v (by omega)
   ·refine .inr ⟨s,?_,fun h=>?_,fun h=>?_⟩
    ·simp only[dn c,ab,ac j,aa]
    ·have:=wz e.args i;have:=a (by omega);omega
    ·have:=a;by_cases f:0<=b-1-wtL (e.args.take i)
     ·have:=a f;omega
     ·exact d (by omega)
  ·obtain⟨a,d⟩:=g;rw[List.take_length]at a d;exact⟨s,by simp only[bP,aa],fun h=>by rw[a (by omega)];omega,fun h=>d (by omega)⟩
theorem Qv:∀(n:Nat) (e:af),siz e<n->wtE e<=1048576->∃r,je n e=some r/\True
 | 0,e,h,_=>absurd h (Nat.not_lt_zero _)
 | n+1,e,f,g=>by
  have ih:=Qv n;have j:=uH (e:=e);show ∃r,lS (je n) e=some r/\_
  unfold lS;refine dL (fun (s:Int) (i:Nat)=>((e.kind,e.n,e.text,e.args,s,(i:Int)):Int×Int×Str×(List af)×Int×Int)) e.args (fun _ _=>True) _ (fun i x s a c=>?_) (fun s c=>?_) 0 trivial
  ·have b:=zG a;obtain⟨r,d,_⟩:=ih x (by have:=gm b;omega) (by have:=su b;omega);refine .inl ⟨if r>s then r else s,?_,trivial⟩;simp only[dn a,ab,au,a,zA,aP,d,UC,dm a (by omega)]
  ·exact⟨_,by simp only[bP,aa];rfl,trivial⟩
theorem aak(a:Str):∃r,dP a=some r/\r<=4/\(0<=r->a.length<=6/\prn a=true):=by
 unfold dP;have go:∀(w:Str) (k:Int) (z:Option Int),w.length<=6/\prn w=true->k<=4->(∃r,z=some r/\r<=4/\(0<=r->a.length<=6/\prn a=true))->∃r,(bif (a==w)then some k else z)=some r/\r<=4/\(0<=r->a.length<=6/\prn a=true):=by
  intro w k z b c d;cases h:(a==w)with
  | true=>
   have e:=eq_of_beq h;exact⟨k,rfl,c,fun _=>by rw[e];exact b⟩
  | false=>exact d
 repeat refine go _ _ _ (by decide) (by decide) ?_
 exact⟨-1,rfl,by decide,fun h=>by omega⟩
structure NC(e:af):Prop where
 pr:prn e.text=true
 k0:1<=e.kind
 k9:e.kind<=9
 num:e.kind=1->0<=e.n/\e.n<=1000000000
 call:e.kind=5->e.args.length<=4
 list:e.kind=4->e.args.length<=8
 op:e.kind=6->e.args.length=2/\1<=e.n/\e.n<=5
 two:e.kind=7\/e.kind=9->e.args.length=2
 three:e.kind=8->e.args.length=3
 leaf:e.kind=1\/e.kind=2\/e.kind=3->e.args=[]
inductive vX:af->Prop
 | mk (e:af) (h:NC e) (hs:∀x,x∈e.args->vX x):vX e
theorem ajk(e:af)(m:∃v,fK e.text=some v/\(v=true->prn e.text=true))(o:∃v,bU e.text=some v/\(v=true->prn e.text=true)):∃v,lU e=some v/\(v=true->NC e):=by
 have p:=oH e.n 0 1000000000;have q:=oH e.n 1 5;obtain⟨w,r,s⟩:=m;obtain⟨v3,t,g⟩:=o;have nl:(e.text==[])=true->prn e.text=true:=fun h=>by rw[eq_of_beq h];rfl
 obtain⟨x,u,y,i⟩:=aak e.text;have no:∃v,(some false:Option Bool)=some v/\(v=true->NC e):=⟨false,rfl,fun h=>(by cases h)⟩;have bb:∀(c:Bool) (z:Option Bool),(c=true->∃v,z=some v/\(v=true->NC e))->∃v,(bif c then z else some false)=some v/\(v=true->NC e):=by
  intro c z j;cases c with
  | true=>exact j rfl
  | false=>exact no
 have kk:∀(k:Int) (z z':Option Bool),(e.kind=k->∃v,z=some v/\(v=true->NC e))->(¬e.kind=k->∃v,z'=some v/\(v=true->NC e))->∃v,(bif (e.kind==k)then z else z')=some v/\(v=true->NC e):=by
  intro k z z' j l;cases h:(e.kind==k)with
  | true=>exact j (eq_of_beq h)
  | false=>exact l (by simpa using h)
 have nil:((e.args.length:Int)==0)=true->e.args=[]:=fun h=>by
  have h:=eq_of_beq h;exact List.length_eq_zero_iff.1 (by omega)
 unfold lU;simp only[p,r,t,u,q,zA];refine kk 1 _ _ (fun f=>bb _ _ fun d=>bb _ _ fun b=>⟨_,rfl,fun a=>?_⟩) fun A=>?_
 ·have a:0<=e.n/\e.n<=1000000000:=by simpa using a
  exact⟨nl b,by omega,by omega,fun _=>a,fun h=>by omega,fun h=>by omega,fun h=>by omega,fun h=>by omega,fun h=>by omega,fun _=>nil d⟩
 refine kk 2 _ _ (fun f=>bb _ _ fun d=>bb _ _ fun b=>⟨_,rfl,fun a=>?_⟩) fun B=>?_
 ·exact⟨s a,by omega,by omega,fun h=>by omega,fun h=>by omega,fun h=>by omega,fun h=>by omega,fun h=>by omega,fun h=>by omega,fun _=>nil d⟩
 refine kk 3 _ _ (fun f=>bb _ _ fun d=>bb _ _ fun b=>⟨_,rfl,fun a=>?_⟩) fun C=>?_
 ·exact⟨g a,by omega,by omega,fun h=>by omega,fun h=>by omega,fun h=>by omega,fun h=>by omega,fun h=>by omega,fun h=>by omega,fun _=>nil d⟩
 refine kk 4 _ _ (fun f=>bb _ _ fun d=>bb _ _ fun b=>⟨_,rfl,fun a=>?_⟩) fun D=>?_
 ·have a:=of_decide_eq_true a;exact⟨nl b,by omega,by omega,fun h=>by omega,fun h=>by omega,fun h=>by omega,fun h=>by omega,fun h=>by omega,fun h=>by omega,fun h=>by omega⟩
 refine kk 5 _ _ (fun f=>bb _ _ fun d=>⟨_,rfl,fun a=>?_⟩) fun E=>?_
 ·have a:=eq_of_beq a;exact⟨(i (by omega)).2,by omega,by omega,fun h=>by omega,fun h=>by omega,fun h=>by omega,fun h=>by omega,fun h=>by omega,fun h=>by omega,fun h=>by omega⟩
 refine kk 6 _ _ (fun f=>bb _ _ fun d=>bb _ _ fun b=>⟨_,rfl,fun a=>?_⟩) fun F=>?_
 ·have b:=eq_of_beq b;have a:1<=e.n/\e.n<=5:=by simpa using a
  exact⟨nl d,by omega,by omega,fun h=>by omega,fun h=>by omega,fun h=>by omega,fun _=>⟨by omega,a⟩,fun h=>by omega,fun h=>by omega,fun h=>by omega⟩
 refine kk 7 _ _ (fun f=>bb _ _ fun d=>bb _ _ fun b=>⟨_,rfl,fun a=>?_⟩) fun G=>?_
 ·have b:=eq_of_beq b;exact⟨g a,by omega,by omega,fun h=>by omega,fun h=>by omega,fun h=>by omega,fun h=>by omega,fun _=>by omega,fun h=>by omega,fun h=>by omega⟩
 refine kk 9 _ _ (fun f=>bb _ _ fun d=>bb _ _ fun b=>⟨_,rfl,fun a=>?_⟩) fun n9=>?_
 ·have b:=eq_of_beq b;exact⟨g a,by omega,by omega,fun h=>by omega,fun h=>by omega,fun h=>by omega,fun h=>by omega,fun _=>by omega,fun h=>by omega,fun h=>by omega⟩
 refine kk 8 _ _ (fun f=>bb _ _ fun d=>bb _ _ fun b=>⟨_,rfl,fun a=>?_⟩) fun H=>no
 ·have a:=eq_of_beq a;exact⟨nl b,by omega,by omega,fun h=>by omega,fun h=>by omega,fun h=>by omega,fun h=>by omega,fun h=>by omega,fun _=>by omega,fun h=>by omega⟩
theorem acM:∀(s:Str) (i:Nat),lM i s=true->prn s=true
 | [],_,_=>rfl
 | c::r,i,h=>by
  have h:(acB i c&&lM (i+1) r)=true:=h;rw[zI]at h;have a:=h.1;unfold acB at a;show (prC c&&prn r)=true
  rw[acM r (i+1) h.2,Bool.and_true];unfold prC;simp at a ⊢;omega
theorem ad4{a:Str}(c:a.length<=34359738368)(h:fJ a=true):prn a=true:=by
 unfold fJ bg at h;rw[Ap a c,zA]at h;cases b:lM 0 a with
 | true=>exact acM a 0 b
 | false=>rw[b]at h;simp at h
theorem zq(e:af)(b:wtE e<=1048576):(∃v,fK e.text=some v/\(v=true->prn e.text=true))/\∃v,bU e.text=some v/\(v=true->prn e.text=true):=by
 have a:=NY b;refine⟨?_,?_⟩
 ·obtain⟨v,c,d⟩:=Gz e.text a;exact⟨v,by rw[<- GH];exact c,d⟩
 ·exact⟨_,D5 e.text a,ad4 (by omega)⟩
theorem aip:∀(n:Nat) (e:af),siz e<n->wtE e<=1048576->∃v,nI n e=some v/\(v=true->vX e)
 | 0,e,h,_=>absurd h (Nat.not_lt_zero _)
 | n+1,e,p,l=>by
  have ih:=aip n;have q:=uH (e:=e);show ∃v,uU (nI n) e=some v/\_
  unfold uU;refine dL (fun (_:Unit) (i:Nat)=>((e.kind,e.n,e.text,e.args,(i:Int)):Int×Int×Str×(List af)×Int)) e.args (fun i _=>∀j x,e.args[j]?=some x->j<i->vX x) _ (fun i x s a c=>?_) (fun s c=>?_) () (fun j x _ b=>absurd b (Nat.not_lt_zero _))
  ·have m:=zG a;obtain⟨v,d,f⟩:=ih x (by have:=gm m;omega) (by have:=su m;omega);simp only[dn a,ab,au,a,zA,aP,d,dm a (by omega)];cases v with
   | false=>exact .inr ⟨false,rfl,fun h=>(by cases h)⟩
   | true=>
    refine .inl ⟨(),rfl,fun j y g b=>?_⟩;by_cases k:j=i
    ·subst k;rw[a]at g;cases g
     exact f rfl
    ·exact c j y g (by omega)
  ·obtain⟨v,d,f⟩:=ajk e (zq e l).1 (zq e l).2;have eta:af.mk e.kind e.n e.text e.args=e:=by cases e;rfl
   refine⟨v,by simp only[bP,aa,eta,d,zA],fun o=>.mk e (f o) fun x a=>?_⟩;obtain⟨j,b⟩:=List.mem_iff_getElem?.1 a;exact c j x b (zC.1 b).1
theorem abX(e:af)(a:wtE e<=1048576):KT e=Ie e:=
 Y9 (fun e=>wtE e<=1048576) (fun e x h b=>by have:=su b;omega) (fun e h=>abY e (by have:=NY h;omega) ((zq e h).1.imp fun _ h=>h.1) ((zq e h).2.imp fun _ h=>h.1)) _ e a
theorem wB(e:af)(a:wtE e<=1048576):∃v,jc e=some v/\gI e=some v/\(v=true->vX e/\wtE e<=40):=by
 have f:QX e=some (wtE e:Int):=IV _ e (Nat.lt_succ_self _) a;obtain⟨r,d,g,i⟩:=adA _ e 40 (Nat.lt_succ_self _) a (by omega) (by omega);have d:Ic e 40=some r:=d;obtain⟨m,b,_⟩:=Qv _ e (Nat.lt_succ_self _) a;have b:zK e=some m:=b;have j:QY e=some m:=(TI _ e).trans b;obtain⟨v,c,k⟩:=aip _ e (Nat.lt_succ_self _) a;have c:Ie e=some v:=c;have l:KT e=some v:=(abX e a).trans c;unfold jc gI;simp only[aP,f,d,b,j,c,l,zA];have n:decide ((wtE e:Int)<=40)=decide (r>=0):=by
  by_cases h:(wtE e:Int)<=40
  ·have:=g (by omega);rw[ae h,ae (by omega)]
  ·have:=i (by omega);rw[ac h,ac (by omega)]
 rw[<- n];by_cases h:(wtE e:Int)<=40
 ·rw[ae h];simp only[ab];cases decide (m<=8)with
  | true=>exact⟨v,rfl,rfl,fun o=>⟨k o,by omega⟩⟩
  | false=>exact⟨false,rfl,rfl,fun h=>(by cases h)⟩
 ·rw[ac h];exact⟨false,rfl,rfl,fun h=>(by cases h)⟩
theorem MJ(a:Str):∃(e:af) (p:Int),vJ a=some (e,p)/\qj a=some (e,p)/\(p<0->vX e/\wtE e<=40):=by
 obtain⟨⟨toks,t⟩,c,hi,d⟩:=OH a;obtain⟨e,p,f,g,h⟩:=abP a hi d c (fun e m=>by
  obtain⟨v,b,i,_⟩:=wB e (by omega);exact⟨v,b,i⟩)
 refine⟨e,p,f,g,fun j=>?_⟩;obtain⟨k,n⟩:=h j;obtain⟨v,b,_,l⟩:=wB e (by omega);rw[k]at b;cases b
 exact l rfl
end Go.Proofs.YtngjomkjlonfpaaGreat
