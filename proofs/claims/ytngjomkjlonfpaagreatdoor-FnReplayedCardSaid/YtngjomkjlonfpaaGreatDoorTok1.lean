import Derived.Test.YtngjomkjlonfpaaGreatDoorPlain1
import Derived.Test.YtngjomkjlonfpaaGreatDoorParse1
set_option linter.unusedSimpArgs false
set_option linter.unusedVariables false
/- Plain laws: what the tokenizers scan. Plain laws: tokens, the two tokenizers side by side. Plain laws: texts among the tokens, the two tokenizers side by side. Plain laws: symbols among the tokens, the two tokenizers side by side. Plain laws: one token, the two tokenizers side by side. Plain laws: the two tokenizers are alike. -/
namespace Go.Proofs.YtngjomkjlonfpaaGreatDoor
open Go.Abs Go.Proofs
theorem Hg(a:Str):iK a=fG a:=rfl
def isLet(c:UInt8):Bool:=decide (97<=c.toNat)&&decide (c.toNat<=122)
def fP(c:UInt8):Bool:=decide (48<=c.toNat)&&decide (c.toNat<=57)
theorem qo(c:UInt8):xU (c.toNat:Int)=some (isLet c):=by
 have a:decide ((c.toNat:Int)>=97)=decide (97<=c.toNat):=decide_eq_decide.2 (by omega);have b:decide ((c.toNat:Int)<=122)=decide (c.toNat<=122):=decide_eq_decide.2 (by omega);unfold xU isLet;rw[a,b];cases decide (97<=c.toNat)<;>simp
theorem qB(c:UInt8):xW (c.toNat:Int)=some (fP c):=by
 have a:decide ((c.toNat:Int)>=48)=decide (48<=c.toNat):=decide_eq_decide.2 (by omega);have b:decide ((c.toNat:Int)<=57)=decide (c.toNat<=57):=decide_eq_decide.2 (by omega);unfold xW fP;rw[a,b];cases decide (48<=c.toNat)<;>simp
def cu(p:UInt8->Bool):Str->Nat
 | []=>0
 | c::r=>if p c=true then cu p r+1 else 0
theorem qC(p:UInt8->Bool):∀(s:Str),cu p s<=s.length
 | []=>az _
 | c::r=>by
  unfold cu;have:=qC p r;split
  ·simp;omega
  ·omega
theorem Gi(p:UInt8->Bool):∀(s:Str) c,c∈s.take (cu p s)->p c=true
 | [],c,h=>by simp at h
 | x::r,c,h=>by
  unfold cu at h;split at h
  ·rename_i a;rw[List.take_succ_cons]at h;rcases bc.1 h with rfl | h
   ·exact a
   ·exact Gi p r c h
  ·simp at h
theorem xQ{X ρ:Type}{g:X->Option (X⊕ρ)}(pk:Nat->X)(a:Str)(p:UInt8->Bool)(fin:Nat->Option ρ)
  (h1:∀i c,a[i]?=some c->p c=true->g (pk i)=some (.inl (pk (i+1)))) (h2:∀i c,a[i]?=some c->p c=false->g (pk i)=(fin i).bind fun r=>some (.inr r))
  (e:g (pk a.length)=(fin a.length).bind fun r=>some (.inr r)):∀(n i:Nat),a.length=i+n->aA g (pk i)=fin (i+cu p (a.drop i)):=by
 intro n;induction n with
 | zero=>
  intro i hi;have:i=a.length:=by omega
  subst this;rw[aH,e,List.drop_length];show _=fin (a.length+0)
  rw[Nat.add_zero];cases fin a.length<;>rfl
 | succ n ih=>
  intro i hi;have b:i<a.length:=by omega
  rw[List.drop_eq_getElem_cons b,aH];unfold cu;cases d:p a[i]with
  | true=>
   rw[h1 i a[i] (zF b) d];simp only[if_true];rw[ih (i+1) (by omega)];congr 1;omega
  | false=>
   rw[h2 i a[i] (zF b) d];simp only[aL,if_false,Nat.add_zero];cases fin i<;>rfl
theorem qZ(a:Str)(b k:Nat)(h1:b<=k)(h2:k<=a.length):eff.cutL a (some (b:Int)) (some (k:Int))=some ((a.take k).drop b):=by
 unfold eff.cutL;simp only[Option.getD_some];rw[if_pos]
 ·simp
 ·omega
def tH(c:UInt8):Bool:=isLet c||fP c
theorem iD{n:Nat}(h:n<=1000):w64 ((n:Int)+1)=((n+1:Nat):Int):=by rw[bK (by omega) (by omega)];rfl
theorem BG{k b:Nat}(h:b<=k)(a:k<=1000):w64 ((k:Int)-(b:Int))=((k-b:Nat):Int):=by rw[bK (by omega) (by omega)];omega
theorem acN(a:Str)(b:Nat)(p:a.length<=120){c:UInt8}(l:a[b]?=some c)(n:isLet c=true) :
  og a (b:Int)=some (⟨1,0,b,(a.take (b+cu tH (a.drop b))).drop b⟩,if cu tH (a.drop b)>8 then 0 else (cu tH (a.drop b):Int)):=by
 have q:b<a.length:=(zC.1 l).1;have j:b+cu tH (a.drop b)<=a.length:=by
  have:=qC tH (a.drop b);rw[List.length_drop]at this;omega
 unfold og;rw[au,l];simp only[zA,qo,n,ac];have fin:∀k:Nat,b<=k->k<=a.length->((eff.cutL a (some (b:Int)) (some (k:Int))).bind fun f=>bif (decide ((w64 ((k:Int)-(b:Int)))>8))then some (aJ.mk 1 0 (b:Int) f,(0:Int))else some (aJ.mk 1 0 (b:Int) f,w64 ((k:Int)-(b:Int))))=some (⟨1,0,b,(a.take k).drop b⟩,if k-b>8 then 0 else ((k-b:Nat):Int)):=by
  intro k h1 h2;rw[qZ a b k h1 h2,BG h1 (by omega)];simp only[zA];by_cases m:k-b>8
  ·have:decide (((k-b:Nat):Int)>8)=true:=by simp;omega
   rw[this,if_pos m];rfl
  ·have:decide (((k-b:Nat):Int)>8)=false:=by simp;omega
   rw[this,if_neg m];rfl
 have o:b+cu tH (a.drop b)-b=cu tH (a.drop b):=by omega
 refine (xQ (fun k=>(a,(b:Int),(0:Int),(0:Int),(0:Int),([]:Str),(0:Int),(0:Int),(b:Int),([]:Str),(k:Int))) a tH (fun k=>(eff.cutL a (some (b:Int)) (some (k:Int))).bind fun f=>bif (decide ((w64 ((k:Int)-(b:Int)))>8))then some (aJ.mk 1 0 (b:Int) f,(0:Int))else some (aJ.mk 1 0 (b:Int) f,w64 ((k:Int)-(b:Int)))) ?_ ?_ ?_ (a.length-b) b (by omega)).trans ?_
 ·intro i d g e;have hi:i<a.length:=(zC.1 g).1;have h:decide ((i:Int)<(a.length:Int))=true:=by simp;omega
  simp only[h,ac,au,g,zA,qo,qB,iD (show i<=1000 by omega)];unfold tH at e;cases h1:isLet d with
  | true=>rfl
  | false=>
   rw[h1,Bool.false_or]at e;simp only[aa,e,ac]
 ·intro i d g e;have hi:i<a.length:=(zC.1 g).1;have h:decide ((i:Int)<(a.length:Int))=true:=by simp;omega
  simp only[h,ac,au,g,zA,qo,qB];unfold tH at e;rw[Bool.or_eq_false_iff]at e;simp only[e.1,e.2,aa]
 ·have h:decide ((a.length:Int)<(a.length:Int))=false:=by simp
  simp only[h,aa]
 ·rw[fin _ (by omega) j,o]
theorem zf(d:UInt8):decide ((d.toNat:Int)>=97)=decide (97<=d.toNat)/\decide ((d.toNat:Int)<=122)=decide (d.toNat<=122)/\decide ((d.toNat:Int)>=48)=decide (48<=d.toNat)/\decide ((d.toNat:Int)<=57)=decide (d.toNat<=57):=
 ⟨decide_eq_decide.2 (by omega),decide_eq_decide.2 (by omega),decide_eq_decide.2 (by omega),decide_eq_decide.2 (by omega)⟩
theorem ahi(a:Str)(b:Nat)(q:a.length<=120){c:UInt8}(o:a[b]?=some c)(h:isLet c=true) :
  jM a (b:Int)=some (⟨1,0,b,(a.take (b+cu tH (a.drop b))).drop b⟩,((b+cu tH (a.drop b):Nat):Int),decide (cu tH (a.drop b)<=8)):=by
 have r:b<a.length:=(zC.1 o).1;have j:b+cu tH (a.drop b)<=a.length:=by
  have:=qC tH (a.drop b);rw[List.length_drop]at this;omega
 unfold isLet at h;rw[zI]at h;unfold jM;rw[au,o];simp only[zA,(zf c).1,(zf c).2.1,h.1,h.2,ac];have fin:∀k:Nat,b<=k->k<=a.length->((eff.cutL a (some (b:Int)) (some (k:Int))).bind fun l=>some (aJ.mk 1 0 (b:Int) l,(k:Int),(decide ((w64 ((k:Int)-(b:Int)))<=8))))=some (⟨1,0,b,(a.take k).drop b⟩,(k:Int),decide (k-b<=8)):=by
  intro k h1 h2;rw[qZ a b k h1 h2,BG h1 (by omega)];simp only[zA];have:decide (((k-b:Nat):Int)<=8)=decide (k-b<=8):=decide_eq_decide.2 (by omega);rw[this]
 have p:b+cu tH (a.drop b)-b=cu tH (a.drop b):=by omega
 refine (xQ (fun k=>(a,(b:Int),(0:Int),(0:Int),(0:Int),([]:Str),(k:Int))) a tH (fun k=>(eff.cutL a (some (b:Int)) (some (k:Int))).bind fun l=>some (aJ.mk 1 0 (b:Int) l,(k:Int),(decide ((w64 ((k:Int)-(b:Int)))<=8)))) ?_ ?_ ?_ (a.length-b) b (by omega)).trans ?_
 ·intro i d f e;have hi:i<a.length:=(zC.1 f).1;have g:decide ((i:Int)<(a.length:Int))=true:=by simp;omega
  simp only[g,ac,au,f,zA,(zf d).1,(zf d).2.1,(zf d).2.2.1,(zf d).2.2.2,iD (show i<=1000 by omega)];unfold tH isLet fP at e;cases h1:decide (97<=d.toNat)<;>cases h2:decide (d.toNat<=122)<;>cases m:decide (48<=d.toNat)<;>cases n:decide (d.toNat<=57)<;>rw[h1,h2,m,n]at e<;>first | rfl | cases e
 ·intro i d f e;have hi:i<a.length:=(zC.1 f).1;have g:decide ((i:Int)<(a.length:Int))=true:=by simp;omega
  simp only[g,ac,au,f,zA,(zf d).1,(zf d).2.1,(zf d).2.2.1,(zf d).2.2.2];unfold tH isLet fP at e;cases h1:decide (97<=d.toNat)<;>cases h2:decide (d.toNat<=122)<;>cases m:decide (48<=d.toNat)<;>cases n:decide (d.toNat<=57)<;>rw[h1,h2,m,n]at e<;>first | rfl | cases e
 ·have g:decide ((a.length:Int)<(a.length:Int))=false:=by simp
  simp only[g,aa]
 ·rw[fin _ (by omega) j,p]
theorem akD(a:Str)(b:Nat)(K:a.length<=120){c:UInt8}(m:a[b]?=some c)(g:fP c=true) :
  ∃(vi vs:Int) (ok oks:Bool),jM a (b:Int)=some (⟨2,vi,b,[]⟩,((b+cu fP (a.drop b):Nat):Int),ok) /\
   og a (b:Int)=some (⟨2,vs,b,[]⟩,if (oks&&decide (vs<=1000000000))=true then (cu fP (a.drop b):Int)else 0)/\ok=(oks&&decide (vs<=1000000000))/\(ok=true->vi=vs):=by
 have C:b<a.length:=(zC.1 m).1;have n:b+cu fP (a.drop b)<=a.length:=by
  have:=qC fP (a.drop b);rw[List.length_drop]at this;omega
 have p:(a.take (b+cu fP (a.drop b))).drop b=(a.drop b).take (cu fP (a.drop b)):=by rw[List.drop_take];congr 1;omega
 have hdig:∀d,d∈(a.take (b+cu fP (a.drop b))).drop b->jL d:=by
  intro d f;rw[p]at f;have:=Gi fP _ d f;unfold fP at this;unfold jL;simpa using this
 have D:1<=cu fP (a.drop b):=by
  have q:a.drop b=a[b]::a.drop (b+1):=List.drop_eq_getElem_cons C;have r:a[b]=c:=by rw[zF C]at m;exact a6 m
  rw[q];unfold cu;rw[r,if_pos g];omega
 have s:(a.take (b+cu fP (a.drop b))).drop b≠[]:=by
  intro h;have:=congrArg List.length h;rw[List.length_drop,ba]at this;simp at this;omega
 obtain⟨vi,vs,ok,oks,E,F,G,H⟩:=ag0 _ hdig s (by rw[List.length_drop,ba];omega);refine⟨vi,vs,ok,oks,?_,?_,G,H⟩
 ·unfold fP at g;rw[zI]at g;have I:48<=c.toNat:=by simpa using g.1
  have t:c.toNat<=57:=by simpa using g.2
  have u:decide ((c.toNat:Int)>=97)=false:=by simp;omega
  unfold jM;rw[au,m];simp only[zA,u,(zf c).2.2.1,(zf c).2.2.2,g.1,g.2,ac,aa];refine (xQ (fun k=>(a,(b:Int),(0:Int),(0:Int),(0:Int),([]:Str),(k:Int))) a fP (fun k=>(eff.cutL a (some (b:Int)) (some (k:Int))).bind fun v=>(nH v 0 1000000000).bind fun o=>some (aJ.mk 2 o.1 (b:Int) [],(k:Int),o.2)) ?_ ?_ ?_ (a.length-b) b (by omega)).trans ?_
  ·intro i d f e;have hi:i<a.length:=(zC.1 f).1;have j:decide ((i:Int)<(a.length:Int))=true:=by simp;omega
   simp only[j,ac,au,f,zA,(zf d).2.2.1,(zf d).2.2.2,iD (show i<=1000 by omega)];unfold fP at e;cases w:decide (48<=d.toNat)<;>cases x:decide (d.toNat<=57)<;>rw[w,x]at e<;>first | rfl | cases e
  ·intro i d f e;have hi:i<a.length:=(zC.1 f).1;have j:decide ((i:Int)<(a.length:Int))=true:=by simp;omega
   simp only[j,ac,au,f,zA,(zf d).2.2.1,(zf d).2.2.2];unfold fP at e;cases w:decide (48<=d.toNat)<;>cases x:decide (d.toNat<=57)<;>rw[w,x]at e<;>first | rfl | cases e
  ·have j:decide ((a.length:Int)<(a.length:Int))=false:=by simp
   simp only[j,aa]
  ·rw[qZ a b _ (by omega) n];simp only[zA,E]
 ·have y:isLet c=false:=by
   unfold fP at g;rw[zI]at g;have t:c.toNat<=57:=by simpa using g.2
   unfold isLet;have:decide (97<=c.toNat)=false:=by simp;omega
   rw[this];rfl
  unfold og;rw[au,m];simp only[zA,qo,qB,y,g,ac,aa];refine (xQ (fun k=>(a,(b:Int),(0:Int),(0:Int),(0:Int),([]:Str),(0:Int),(0:Int),(b:Int),([]:Str),(k:Int))) a fP (fun k=>(eff.cutL a (some (b:Int)) (some (k:Int))).bind fun z=>(kF z).bind fun l=>bif (!l.2)then some (aJ.mk 2 l.1 (b:Int) [],(0:Int))else bif (decide (l.1>1000000000))then some (aJ.mk 2 l.1 (b:Int) [],(0:Int))else some (aJ.mk 2 l.1 (b:Int) [],w64 ((k:Int)-(b:Int)))) ?_ ?_ ?_ (a.length-b) b (by omega)).trans ?_
  ·intro i d f e;have hi:i<a.length:=(zC.1 f).1;have j:decide ((i:Int)<(a.length:Int))=true:=by simp;omega
   simp only[j,ac,au,f,zA,qB,e,iD (show i<=1000 by omega)]
  ·intro i d f e;have hi:i<a.length:=(zC.1 f).1;have j:decide ((i:Int)<(a.length:Int))=true:=by simp;omega
   simp only[j,ac,au,f,zA,qB,e,aa]
  ·have j:decide ((a.length:Int)<(a.length:Int))=false:=by simp
   simp only[j,aa]
  ·rw[qZ a b _ (by omega) n,BG (by omega) (by omega)];simp only[zA,F];have J:b+cu fP (a.drop b)-b=cu fP (a.drop b):=by omega
   rw[J];cases oks with
   | false=>rfl
   | true=>
    by_cases hv:vs<=1000000000
    ·have A:decide (vs>1000000000)=false:=by simp;omega
     have B:decide (vs<=1000000000)=true:=by simpa using hv
     rw[A,B];rfl
    ·have A:decide (vs>1000000000)=true:=by simp;omega
     have B:decide (vs<=1000000000)=false:=by simpa using hv
     rw[A,B];rfl
def noQ(c:UInt8):Bool:=!(c==34)
theorem FC:∀(l:Str),Go.Lib.indexByte l 34=if cu noQ l<l.length then (cu noQ l:Int)else -1
 | []=>rfl
 | c::r=>by
  unfold Go.Lib.indexByte cu noQ;by_cases h:c=34
  ·subst h;simp
  ·have e:(c==34)=false:=by simpa using h
   rw[e,FC r];simp only[aL,if_false,Bool.not_false,if_true];by_cases d:cu noQ r<r.length
   ·have f:¬((cu noQ r:Int) == -1)=true:=by simp
    have a:cu noQ r+1<(c::r).length:=by simp;omega
    rw[if_pos d,if_neg f];have b:(cu (fun c=>!c==34) r+1<(c::r).length):=a;rw[if_pos b];show (cu noQ r:Int)+1=((cu noQ r+1:Nat):Int)
    omega
   ·have a:¬(cu noQ r+1<(c::r).length):=by simp;omega
    have b:¬(cu (fun c=>!c==34) r+1<(c::r).length):=a;rw[if_neg d,if_neg b];rfl
theorem DX(a:Str)(b:Nat)(h:b<=a.length):eff.cutL a (some (b:Int)) none=some (a.drop b):=by
 unfold eff.cutL;simp only[Option.getD_some,Option.getD_none];rw[if_pos]
 ·simp
 ·omega
def prC(c:UInt8):Bool:=decide (32<=c.toNat)&&decide (c.toNat<=126)
def prn(s:Str):Bool:=s.all prC
theorem iE(a b:Str):prn (a++b)=(prn a&&prn b):=List.all_append
def adQ(c:UInt8):Bool:=!(decide ((c.toNat:Int)<32))&&!(decide ((c.toNat:Int)>126))&&!((c.toNat:Int)==34)
theorem ali{c:UInt8}(h:adQ c=true):prC c=true:=by
 unfold adQ at h;unfold prC;simp at h ⊢;omega
theorem Hf(a:Str)(q:a.length<=120):∃v,iK a=some v/\(v=true->prn a=true):=by
 have:=xQ (g:=fun (e:Str×Int)=>
  bif (decide (e.2<(e.1.length:Int)))then
   (idx e.1 e.2).bind fun l=>
   bif (decide ((l.toNat:Int)<32))then
    some (.inr (false))
   else
    (idx e.1 e.2).bind fun m=>
    bif (decide ((m.toNat:Int)>126))then
     some (.inr (false))
    else
     (idx e.1 e.2).bind fun n=>
     bif ((n.toNat:Int)==34)then
      some (.inr (false))
     else
      some (.inl (e.1,w64 (e.2+1)))
  else
   some (.inr ((decide ((e.1.length:Int)<=20))))) (fun k=>(a,(k:Int))) a adQ (fun k=>if k<a.length then some false else some (decide ((a.length:Int)<=20))) ?_ ?_ ?_ a.length 0 (by omega)
 ·refine⟨if 0+cu adQ (a.drop 0)<a.length then false else decide ((a.length:Int)<=20),?_,fun hv=>?_⟩
  ·refine (this:iK a=_).trans ?_;split<;>rfl
  ·split at hv
   ·cases hv
   ·rename_i o;rw[List.drop_zero]at o;refine List.all_eq_true.2 fun c p=>ali (Gi adQ a c ?_)
    rw[List.take_of_length_le (by omega)];exact p
 ·intro i d f b;have hi:i<a.length:=(zC.1 f).1;have h:decide ((i:Int)<(a.length:Int))=true:=by simp;omega
  simp only[h,ac,au,f,zA,iD (show i<=1000 by omega)];unfold adQ at b;cases h1:decide ((d.toNat:Int)<32)<;>cases h2:decide ((d.toNat:Int)>126)<;>cases j:((d.toNat:Int)==34)<;>rw[h1,h2,j]at b<;>first | rfl | cases b
 ·intro i d f b;have hi:i<a.length:=(zC.1 f).1;have h:decide ((i:Int)<(a.length:Int))=true:=by simp;omega
  simp only[h,ac,au,f,zA,if_pos hi];unfold adQ at b;cases h1:decide ((d.toNat:Int)<32)<;>cases h2:decide ((d.toNat:Int)>126)<;>cases j:((d.toNat:Int)==34)<;>rw[h1,h2,j]at b<;>first | rfl | cases b
 ·have h:decide ((a.length:Int)<(a.length:Int))=false:=by simp
  simp only[h,aa,Nat.lt_irrefl,if_false];rfl
theorem aeW(d:UInt8):((d.toNat:Int) != 34)=noQ d:=by
 unfold noQ;by_cases h:d=34
 ·subst h;rfl
 ·have h1:¬(d.toNat=34):=fun e=>h (UInt8.toNat_inj.1 e)
  have h2:((d.toNat:Int)==34)=false:=by
   rw[beq_eq_false_iff_ne];intro e;exact h1 (by exact_mod_cast e)
  have a:(d==34)=false:=by simpa using h
  rw[bne,h2,a]
theorem acM(a:Str)(b:Nat)(s:a.length<=120)(n:a[b]?=some 34)(k:Nat)(o:k=b+1+cu noQ (a.drop (b+1))) :
  og a (b:Int)=if k<a.length then (fG ((a.take k).drop (b+1))).bind (fun v=>some (⟨3,0,b,(a.take k).drop (b+1)⟩,bif v then ((k+1-b:Nat):Int)else 0))
   else some (⟨3,0,b,(a.take k).drop (b+1)⟩,0):=by
 have t:b<a.length:=(zC.1 n).1;have j:k<=a.length:=by
  have:=qC noQ (a.drop (b+1));rw[List.length_drop]at this;omega
 have p:isLet (34:UInt8)=false:=rfl;have q:fP (34:UInt8)=false:=rfl;have r:(((34:UInt8).toNat:Int)==34)=true:=rfl;unfold og;rw[au,n];simp only[zA,qo,qB,p,q,r,ac,aa,iD (show b<=1000 by omega)];refine (xQ (fun k=>(a,(b:Int),(0:Int),(0:Int),(0:Int),([]:Str),(0:Int),(0:Int),(b:Int),([]:Str),(k:Int))) a noQ
  (fun k=>(eff.cutL a (some ((b+1:Nat):Int)) (some (k:Int))).bind fun c=>bif ((k:Int)==(a.length:Int))then some (aJ.mk 3 0 (b:Int) c,(0:Int))else
   (fG c).bind fun l=>bif (!l)then some (aJ.mk 3 0 (b:Int) c,(0:Int))else some (aJ.mk 3 0 (b:Int) c,w64 ((w64 ((k:Int)+1))-(b:Int)))) ?_ ?_ ?_ (a.length-(b+1)) (b+1) (by omega)).trans ?_
 ·intro i d f e;have hi:i<a.length:=(zC.1 f).1;have g:decide ((i:Int)<(a.length:Int))=true:=by simp;omega
  simp only[g,ac,au,f,zA,aeW,e,iD (show i<=1000 by omega)]
 ·intro i d f e;have hi:i<a.length:=(zC.1 f).1;have g:decide ((i:Int)<(a.length:Int))=true:=by simp;omega
  simp only[g,ac,au,f,zA,aeW,e,aa,iD (show b<=1000 by omega)]
 ·have g:decide ((a.length:Int)<(a.length:Int))=false:=by simp
  simp only[g,aa,iD (show b<=1000 by omega)]
 ·rw[<- o,qZ a (b+1) k (by omega) j];simp only[zA];by_cases h:k<a.length
  ·have m:((k:Int)==(a.length:Int))=false:=by rw[beq_eq_false_iff_ne];omega
   rw[if_pos h,m];simp only[aa,iD (show k<=1000 by omega),BG (show b<=k+1 by omega) (show k+1<=1000 by omega)];congr 1;funext v;cases v<;>rfl
  ·have m:((k:Int)==(a.length:Int))=true:=by rw[beq_iff_eq];omega
   rw[if_neg h,m];rfl
theorem ahg(a:Str)(b:Nat)(m:a.length<=120)(e:a[b]?=some 34)(k:Nat)(o:k=b+1+cu noQ (a.drop (b+1))) :
  jM a (b:Int)=if k<a.length then (iK ((a.take k).drop (b+1))).bind (fun v=>some (⟨3,0,b,(a.take k).drop (b+1)⟩,((k+1:Nat):Int),v))
   else some (⟨0,0,0,[]⟩,0,false):=by
 have p:b<a.length:=(zC.1 e).1;have d:k<=a.length:=by
  have:=qC noQ (a.drop (b+1));rw[List.length_drop]at this;omega
 have f:decide (((34:UInt8).toNat:Int)>=97)=false:=rfl;have g:decide (((34:UInt8).toNat:Int)>=48)=false:=rfl;have h:(((34:UInt8).toNat:Int)==34)=true:=rfl;have ld:(a.drop (b+1)).length=a.length-(b+1):=List.length_drop;have ib:eY (a.drop (b+1)) 34=some (if cu noQ (a.drop (b+1))<(a.drop (b+1)).length then (cu noQ (a.drop (b+1)):Int)else -1):=by
  rw[<- FC];rfl
 unfold jM;rw[au,e];simp only[zA,f,g,h,ac,aa,iD (show b<=1000 by omega),DX a (b+1) (by omega),ib];by_cases c:k<a.length
 ·have h1:cu noQ (a.drop (b+1))<(a.drop (b+1)).length:=by omega
  have i:decide ((cu noQ (a.drop (b+1)):Int)<0)=false:=by simp
  have j:w64 (((b+1:Nat):Int)+(cu noQ (a.drop (b+1)):Int))=(k:Int):=by rw[bK (by omega) (by omega)];omega
  have l:w64 ((w64 ((b:Int)+(cu noQ (a.drop (b+1)):Int)))+2)=((k+1:Nat):Int):=by
   rw[bK (n:=(b:Int)+(cu noQ (a.drop (b+1)):Int)) (by omega) (by omega),bK (by omega) (by omega)];omega
  rw[if_pos h1,if_pos c,i];simp only[aa,j,l,qZ a (b+1) k (by omega) d,zA]
 ·have h1:¬cu noQ (a.drop (b+1))<(a.drop (b+1)).length:=by omega
  rw[if_neg h1,if_neg c];rfl
theorem neN(c n:UInt8)(h:c≠n):((c.toNat:Int)==(n.toNat:Int))=false:=by
 rw[beq_eq_false_iff_ne];intro e;exact h (UInt8.toNat_inj.1 (by exact_mod_cast e))
def sy9(c:UInt8):Prop:=c=40\/c=41\/c=91\/c=93\/c=44\/c=43\/c=45\/c=42\/c=60
theorem apK(a:Str)(b:Nat){c:UInt8}(d:a[b]?=some c)(h:sy9 c):mP a (b:Int)=some 1:=by
 unfold mP;rw[au,d];simp only[zA];rcases h with rfl | rfl | rfl | rfl | rfl | rfl | rfl | rfl | rfl<;>rfl
theorem apL(a:Str)(b:Nat){c:UInt8}(e:a[b]?=some c)(h:¬sy9 c)(h1:c≠61):mP a (b:Int)=some 0:=by
 unfold sy9 at h;simp only[not_or]at h;obtain⟨f,g,i,j,k,l,m,n,o⟩:=h;have p:((c.toNat:Int)==40)=false:=neN c 40 f;have q:((c.toNat:Int)==41)=false:=neN c 41 g;have r:((c.toNat:Int)==91)=false:=neN c 91 i;have s:((c.toNat:Int)==93)=false:=neN c 93 j;have t:((c.toNat:Int)==44)=false:=neN c 44 k;have u:((c.toNat:Int)==43)=false:=neN c 43 l;have v:((c.toNat:Int)==45)=false:=neN c 45 m;have w:((c.toNat:Int)==42)=false:=neN c 42 n;have x:((c.toNat:Int)==60)=false:=neN c 60 o;have d:((c.toNat:Int)==61)=false:=neN c 61 h1;unfold mP;rw[au,e];simp only[zA,p,q,r,s,t,u,v,w,x,d,aa]
theorem apJ(a:Str)(b:Nat)(g:a.length<=120)(e:a[b]?=some 61):mP a (b:Int)=some (if a[b+1]?=some 61 then 2 else 1):=by
 have i:b<a.length:=(zC.1 e).1;unfold mP;rw[au,e];simp only[zA,iD (show b<=1000 by omega)];show (bif (decide (((b+1:Nat):Int)<(a.length:Int)))then _ else _)=_
 by_cases c:b+1<a.length
 ·have d:decide (((b+1:Nat):Int)<(a.length:Int))=true:=by simp;omega
  rw[d,au,zF c];simp only[ac,zA];by_cases h:a[b+1]=61
  ·rw[h];rfl
  ·have f:((a[b+1].toNat:Int)==61)=false:=neN _ 61 h;rw[f,if_neg (by simpa using h)];rfl
 ·have d:decide (((b+1:Nat):Int)<(a.length:Int))=false:=by simp;omega
  rw[d,zJ (by omega)];rfl
noncomputable def xP(a:Str)(b:Nat)(c:UInt8):Nat:=open Classical in if sy9 c then 1 else if c=61 then (if a[b+1]?=some 61 then 2 else 1)else 0
theorem akF(a:Str)(b:Nat)(e:a.length<=120){c:UInt8}(d:a[b]?=some c):mP a (b:Int)=some (xP a b c:Int):=by
 unfold xP;by_cases h:sy9 c
 ·rw[if_pos h];exact apK a b d h
 ·rw[if_neg h];by_cases h1:c=61
  ·subst h1;rw[if_pos rfl,apJ a b e d];split<;>rfl
  ·rw[if_neg h1];exact apL a b d h h1
theorem aeY(a:Str)(b:Nat){c:UInt8}(d:a[b]?=some c):b+xP a b c<=a.length/\xP a b c<=2:=by
 have e:b<a.length:=(zC.1 d).1;unfold xP;split
 ·omega
 ·split
  ·split
   ·rename_i h;have:=(zC.1 h).1;omega
   ·omega
  ·omega
theorem agm(a:Str)(b:Nat)(e:a.length<=120){c:UInt8}(d:a[b]?=some c)(h1:isLet c=false)(h2:fP c=false)(f:c≠34) :
  og a (b:Int)=some (⟨4,0,b,(a.take (b+xP a b c)).drop b⟩,(xP a b c:Int)):=by
 have k:b<a.length:=(zC.1 d).1;have g:=aeY a b d;have h:((c.toNat:Int)==34)=false:=neN c 34 f;have i:w64 ((b:Int)+(xP a b c:Int))=((b+xP a b c:Nat):Int):=by rw[bK (by omega) (by omega)];omega
 have j:b+xP a b c-b=xP a b c:=by omega
 unfold og;rw[au,d];simp only[zA,qo,qB,h1,h2,h,aa,akF a b e d,i,qZ a b _ (Nat.le_add_right _ _) g.1,BG (Nat.le_add_right b (xP a b c)) (show b+xP a b c<=1000 by omega),j]
theorem ahh(a:Str)(b:Nat)(p:a.length<=120){c:UInt8}(h:a[b]?=some c)(h1:isLet c=false)(h2:fP c=false)(i:c≠34) :
  jM a (b:Int)=bif Go.Lib.hasPrefix (a.drop b) [61,61]then some (⟨4,0,b,[61,61]⟩,((b+2:Nat):Int),true)
   else some (⟨4,0,b,(a.take (b+1)).drop b⟩,((b+1:Nat):Int),decide (Go.Lib.indexByte [40,41,91,93,44,43,45,42,60,61] c>=0)):=by
 have q:b<a.length:=(zC.1 h).1;have j:((c.toNat:Int)==34)=false:=neN c 34 i;have k:w64 ((b:Int)+2)=((b+2:Nat):Int):=by rw[bK (by omega) (by omega)];rfl
 have ep:jK (a.drop b) [61,61]=some (Go.Lib.hasPrefix (a.drop b) [61,61]):=rfl;have eb:eY [40,41,91,93,44,43,45,42,60,61] (c.toNat:Int)=some (Go.Lib.indexByte [40,41,91,93,44,43,45,42,60,61] c):=by
  unfold eY;rw[aD];simp
 have core:((eff.cutL a (some (b:Int)) none).bind fun d=>(jK d [61,61]).bind fun e=>
   bif e then some (aJ.mk 4 0 (b:Int) [61,61],w64 ((b:Int)+2),true)else
   (eff.cutL a (some (b:Int)) (some (w64 ((b:Int)+1)))).bind fun f=>
   (eY [40,41,91,93,44,43,45,42,60,61] (c.toNat:Int)).bind fun g=>some (aJ.mk 4 0 (b:Int) f,w64 ((b:Int)+1),(decide (g>=0)))) =
   bif Go.Lib.hasPrefix (a.drop b) [61,61]then some (⟨4,0,b,[61,61]⟩,((b+2:Nat):Int),true)
   else some (⟨4,0,b,(a.take (b+1)).drop b⟩,((b+1:Nat):Int),decide (Go.Lib.indexByte [40,41,91,93,44,43,45,42,60,61] c>=0)):=by
  simp only[DX a b (by omega),zA,ep,eb,iD (show b<=1000 by omega),k,qZ a b (b+1) (by omega) (by omega)]
 unfold isLet at h1;unfold fP at h2;unfold jM;rw[au,h];simp only[zA,(zf c).1,(zf c).2.1,(zf c).2.2.1,(zf c).2.2.2,j];cases l:decide (97<=c.toNat)<;>cases m:decide (c.toNat<=122)<;>cases n:decide (48<=c.toNat)<;>cases o:decide (c.toNat<=57)<;>rw[l,m]at h1<;>rw[n,o]at h2<;>first | exact core | exact absurd h1 (by decide) | exact absurd h2 (by decide)
theorem drop_cons(a:Str)(b:Nat){c:UInt8}(d:a[b]?=some c):a.drop b=c::a.drop (b+1):=by
 have f:b<a.length:=(zC.1 d).1;have e:a[b]=c:=by rw[zF f]at d;exact a6 d
 rw[List.drop_eq_getElem_cons f,e]
theorem ajA(a:Str)(b:Nat)(o:a.length<=120){c:UInt8}(n:a[b]?=some c)(h1:isLet c=false)(h2:fP c=false)(p:c≠34) :
  (xP a b c=0->∃t e,jM a (b:Int)=some (t,e,false)) /\
  (0<xP a b c->jM a (b:Int)=some (⟨4,0,b,(a.take (b+xP a b c)).drop b⟩,((b+xP a b c:Nat):Int),true)):=by
 have i:=drop_cons a b n;rw[ahh a b o n h1 h2 p];unfold xP;by_cases h:sy9 c
 ·have f:Go.Lib.hasPrefix (a.drop b) [61,61]=false:=by
   rw[i];rcases h with rfl | rfl | rfl | rfl | rfl | rfl | rfl | rfl | rfl<;>rfl
  have hi:decide (Go.Lib.indexByte [40,41,91,93,44,43,45,42,60,61] c>=0)=true:=by
   rcases h with rfl | rfl | rfl | rfl | rfl | rfl | rfl | rfl | rfl<;>rfl
  rw[if_pos h,f,hi];exact⟨fun e=>absurd e (by decide),fun _=>rfl⟩
 ·rw[if_neg h];by_cases k:c=61
  ·subst k;rw[if_pos rfl];by_cases h2q:a[b+1]?=some 61
   ·have j:=drop_cons a (b+1) h2q;have f:Go.Lib.hasPrefix (a.drop b) [61,61]=true:=by rw[i,j];rfl
    have q:(a.take (b+2)).drop b=[61,61]:=by
     rw[List.drop_take,i,j];have:b+2-b=2:=by omega
     rw[this];rfl
    rw[if_pos h2q,f,q];exact⟨fun e=>absurd e (by decide),fun _=>rfl⟩
   ·have f:Go.Lib.hasPrefix (a.drop b) [61,61]=false:=by
     rw[i];cases s:a.drop (b+1)with
     | nil=>rfl
     | cons d r=>
      have m:a[b+1]?=some d:=by
       have:=congrArg (fun l:Str=>l[0]?) s;simpa using this
      have g:(61==d)=false:=by
       rw[beq_eq_false_iff_ne];intro e;exact h2q (by rw[m,e])
      show (((61:UInt8)==61)&&((61==d)&&_))=false
      rw[g];rfl
    rw[if_neg h2q,f];exact⟨fun e=>absurd e (by decide),fun _=>rfl⟩
  ·rw[if_neg k];unfold sy9 at h;simp only[not_or]at h;obtain⟨u,v,w,x,y,z,A,B,C⟩:=h;have f:Go.Lib.hasPrefix (a.drop b) [61,61]=false:=by
    rw[i];have g:(61==c)=false:=by rw[beq_eq_false_iff_ne];exact fun e=>k e.symm
    show ((61==c)&&_)=false
    rw[g];rfl
   have hi:decide (Go.Lib.indexByte [40,41,91,93,44,43,45,42,60,61] c>=0)=false:=by
    simp[Go.Lib.indexByte,Ne.symm u,Ne.symm v,Ne.symm w,Ne.symm x,Ne.symm y,Ne.symm z,Ne.symm A,Ne.symm B,Ne.symm C,Ne.symm k]
   rw[f,hi];exact⟨fun _=>⟨_,_,rfl⟩,fun e=>absurd e (by decide)⟩
theorem Gg{p:UInt8->Bool}{a:Str}{b:Nat}{c:UInt8}(d:a[b]?=some c)(e:p c=true):1<=cu p (a.drop b):=by
 rw[drop_cons a b d];unfold cu;rw[if_pos e];omega
theorem VQ{a:Str}{b n:Nat}{c:UInt8}(d:a[b]?=some c)(h:1<=n):∃r,(a.take (b+n)).drop b=c::r:=by
 obtain⟨k,rfl⟩:∃k,n=k+1:=⟨n-1,by omega⟩;rw[List.drop_take,drop_cons a b d];have e:b+(k+1)-b=k+1:=by omega
 rw[e,List.take_succ_cons];exact⟨_,rfl⟩
theorem Xw{a:Str}{b k:Nat}(c:a.length<=120):((a.take k).drop b).length<=120:=by simp;omega
theorem Jh(c:UInt8)(r:Str):letter (c::r)=isLet c:=by
 show decide (97<=c.toNat/\c.toNat<=122)=isLet c
 unfold isLet;rw[Bool.decide_and]
theorem af9(a:Str)(b:Nat)(g:a.length<=120){c:UInt8}(f:a[b]?=some c) :
  (∃(t:aJ) (n:Nat),1<=n/\b+n<=a.length/\Xc t/\jM a (b:Int)=some (t,((b+n:Nat):Int),true)/\og a (b:Int)=some (t,(n:Int))) \/
  ((∃t e,jM a (b:Int)=some (t,e,false))/\∃t,og a (b:Int)=some (t,0)):=by
 have w:b<a.length:=(zC.1 f).1;have hrun:∀(p:UInt8->Bool),b+cu p (a.drop b)<=a.length:=by
  intro p;have:=qC p (a.drop b);rw[List.length_drop]at this;omega
 cases h1:isLet c with
 | true=>
  have m:tH c=true:=by unfold tH;rw[h1];rfl
  have hi:=ahi a b g f h1;have d:=acN a b g f h1;by_cases o:cu tH (a.drop b)<=8
  ·rw[aq o]at hi;rw[if_neg (by omega)]at d;exact .inl ⟨_,_,Gg f m,hrun tH,⟨Int.natCast_nonneg b,fun _=>by obtain⟨r,e⟩:=VQ f (Gg f m);exact (congrArg letter e).trans ((Jh c r).trans h1),fun e=>absurd e (by simp),Xw g⟩,hi,d⟩
  ·rw[ae o]at hi;rw[if_pos (by omega)]at d;exact .inr ⟨⟨_,_,hi⟩,⟨_,d⟩⟩
 | false=>
  cases h2:fP c with
  | true=>
   obtain⟨vi,vs,ok,oks,hi,d,i,s⟩:=akD a b g f h2;cases j:ok with
   | true=>
    rw[j]at i hi;have u:=s j;subst u;rw[if_pos i.symm]at d;exact .inl ⟨_,_,Gg f h2,hrun fP,⟨Int.natCast_nonneg b,fun e=>absurd e (by simp),fun e=>absurd e (by simp),by simp⟩,hi,d⟩
   | false=>
    rw[j]at i hi;rw[if_neg (by rw[<- i];decide)]at d;exact .inr ⟨⟨_,_,hi⟩,⟨_,d⟩⟩
  | false=>
   by_cases k:c=34
   ·subst k;have hi:=ahg a b g f _ rfl;have d:=acM a b g f _ rfl;by_cases h:b+1+cu noQ (a.drop (b+1))<a.length
    ·rw[if_pos h]at hi d;obtain⟨v,hv,_⟩:=Hf ((a.take (b+1+cu noQ (a.drop (b+1)))).drop (b+1)) (by simp;omega);have l:fG ((a.take (b+1+cu noQ (a.drop (b+1)))).drop (b+1))=some v:=hv;rw[hv]at hi;rw[l]at d;cases v with
     | true=>
      refine .inl ⟨_,b+1+cu noQ (a.drop (b+1))+1-b,by omega,by omega,⟨Int.natCast_nonneg b,fun e=>absurd e (by simp),fun e=>absurd e (by simp),Xw g⟩,?_,d⟩;have e:b+(b+1+cu noQ (a.drop (b+1))+1-b)=b+1+cu noQ (a.drop (b+1))+1:=by omega
      rw[e];exact hi
     | false=>exact .inr ⟨⟨_,_,hi⟩,⟨_,d⟩⟩
    ·rw[if_neg h]at hi d;exact .inr ⟨⟨_,_,hi⟩,⟨_,d⟩⟩
   ·have hi:=ajA a b g f h1 h2 k;have d:=agm a b g f h1 h2 k;by_cases q:xP a b c=0
    ·rw[q]at d;exact .inr ⟨hi.1 q,⟨_,d⟩⟩
    ·exact .inl ⟨_,_,by omega,(aeY a b f).1,⟨Int.natCast_nonneg b,fun e=>absurd e (by simp),fun _=>by obtain⟨r,e⟩:=VQ f (show 1<=xP a b c by omega);exact (congrArg letter e).trans ((Jh c r).trans h1),Xw g⟩,hi.2 (by omega),d⟩
theorem ad1{ρ:Type}{X:Type}(f g:X->Option (X⊕ρ))(P:Nat->X->Prop)(R:ρ->Prop)
  (h:∀m x,P m x->(∃r,R r/\f x=some (.inr r)/\g x=some (.inr r))\/(∃y k,k<m/\P k y/\f x=some (.inl y)/\g x=some (.inl y))) :
  ∀m x,P m x->∃r,R r/\aA f x=some r/\aA g x=some r:=by
 intro m;induction m using Nat.strongRecOn with
 | _ m ih=>
  intro x c;rw[aH f,aH g];rcases h m x c with ⟨r,d,a,b⟩ | ⟨y,k,e,i,a,b⟩
  ·rw[a,b];exact⟨r,d,rfl,rfl⟩
  ·rw[a,b];exact ih k e y i
theorem Pv(a:Str):∃r,(r.2<0->dZ r.1 (a.length:Int))/\yM a=some r/\xR a=some r:=by
 unfold yM xR;by_cases j:(a.length:Int)>120
 ·rw[aq j];exact⟨_,fun h=>absurd h (by decide),rfl,rfl⟩
 ·rw[ae j];simp only[aa];have d:a.length<=120:=by omega
  refine ad1 _ _ (fun m x=>∃toks b,x=(a,toks,((b:Nat):Int))/\b<=a.length/\m=a.length-b/\toks.length<=60/\∀t,t∈toks->Xc t) (fun (r:List aJ×Int)=>r.2<0->dZ r.1 (a.length:Int)) ?_ a.length (a,[],0) ⟨[],0,rfl,by omega,by omega,by simp,by simp⟩;rintro m _ ⟨toks,b,rfl,q,rfl,k,hall⟩;simp only;by_cases f:b<a.length
  ·have g:decide ((b:Int)<(a.length:Int))=true:=by simp;omega
   have l:=zF f;simp only[g,ac,au,l,zA];cases s:((a[b].toNat:Int)==32)with
   | true=>
    exact .inr ⟨(a,toks,((b+1:Nat):Int)),a.length-(b+1),by omega,⟨toks,b+1,rfl,by omega,rfl,k,hall⟩,by rw[iD (by omega)];rfl,by rw[iD (by omega)];rfl⟩
   | false=>
    rcases af9 a b d l with ⟨t,n,h1,h2,i,ei,es⟩ | ⟨⟨t,e,ei⟩,⟨t',es⟩⟩
    ·have en:((n:Int)==0)=false:=by rw[beq_eq_false_iff_ne];omega
     have ew:w64 ((b:Int)+(n:Int))=((b+n:Nat):Int):=by rw[bK (by omega) (by omega)];omega
     simp only[ei,es,zA,en,ew,aa,aM];cases o:((toks.length:Int)==60)with
     | true=>exact .inl ⟨([],(b:Int)),fun h=>by simp at h;omega,rfl,rfl⟩
     | false=>
      have v:toks.length<60:=by
       have:¬((toks.length:Int)=60):=by simpa using o
       omega
      have p:gd (toks.length+[t].length)=some ():=by
       unfold gd;rw[if_pos (by simp;omega)]
      rw[p];exact .inr ⟨(a,toks++[t],((b+n:Nat):Int)),a.length-(b+n),by omega,⟨toks++[t],b+n,rfl,h2,rfl,by simp;omega,fun u c=>by rcases List.mem_append.1 c with c | c;exact hall u c;rw[List.mem_singleton.1 c];exact i⟩,rfl,rfl⟩
    ·simp only[ei,es,zA];exact .inl ⟨([],(b:Int)),fun h=>by simp at h;omega,rfl,rfl⟩
  ·have g:decide ((b:Int)<(a.length:Int))=false:=by simp;omega
   simp only[g,aa];exact .inl ⟨(toks,-1),fun _=>⟨hall,by simp,k⟩,rfl,rfl⟩
end Go.Proofs.YtngjomkjlonfpaaGreatDoor
/- Plain laws: one node, valid on both sides alike. Plain laws: nesting and nodes of expressions alike. Plain laws: expressions that a parser reads: few nodes, short texts; validity is alike on both sides. -/
namespace Go.Proofs.YtngjomkjlonfpaaGreatDoor
open Go.Abs Go.Proofs
theorem o8{α:Type}(c:Bool){a b a' b':α}(h1:a=a')(h2:b=b'):(bif c then a else b)=bif c then a' else b':=by rw[h1,h2]
theorem VL(a b c:Int):iU a b c=lS a b c:=rfl
theorem oP(a b c:Int):lS a b c=some (decide (a>=b)&&decide (a<=c)):=by
 unfold lS;cases decide (a>=b)<;>rfl
theorem acj(a:Str):fQ a=dP a:=rfl
theorem adU(e:af)(c:e.text.length<=34359738368)(d:∃v,fG e.text=some v)(f:∃v,bM e.text=some v):EM e=lT e:=by
 obtain⟨v,hv⟩:=d;obtain⟨u,g⟩:=f;unfold EM lT;simp only[VL,oP,acj,Hg,oQ e.text c,hv,g,zA];generalize (e.text==[])=p;generalize ((e.args.length:Int)==0)=a;generalize ((e.args.length:Int)==2)=b;generalize (decide (e.n>=0)&&decide (e.n<=1000000000))=h;generalize (decide (e.n>=1)&&decide (e.n<=5))=i;refine o8 _ ?_ (o8 _ ?_ (o8 _ ?_ (o8 _ rfl (o8 _ rfl (o8 _ ?_ (o8 _ ?_ (o8 _ ?_ rfl)))))))
 ·cases p<;>cases a<;>cases h<;>rfl
 ·cases a<;>cases v<;>cases (e.n==0)<;>rfl
 ·cases a<;>cases u<;>cases (e.n==0)<;>rfl
 ·cases p<;>cases b<;>cases i<;>rfl
 ·cases b<;>cases u<;>cases (e.n==0)<;>rfl
 ·cases b<;>cases u<;>cases (e.n==0)<;>rfl
theorem RP{X ρ:Type}{f:X->Option (X⊕ρ)}{x:X}{r:ρ}{n:Nat}(a:iter f n x=some r):aA f x=some r:=by
 have hh:∃n r,iter f n x=some r:=⟨n,r,a⟩;unfold aA;rw[dif_pos hh];exact congrArg some (La hh.choose_spec.choose_spec a)
theorem aaT{X Y ρ:Type}{f:X->Option (X⊕ρ)}{g:Y->Option (Y⊕ρ)}(P:X->Y->Prop)
  (H:∀x y,P x y->(f x=none/\g y=none)\/(∃r,f x=some (.inr r)/\g y=some (.inr r))\/(∃x' y',P x' y'/\f x=some (.inl x')/\g y=some (.inl y')))
  {x:X} {y:Y} (h:P x y):aA f x=aA g y:=by
 have hi:∀(n:Nat) (x:X) (y:Y),P x y->iter f n x=iter g n y:=by
  intro n;induction n with
  | zero=>intro x y _;rfl
  | succ n ih=>
   intro x y i;unfold iter;rcases H x y i with ⟨b,a⟩ | ⟨r,b,a⟩ | ⟨x',y',d,b,a⟩
   ·rw[b,a]
   ·rw[b,a]
   ·rw[b,a];exact ih x' y' d
 cases e:aA f x with
 | some r=>
  obtain⟨n,c⟩:=qJ e;rw[hi n x y h]at c;exact (RP c).symm
 | none=>
  cases a:aA g y with
  | none=>rfl
  | some r=>
   obtain⟨n,c⟩:=qJ a;rw[<- hi n x y h]at c;rw[RP c]at e;cases e
theorem V4(m r:Int):pF m r=some (if r>m then r else m):=by
 unfold pF;by_cases h:m>r
 ·rw[aq h,if_neg (by omega)];rfl
 ·rw[ae h];by_cases h2:r>m
  ·rw[if_pos h2];rfl
  ·rw[if_neg h2];have:r=m:=by omega
   rw[this];rfl
theorem UY:∀(n:Nat) (e:af),rW n e=jg n e:=by
 intro n;induction n with
 | zero=>intro e;rfl
 | succ n ih=>
  intro e;show Dy (rW n) e=lN (jg n) e
  unfold Dy lN;refine aaT (fun x y=>∃m i:Int,x=(m,e.args,(e.args.length:Int),i)/\y=(e.kind,e.n,e.text,e.args,m,i)) ?_ ⟨0,0,rfl,rfl⟩;rintro _ _ ⟨m,i,rfl,rfl⟩;simp only;cases decide (i<(e.args.length:Int))with
  | false=>exact .inr (.inl ⟨_,rfl,rfl⟩)
  | true=>
   simp only[ac];cases idx e.args i with
   | none=>exact .inl ⟨rfl,rfl⟩
   | some x=>
    simp only[zA,ih];cases jg n (aj x)with
    | none=>exact .inl ⟨rfl,rfl⟩
    | some r=>
     simp only[zA,V4];exact .inr (.inr ⟨_,_,⟨_,_,rfl,rfl⟩,rfl,rfl⟩)
theorem agQ(x:af):aj x=x:=by cases x;rfl
theorem ajz{α:Type}{xs:List α}{i:Int}{x:α}(h:idx xs i=some x):x∈xs:=by
 unfold idx at h;split at h
 ·exact zG h
 ·cases h
theorem aaP(P:af->Prop)(hsub:∀e x,P e->x∈e.args->P x)(hnode:∀e,P e->EM e=lT e):∀(n:Nat) (e:af),P e->vS n e=nP n e:=by
 intro n;induction n with
 | zero=>intro e _;rfl
 | succ n ih=>
  intro e a;show G5 (vS n) e=vk (nP n) e
  unfold G5 vk;refine aaT (fun x y=>∃i:Int,x=(e.kind,e.n,e.text,e.args,e.args,(e.args.length:Int),i)/\y=(e.kind,e.n,e.text,e.args,i)) ?_ ⟨0,rfl,rfl⟩;rintro _ _ ⟨i,rfl,rfl⟩;simp only;cases decide (i<(e.args.length:Int))with
  | false=>
   have b:EM ⟨e.kind,e.n,e.text,e.args⟩=lT ⟨e.kind,e.n,e.text,e.args⟩:=by
    have:=hnode e a;cases e;exact this
   simp only[aa,b];cases lT ⟨e.kind,e.n,e.text,e.args⟩with
   | none=>exact .inl ⟨rfl,rfl⟩
   | some r=>exact .inr (.inl ⟨_,rfl,rfl⟩)
  | true=>
   simp only[ac];cases c:idx e.args i with
   | none=>exact .inl ⟨rfl,rfl⟩
   | some x=>
    simp only[zA,agQ,ih x (hsub e x a (ajz c))];cases nP n x with
    | none=>exact .inl ⟨rfl,rfl⟩
    | some r=>
     simp only[zA];cases r with
     | false=>exact .inr (.inl ⟨_,rfl,rfl⟩)
     | true=>exact .inr (.inr ⟨_,_,⟨_,rfl,rfl⟩,rfl,rfl⟩)
theorem Xh{x:af}:∀ {xs:List af},x∈xs->wtE x<=wtL xs
 | [],h=>by cases h
 | y::r,h=>by
  rcases bc.1 h with rfl | h
  ·show _<=wtE x+wtL r;omega
  ·have:=Xh h;show _<=wtE y+wtL r;omega
theorem Ed(e:af):1+wtL e.args<=wtE e:=by
 obtain⟨k,n,t,a⟩:=e;show 1+wtL a<=(if t.length<=120 then 1 else 18446744073709551616)+wtL a
 split<;>omega
theorem aeS(e:af):1<=wtE e:=by have:=Ed e;omega
theorem Xi:∀(xs:List af),xs.length<=wtL xs
 | []=>by simp
 | x::r=>by
  have:=Xi r;have:=aeS x;show r.length+1<=wtE x+wtL r;omega
theorem sF{x e:af}(h:x∈e.args):wtE x+1<=wtE e:=by
 have:=Xh h;have:=Ed e;omega
theorem OO{e:af}(h:wtE e<=1048576):e.text.length<=120:=by
 obtain⟨k,n,t,a⟩:=e;have h:(if t.length<=120 then 1 else 18446744073709551616)+wtL a<=1048576:=h;show t.length<=120
 split at h
 ·assumption
 ·omega
theorem ahS{e:af}(h:wtE e<=1048576):wtE e=1+wtL e.args:=by
 have:=OO h;obtain⟨k,n,t,a⟩:=e;exact xN this
theorem uO{e:af}:e.args.length+1<=wtE e:=by
 have:=Ed e;have:=Xi e.args;omega
theorem VU{e:af}:siz e.args<siz e:=by
 cases e;simp only[siz];rw[af.mk.sizeOf_spec];omega
theorem ZE{x:af}{xs:List af}(h:x∈xs):siz x+1<=siz xs:=by
 have:=List.sizeOf_lt_of_mem h;simp only[siz];omega
theorem gm{x e:af}(h:x∈e.args):siz x+2<=siz e:=by
 have:=ZE h;have:=VU (e:=e);omega
theorem O6{xs:List af}{i:Nat}{x:af}(h:xs[i]?=some x):wtL (xs.take (i+1))=wtL (xs.take i)+wtE x:=by
 obtain⟨hi,rfl⟩:=zC.1 h;rw[List.take_succ_eq_append_getElem hi,zn,Xg]
theorem wH(xs:List af)(i:Nat):wtL (xs.take i)<=wtL xs:=by
 have h:wtL (xs.take i)+wtL (xs.drop i)=wtL xs:=by rw[<- zn,List.take_append_drop]
 omega
theorem dK{α X ρ σ:Type}{g:X->Option (X⊕ρ)}(pk:σ->Nat->X)(xs:List α)(I:Nat->σ->Prop)(R:ρ->Prop)
  (f:∀i x s,xs[i]?=some x->I i s->(∃s',g (pk s i)=some (.inl (pk s' (i+1)))/\I (i+1) s')\/∃r,g (pk s i)=some (.inr r)/\R r)
  (h:∀s,I xs.length s->∃r,g (pk s xs.length)=some (.inr r)/\R r) (s:σ) (j:I 0 s):∃r,aA g (pk s 0)=some r/\R r:=by
 have key:∀(k i:Nat) (s:σ),xs.length=i+k->I i s->∃r,aA g (pk s i)=some r/\R r:=by
  intro k;induction k with
  | zero=>
   intro i s hi b;have:i=xs.length:=by omega
   subst this;obtain⟨r,e,a⟩:=h s b;exact⟨r,by rw[aH,e],a⟩
  | succ k ih=>
   intro i s hi b;have c:i<xs.length:=by omega
   rcases f i _ s (zF c) b with ⟨s',e,d⟩ | ⟨r,e,a⟩
   ·obtain⟨r,e',a⟩:=ih (i+1) s' (by omega) d;exact⟨r,by rw[aH,e];exact e',a⟩
   ·exact⟨r,by rw[aH,e],a⟩
 exact key xs.length 0 s (by omega) j
theorem dw{α:Type}{xs:List α}{i:Nat}{x:α}(h:xs[i]?=some x):decide ((i:Int)<(xs.length:Int))=true:=by
 have:=(zC.1 h).1;simp;omega
theorem bG{α:Type}(xs:List α):decide ((xs.length:Int)<(xs.length:Int))=false:=by simp
theorem dn{α:Type}{xs:List α}{i:Nat}{x:α}(h:xs[i]?=some x)(a:xs.length<=34359738368):w64 ((i:Int)+1)=((i+1:Nat):Int):=by
 have:=(zC.1 h).1;rw[bK (by omega) (by omega)];omega
theorem Jd:∀(n:Nat) (e:af),siz e<n->wtE e<=1048576->o5 n e=some (wtE e:Int)
 | 0,e,h,_=>absurd h (Nat.not_lt_zero _)
 | n+1,e,l,d=>by
  have ih:=Jd n;have m:=uO (e:=e);show Dw (o5 n) e=_
  unfold Dw;have key:=dK (fun (s:Unit) (i:Nat)=>((((1+wtL (e.args.take i):Nat):Int),e.args,(e.args.length:Int),(i:Int)):Int×(List af)×Int×Int)) e.args (fun _ _=>True) (fun r=>r=(wtE e:Int)) (g:=fun (a:Int×(List af)×Int×Int)=>
   bif (decide (a.2.2.2<a.2.2.1))then
    (idx a.2.1 a.2.2.2).bind fun f=>
    (o5 n (aj f)).bind fun j=>
    some (.inl (w64 (a.1+j),a.2.1,a.2.2.1,w64 (a.2.2.2+1)))
   else
    some (.inr (a.1))) (fun i x s b _=>.inl ⟨(),by
   have c:=zG b
   have h1:=sF c
   have h2:=O6 b
   have o:=wH e.args (i+1)
   have p:=Ed e
   simp only[dw b,ac,au,b,zA,aO,ih x (by have:=gm c;omega) (by omega),dn b (by omega),h2]
   rw[bK (by omega) (by omega)]
   congr 4
   omega,trivial⟩) (fun s _=>⟨_,by simp only[bG,aa];rfl,by rw[List.take_length,ahS d]⟩) () trivial
  obtain⟨r,k,rfl⟩:=key;exact k
theorem afx:∀(n:Nat) (e:af) (b:Int),siz e<n->wtE e<=1048576->0<=b->b<=1048576 ->
  ∃r,qy n e b=some r/\(0<=b-wtE e->r=b-wtE e)/\(b-wtE e<0->r = -1)
 | 0,e,b,h,_,_,_=>absurd h (Nat.not_lt_zero _)
 | n+1,e,b,v,m,w,h1=>by
  have ih:=afx n;have y:=uO (e:=e);have o:=ahS m;show ∃r,yj (qy n) e b=some r/\_
  unfold yj;rw[bK (n:=b-1) (by omega) (by omega)];refine dK (fun (s:Int) (i:Nat)=>((s,e.kind,e.n,e.text,e.args,(i:Int)):Int×Int×Int×Str×(List af)×Int)) e.args
   (fun i s=>(0<=b-1-wtL (e.args.take i)->s=b-1-wtL (e.args.take i))/\(b-1-wtL (e.args.take i)<0->s = -1)) _ (fun i x s c g=>?_) (fun s g=>?_) (b-1) ⟨fun _=>by simp[wtL],fun h=>by simp[wtL]at h;omega⟩
  ·obtain⟨a,d⟩:=g;have l:=zG c;have h1:=sF l;have h2:=O6 c;have z:=wH e.args (i+1);by_cases j:s>=0
   ·obtain⟨r,p,q,t⟩:=ih x s (by have:=gm l;omega) (by omega) j (by
     by_cases f:0<=b-1-wtL (e.args.take i)
     ·have:=a f;omega
     ·have:=d (by omega);omega)
    have u:s=b-1-wtL (e.args.take i):=by
     by_cases f:0<=b-1-wtL (e.args.take i)
     ·exact a f
     ·have:=d (by omega);omega
    refine .inl ⟨r,?_,fun k=>?_,fun k=>?_⟩
    ·simp only[dw c,ac,aq j,au,c,zA,aO,p,dn c (by omega)]
    ·rw[h2]at k ⊢;rw[q (by omega)];omega
    ·rw[h2]at k;exact t (by omega)
   ·refine .inr ⟨s,?_,fun h=>?_,fun h=>?_⟩
    ·simp only[dw c,ac,ae j,aa]
    ·have:=wH e.args i;have:=a (by omega);omega
    ·have:=a;by_cases f:0<=b-1-wtL (e.args.take i)
     ·have:=a f;omega
     ·exact d (by omega)
  ·obtain⟨a,d⟩:=g;rw[List.take_length]at a d;exact⟨s,by simp only[bG,aa],fun h=>by rw[a (by omega)];omega,fun h=>d (by omega)⟩
theorem Q8:∀(n:Nat) (e:af),siz e<n->wtE e<=1048576->∃r,jg n e=some r/\True
 | 0,e,h,_=>absurd h (Nat.not_lt_zero _)
 | n+1,e,f,g=>by
  have ih:=Q8 n;have j:=uO (e:=e);show ∃r,lN (jg n) e=some r/\_
  unfold lN;refine dK (fun (s:Int) (i:Nat)=>((e.kind,e.n,e.text,e.args,s,(i:Int)):Int×Int×Str×(List af)×Int×Int)) e.args (fun _ _=>True) _ (fun i x s a c=>?_) (fun s c=>?_) 0 trivial
  ·have b:=zG a;obtain⟨r,d,_⟩:=ih x (by have:=gm b;omega) (by have:=sF b;omega);refine .inl ⟨if r>s then r else s,?_,trivial⟩;simp only[dw a,ac,au,a,zA,aO,d,V4,dn a (by omega)]
  ·exact⟨_,by simp only[bG,aa];rfl,trivial⟩
theorem aci(a:Str):∃r,dP a=some r/\r<=4/\(0<=r->a.length<=6/\prn a=true):=by
 unfold dP;have go:∀(w:Str) (k:Int) (z:Option Int),w.length<=6/\prn w=true->k<=4->(∃r,z=some r/\r<=4/\(0<=r->a.length<=6/\prn a=true))->∃r,(bif (a==w)then some k else z)=some r/\r<=4/\(0<=r->a.length<=6/\prn a=true):=by
  intro w k z b c d;cases h:(a==w)with
  | true=>
   have e:=eq_of_beq h;exact⟨k,rfl,c,fun _=>by rw[e];exact b⟩
  | false=>exact d
 repeat refine go _ _ _ (by decide) (by decide) ?_
 exact⟨-1,rfl,by decide,fun h=>by omega⟩
structure Oa(e:af):Prop where
 pr:prn e.text=true
 k0:1<=e.kind
 k9:e.kind<=9
 num:e.kind=1->0<=e.n/\e.n<=1000000000
 call:e.kind=5->e.args.length<=4
 list:e.kind=4->e.args.length<=8
 op:e.kind=6->e.args.length=2/\1<=e.n/\e.n<=5
 two:e.kind=7\/e.kind=9->e.args.length=2
 three:e.kind=8->e.args.length=3
 leaf:e.kind=1\/e.kind=2\/e.kind=3->e.args=[]
inductive wB:af->Prop
 | mk (e:af) (h:Oa e) (hs:∀x,x∈e.args->wB x):wB e
theorem alm(e:af)(l:∃v,fG e.text=some v/\(v=true->prn e.text=true))(m:∃v,bM e.text=some v/\(v=true->prn e.text=true)):∃v,lT e=some v/\(v=true->Oa e):=by
 have o:=oP e.n 0 1000000000;have p:=oP e.n 1 5;obtain⟨u,q,r⟩:=l;obtain⟨v3,s,f⟩:=m;have nl:(e.text==[])=true->prn e.text=true:=fun h=>by rw[eq_of_beq h];rfl
 obtain⟨w,t,x,g⟩:=aci e.text;have no:∃v,(some false:Option Bool)=some v/\(v=true->Oa e):=⟨false,rfl,fun h=>(by cases h)⟩;have bb:∀(c:Bool) (z:Option Bool),(c=true->∃v,z=some v/\(v=true->Oa e))->∃v,(bif c then z else some false)=some v/\(v=true->Oa e):=by
  intro c z i;cases c with
  | true=>exact i rfl
  | false=>exact no
 have kk:∀(k:Int) (z z':Option Bool),(e.kind=k->∃v,z=some v/\(v=true->Oa e))->(¬e.kind=k->∃v,z'=some v/\(v=true->Oa e))->∃v,(bif (e.kind==k)then z else z')=some v/\(v=true->Oa e):=by
  intro k z z' i j;cases h:(e.kind==k)with
  | true=>exact i (eq_of_beq h)
  | false=>exact j (by simpa using h)
 have nil:((e.args.length:Int)==0)=true->e.args=[]:=fun h=>by
  have h:=eq_of_beq h;exact List.length_eq_zero_iff.1 (by omega)
 unfold lT;simp only[o,q,s,t,p,zA];refine kk 1 _ _ (fun d=>bb _ _ fun b=>bb _ _ fun a=>⟨_,rfl,fun hv=>?_⟩) fun y=>?_
 ·have hv:0<=e.n/\e.n<=1000000000:=by simpa using hv
  exact⟨nl a,by omega,by omega,fun _=>hv,fun h=>by omega,fun h=>by omega,fun h=>by omega,fun h=>by omega,fun h=>by omega,fun _=>nil b⟩
 refine kk 2 _ _ (fun d=>bb _ _ fun b=>bb _ _ fun a=>⟨_,rfl,fun hv=>?_⟩) fun A=>?_
 ·exact⟨r hv,by omega,by omega,fun h=>by omega,fun h=>by omega,fun h=>by omega,fun h=>by omega,fun h=>by omega,fun h=>by omega,fun _=>nil b⟩
 refine kk 3 _ _ (fun d=>bb _ _ fun b=>bb _ _ fun a=>⟨_,rfl,fun hv=>?_⟩) fun B=>?_
 ·exact⟨f hv,by omega,by omega,fun h=>by omega,fun h=>by omega,fun h=>by omega,fun h=>by omega,fun h=>by omega,fun h=>by omega,fun _=>nil b⟩
 refine kk 4 _ _ (fun d=>bb _ _ fun b=>bb _ _ fun a=>⟨_,rfl,fun hv=>?_⟩) fun C=>?_
 ·have hv:=of_decide_eq_true hv;exact⟨nl a,by omega,by omega,fun h=>by omega,fun h=>by omega,fun h=>by omega,fun h=>by omega,fun h=>by omega,fun h=>by omega,fun h=>by omega⟩
 refine kk 5 _ _ (fun d=>bb _ _ fun b=>⟨_,rfl,fun hv=>?_⟩) fun D=>?_
 ·have hv:=eq_of_beq hv;exact⟨(g (by omega)).2,by omega,by omega,fun h=>by omega,fun h=>by omega,fun h=>by omega,fun h=>by omega,fun h=>by omega,fun h=>by omega,fun h=>by omega⟩
 refine kk 6 _ _ (fun d=>bb _ _ fun b=>bb _ _ fun a=>⟨_,rfl,fun hv=>?_⟩) fun E=>?_
 ·have a:=eq_of_beq a;have hv:1<=e.n/\e.n<=5:=by simpa using hv
  exact⟨nl b,by omega,by omega,fun h=>by omega,fun h=>by omega,fun h=>by omega,fun _=>⟨by omega,hv⟩,fun h=>by omega,fun h=>by omega,fun h=>by omega⟩
 refine kk 7 _ _ (fun d=>bb _ _ fun b=>bb _ _ fun a=>⟨_,rfl,fun hv=>?_⟩) fun F=>?_
 ·have a:=eq_of_beq a;exact⟨f hv,by omega,by omega,fun h=>by omega,fun h=>by omega,fun h=>by omega,fun h=>by omega,fun _=>by omega,fun h=>by omega,fun h=>by omega⟩
 refine kk 9 _ _ (fun d=>bb _ _ fun b=>bb _ _ fun a=>⟨_,rfl,fun hv=>?_⟩) fun n9=>?_
 ·have a:=eq_of_beq a;exact⟨f hv,by omega,by omega,fun h=>by omega,fun h=>by omega,fun h=>by omega,fun h=>by omega,fun _=>by omega,fun h=>by omega,fun h=>by omega⟩
 refine kk 8 _ _ (fun d=>bb _ _ fun b=>bb _ _ fun a=>⟨_,rfl,fun hv=>?_⟩) fun G=>no
 ·have hv:=eq_of_beq hv;exact⟨nl a,by omega,by omega,fun h=>by omega,fun h=>by omega,fun h=>by omega,fun h=>by omega,fun h=>by omega,fun _=>by omega,fun h=>by omega⟩
theorem aeT:∀(s:Str) (i:Nat),lK i s=true->prn s=true
 | [],_,_=>rfl
 | c::r,i,h=>by
  have h:(aeK i c&&lK (i+1) r)=true:=h;rw[zI]at h;have h1:=h.1;unfold aeK at h1;show (prC c&&prn r)=true
  rw[aeT r (i+1) h.2,Bool.and_true];unfold prC;simp at h1 ⊢;omega
theorem af0{a:Str}(c:a.length<=34359738368)(h:fF a=true):prn a=true:=by
 unfold fF aZ at h;rw[Aq a c,zA]at h;cases b:lK 0 a with
 | true=>exact aeT a 0 b
 | false=>rw[b]at h;simp at h
theorem zu(e:af)(b:wtE e<=1048576):(∃v,fG e.text=some v/\(v=true->prn e.text=true))/\∃v,bM e.text=some v/\(v=true->prn e.text=true):=by
 have a:=OO b;refine⟨?_,?_⟩
 ·obtain⟨v,hv,c⟩:=Hf e.text a;exact⟨v,by rw[<- Hg];exact hv,c⟩
 ·exact⟨_,Ei e.text a,af0 (by omega)⟩
theorem akw:∀(n:Nat) (e:af),siz e<n->wtE e<=1048576->∃v,nP n e=some v/\(v=true->wB e)
 | 0,e,h,_=>absurd h (Nat.not_lt_zero _)
 | n+1,e,m,k=>by
  have ih:=akw n;have o:=uO (e:=e);show ∃v,vk (nP n) e=some v/\_
  unfold vk;refine dK (fun (_:Unit) (i:Nat)=>((e.kind,e.n,e.text,e.args,(i:Int)):Int×Int×Str×(List af)×Int)) e.args (fun i _=>∀j x,e.args[j]?=some x->j<i->wB x) _ (fun i x s a c=>?_) (fun s c=>?_) () (fun j x _ b=>absurd b (Nat.not_lt_zero _))
  ·have l:=zG a;obtain⟨v,d,h1⟩:=ih x (by have:=gm l;omega) (by have:=sF l;omega);simp only[dw a,ac,au,a,zA,aO,d,dn a (by omega)];cases v with
   | false=>exact .inr ⟨false,rfl,fun h=>(by cases h)⟩
   | true=>
    refine .inl ⟨(),rfl,fun j y f b=>?_⟩;by_cases g:j=i
    ·subst g;rw[a]at f;cases f
     exact h1 rfl
    ·exact c j y f (by omega)
  ·obtain⟨v,d,h1⟩:=alm e (zu e k).1 (zu e k).2;have eta:af.mk e.kind e.n e.text e.args=e:=by cases e;rfl
   refine⟨v,by simp only[bG,aa,eta,d,zA],fun hv=>.mk e (h1 hv) fun x a=>?_⟩;obtain⟨j,b⟩:=List.mem_iff_getElem?.1 a;exact c j x b (zC.1 b).1
theorem adT(e:af)(a:wtE e<=1048576):EQ e=Iz e:=
 aaP (fun e=>wtE e<=1048576) (fun e x h b=>by have:=sF b;omega) (fun e h=>adU e (by have:=OO h;omega) ((zu e h).1.imp fun _ h=>h.1) ((zu e h).2.imp fun _ h=>h.1)) _ e a
theorem wI(e:af)(a:wtE e<=1048576):∃v,iL e=some v/\gU e=some v/\(v=true->wB e/\wtE e<=40):=by
 have f:GU e=some (wtE e:Int):=Jd _ e (Nat.lt_succ_self _) a;obtain⟨r,d,g,i⟩:=afx _ e 40 (Nat.lt_succ_self _) a (by omega) (by omega);have d:Iy e 40=some r:=d;obtain⟨m,b,_⟩:=Q8 _ e (Nat.lt_succ_self _) a;have b:zK e=some m:=b;have j:GV e=some m:=(UY _ e).trans b;obtain⟨v,c,k⟩:=akw _ e (Nat.lt_succ_self _) a;have c:Iz e=some v:=c;have l:EQ e=some v:=(adT e a).trans c;unfold iL gU;simp only[aO,f,d,b,j,c,l,zA];have n:decide ((wtE e:Int)<=40)=decide (r>=0):=by
  by_cases h:(wtE e:Int)<=40
  ·have:=g (by omega);rw[aq h,aq (by omega)]
  ·have:=i (by omega);rw[ae h,ae (by omega)]
 rw[<- n];by_cases h:(wtE e:Int)<=40
 ·rw[aq h];simp only[ac];cases decide (m<=8)with
  | true=>exact⟨v,rfl,rfl,fun hv=>⟨k hv,by omega⟩⟩
  | false=>exact⟨false,rfl,rfl,fun h=>(by cases h)⟩
 ·rw[ae h];exact⟨false,rfl,rfl,fun h=>(by cases h)⟩
theorem Ny(a:Str):∃(e:af) (p:Int),qO a=some (e,p)/\ql a=some (e,p)/\(p<0->wB e/\wtE e<=40):=by
 obtain⟨⟨toks,t⟩,c,hi,d⟩:=Pv a;obtain⟨e,p,h1,h2,f⟩:=adM a hi d c (fun e j=>by
  obtain⟨v,b,g,_⟩:=wI e (by omega);exact⟨v,b,g⟩)
 refine⟨e,p,h1,h2,fun h=>?_⟩;obtain⟨hv,k⟩:=f h;obtain⟨v,b,_,i⟩:=wI e (by omega);rw[hv]at b;cases b
 exact i rfl
end Go.Proofs.YtngjomkjlonfpaaGreatDoor
