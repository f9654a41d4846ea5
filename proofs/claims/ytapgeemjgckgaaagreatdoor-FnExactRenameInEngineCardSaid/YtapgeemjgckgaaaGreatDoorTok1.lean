import Derived.Test.YtapgeemjgckgaaaGreatDoorRen1
import Derived.Test.YtapgeemjgckgaaaGreatDoorParse1
set_option linter.unusedSimpArgs false
set_option linter.unusedVariables false
/- Plain laws: what the tokenizers scan. Plain laws: tokens, the two tokenizers side by side. Plain laws: texts among the tokens, the two tokenizers side by side. Plain laws: symbols among the tokens, the two tokenizers side by side. Plain laws: one token, the two tokenizers side by side. Plain laws: the two tokenizers are alike. -/
namespace Go.Proofs.YtapgeemjgckgaaaGreatDoor
open Go.Abs Go.Proofs
theorem Hf(a:Str):gV a=fG a:=rfl
def isLet(c:UInt8):Bool:=decide (97<=c.toNat)&&decide (c.toNat<=122)
def eX(c:UInt8):Bool:=decide (48<=c.toNat)&&decide (c.toNat<=57)
theorem oZ(c:UInt8):xE (c.toNat:Int)=some (isLet c):=by
 have a:decide ((c.toNat:Int)>=97)=decide (97<=c.toNat):=decide_eq_decide.2 (by omega);have b:decide ((c.toNat:Int)<=122)=decide (c.toNat<=122):=decide_eq_decide.2 (by omega);unfold xE isLet;rw[a,b];cases decide (97<=c.toNat)<;>simp
theorem o9(c:UInt8):xG (c.toNat:Int)=some (eX c):=by
 have a:decide ((c.toNat:Int)>=48)=decide (48<=c.toNat):=decide_eq_decide.2 (by omega);have b:decide ((c.toNat:Int)<=57)=decide (c.toNat<=57):=decide_eq_decide.2 (by omega);unfold xG eX;rw[a,b];cases decide (48<=c.toNat)<;>simp
def bQ(p:UInt8->Bool):Str->Nat
 | []=>0
 | c::r=>if p c=true then bQ p r+1 else 0
theorem pq(p:UInt8->Bool):∀(s:Str),bQ p s<=s.length
 | []=>aw _
 | c::r=>by
  unfold bQ;have:=pq p r;split
  ·simp;omega
  ·omega
theorem Gg(p:UInt8->Bool):∀(s:Str) c,c∈s.take (bQ p s)->p c=true
 | [],c,h=>by simp at h
 | x::r,c,h=>by
  unfold bQ at h;split at h
  ·rename_i a;rw[List.take_succ_cons]at h;rcases ba.1 h with rfl | h
   ·exact a
   ·exact Gg p r c h
  ·simp at h
theorem xB{X ρ:Type}{g:X->Option (X⊕ρ)}(pk:Nat->X)(a:Str)(p:UInt8->Bool)(fin:Nat->Option ρ)
  (e:∀i c,a[i]?=some c->p c=true->g (pk i)=some (.inl (pk (i+1)))) (f:∀i c,a[i]?=some c->p c=false->g (pk i)=(fin i).bind fun r=>some (.inr r))
  (h:g (pk a.length)=(fin a.length).bind fun r=>some (.inr r)):∀(n i:Nat),a.length=i+n->ak g (pk i)=fin (i+bQ p (a.drop i)):=by
 intro n;induction n with
 | zero=>
  intro i hi;have:i=a.length:=by omega
  subst this;rw[aI,h,List.drop_length];show _=fin (a.length+0)
  rw[Nat.add_zero];cases fin a.length<;>rfl
 | succ n ih=>
  intro i hi;have b:i<a.length:=by omega
  rw[List.drop_eq_getElem_cons b,aI];unfold bQ;cases d:p a[i]with
  | true=>
   rw[e i a[i] (zF b) d];simp only[if_true];rw[ih (i+1) (by omega)];congr 1;omega
  | false=>
   rw[f i a[i] (zF b) d];simp only[aE,if_false,Nat.add_zero];cases fin i<;>rfl
theorem qc(a:Str)(b k:Nat)(c:b<=k)(d:k<=a.length):eff.cutL a (some (b:Int)) (some (k:Int))=some ((a.take k).drop b):=by
 unfold eff.cutL;simp only[Option.getD_some];rw[if_pos]
 ·simp
 ·omega
def rM(c:UInt8):Bool:=isLet c||eX c
theorem gu{n:Nat}(h:n<=1000):w64 ((n:Int)+1)=((n+1:Nat):Int):=by rw[aX (by omega) (by omega)];rfl
theorem Bc{k b:Nat}(h:b<=k)(a:k<=1000):w64 ((k:Int)-(b:Int))=((k-b:Nat):Int):=by rw[aX (by omega) (by omega)];omega
theorem acK(a:Str)(b:Nat)(q:a.length<=120){c:UInt8}(l:a[b]?=some c)(n:isLet c=true) :
  mZ a (b:Int)=some (⟨1,0,b,(a.take (b+bQ rM (a.drop b))).drop b⟩,if bQ rM (a.drop b)>8 then 0 else (bQ rM (a.drop b):Int)):=by
 have r:b<a.length:=(zC.1 l).1;have j:b+bQ rM (a.drop b)<=a.length:=by
  have:=pq rM (a.drop b);rw[List.length_drop]at this;omega
 unfold mZ;rw[aA,l];simp only[zA,oZ,n,ac];have fin:∀k:Nat,b<=k->k<=a.length->((eff.cutL a (some (b:Int)) (some (k:Int))).bind fun f=>bif (decide ((w64 ((k:Int)-(b:Int)))>8))then some (aK.mk 1 0 (b:Int) f,(0:Int))else some (aK.mk 1 0 (b:Int) f,w64 ((k:Int)-(b:Int))))=some (⟨1,0,b,(a.take k).drop b⟩,if k-b>8 then 0 else ((k-b:Nat):Int)):=by
  intro k h o;rw[qc a b k h o,Bc h (by omega)];simp only[zA];by_cases m:k-b>8
  ·have:decide (((k-b:Nat):Int)>8)=true:=by simp;omega
   rw[this,if_pos m];rfl
  ·have:decide (((k-b:Nat):Int)>8)=false:=by simp;omega
   rw[this,if_neg m];rfl
 have p:b+bQ rM (a.drop b)-b=bQ rM (a.drop b):=by omega
 refine (xB (fun k=>(a,(b:Int),(0:Int),(0:Int),(0:Int),([]:Str),(0:Int),(0:Int),(b:Int),([]:Str),(k:Int))) a rM (fun k=>(eff.cutL a (some (b:Int)) (some (k:Int))).bind fun f=>bif (decide ((w64 ((k:Int)-(b:Int)))>8))then some (aK.mk 1 0 (b:Int) f,(0:Int))else some (aK.mk 1 0 (b:Int) f,w64 ((k:Int)-(b:Int)))) ?_ ?_ ?_ (a.length-b) b (by omega)).trans ?_
 ·intro i d hd e;have hi:i<a.length:=(zC.1 hd).1;have g:decide ((i:Int)<(a.length:Int))=true:=by simp;omega
  simp only[g,ac,aA,hd,zA,oZ,o9,gu (show i<=1000 by omega)];unfold rM at e;cases h:isLet d with
  | true=>rfl
  | false=>
   rw[h,Bool.false_or]at e;simp only[aa,e,ac]
 ·intro i d hd e;have hi:i<a.length:=(zC.1 hd).1;have g:decide ((i:Int)<(a.length:Int))=true:=by simp;omega
  simp only[g,ac,aA,hd,zA,oZ,o9];unfold rM at e;rw[Bool.or_eq_false_iff]at e;simp only[e.1,e.2,aa]
 ·have g:decide ((a.length:Int)<(a.length:Int))=false:=by simp
  simp only[g,aa]
 ·rw[fin _ (by omega) j,p]
theorem yO(d:UInt8):decide ((d.toNat:Int)>=97)=decide (97<=d.toNat)/\decide ((d.toNat:Int)<=122)=decide (d.toNat<=122)/\decide ((d.toNat:Int)>=48)=decide (48<=d.toNat)/\decide ((d.toNat:Int)<=57)=decide (d.toNat<=57):=
 ⟨decide_eq_decide.2 (by omega),decide_eq_decide.2 (by omega),decide_eq_decide.2 (by omega),decide_eq_decide.2 (by omega)⟩
theorem agV(a:Str)(b:Nat)(r:a.length<=120){c:UInt8}(p:a[b]?=some c)(j:isLet c=true) :
  jo a (b:Int)=some (⟨1,0,b,(a.take (b+bQ rM (a.drop b))).drop b⟩,((b+bQ rM (a.drop b):Nat):Int),decide (bQ rM (a.drop b)<=8)):=by
 have s:b<a.length:=(zC.1 p).1;have l:b+bQ rM (a.drop b)<=a.length:=by
  have:=pq rM (a.drop b);rw[List.length_drop]at this;omega
 unfold isLet at j;rw[zI]at j;unfold jo;rw[aA,p];simp only[zA,(yO c).1,(yO c).2.1,j.1,j.2,ac];have fin:∀k:Nat,b<=k->k<=a.length->((eff.cutL a (some (b:Int)) (some (k:Int))).bind fun m=>some (aK.mk 1 0 (b:Int) m,(k:Int),(decide ((w64 ((k:Int)-(b:Int)))<=8))))=some (⟨1,0,b,(a.take k).drop b⟩,(k:Int),decide (k-b<=8)):=by
  intro k f g;rw[qc a b k f g,Bc f (by omega)];simp only[zA];have:decide (((k-b:Nat):Int)<=8)=decide (k-b<=8):=decide_eq_decide.2 (by omega);rw[this]
 have q:b+bQ rM (a.drop b)-b=bQ rM (a.drop b):=by omega
 refine (xB (fun k=>(a,(b:Int),(0:Int),(0:Int),(0:Int),([]:Str),(k:Int))) a rM (fun k=>(eff.cutL a (some (b:Int)) (some (k:Int))).bind fun m=>some (aK.mk 1 0 (b:Int) m,(k:Int),(decide ((w64 ((k:Int)-(b:Int)))<=8)))) ?_ ?_ ?_ (a.length-b) b (by omega)).trans ?_
 ·intro i d hd e;have hi:i<a.length:=(zC.1 hd).1;have h:decide ((i:Int)<(a.length:Int))=true:=by simp;omega
  simp only[h,ac,aA,hd,zA,(yO d).1,(yO d).2.1,(yO d).2.2.1,(yO d).2.2.2,gu (show i<=1000 by omega)];unfold rM isLet eX at e;cases f:decide (97<=d.toNat)<;>cases g:decide (d.toNat<=122)<;>cases n:decide (48<=d.toNat)<;>cases o:decide (d.toNat<=57)<;>rw[f,g,n,o]at e<;>first | rfl | cases e
 ·intro i d hd e;have hi:i<a.length:=(zC.1 hd).1;have h:decide ((i:Int)<(a.length:Int))=true:=by simp;omega
  simp only[h,ac,aA,hd,zA,(yO d).1,(yO d).2.1,(yO d).2.2.1,(yO d).2.2.2];unfold rM isLet eX at e;cases f:decide (97<=d.toNat)<;>cases g:decide (d.toNat<=122)<;>cases n:decide (48<=d.toNat)<;>cases o:decide (d.toNat<=57)<;>rw[f,g,n,o]at e<;>first | rfl | cases e
 ·have h:decide ((a.length:Int)<(a.length:Int))=false:=by simp
  simp only[h,aa]
 ·rw[fin _ (by omega) l,q]
theorem akq(a:Str)(b:Nat)(J:a.length<=120){c:UInt8}(l:a[b]?=some c)(f:eX c=true) :
  ∃(vi vs:Int) (ok oks:Bool),jo a (b:Int)=some (⟨2,vi,b,[]⟩,((b+bQ eX (a.drop b):Nat):Int),ok) /\
   mZ a (b:Int)=some (⟨2,vs,b,[]⟩,if (oks&&decide (vs<=1000000000))=true then (bQ eX (a.drop b):Int)else 0)/\ok=(oks&&decide (vs<=1000000000))/\(ok=true->vi=vs)/\jf ((a.take (b+bQ eX (a.drop b))).drop b)=some (vs,oks):=by
 have B:b<a.length:=(zC.1 l).1;have m:b+bQ eX (a.drop b)<=a.length:=by
  have:=pq eX (a.drop b);rw[List.length_drop]at this;omega
 have o:(a.take (b+bQ eX (a.drop b))).drop b=(a.drop b).take (bQ eX (a.drop b)):=by rw[List.drop_take];congr 1;omega
 have hdig:∀d,d∈(a.take (b+bQ eX (a.drop b))).drop b->jm d:=by
  intro d hd;rw[o]at hd;have:=Gg eX _ d hd;unfold eX at this;unfold jm;simpa using this
 have D:1<=bQ eX (a.drop b):=by
  have p:a.drop b=a[b]::a.drop (b+1):=List.drop_eq_getElem_cons B;have q:a[b]=c:=by rw[zF B]at l;exact aR l
  rw[p];unfold bQ;rw[q,if_pos f];omega
 have r:(a.take (b+bQ eX (a.drop b))).drop b≠[]:=by
  intro h;have:=congrArg List.length h;rw[List.length_drop,a8]at this;simp at this;omega
 obtain⟨vi,vs,ok,oks,E,C,F,G⟩:=agC _ hdig r (by rw[List.length_drop,a8];omega);refine⟨vi,vs,ok,oks,?_,?_,F,G,C⟩
 ·unfold eX at f;rw[zI]at f;have H:48<=c.toNat:=by simpa using f.1
  have s:c.toNat<=57:=by simpa using f.2
  have t:decide ((c.toNat:Int)>=97)=false:=by simp;omega
  unfold jo;rw[aA,l];simp only[zA,t,(yO c).2.2.1,(yO c).2.2.2,f.1,f.2,ac,aa];refine (xB (fun k=>(a,(b:Int),(0:Int),(0:Int),(0:Int),([]:Str),(k:Int))) a eX (fun k=>(eff.cutL a (some (b:Int)) (some (k:Int))).bind fun u=>(mG u 0 1000000000).bind fun n=>some (aK.mk 2 n.1 (b:Int) [],(k:Int),n.2)) ?_ ?_ ?_ (a.length-b) b (by omega)).trans ?_
  ·intro i d hd e;have hi:i<a.length:=(zC.1 hd).1;have g:decide ((i:Int)<(a.length:Int))=true:=by simp;omega
   simp only[g,ac,aA,hd,zA,(yO d).2.2.1,(yO d).2.2.2,gu (show i<=1000 by omega)];unfold eX at e;cases v:decide (48<=d.toNat)<;>cases w:decide (d.toNat<=57)<;>rw[v,w]at e<;>first | rfl | cases e
  ·intro i d hd e;have hi:i<a.length:=(zC.1 hd).1;have g:decide ((i:Int)<(a.length:Int))=true:=by simp;omega
   simp only[g,ac,aA,hd,zA,(yO d).2.2.1,(yO d).2.2.2];unfold eX at e;cases v:decide (48<=d.toNat)<;>cases w:decide (d.toNat<=57)<;>rw[v,w]at e<;>first | rfl | cases e
  ·have g:decide ((a.length:Int)<(a.length:Int))=false:=by simp
   simp only[g,aa]
  ·rw[qc a b _ (by omega) m];simp only[zA,E]
 ·have x:isLet c=false:=by
   unfold eX at f;rw[zI]at f;have s:c.toNat<=57:=by simpa using f.2
   unfold isLet;have:decide (97<=c.toNat)=false:=by simp;omega
   rw[this];rfl
  unfold mZ;rw[aA,l];simp only[zA,oZ,o9,x,f,ac,aa];refine (xB (fun k=>(a,(b:Int),(0:Int),(0:Int),(0:Int),([]:Str),(0:Int),(0:Int),(b:Int),([]:Str),(k:Int))) a eX (fun k=>(eff.cutL a (some (b:Int)) (some (k:Int))).bind fun y=>(jf y).bind fun j=>bif (!j.2)then some (aK.mk 2 j.1 (b:Int) [],(0:Int))else bif (decide (j.1>1000000000))then some (aK.mk 2 j.1 (b:Int) [],(0:Int))else some (aK.mk 2 j.1 (b:Int) [],w64 ((k:Int)-(b:Int)))) ?_ ?_ ?_ (a.length-b) b (by omega)).trans ?_
  ·intro i d hd e;have hi:i<a.length:=(zC.1 hd).1;have g:decide ((i:Int)<(a.length:Int))=true:=by simp;omega
   simp only[g,ac,aA,hd,zA,o9,e,gu (show i<=1000 by omega)]
  ·intro i d hd e;have hi:i<a.length:=(zC.1 hd).1;have g:decide ((i:Int)<(a.length:Int))=true:=by simp;omega
   simp only[g,ac,aA,hd,zA,o9,e,aa]
  ·have g:decide ((a.length:Int)<(a.length:Int))=false:=by simp
   simp only[g,aa]
  ·rw[qc a b _ (by omega) m,Bc (by omega) (by omega)];simp only[zA,C];have I:b+bQ eX (a.drop b)-b=bQ eX (a.drop b):=by omega
   rw[I];cases oks with
   | false=>rfl
   | true=>
    by_cases hv:vs<=1000000000
    ·have z:decide (vs>1000000000)=false:=by simp;omega
     have A:decide (vs<=1000000000)=true:=by simpa using hv
     rw[z,A];rfl
    ·have z:decide (vs>1000000000)=true:=by simp;omega
     have A:decide (vs<=1000000000)=false:=by simpa using hv
     rw[z,A];rfl
def noQ(c:UInt8):Bool:=!(c==34)
theorem Fq:∀(l:Str),Go.Lib.indexByte l 34=if bQ noQ l<l.length then (bQ noQ l:Int)else -1
 | []=>rfl
 | c::r=>by
  unfold Go.Lib.indexByte bQ noQ;by_cases h:c=34
  ·subst h;simp
  ·have e:(c==34)=false:=by simpa using h
   rw[e,Fq r];simp only[aE,if_false,Bool.not_false,if_true];by_cases d:bQ noQ r<r.length
   ·have f:¬((bQ noQ r:Int) == -1)=true:=by simp
    have a:bQ noQ r+1<(c::r).length:=by simp;omega
    rw[if_pos d,if_neg f];have b:(bQ (fun c=>!c==34) r+1<(c::r).length):=a;rw[if_pos b];show (bQ noQ r:Int)+1=((bQ noQ r+1:Nat):Int)
    omega
   ·have a:¬(bQ noQ r+1<(c::r).length):=by simp;omega
    have b:¬(bQ (fun c=>!c==34) r+1<(c::r).length):=a;rw[if_neg d,if_neg b];rfl
theorem Dl(a:Str)(b:Nat)(h:b<=a.length):eff.cutL a (some (b:Int)) none=some (a.drop b):=by
 unfold eff.cutL;simp only[Option.getD_some,Option.getD_none];rw[if_pos]
 ·simp
 ·omega
def prC(c:UInt8):Bool:=decide (32<=c.toNat)&&decide (c.toNat<=126)
def prn(s:Str):Bool:=s.all prC
theorem gy(a b:Str):prn (a++b)=(prn a&&prn b):=List.all_append
def XF(c:UInt8):Bool:=!(decide ((c.toNat:Int)<32))&&!(decide ((c.toNat:Int)>126))&&!((c.toNat:Int)==34)
theorem akX{c:UInt8}(h:XF c=true):prC c=true:=by
 unfold XF at h;unfold prC;simp at h ⊢;omega
theorem He(a:Str)(r:a.length<=120):∃v,gV a=some v/\(v=true->prn a=true/\∀c,c∈a->XF c=true):=by
 have:=xB (g:=fun (e:Str×Int)=>
  bif (decide (e.2<(e.1.length:Int)))then
   (idx e.1 e.2).bind fun n=>
   bif (decide ((n.toNat:Int)<32))then
    some (.inr (false))
   else
    (idx e.1 e.2).bind fun o=>
    bif (decide ((o.toNat:Int)>126))then
     some (.inr (false))
    else
     (idx e.1 e.2).bind fun p=>
     bif ((p.toNat:Int)==34)then
      some (.inr (false))
     else
      some (.inl (e.1,w64 (e.2+1)))
  else
   some (.inr ((decide ((e.1.length:Int)<=20))))) (fun k=>(a,(k:Int))) a XF (fun k=>if k<a.length then some false else some (decide ((a.length:Int)<=20))) ?_ ?_ ?_ a.length 0 (by omega)
 ·refine⟨if 0+bQ XF (a.drop 0)<a.length then false else decide ((a.length:Int)<=20),?_,fun hv=>?_⟩
  ·refine (this:gV a=_).trans ?_;split<;>rfl
  ·split at hv
   ·cases hv
   ·rename_i q;rw[List.drop_zero]at q;have all:∀c,c∈a->XF c=true:=fun c h=>Gg XF a c (by rw[List.take_of_length_le (by omega)];exact h)
    exact⟨List.all_eq_true.2 fun c h=>akX (all c h),all⟩
 ·intro i d hd b;have hi:i<a.length:=(zC.1 hd).1;have f:decide ((i:Int)<(a.length:Int))=true:=by simp;omega
  simp only[f,ac,aA,hd,zA,gu (show i<=1000 by omega)];unfold XF at b;cases j:decide ((d.toNat:Int)<32)<;>cases l:decide ((d.toNat:Int)>126)<;>cases m:((d.toNat:Int)==34)<;>rw[j,l,m]at b<;>first | rfl | cases b
 ·intro i d hd b;have hi:i<a.length:=(zC.1 hd).1;have f:decide ((i:Int)<(a.length:Int))=true:=by simp;omega
  simp only[f,ac,aA,hd,zA,if_pos hi];unfold XF at b;cases j:decide ((d.toNat:Int)<32)<;>cases l:decide ((d.toNat:Int)>126)<;>cases m:((d.toNat:Int)==34)<;>rw[j,l,m]at b<;>first | rfl | cases b
 ·have f:decide ((a.length:Int)<(a.length:Int))=false:=by simp
  simp only[f,aa,Nat.lt_irrefl,if_false];rfl
theorem aeA(d:UInt8):((d.toNat:Int) != 34)=noQ d:=by
 unfold noQ;by_cases h:d=34
 ·subst h;rfl
 ·have a:¬(d.toNat=34):=fun e=>h (UInt8.toNat_inj.1 e)
  have b:((d.toNat:Int)==34)=false:=by
   rw[beq_eq_false_iff_ne];intro e;exact a (by exact_mod_cast e)
  have c:(d==34)=false:=by simpa using h
  rw[bne,b,c]
theorem acJ(a:Str)(b:Nat)(r:a.length<=120)(m:a[b]?=some 34)(k:Nat)(n:k=b+1+bQ noQ (a.drop (b+1))) :
  mZ a (b:Int)=if k<a.length then (fG ((a.take k).drop (b+1))).bind (fun v=>some (⟨3,0,b,(a.take k).drop (b+1)⟩,bif v then ((k+1-b:Nat):Int)else 0))
   else some (⟨3,0,b,(a.take k).drop (b+1)⟩,0):=by
 have s:b<a.length:=(zC.1 m).1;have h:k<=a.length:=by
  have:=pq noQ (a.drop (b+1));rw[List.length_drop]at this;omega
 have o:isLet (34:UInt8)=false:=rfl;have p:eX (34:UInt8)=false:=rfl;have q:(((34:UInt8).toNat:Int)==34)=true:=rfl;unfold mZ;rw[aA,m];simp only[zA,oZ,o9,o,p,q,ac,aa,gu (show b<=1000 by omega)];refine (xB (fun k=>(a,(b:Int),(0:Int),(0:Int),(0:Int),([]:Str),(0:Int),(0:Int),(b:Int),([]:Str),(k:Int))) a noQ
  (fun k=>(eff.cutL a (some ((b+1:Nat):Int)) (some (k:Int))).bind fun c=>bif ((k:Int)==(a.length:Int))then some (aK.mk 3 0 (b:Int) c,(0:Int))else
   (fG c).bind fun j=>bif (!j)then some (aK.mk 3 0 (b:Int) c,(0:Int))else some (aK.mk 3 0 (b:Int) c,w64 ((w64 ((k:Int)+1))-(b:Int)))) ?_ ?_ ?_ (a.length-(b+1)) (b+1) (by omega)).trans ?_
 ·intro i d hd e;have hi:i<a.length:=(zC.1 hd).1;have f:decide ((i:Int)<(a.length:Int))=true:=by simp;omega
  simp only[f,ac,aA,hd,zA,aeA,e,gu (show i<=1000 by omega)]
 ·intro i d hd e;have hi:i<a.length:=(zC.1 hd).1;have f:decide ((i:Int)<(a.length:Int))=true:=by simp;omega
  simp only[f,ac,aA,hd,zA,aeA,e,aa,gu (show b<=1000 by omega)]
 ·have f:decide ((a.length:Int)<(a.length:Int))=false:=by simp
  simp only[f,aa,gu (show b<=1000 by omega)]
 ·rw[<- n,qc a (b+1) k (by omega) h];simp only[zA];by_cases g:k<a.length
  ·have l:((k:Int)==(a.length:Int))=false:=by rw[beq_eq_false_iff_ne];omega
   rw[if_pos g,l];simp only[aa,gu (show k<=1000 by omega),Bc (show b<=k+1 by omega) (show k+1<=1000 by omega)];congr 1;funext v;cases v<;>rfl
  ·have l:((k:Int)==(a.length:Int))=true:=by rw[beq_iff_eq];omega
   rw[if_neg g,l];rfl
theorem agT(a:Str)(b:Nat)(o:a.length<=120)(f:a[b]?=some 34)(k:Nat)(p:k=b+1+bQ noQ (a.drop (b+1))) :
  jo a (b:Int)=if k<a.length then (gV ((a.take k).drop (b+1))).bind (fun v=>some (⟨3,0,b,(a.take k).drop (b+1)⟩,((k+1:Nat):Int),v))
   else some (⟨0,0,0,[]⟩,0,false):=by
 have q:b<a.length:=(zC.1 f).1;have d:k<=a.length:=by
  have:=pq noQ (a.drop (b+1));rw[List.length_drop]at this;omega
 have g:decide (((34:UInt8).toNat:Int)>=97)=false:=rfl;have h:decide (((34:UInt8).toNat:Int)>=48)=false:=rfl;have i:(((34:UInt8).toNat:Int)==34)=true:=rfl;have ld:(a.drop (b+1)).length=a.length-(b+1):=List.length_drop;have ib:eu (a.drop (b+1)) 34=some (if bQ noQ (a.drop (b+1))<(a.drop (b+1)).length then (bQ noQ (a.drop (b+1)):Int)else -1):=by
  rw[<- Fq];rfl
 unfold jo;rw[aA,f];simp only[zA,g,h,i,ac,aa,gu (show b<=1000 by omega),Dl a (b+1) (by omega),ib];by_cases c:k<a.length
 ·have e:bQ noQ (a.drop (b+1))<(a.drop (b+1)).length:=by omega
  have j:decide ((bQ noQ (a.drop (b+1)):Int)<0)=false:=by simp
  have l:w64 (((b+1:Nat):Int)+(bQ noQ (a.drop (b+1)):Int))=(k:Int):=by rw[aX (by omega) (by omega)];omega
  have m:w64 ((w64 ((b:Int)+(bQ noQ (a.drop (b+1)):Int)))+2)=((k+1:Nat):Int):=by
   rw[aX (n:=(b:Int)+(bQ noQ (a.drop (b+1)):Int)) (by omega) (by omega),aX (by omega) (by omega)];omega
  rw[if_pos e,if_pos c,j];simp only[aa,l,m,qc a (b+1) k (by omega) d,zA]
 ·have e:¬bQ noQ (a.drop (b+1))<(a.drop (b+1)).length:=by omega
  rw[if_neg e,if_neg c];rfl
theorem neN(c n:UInt8)(h:c≠n):((c.toNat:Int)==(n.toNat:Int))=false:=by
 rw[beq_eq_false_iff_ne];intro e;exact h (UInt8.toNat_inj.1 (by exact_mod_cast e))
def sy9(c:UInt8):Prop:=c=40\/c=41\/c=91\/c=93\/c=44\/c=43\/c=45\/c=42\/c=60
theorem ao4(a:Str)(b:Nat){c:UInt8}(d:a[b]?=some c)(h:sy9 c):lW a (b:Int)=some 1:=by
 unfold lW;rw[aA,d];simp only[zA];rcases h with rfl | rfl | rfl | rfl | rfl | rfl | rfl | rfl | rfl<;>rfl
theorem ao5(a:Str)(b:Nat){c:UInt8}(e:a[b]?=some c)(h:¬sy9 c)(f:c≠61):lW a (b:Int)=some 0:=by
 unfold sy9 at h;simp only[not_or]at h;obtain⟨g,i,j,k,l,m,n,o,p⟩:=h;have q:((c.toNat:Int)==40)=false:=neN c 40 g;have r:((c.toNat:Int)==41)=false:=neN c 41 i;have s:((c.toNat:Int)==91)=false:=neN c 91 j;have t:((c.toNat:Int)==93)=false:=neN c 93 k;have u:((c.toNat:Int)==44)=false:=neN c 44 l;have v:((c.toNat:Int)==43)=false:=neN c 43 m;have w:((c.toNat:Int)==45)=false:=neN c 45 n;have x:((c.toNat:Int)==42)=false:=neN c 42 o;have y:((c.toNat:Int)==60)=false:=neN c 60 p;have d:((c.toNat:Int)==61)=false:=neN c 61 f;unfold lW;rw[aA,e];simp only[zA,q,r,s,t,u,v,w,x,y,d,aa]
theorem ao3(a:Str)(b:Nat)(g:a.length<=120)(e:a[b]?=some 61):lW a (b:Int)=some (if a[b+1]?=some 61 then 2 else 1):=by
 have i:b<a.length:=(zC.1 e).1;unfold lW;rw[aA,e];simp only[zA,gu (show b<=1000 by omega)];show (bif (decide (((b+1:Nat):Int)<(a.length:Int)))then _ else _)=_
 by_cases c:b+1<a.length
 ·have d:decide (((b+1:Nat):Int)<(a.length:Int))=true:=by simp;omega
  rw[d,aA,zF c];simp only[ac,zA];by_cases h:a[b+1]=61
  ·rw[h];rfl
  ·have f:((a[b+1].toNat:Int)==61)=false:=neN _ 61 h;rw[f,if_neg (by simpa using h)];rfl
 ·have d:decide (((b+1:Nat):Int)<(a.length:Int))=false:=by simp;omega
  rw[d,zJ (by omega)];rfl
noncomputable def xu(a:Str)(b:Nat)(c:UInt8):Nat:=open Classical in if sy9 c then 1 else if c=61 then (if a[b+1]?=some 61 then 2 else 1)else 0
theorem aku(a:Str)(b:Nat)(f:a.length<=120){c:UInt8}(d:a[b]?=some c):lW a (b:Int)=some (xu a b c:Int):=by
 unfold xu;by_cases h:sy9 c
 ·rw[if_pos h];exact ao4 a b d h
 ·rw[if_neg h];by_cases e:c=61
  ·subst e;rw[if_pos rfl,ao3 a b f d];split<;>rfl
  ·rw[if_neg e];exact ao5 a b d h e
theorem aeD(a:Str)(b:Nat){c:UInt8}(d:a[b]?=some c):b+xu a b c<=a.length/\xu a b c<=2:=by
 have e:b<a.length:=(zC.1 d).1;unfold xu;split
 ·omega
 ·split
  ·split
   ·rename_i h;have:=(zC.1 h).1;omega
   ·omega
  ·omega
theorem af9(a:Str)(b:Nat)(e:a.length<=120){c:UInt8}(d:a[b]?=some c)(f:isLet c=false)(g:eX c=false)(h:c≠34) :
  mZ a (b:Int)=some (⟨4,0,b,(a.take (b+xu a b c)).drop b⟩,(xu a b c:Int)):=by
 have m:b<a.length:=(zC.1 d).1;have i:=aeD a b d;have j:((c.toNat:Int)==34)=false:=neN c 34 h;have k:w64 ((b:Int)+(xu a b c:Int))=((b+xu a b c:Nat):Int):=by rw[aX (by omega) (by omega)];omega
 have l:b+xu a b c-b=xu a b c:=by omega
 unfold mZ;rw[aA,d];simp only[zA,oZ,o9,f,g,j,aa,aku a b e d,k,qc a b _ (Nat.le_add_right _ _) i.1,Bc (Nat.le_add_right b (xu a b c)) (show b+xu a b c<=1000 by omega),l]
theorem agU(a:Str)(b:Nat)(r:a.length<=120){c:UInt8}(j:a[b]?=some c)(d:isLet c=false)(e:eX c=false)(k:c≠34) :
  jo a (b:Int)=bif Go.Lib.hasPrefix (a.drop b) [61,61]then some (⟨4,0,b,[61,61]⟩,((b+2:Nat):Int),true)
   else some (⟨4,0,b,(a.take (b+1)).drop b⟩,((b+1:Nat):Int),decide (Go.Lib.indexByte [40,41,91,93,44,43,45,42,60,61] c>=0)):=by
 have s:b<a.length:=(zC.1 j).1;have l:((c.toNat:Int)==34)=false:=neN c 34 k;have m:w64 ((b:Int)+2)=((b+2:Nat):Int):=by rw[aX (by omega) (by omega)];rfl
 have ep:jl (a.drop b) [61,61]=some (Go.Lib.hasPrefix (a.drop b) [61,61]):=rfl;have eb:eu [40,41,91,93,44,43,45,42,60,61] (c.toNat:Int)=some (Go.Lib.indexByte [40,41,91,93,44,43,45,42,60,61] c):=by
  unfold eu;rw[az];simp
 have core:((eff.cutL a (some (b:Int)) none).bind fun f=>(jl f [61,61]).bind fun g=>
   bif g then some (aK.mk 4 0 (b:Int) [61,61],w64 ((b:Int)+2),true)else
   (eff.cutL a (some (b:Int)) (some (w64 ((b:Int)+1)))).bind fun h=>
   (eu [40,41,91,93,44,43,45,42,60,61] (c.toNat:Int)).bind fun i=>some (aK.mk 4 0 (b:Int) h,w64 ((b:Int)+1),(decide (i>=0)))) =
   bif Go.Lib.hasPrefix (a.drop b) [61,61]then some (⟨4,0,b,[61,61]⟩,((b+2:Nat):Int),true)
   else some (⟨4,0,b,(a.take (b+1)).drop b⟩,((b+1:Nat):Int),decide (Go.Lib.indexByte [40,41,91,93,44,43,45,42,60,61] c>=0)):=by
  simp only[Dl a b (by omega),zA,ep,eb,gu (show b<=1000 by omega),m,qc a b (b+1) (by omega) (by omega)]
 unfold isLet at d;unfold eX at e;unfold jo;rw[aA,j];simp only[zA,(yO c).1,(yO c).2.1,(yO c).2.2.1,(yO c).2.2.2,l];cases n:decide (97<=c.toNat)<;>cases o:decide (c.toNat<=122)<;>cases p:decide (48<=c.toNat)<;>cases q:decide (c.toNat<=57)<;>rw[n,o]at d<;>rw[p,q]at e<;>first | exact core | exact absurd d (by decide) | exact absurd e (by decide)
theorem drop_cons(a:Str)(b:Nat){c:UInt8}(d:a[b]?=some c):a.drop b=c::a.drop (b+1):=by
 have f:b<a.length:=(zC.1 d).1;have e:a[b]=c:=by rw[zF f]at d;exact aR d
 rw[List.drop_eq_getElem_cons f,e]
theorem ajs(a:Str)(b:Nat)(n:a.length<=120){c:UInt8}(m:a[b]?=some c)(o:isLet c=false)(p:eX c=false)(q:c≠34) :
  (xu a b c=0->∃t e,jo a (b:Int)=some (t,e,false)) /\
  (0<xu a b c->jo a (b:Int)=some (⟨4,0,b,(a.take (b+xu a b c)).drop b⟩,((b+xu a b c:Nat):Int),true)):=by
 have hd:=drop_cons a b m;rw[agU a b n m o p q];unfold xu;by_cases h:sy9 c
 ·have f:Go.Lib.hasPrefix (a.drop b) [61,61]=false:=by
   rw[hd];rcases h with rfl | rfl | rfl | rfl | rfl | rfl | rfl | rfl | rfl<;>rfl
  have hi:decide (Go.Lib.indexByte [40,41,91,93,44,43,45,42,60,61] c>=0)=true:=by
   rcases h with rfl | rfl | rfl | rfl | rfl | rfl | rfl | rfl | rfl<;>rfl
  rw[if_pos h,f,hi];exact⟨fun e=>absurd e (by decide),fun _=>rfl⟩
 ·rw[if_neg h];by_cases j:c=61
  ·subst j;rw[if_pos rfl];by_cases h2q:a[b+1]?=some 61
   ·have i:=drop_cons a (b+1) h2q;have f:Go.Lib.hasPrefix (a.drop b) [61,61]=true:=by rw[hd,i];rfl
    have s:(a.take (b+2)).drop b=[61,61]:=by
     rw[List.drop_take,hd,i];have:b+2-b=2:=by omega
     rw[this];rfl
    rw[if_pos h2q,f,s];exact⟨fun e=>absurd e (by decide),fun _=>rfl⟩
   ·have f:Go.Lib.hasPrefix (a.drop b) [61,61]=false:=by
     rw[hd];cases u:a.drop (b+1)with
     | nil=>rfl
     | cons d r=>
      have k:a[b+1]?=some d:=by
       have:=congrArg (fun l:Str=>l[0]?) u;simpa using this
      have g:(61==d)=false:=by
       rw[beq_eq_false_iff_ne];intro e;exact h2q (by rw[k,e])
      show (((61:UInt8)==61)&&((61==d)&&_))=false
      rw[g];rfl
    rw[if_neg h2q,f];exact⟨fun e=>absurd e (by decide),fun _=>rfl⟩
  ·rw[if_neg j];unfold sy9 at h;simp only[not_or]at h;obtain⟨v,w,x,y,z,A,B,C,D⟩:=h;have f:Go.Lib.hasPrefix (a.drop b) [61,61]=false:=by
    rw[hd];have g:(61==c)=false:=by rw[beq_eq_false_iff_ne];exact fun e=>j e.symm
    show ((61==c)&&_)=false
    rw[g];rfl
   have hi:decide (Go.Lib.indexByte [40,41,91,93,44,43,45,42,60,61] c>=0)=false:=by
    simp[Go.Lib.indexByte,Ne.symm v,Ne.symm w,Ne.symm x,Ne.symm y,Ne.symm z,Ne.symm A,Ne.symm B,Ne.symm C,Ne.symm D,Ne.symm j]
   rw[f,hi];exact⟨fun _=>⟨_,_,rfl⟩,fun e=>absurd e (by decide)⟩
theorem Gf{p:UInt8->Bool}{a:Str}{b:Nat}{c:UInt8}(d:a[b]?=some c)(e:p c=true):1<=bQ p (a.drop b):=by
 rw[drop_cons a b d];unfold bQ;rw[if_pos e];omega
theorem Ve{a:Str}{b n:Nat}{c:UInt8}(d:a[b]?=some c)(h:1<=n):∃r,(a.take (b+n)).drop b=c::r:=by
 obtain⟨k,rfl⟩:∃k,n=k+1:=⟨n-1,by omega⟩;rw[List.drop_take,drop_cons a b d];have e:b+(k+1)-b=k+1:=by omega
 rw[e,List.take_succ_cons];exact⟨_,rfl⟩
theorem WM{a:Str}{b k:Nat}(c:a.length<=120):((a.take k).drop b).length<=120:=by simp;omega
theorem IV(c:UInt8)(r:Str):letter (c::r)=isLet c:=by
 show decide (97<=c.toNat/\c.toNat<=122)=isLet c
 unfold isLet;rw[Bool.decide_and]
theorem afy(a:Str)(b:Nat)(g:a.length<=120){c:UInt8}(f:a[b]?=some c) :
  (∃(t:aK) (n:Nat),1<=n/\b+n<=a.length/\Wj t/\jo a (b:Int)=some (t,((b+n:Nat):Int),true)/\mZ a (b:Int)=some (t,(n:Int))) \/
  ((∃t e,jo a (b:Int)=some (t,e,false))/\∃t,mZ a (b:Int)=some (t,0)):=by
 have y:b<a.length:=(zC.1 f).1;have hrun:∀(p:UInt8->Bool),b+bQ p (a.drop b)<=a.length:=by
  intro p;have:=pq p (a.drop b);rw[List.length_drop]at this;omega
 cases h:isLet c with
 | true=>
  have q:rM c=true:=by unfold rM;rw[h];rfl
  have hi:=agV a b g f h;have d:=acK a b g f h;by_cases s:bQ rM (a.drop b)<=8
  ·rw[al s]at hi;rw[if_neg (by omega)]at d;exact .inl ⟨_,_,Gf f q,hrun rM,⟨Int.natCast_nonneg b,fun _=>by obtain⟨r,e⟩:=Ve f (Gf f q);exact (congrArg letter e).trans ((IV c r).trans h),fun e=>absurd e (by simp),WM g⟩,hi,d⟩
  ·rw[ae s]at hi;rw[if_pos (by omega)]at d;exact .inr ⟨⟨_,_,hi⟩,⟨_,d⟩⟩
 | false=>
  cases j:eX c with
  | true=>
   obtain⟨vi,vs,ok,oks,hi,d,k,w,_⟩:=akq a b g f j;cases l:ok with
   | true=>
    rw[l]at k hi;have x:=w l;subst x;rw[if_pos k.symm]at d;exact .inl ⟨_,_,Gf f j,hrun eX,⟨Int.natCast_nonneg b,fun e=>absurd e (by simp),fun e=>absurd e (by simp),by simp⟩,hi,d⟩
   | false=>
    rw[l]at k hi;rw[if_neg (by rw[<- k];decide)]at d;exact .inr ⟨⟨_,_,hi⟩,⟨_,d⟩⟩
  | false=>
   by_cases m:c=34
   ·subst m;have hi:=agT a b g f _ rfl;have d:=acJ a b g f _ rfl;by_cases i:b+1+bQ noQ (a.drop (b+1))<a.length
    ·rw[if_pos i]at hi d;obtain⟨v,hv,_⟩:=He ((a.take (b+1+bQ noQ (a.drop (b+1)))).drop (b+1)) (by simp;omega);have o:fG ((a.take (b+1+bQ noQ (a.drop (b+1)))).drop (b+1))=some v:=hv;rw[hv]at hi;rw[o]at d;cases v with
     | true=>
      refine .inl ⟨_,b+1+bQ noQ (a.drop (b+1))+1-b,by omega,by omega,⟨Int.natCast_nonneg b,fun e=>absurd e (by simp),fun e=>absurd e (by simp),WM g⟩,?_,d⟩;have e:b+(b+1+bQ noQ (a.drop (b+1))+1-b)=b+1+bQ noQ (a.drop (b+1))+1:=by omega
      rw[e];exact hi
     | false=>exact .inr ⟨⟨_,_,hi⟩,⟨_,d⟩⟩
    ·rw[if_neg i]at hi d;exact .inr ⟨⟨_,_,hi⟩,⟨_,d⟩⟩
   ·have hi:=ajs a b g f h j m;have d:=af9 a b g f h j m;by_cases u:xu a b c=0
    ·rw[u]at d;exact .inr ⟨hi.1 u,⟨_,d⟩⟩
    ·exact .inl ⟨_,_,by omega,(aeD a b f).1,⟨Int.natCast_nonneg b,fun e=>absurd e (by simp),fun _=>by obtain⟨r,e⟩:=Ve f (show 1<=xu a b c by omega);exact (congrArg letter e).trans ((IV c r).trans h),WM g⟩,hi.2 (by omega),d⟩
theorem adt{ρ:Type}{X:Type}(f g:X->Option (X⊕ρ))(P:Nat->X->Prop)(R:ρ->Prop)
  (h:∀m x,P m x->(∃r,R r/\f x=some (.inr r)/\g x=some (.inr r))\/(∃y k,k<m/\P k y/\f x=some (.inl y)/\g x=some (.inl y))) :
  ∀m x,P m x->∃r,R r/\ak f x=some r/\ak g x=some r:=by
 intro m;induction m using Nat.strongRecOn with
 | _ m ih=>
  intro x c;rw[aI f,aI g];rcases h m x c with ⟨r,d,a,b⟩ | ⟨y,k,e,i,a,b⟩
  ·rw[a,b];exact⟨r,d,rfl,rfl⟩
  ·rw[a,b];exact ih k e y i
theorem OD(a:Str):∃r,(r.2<0->dM r.1 (a.length:Int))/\yw a=some r/\xC a=some r:=by
 unfold yw xC;by_cases j:(a.length:Int)>120
 ·rw[al j];exact⟨_,fun h=>absurd h (by decide),rfl,rfl⟩
 ·rw[ae j];simp only[aa];have d:a.length<=120:=by omega
  refine adt _ _ (fun m x=>∃toks b,x=(a,toks,((b:Nat):Int))/\b<=a.length/\m=a.length-b/\toks.length<=60/\∀t,t∈toks->Wj t) (fun (r:List aK×Int)=>r.2<0->dM r.1 (a.length:Int)) ?_ a.length (a,[],0) ⟨[],0,rfl,by omega,by omega,by simp,by simp⟩;rintro m _ ⟨toks,b,rfl,s,rfl,k,hall⟩;simp only;by_cases f:b<a.length
  ·have g:decide ((b:Int)<(a.length:Int))=true:=by simp;omega
   have l:=zF f;simp only[g,ac,aA,l,zA];cases v:((a[b].toNat:Int)==32)with
   | true=>
    exact .inr ⟨(a,toks,((b+1:Nat):Int)),a.length-(b+1),by omega,⟨toks,b+1,rfl,by omega,rfl,k,hall⟩,by rw[gu (by omega)];rfl,by rw[gu (by omega)];rfl⟩
   | false=>
    rcases afy a b d l with ⟨t,n,w,o,i,ei,es⟩ | ⟨⟨t,e,ei⟩,⟨t',es⟩⟩
    ·have en:((n:Int)==0)=false:=by rw[beq_eq_false_iff_ne];omega
     have ew:w64 ((b:Int)+(n:Int))=((b+n:Nat):Int):=by rw[aX (by omega) (by omega)];omega
     simp only[ei,es,zA,en,ew,aa,aL];cases p:((toks.length:Int)==60)with
     | true=>exact .inl ⟨([],(b:Int)),fun h=>by simp at h;omega,rfl,rfl⟩
     | false=>
      have y:toks.length<60:=by
       have:¬((toks.length:Int)=60):=by simpa using p
       omega
      have q:gd (toks.length+[t].length)=some ():=by
       unfold gd;rw[if_pos (by simp;omega)]
      rw[q];exact .inr ⟨(a,toks++[t],((b+n:Nat):Int)),a.length-(b+n),by omega,⟨toks++[t],b+n,rfl,o,rfl,by simp;omega,fun u c=>by rcases List.mem_append.1 c with c | c;exact hall u c;rw[List.mem_singleton.1 c];exact i⟩,rfl,rfl⟩
    ·simp only[ei,es,zA];exact .inl ⟨([],(b:Int)),fun h=>by simp at h;omega,rfl,rfl⟩
  ·have g:decide ((b:Int)<(a.length:Int))=false:=by simp;omega
   simp only[g,aa];exact .inl ⟨(toks,-1),fun _=>⟨hall,by simp,k⟩,rfl,rfl⟩
end Go.Proofs.YtapgeemjgckgaaaGreatDoor
/- Plain laws: one node, valid on both sides alike. Plain laws: nesting and nodes of expressions alike. Plain laws: expressions that a parser reads: few nodes, short texts; validity is alike on both sides. -/
namespace Go.Proofs.YtapgeemjgckgaaaGreatDoor
open Go.Abs Go.Proofs
theorem oz{α:Type}(c:Bool){a b a' b':α}(d:a=a')(e:b=b'):(bif c then a else b)=bif c then a' else b':=by rw[d,e]
theorem U8(a b c:Int):kS a b c=xI a b c:=rfl
theorem nV(a b c:Int):xI a b c=some (decide (a>=b)&&decide (a<=c)):=by
 unfold xI;cases decide (a>=b)<;>rfl
theorem abZ(a:Str):fZ a=dU a:=rfl
theorem adl(e:af)(c:e.text.length<=34359738368)(d:∃v,fG e.text=some v)(f:∃v,bP e.text=some v):Eo e=oI e:=by
 obtain⟨v,hv⟩:=d;obtain⟨u,g⟩:=f;unfold Eo oI;simp only[U8,nV,abZ,Hf,nX e.text c,hv,g,zA];generalize (e.text==[])=p;generalize ((e.args.length:Int)==0)=a;generalize ((e.args.length:Int)==2)=b;generalize (decide (e.n>=0)&&decide (e.n<=1000000000))=h;generalize (decide (e.n>=1)&&decide (e.n<=5))=i;refine oz _ ?_ (oz _ ?_ (oz _ ?_ (oz _ rfl (oz _ rfl (oz _ ?_ (oz _ ?_ (oz _ ?_ rfl)))))))
 ·cases p<;>cases a<;>cases h<;>rfl
 ·cases a<;>cases v<;>cases (e.n==0)<;>rfl
 ·cases a<;>cases u<;>cases (e.n==0)<;>rfl
 ·cases p<;>cases b<;>cases i<;>rfl
 ·cases b<;>cases u<;>cases (e.n==0)<;>rfl
 ·cases b<;>cases u<;>cases (e.n==0)<;>rfl
theorem QO{X ρ:Type}{f:X->Option (X⊕ρ)}{x:X}{r:ρ}{n:Nat}(a:iter f n x=some r):ak f x=some r:=by
 have hh:∃n r,iter f n x=some r:=⟨n,r,a⟩;unfold ak;rw[dif_pos hh];exact congrArg some (KE hh.choose_spec.choose_spec a)
theorem aaz{X Y ρ:Type}{f:X->Option (X⊕ρ)}{g:Y->Option (Y⊕ρ)}(P:X->Y->Prop)
  (H:∀x y,P x y->(f x=none/\g y=none)\/(∃r,f x=some (.inr r)/\g y=some (.inr r))\/(∃x' y',P x' y'/\f x=some (.inl x')/\g y=some (.inl y')))
  {x:X} {y:Y} (h:P x y):ak f x=ak g y:=by
 have hi:∀(n:Nat) (x:X) (y:Y),P x y->iter f n x=iter g n y:=by
  intro n;induction n with
  | zero=>intro x y _;rfl
  | succ n ih=>
   intro x y i;unfold iter;rcases H x y i with ⟨b,a⟩ | ⟨r,b,a⟩ | ⟨x',y',d,b,a⟩
   ·rw[b,a]
   ·rw[b,a]
   ·rw[b,a];exact ih x' y' d
 cases e:ak f x with
 | some r=>
  obtain⟨n,c⟩:=uI e;rw[hi n x y h]at c;exact (QO c).symm
 | none=>
  cases a:ak g y with
  | none=>rfl
  | some r=>
   obtain⟨n,c⟩:=uI a;rw[<- hi n x y h]at c;rw[QO c]at e;cases e
theorem Vt(m r:Int):Xj m r=some (if r>m then r else m):=by
 unfold Xj;by_cases h:m>r
 ·rw[al h,if_neg (by omega)];rfl
 ·rw[ae h];by_cases a:r>m
  ·rw[if_pos a];rfl
  ·rw[if_neg a];have:r=m:=by omega
   rw[this];rfl
theorem Ue:∀(n:Nat) (e:af),qE n e=jZ n e:=by
 intro n;induction n with
 | zero=>intro e;rfl
 | succ n ih=>
  intro e;show CV (qE n) e=qo (jZ n) e
  unfold CV qo;refine aaz (fun x y=>∃m i:Int,x=(m,e.args,(e.args.length:Int),i)/\y=(e.kind,e.n,e.text,e.args,m,i)) ?_ ⟨0,0,rfl,rfl⟩;rintro _ _ ⟨m,i,rfl,rfl⟩;simp only;cases decide (i<(e.args.length:Int))with
  | false=>exact .inr (.inl ⟨_,rfl,rfl⟩)
  | true=>
   simp only[ac];cases idx e.args i with
   | none=>exact .inl ⟨rfl,rfl⟩
   | some x=>
    simp only[zA,ih];cases jZ n (ah x)with
    | none=>exact .inl ⟨rfl,rfl⟩
    | some r=>
     simp only[zA,Vt];exact .inr (.inr ⟨_,_,⟨_,_,rfl,rfl⟩,rfl,rfl⟩)
theorem ags(x:af):ah x=x:=by cases x;rfl
theorem ajr{α:Type}{xs:List α}{i:Int}{x:α}(h:idx xs i=some x):x∈xs:=by
 unfold idx at h;split at h
 ·exact zG h
 ·cases h
theorem aas(P:af->Prop)(hsub:∀e x,P e->x∈e.args->P x)(hnode:∀e,P e->Eo e=oI e):∀(n:Nat) (e:af),P e->uP n e=qx n e:=by
 intro n;induction n with
 | zero=>intro e _;rfl
 | succ n ih=>
  intro e a;show GY (uP n) e=BN (qx n) e
  unfold GY BN;refine aaz (fun x y=>∃i:Int,x=(e.kind,e.n,e.text,e.args,e.args,(e.args.length:Int),i)/\y=(e.kind,e.n,e.text,e.args,i)) ?_ ⟨0,rfl,rfl⟩;rintro _ _ ⟨i,rfl,rfl⟩;simp only;cases decide (i<(e.args.length:Int))with
  | false=>
   have b:Eo ⟨e.kind,e.n,e.text,e.args⟩=oI ⟨e.kind,e.n,e.text,e.args⟩:=by
    have:=hnode e a;cases e;exact this
   simp only[aa,b];cases oI ⟨e.kind,e.n,e.text,e.args⟩with
   | none=>exact .inl ⟨rfl,rfl⟩
   | some r=>exact .inr (.inl ⟨_,rfl,rfl⟩)
  | true=>
   simp only[ac];cases c:idx e.args i with
   | none=>exact .inl ⟨rfl,rfl⟩
   | some x=>
    simp only[zA,ags,ih x (hsub e x a (ajr c))];cases qx n x with
    | none=>exact .inl ⟨rfl,rfl⟩
    | some r=>
     simp only[zA];cases r with
     | false=>exact .inr (.inl ⟨_,rfl,rfl⟩)
     | true=>exact .inr (.inr ⟨_,_,⟨_,rfl,rfl⟩,rfl,rfl⟩)
theorem Wp{x:af}:∀ {xs:List af},x∈xs->wtE x<=wtL xs
 | [],h=>by cases h
 | y::r,h=>by
  rcases ba.1 h with rfl | h
  ·show _<=wtE x+wtL r;omega
  ·have:=Wp h;show _<=wtE y+wtL r;omega
theorem Dx(e:af):1+wtL e.args<=wtE e:=by
 obtain⟨k,n,t,a⟩:=e;show 1+wtL a<=(if t.length<=120 then 1 else 18446744073709551616)+wtL a
 split<;>omega
theorem aew(e:af):1<=wtE e:=by have:=Dx e;omega
theorem Wq:∀(xs:List af),xs.length<=wtL xs
 | []=>by simp
 | x::r=>by
  have:=Wq r;have:=aew x;show r.length+1<=wtE x+wtL r;omega
theorem qK{x e:af}(h:x∈e.args):wtE x+1<=wtE e:=by
 have:=Wp h;have:=Dx e;omega
theorem NQ{e:af}(h:wtE e<=1048576):e.text.length<=120:=by
 obtain⟨k,n,t,a⟩:=e;have h:(if t.length<=120 then 1 else 18446744073709551616)+wtL a<=1048576:=h;show t.length<=120
 split at h
 ·assumption
 ·omega
theorem ahy{e:af}(h:wtE e<=1048576):wtE e=1+wtL e.args:=by
 have:=NQ h;obtain⟨k,n,t,a⟩:=e;exact Dw this
theorem tK{e:af}:e.args.length+1<=wtE e:=by
 have:=Dx e;have:=Wq e.args;omega
theorem Vm{e:af}:siz e.args<siz e:=by
 cases e;simp only[siz];rw[af.mk.sizeOf_spec];omega
theorem Zv{x:af}{xs:List af}(h:x∈xs):siz x+1<=siz xs:=by
 have:=List.sizeOf_lt_of_mem h;simp only[siz];omega
theorem fJ{x e:af}(h:x∈e.args):siz x+2<=siz e:=by
 have:=Zv h;have:=Vm (e:=e);omega
theorem Ou{xs:List af}{i:Nat}{x:af}(h:xs[i]?=some x):wtL (xs.take (i+1))=wtL (xs.take i)+wtE x:=by
 obtain⟨hi,rfl⟩:=zC.1 h;rw[List.take_succ_eq_append_getElem hi,FQ,aev]
theorem vH(xs:List af)(i:Nat):wtL (xs.take i)<=wtL xs:=by
 have h:wtL (xs.take i)+wtL (xs.drop i)=wtL xs:=by rw[<- FQ,List.take_append_drop]
 omega
theorem dL{α X ρ σ:Type}{g:X->Option (X⊕ρ)}(pk:σ->Nat->X)(xs:List α)(I:Nat->σ->Prop)(R:ρ->Prop)
  (f:∀i x s,xs[i]?=some x->I i s->(∃s',g (pk s i)=some (.inl (pk s' (i+1)))/\I (i+1) s')\/∃r,g (pk s i)=some (.inr r)/\R r)
  (h:∀s,I xs.length s->∃r,g (pk s xs.length)=some (.inr r)/\R r) (s:σ) (j:I 0 s):∃r,ak g (pk s 0)=some r/\R r:=by
 have key:∀(k i:Nat) (s:σ),xs.length=i+k->I i s->∃r,ak g (pk s i)=some r/\R r:=by
  intro k;induction k with
  | zero=>
   intro i s hi b;have:i=xs.length:=by omega
   subst this;obtain⟨r,e,a⟩:=h s b;exact⟨r,by rw[aI,e],a⟩
  | succ k ih=>
   intro i s hi b;have c:i<xs.length:=by omega
   rcases f i _ s (zF c) b with ⟨s',e,d⟩ | ⟨r,e,a⟩
   ·obtain⟨r,e',a⟩:=ih (i+1) s' (by omega) d;exact⟨r,by rw[aI,e];exact e',a⟩
   ·exact⟨r,by rw[aI,e],a⟩
 exact key xs.length 0 s (by omega) j
theorem dD{α:Type}{xs:List α}{i:Nat}{x:α}(h:xs[i]?=some x):decide ((i:Int)<(xs.length:Int))=true:=by
 have:=(zC.1 h).1;simp;omega
theorem bY{α:Type}(xs:List α):decide ((xs.length:Int)<(xs.length:Int))=false:=by simp
theorem dI{α:Type}{xs:List α}{i:Nat}{x:α}(h:xs[i]?=some x)(a:xs.length<=34359738368):w64 ((i:Int)+1)=((i+1:Nat):Int):=by
 have:=(zC.1 h).1;rw[aX (by omega) (by omega)];omega
theorem IG:∀(n:Nat) (e:af),siz e<n->wtE e<=1048576->og n e=some (wtE e:Int)
 | 0,e,h,_=>absurd h (Nat.not_lt_zero _)
 | n+1,e,m,d=>by
  have ih:=IG n;have o:=tK (e:=e);show CS (og n) e=_
  unfold CS;have key:=dL (fun (s:Unit) (i:Nat)=>((((1+wtL (e.args.take i):Nat):Int),e.args,(e.args.length:Int),(i:Int)):Int×(List af)×Int×Int)) e.args (fun _ _=>True) (fun r=>r=(wtE e:Int)) (g:=fun (a:Int×(List af)×Int×Int)=>
   bif (decide (a.2.2.2<a.2.2.1))then
    (idx a.2.1 a.2.2.2).bind fun f=>
    (og n (ah f)).bind fun j=>
    some (.inl (w64 (a.1+j),a.2.1,a.2.2.1,w64 (a.2.2.2+1)))
   else
    some (.inr (a.1))) (fun i x s b _=>.inl ⟨(),by
   have c:=zG b
   have p:=qK c
   have k:=Ou b
   have q:=vH e.args (i+1)
   have t:=Dx e
   simp only[dD b,ac,aA,b,zA,aQ,ih x (by have:=fJ c;omega) (by omega),dI b (by omega),k]
   rw[aX (by omega) (by omega)]
   congr 4
   omega,trivial⟩) (fun s _=>⟨_,by simp only[bY,aa];rfl,by rw[List.take_length,ahy d]⟩) () trivial
  obtain⟨r,l,rfl⟩:=key;exact l
theorem ae3:∀(n:Nat) (e:af) (b:Int),siz e<n->wtE e<=1048576->0<=b->b<=1048576 ->
  ∃r,xK n e b=some r/\(0<=b-wtE e->r=b-wtE e)/\(b-wtE e<0->r = -1)
 | 0,e,b,h,_,_,_=>absurd h (Nat.not_lt_zero _)
 | n+1,e,b,y,o,z,p=>by
  have ih:=ae3 n;have A:=tK (e:=e);have q:=ahy o;show ∃r,J4 (xK n) e b=some r/\_
  unfold J4;rw[aX (n:=b-1) (by omega) (by omega)];refine dL (fun (s:Int) (i:Nat)=>((s,e.kind,e.n,e.text,e.args,(i:Int)):Int×Int×Int×Str×(List af)×Int)) e.args
   (fun i s=>(0<=b-1-wtL (e.args.take i)->s=b-1-wtL (e.args.take i))/\(b-1-wtL (e.args.take i)<0->s = -1)) _ (fun i x s c g=>?_) (fun s g=>?_) (b-1) ⟨fun _=>by simp[wtL],fun h=>by simp[wtL]at h;omega⟩
  ·obtain⟨a,d⟩:=g;have l:=zG c;have p:=qK l;have m:=Ou c;have B:=vH e.args (i+1);by_cases j:s>=0
   ·obtain⟨r,t,u,v⟩:=ih x s (by have:=fJ l;omega) (by omega) j (by
     by_cases f:0<=b-1-wtL (e.args.take i)
     ·have:=a f;omega
     ·have:=d (by omega);omega)
    have w:s=b-1-wtL (e.args.take i):=by
     by_cases f:0<=b-1-wtL (e.args.take i)
     ·exact a f
     ·have:=d (by omega);omega
    refine .inl ⟨r,?_,fun k=>?_,fun k=>?_⟩
    ·simp only[dD c,ac,al j,aA,c,zA,aQ,t,dI c (by omega)]
    ·rw[m]at k ⊢;rw[u (by omega)];omega
    ·rw[m]at k;exact v (by omega)
   ·refine .inr ⟨s,?_,fun h=>?_,fun h=>?_⟩
    ·simp only[dD c,ac,ae j,aa]
    ·have:=vH e.args i;have:=a (by omega);omega
    ·have:=a;by_cases f:0<=b-1-wtL (e.args.take i)
     ·have:=a f;omega
     ·exact d (by omega)
  ·obtain⟨a,d⟩:=g;rw[List.take_length]at a d;exact⟨s,by simp only[bY,aa],fun h=>by rw[a (by omega)];omega,fun h=>d (by omega)⟩
theorem Qx:∀(n:Nat) (e:af),siz e<n->wtE e<=1048576->∃r,jZ n e=some r/\True
 | 0,e,h,_=>absurd h (Nat.not_lt_zero _)
 | n+1,e,f,g=>by
  have ih:=Qx n;have j:=tK (e:=e);show ∃r,qo (jZ n) e=some r/\_
  unfold qo;refine dL (fun (s:Int) (i:Nat)=>((e.kind,e.n,e.text,e.args,s,(i:Int)):Int×Int×Str×(List af)×Int×Int)) e.args (fun _ _=>True) _ (fun i x s a c=>?_) (fun s c=>?_) 0 trivial
  ·have b:=zG a;obtain⟨r,d,_⟩:=ih x (by have:=fJ b;omega) (by have:=qK b;omega);refine .inl ⟨if r>s then r else s,?_,trivial⟩;simp only[dD a,ac,aA,a,zA,aQ,d,Vt,dI a (by omega)]
  ·exact⟨_,by simp only[bY,aa];rfl,trivial⟩
theorem abY(a:Str):∃r,dU a=some r/\r<=4/\(0<=r->a.length<=6/\prn a=true):=by
 unfold dU;have go:∀(w:Str) (k:Int) (z:Option Int),w.length<=6/\prn w=true->k<=4->(∃r,z=some r/\r<=4/\(0<=r->a.length<=6/\prn a=true))->∃r,(bif (a==w)then some k else z)=some r/\r<=4/\(0<=r->a.length<=6/\prn a=true):=by
  intro w k z b c d;cases h:(a==w)with
  | true=>
   have e:=eq_of_beq h;exact⟨k,rfl,c,fun _=>by rw[e];exact b⟩
  | false=>exact d
 repeat refine go _ _ _ (by decide) (by decide) ?_
 exact⟨-1,rfl,by decide,fun h=>by omega⟩
structure FP(e:af):Prop where
 pr:prn e.text=true
 k0:1<=e.kind
 k9:e.kind<=9
 num:e.kind=1->0<=e.n/\e.n<=1000000000
 call:e.kind=5->e.args.length<=4
 list:e.kind=4->e.args.length<=8
 op:e.kind=6->e.args.length=2/\1<=e.n/\e.n<=5
 two:e.kind=7\/e.kind=9->e.args.length=2
 three:e.kind=8->e.args.length=3
 leaf:e.kind=1\/e.kind=2\/e.kind=3->e.args=[]
 z:e.kind=1\/e.kind=4\/e.kind=6\/e.kind=8->e.text=[]
 w:e.kind≠1->e.kind≠6->e.n=0
 nm:e.kind=3\/e.kind=7\/e.kind=9->bP e.text=some true
 tx:e.kind=2->fG e.text=some true
 cl:e.kind=5->(e.args.length:Int)=vw e.text
inductive vz:af->Prop
 | mk (e:af) (h:FP e) (hs:∀x,x∈e.args->vz x):vz e
theorem akZ(e:af)(q:∃v,fG e.text=some v/\(v=true->prn e.text=true))(r:∃v,bP e.text=some v/\(v=true->prn e.text=true)):∃v,oI e=some v/\(v=true->FP e):=by
 have s:=nV e.n 0 1000000000;have t:=nV e.n 1 5;obtain⟨w,d,u⟩:=q;obtain⟨x,f,l⟩:=r;have nl:(e.text==[])=true->prn e.text=true:=fun h=>by rw[eq_of_beq h];rfl
 obtain⟨y,g,A,m⟩:=abY e.text;have no:∃v,(some false:Option Bool)=some v/\(v=true->FP e):=⟨false,rfl,fun h=>(by cases h)⟩;have bb:∀(c:Bool) (z:Option Bool),(c=true->∃v,z=some v/\(v=true->FP e))->∃v,(bif c then z else some false)=some v/\(v=true->FP e):=by
  intro c z o;cases c with
  | true=>exact o rfl
  | false=>exact no
 have kk:∀(k:Int) (z z':Option Bool),(e.kind=k->∃v,z=some v/\(v=true->FP e))->(¬e.kind=k->∃v,z'=some v/\(v=true->FP e))->∃v,(bif (e.kind==k)then z else z')=some v/\(v=true->FP e):=by
  intro k z z' o p;cases h:(e.kind==k)with
  | true=>exact o (eq_of_beq h)
  | false=>exact p (by simpa using h)
 have nil:((e.args.length:Int)==0)=true->e.args=[]:=fun h=>by
  have h:=eq_of_beq h;exact List.length_eq_zero_iff.1 (by omega)
 unfold oI;simp only[s,d,f,g,t,zA];refine kk 1 _ _ (fun i=>bb _ _ fun b=>bb _ _ fun a=>⟨_,rfl,fun hv=>?_⟩) fun B=>?_
 ·have hv:0<=e.n/\e.n<=1000000000:=by simpa using hv
  exact⟨nl a,by omega,by omega,fun _=>hv,fun h=>by omega,fun h=>by omega,fun h=>by omega,fun h=>by omega,fun h=>by omega,fun _=>nil b,fun h=>(by first | exact eq_of_beq b | exact eq_of_beq a | omega),fun h j=>(by first | exact eq_of_beq b | exact eq_of_beq a | omega),fun h=>(by first | omega | rw[f,hv]),fun h=>(by first | omega | rw[d,hv]),fun h=>(by first | omega | (unfold vw;rw[g];exact hv))⟩
 refine kk 2 _ _ (fun i=>bb _ _ fun b=>bb _ _ fun a=>⟨_,rfl,fun hv=>?_⟩) fun C=>?_
 ·exact⟨u hv,by omega,by omega,fun h=>by omega,fun h=>by omega,fun h=>by omega,fun h=>by omega,fun h=>by omega,fun h=>by omega,fun _=>nil b,fun h=>(by first | exact eq_of_beq b | exact eq_of_beq a | omega),fun h j=>(by first | exact eq_of_beq b | exact eq_of_beq a | omega),fun h=>(by first | omega | rw[f,hv]),fun h=>(by first | omega | rw[d,hv]),fun h=>(by first | omega | (unfold vw;rw[g];exact hv))⟩
 refine kk 3 _ _ (fun i=>bb _ _ fun b=>bb _ _ fun a=>⟨_,rfl,fun hv=>?_⟩) fun D=>?_
 ·exact⟨l hv,by omega,by omega,fun h=>by omega,fun h=>by omega,fun h=>by omega,fun h=>by omega,fun h=>by omega,fun h=>by omega,fun _=>nil b,fun h=>(by first | exact eq_of_beq b | exact eq_of_beq a | omega),fun h j=>(by first | exact eq_of_beq b | exact eq_of_beq a | omega),fun h=>(by first | omega | rw[f,hv]),fun h=>(by first | omega | rw[d,hv]),fun h=>(by first | omega | (unfold vw;rw[g];exact hv))⟩
 refine kk 4 _ _ (fun i=>bb _ _ fun b=>bb _ _ fun a=>⟨_,rfl,fun hv=>?_⟩) fun E=>?_
 ·have hv:=of_decide_eq_true hv;exact⟨nl a,by omega,by omega,fun h=>by omega,fun h=>by omega,fun h=>by omega,fun h=>by omega,fun h=>by omega,fun h=>by omega,fun h=>by omega,fun h=>(by first | exact eq_of_beq b | exact eq_of_beq a | omega),fun h j=>(by first | exact eq_of_beq b | exact eq_of_beq a | omega),fun h=>(by first | omega | rw[f,hv]),fun h=>(by first | omega | rw[d,hv]),fun h=>(by first | omega | (unfold vw;rw[g];exact hv))⟩
 refine kk 5 _ _ (fun i=>bb _ _ fun b=>⟨_,rfl,fun hv=>?_⟩) fun F=>?_
 ·have hv:=eq_of_beq hv;exact⟨(m (by omega)).2,by omega,by omega,fun h=>by omega,fun h=>by omega,fun h=>by omega,fun h=>by omega,fun h=>by omega,fun h=>by omega,fun h=>by omega,fun h=>(by first | exact eq_of_beq b | exact eq_of_beq a | omega),fun h j=>(by first | exact eq_of_beq b | exact eq_of_beq a | omega),fun h=>(by first | omega | rw[f,hv]),fun h=>(by first | omega | rw[d,hv]),fun h=>(by first | omega | (unfold vw;rw[g];exact hv))⟩
 refine kk 6 _ _ (fun i=>bb _ _ fun b=>bb _ _ fun a=>⟨_,rfl,fun hv=>?_⟩) fun G=>?_
 ·have a:=eq_of_beq a;have hv:1<=e.n/\e.n<=5:=by simpa using hv
  exact⟨nl b,by omega,by omega,fun h=>by omega,fun h=>by omega,fun h=>by omega,fun _=>⟨by omega,hv⟩,fun h=>by omega,fun h=>by omega,fun h=>by omega,fun h=>(by first | exact eq_of_beq b | exact eq_of_beq a | omega),fun h j=>(by first | exact eq_of_beq b | exact eq_of_beq a | omega),fun h=>(by first | omega | rw[f,hv]),fun h=>(by first | omega | rw[d,hv]),fun h=>(by first | omega | (unfold vw;rw[g];exact hv))⟩
 refine kk 7 _ _ (fun i=>bb _ _ fun b=>bb _ _ fun a=>⟨_,rfl,fun hv=>?_⟩) fun H=>?_
 ·have a:=eq_of_beq a;exact⟨l hv,by omega,by omega,fun h=>by omega,fun h=>by omega,fun h=>by omega,fun h=>by omega,fun _=>by omega,fun h=>by omega,fun h=>by omega,fun h=>(by first | exact eq_of_beq b | exact eq_of_beq a | omega),fun h j=>(by first | exact eq_of_beq b | exact eq_of_beq a | omega),fun h=>(by first | omega | rw[f,hv]),fun h=>(by first | omega | rw[d,hv]),fun h=>(by first | omega | (unfold vw;rw[g];exact hv))⟩
 refine kk 9 _ _ (fun i=>bb _ _ fun b=>bb _ _ fun a=>⟨_,rfl,fun hv=>?_⟩) fun I=>?_
 ·have a:=eq_of_beq a;exact⟨l hv,by omega,by omega,fun h=>by omega,fun h=>by omega,fun h=>by omega,fun h=>by omega,fun _=>by omega,fun h=>by omega,fun h=>by omega,fun h=>(by first | exact eq_of_beq b | exact eq_of_beq a | omega),fun h j=>(by first | exact eq_of_beq b | exact eq_of_beq a | omega),fun h=>(by first | omega | rw[f,hv]),fun h=>(by first | omega | rw[d,hv]),fun h=>(by first | omega | (unfold vw;rw[g];exact hv))⟩
 refine kk 8 _ _ (fun i=>bb _ _ fun b=>bb _ _ fun a=>⟨_,rfl,fun hv=>?_⟩) fun J=>no
 ·have hv:=eq_of_beq hv;exact⟨nl a,by omega,by omega,fun h=>by omega,fun h=>by omega,fun h=>by omega,fun h=>by omega,fun h=>by omega,fun _=>by omega,fun h=>by omega,fun h=>(by first | exact eq_of_beq b | exact eq_of_beq a | omega),fun h j=>(by first | exact eq_of_beq b | exact eq_of_beq a | omega),fun h=>(by first | omega | rw[f,hv]),fun h=>(by first | omega | rw[d,hv]),fun h=>(by first | omega | (unfold vw;rw[g];exact hv))⟩
theorem aex:∀(s:Str) (i:Nat),kT i s=true->prn s=true
 | [],_,_=>rfl
 | c::r,i,h=>by
  have h:(ael i c&&kT (i+1) r)=true:=h;rw[zI]at h;have a:=h.1;unfold ael at a;show (prC c&&prn r)=true
  rw[aex r (i+1) h.2,Bool.and_true];unfold prC;simp at a ⊢;omega
theorem afv{a:Str}(c:a.length<=34359738368)(h:fH a=true):prn a=true:=by
 unfold fH bU at h;rw[Af a c,zA]at h;cases b:kT 0 a with
 | true=>exact aex a 0 b
 | false=>rw[b]at h;simp at h
theorem y7(e:af)(b:wtE e<=1048576):(∃v,fG e.text=some v/\(v=true->prn e.text=true))/\∃v,bP e.text=some v/\(v=true->prn e.text=true):=by
 have a:=NQ b;refine⟨?_,?_⟩
 ·obtain⟨v,hv,c⟩:=He e.text a;exact⟨v,by rw[<- Hf];exact hv,fun h=>(c h).1⟩
 ·exact⟨_,DL e.text a,afv (by omega)⟩
theorem akj:∀(n:Nat) (e:af),siz e<n->wtE e<=1048576->∃v,qx n e=some v/\(v=true->vz e)
 | 0,e,h,_=>absurd h (Nat.not_lt_zero _)
 | n+1,e,o,l=>by
  have ih:=akj n;have p:=tK (e:=e);show ∃v,BN (qx n) e=some v/\_
  unfold BN;refine dL (fun (_:Unit) (i:Nat)=>((e.kind,e.n,e.text,e.args,(i:Int)):Int×Int×Str×(List af)×Int)) e.args (fun i _=>∀j x,e.args[j]?=some x->j<i->vz x) _ (fun i x s a c=>?_) (fun s c=>?_) () (fun j x _ b=>absurd b (Nat.not_lt_zero _))
  ·have m:=zG a;obtain⟨v,d,f⟩:=ih x (by have:=fJ m;omega) (by have:=qK m;omega);simp only[dD a,ac,aA,a,zA,aQ,d,dI a (by omega)];cases v with
   | false=>exact .inr ⟨false,rfl,fun h=>(by cases h)⟩
   | true=>
    refine .inl ⟨(),rfl,fun j y g b=>?_⟩;by_cases k:j=i
    ·subst k;rw[a]at g;cases g
     exact f rfl
    ·exact c j y g (by omega)
  ·obtain⟨v,d,f⟩:=akZ e (y7 e l).1 (y7 e l).2;have eta:af.mk e.kind e.n e.text e.args=e:=by cases e;rfl
   refine⟨v,by simp only[bY,aa,eta,d,zA],fun hv=>.mk e (f hv) fun x a=>?_⟩;obtain⟨j,b⟩:=List.mem_iff_getElem?.1 a;exact c j x b (zC.1 b).1
theorem adk(e:af)(a:wtE e<=1048576):Eu e=Oa e:=
 aas (fun e=>wtE e<=1048576) (fun e x h b=>by have:=qK b;omega) (fun e h=>adl e (by have:=NQ h;omega) ((y7 e h).1.imp fun _ h=>h.1) ((y7 e h).2.imp fun _ h=>h.1)) _ e a
theorem vI(e:af)(a:wtE e<=1048576):∃v,gW e=some v/\gU e=some v/\(v=true->vz e/\wtE e<=40):=by
 have f:GL e=some (wtE e:Int):=IG _ e (Nat.lt_succ_self _) a;obtain⟨r,d,g,i⟩:=ae3 _ e 40 (Nat.lt_succ_self _) a (by omega) (by omega);have d:PL e 40=some r:=d;obtain⟨m,b,_⟩:=Qx _ e (Nat.lt_succ_self _) a;have b:FZ e=some m:=b;have j:GN e=some m:=(Ue _ e).trans b;obtain⟨v,c,k⟩:=akj _ e (Nat.lt_succ_self _) a;have c:Oa e=some v:=c;have l:Eu e=some v:=(adk e a).trans c;unfold gW gU;simp only[aQ,f,d,b,j,c,l,zA];have hd:decide ((wtE e:Int)<=40)=decide (r>=0):=by
  by_cases h:(wtE e:Int)<=40
  ·have:=g (by omega);rw[al h,al (by omega)]
  ·have:=i (by omega);rw[ae h,ae (by omega)]
 rw[<- hd];by_cases h:(wtE e:Int)<=40
 ·rw[al h];simp only[ac];cases decide (m<=8)with
  | true=>exact⟨v,rfl,rfl,fun hv=>⟨k hv,by omega⟩⟩
  | false=>exact⟨false,rfl,rfl,fun h=>(by cases h)⟩
 ·rw[ae h];exact⟨false,rfl,rfl,fun h=>(by cases h)⟩
theorem aai(a:Str):∃(e:af) (p:Int),uM a=some (e,p)/\ug a=some (e,p)/\(p<0->vz e/\wtE e<=40):=by
 obtain⟨⟨toks,t⟩,c,hi,d⟩:=OD a;obtain⟨e,p,f,g,h⟩:=adb a hi d c (fun e l=>by
  obtain⟨v,b,i,_⟩:=vI e (by omega);exact⟨v,b,i⟩)
 refine⟨e,p,f,g,fun j=>?_⟩;obtain⟨hv,m⟩:=h j;obtain⟨v,b,_,k⟩:=vI e (by omega);rw[hv]at b;cases b
 exact k rfl
end Go.Proofs.YtapgeemjgckgaaaGreatDoor
/- The signs of an expression's text, with the blanks between them. -/
namespace Go.Proofs.YtapgeemjgckgaaaGreatDoor
open Go.Abs Go.Proofs
structure Tk where
 kind:Int
 n:Int
 text:Str
def sy(s:Str):Option Tk:=some ⟨4,0,s⟩
def kw(s:Str):Option Tk:=some ⟨1,0,s⟩
abbrev Pcs:=List (Option Tk)
def ES(n:Int):Nat:=if n=4\/n=5 then 1 else if n=3 then 3 else 2
def lvl(e:af):Nat:=if e.kind=7\/e.kind=8\/e.kind=9 then 0 else if e.kind=6 then ES e.n else 4
def opS(n:Int):Str:=if n=1 then [43]else if n=2 then [45]else if n=3 then [42]else if n=4 then [60]else [61,61]
def atP(x:Pcs×Nat)(b:Nat):Pcs:=if x.2<b then sy [40]::(x.1++[sy [41]])else x.1
def Sv:List Pcs->Pcs
 | []=>[]
 | [x]=>x
 | x::y::r=>x++sy [44]::none::Sv (y::r)
def ae4(n:Int):Nat:=if ES n=1 then 2 else ES n
def apI(k n:Int)(t:Str)(x y:Pcs×Nat):Pcs:=
 if k=7 then kw [108,101,116]::none::kw t::none::sy [61]::none::(x.1++none::kw [105,110]::none::y.1)
 else if k=9 then kw [102,111,114]::none::kw t::none::kw [105,110]::none::(x.1++none::kw [100,111]::none::y.1)
 else atP x (ae4 n)++none::sy (opS n)::none::atP y (ES n+1)
def aoW(k n:Int)(t:Str)(l:List (Pcs×Nat)):Pcs:=
 if k=1 then [some ⟨2,n,[]⟩]else if k=2 then [some ⟨3,0,t⟩]else if k=3 then [kw t]
 else if k=4 then sy [91]::(Sv (l.map (·.1))++[sy [93]])
 else if k=5 then kw t::sy [40]::(Sv (l.map (·.1))++[sy [41]])
 else match l with
  | [x,y]=>apI k n t x y
  | [x,y,z]=>kw [105,102]::none::(x.1++none::kw [116,104,101,110]::none::(y.1++none::kw [101,108,115,101]::none::z.1))
  | _=>[]
mutual
def pcE:af->Pcs
 | ⟨k,n,t,a⟩=>aoW k n t (pcM a)
def pcM:List af->List (Pcs×Nat)
 | []=>[]
 | x::r=>(pcE x,lvl x)::pcM r
end
theorem akN(a:List af):pcM a=a.map fun x=>(pcE x,lvl x):=by
 induction a with
 | nil=>rfl
 | cons x r ih=>simp only[pcM,ih,List.map_cons]
theorem zO(e:af):pcE e=aoW e.kind e.n e.text (e.args.map fun x=>(pcE x,lvl x)):=by
 cases e
 show aoW _ _ _ (pcM _)=_
 rw[akN]
def pcA(e:af)(b:Nat):Pcs:=atP (pcE e,lvl e) b
def tkT(t:Tk):Str:=if t.kind=2 then Go.Lib.itoa t.n else if t.kind=3 then 34::(t.text++[34])else t.text
def txt:Pcs->Str
 | []=>[]
 | none::r=>32::txt r
 | some t::r=>tkT t++txt r
theorem iC:∀a b:Pcs,txt (a++b)=txt a++txt b
 | [],b=>rfl
 | none::r,b=>by
  show 32::txt (r++b)=(32::txt r)++txt b
  rw[iC r b];rfl
 | some t::r,b=>by
  show tkT t++txt (r++b)=(tkT t++txt r)++txt b
  rw[iC r b,a7]
theorem wR(s:Str)(r:Pcs):txt (sy s::r)=s++txt r:=rfl
theorem yY(s:Str)(r:Pcs):txt (kw s::r)=s++txt r:=rfl
theorem mO(r:Pcs):txt (none::r)=[32]++txt r:=rfl
theorem qX:txt []=[]:=rfl
theorem pc1{e:af}(h:e.kind=1):pcE e=[some ⟨2,e.n,[]⟩]:=by rw[zO,h];rfl
theorem pc2{e:af}(h:e.kind=2):pcE e=[some ⟨3,0,e.text⟩]:=by rw[zO,h];rfl
theorem pc3{e:af}(h:e.kind=3):pcE e=[kw e.text]:=by rw[zO,h];rfl
theorem pc4{e:af}(h:e.kind=4):pcE e=sy [91]::(Sv (e.args.map pcE)++[sy [93]]):=by
 rw[zO,h];show sy [91]::(Sv ((e.args.map _).map _)++_)=_
 rw[List.map_map];rfl
theorem pc5{e:af}(h:e.kind=5):pcE e=kw e.text::sy [40]::(Sv (e.args.map pcE)++[sy [41]]):=by
 rw[zO,h];show kw e.text::sy [40]::(Sv ((e.args.map _).map _)++_)=_
 rw[List.map_map];rfl
theorem pc7{e a b:af}(h:e.kind=7)(c:e.args=[a,b]):pcE e=kw [108,101,116]::none::kw e.text::none::sy [61]::none::(pcE a++none::kw [105,110]::none::pcE b):=by
 rw[zO,h,c];rfl
theorem pc9{e a b:af}(h:e.kind=9)(c:e.args=[a,b]):pcE e=kw [102,111,114]::none::kw e.text::none::kw [105,110]::none::(pcE a++none::kw [100,111]::none::pcE b):=by
 rw[zO,h,c];rfl
theorem pc8{e a b c:af}(h:e.kind=8)(d:e.args=[a,b,c]):pcE e=kw [105,102]::none::(pcE a++none::kw [116,104,101,110]::none::(pcE b++none::kw [101,108,115,101]::none::pcE c)):=by
 rw[zO,h,d];rfl
theorem pc6{e a b:af}(h:e.kind=6)(c:e.args=[a,b]):pcE e=pcA a (ae4 e.n)++none::sy (opS e.n)::none::pcA b (ES e.n+1):=by
 rw[zO,h,c];rfl
theorem ahq(x:Pcs)(r:List Pcs)(h:r≠[]):Sv (x::r)=x++sy [44]::none::Sv r:=by
 cases r with
 | nil=>exact absurd rfl h
 | cons y r=>rfl
theorem abL:∀xs:List Pcs,txt (Sv xs)=Go.Lib.join (xs.map txt) [44,32]
 | []=>rfl
 | [x]=>by show txt x=_;rw[List.map_cons,List.map_nil,Go.Lib.join_one]
 | x::y::r=>by
  rw[ahq x (y::r) (by simp),iC,wR,mO,abL (y::r),List.map_cons,Go.Lib.join_cons,List.map_cons,Go.Lib.join_cons];show txt x++([44]++([32]++(txt y++Go.Lib.joinTail [44,32] (r.map txt))))=txt x++Go.Lib.joinTail [44,32] (txt y::r.map txt)
  simp[Go.Lib.joinTail]
theorem aoJ(e:af):lvl e<=4:=by
 unfold lvl ES;split
 ·omega
 ·split
  ·split
   ·omega
   ·split<;>omega
  ·omega
end Go.Proofs.YtapgeemjgckgaaaGreatDoor
