import Derived.Test.YtngjomkjlonfpaaGreatDoorPlain1
set_option linter.unusedSimpArgs false
set_option linter.unusedVariables false
/- The two parsers: their states, and the steps that read a token. The two parsers alike: products, sums, lists. The two parsers alike: atoms, expressions. The two parsers alike: with enough fuel they come to the same end. ParseExpr alike, out of the same tokens. -/
namespace Go.Proofs.YtngjomkjlonfpaaGreatDoor
noncomputable section
open Go.Abs Go.Proofs
structure PS where
 i:Nat
 bad:Option Nat
def CY(toks:List aJ)(stop:Int)(b:Nat):Int:=match toks[b]? with
 | some t=>t.pos
 | none=>stop
def encI(toks:List aJ)(s:PS):aV:=⟨toks,s.i,match s.bad with | none=>-1 | some b=>b⟩
def encS(toks:List aJ)(stop:Int)(s:PS):GRd:=⟨toks,s.i,stop,match s.bad with | none=>-1 | some b=>CY toks stop b⟩
def letter(s:Str):Bool:=match s with
 | c::_=>decide (97<=c.toNat/\c.toNat<=122)
 | []=>false
structure Xc(t:aJ):Prop where
 pos:0<=t.pos
 name:t.kind=1->letter t.text=true
 sym:t.kind=4->letter t.text=false
 len:t.text.length<=120
structure dZ(toks:List aJ)(stop:Int):Prop where
 all:∀t,t∈toks->Xc t
 stop:0<=stop
 len:toks.length<=60
def sees(toks:List aJ)(s:PS)(x:Str):Bool:=match s.bad with
 | some _=>false
 | none=>match toks[s.i]? with
  | some t=>(t.kind==4||t.kind==1)&&t.text==x
  | none=>false
def jv(s:PS):PS:=match s.bad with
 | some _=>s
 | none=>⟨s.i,some s.i⟩
def bI(s:PS):PS:=⟨s.i+1,s.bad⟩
def gI(toks:List aJ)(s:PS)(x:Str):PS:=if sees toks s x=true then bI s else jv s
variable {toks:List aJ} {stop:Int}
theorem mY(h:dZ toks stop)(b:Nat):0<=CY toks stop b:=by
 unfold CY;cases a:toks[b]? with
 | none=>exact h.stop
 | some t=>exact (h.all t (zG a)).pos
theorem bV{s:PS}{x:Str}(h:sees toks s x=true):s.bad=none/\s.i<toks.length:=by
 unfold sees at h;cases a:s.bad with
 | some b=>rw[a]at h;cases h
 | none=>
  rw[a]at h;refine⟨rfl,?_⟩;cases c:toks[s.i]? with
  | none=>rw[c]at h;cases h
  | some t=>exact (zC.1 c).1
def aU(toks:List aJ)(s:PS):aJ:=match s.bad with
 | some _=>⟨0,0,0,[]⟩
 | none=>(toks[s.i]?).getD ⟨0,0,0,[]⟩
theorem yQ(h:dZ toks stop)(s:PS):fM (encI toks s)=some (encI toks s,aU toks s):=by
 obtain⟨i,bad⟩:=s;unfold fM aU encI;cases bad with
 | some b=>
  have e:decide ((b:Int)<0)=false:=by simp
  simp[e]
 | none=>
  simp only;by_cases hi:i<toks.length
  ·simp[au,hi,zF hi]
  ·have:toks[i]?=none:=zJ (by omega);simp[hi,this]
theorem afI(t:aJ)(x:Str):yS t x=some (t.kind==4&&t.text==x):=by
 unfold yS;by_cases h:t.kind==4<;>simp[h]
theorem afJ(t:aJ)(x:Str):jZ t x=some (t.kind==1&&t.text==x):=by
 unfold jZ;by_cases h:t.kind==1<;>simp[h]
theorem ae4(t:aJ)(x:Str):iT t x=some (t.kind==4&&t.text==x):=by
 unfold iT;by_cases h:t.kind==4<;>simp[h]
theorem akU(t:aJ)(x:Str):zQ t x=some (t.kind==1&&t.text==x):=by
 unfold zQ;by_cases h:t.kind==1<;>simp[h]
theorem Gw(s:PS)(x:Str):((aU toks s).kind==4&&(aU toks s).text==x||(aU toks s).kind==1&&(aU toks s).text==x)=sees toks s x:=by
 unfold aU sees;cases s.bad with
 | some b=>simp
 | none=>
  cases toks[s.i]? with
  | none=>simp
  | some t=>simp only[Option.getD_some];cases (t.kind==4)<;>cases (t.kind==1)<;>simp
theorem mg(h:dZ toks stop)(s:PS):Xc (aU toks s):=by
 have a:Xc ⟨0,0,0,[]⟩:=⟨by simp,by simp,by simp,by simp⟩;unfold aU;cases s.bad with
 | some b=>exact a
 | none=>
  cases c:toks[s.i]? with
  | none=>exact a
  | some t=>exact h.all t (zG c)
theorem RG(h:dZ toks stop)(s:PS)(x:Str)(c:letter x=true):((aU toks s).kind==1&&(aU toks s).text==x)=sees toks s x:=by
 rw[<- Gw];have a:=mg h s;cases b:((aU toks s).kind==4&&(aU toks s).text==x)with
 | false=>simp
 | true=>
  simp only[zI,beq_iff_eq]at b;have:=a.sym b.1;rw[b.2,c]at this;cases this
theorem Hw(h:dZ toks stop)(s:PS)(x:Str)(c:letter x=false):((aU toks s).kind==4&&(aU toks s).text==x)=sees toks s x:=by
 rw[<- Gw];have a:=mg h s;cases b:((aU toks s).kind==1&&(aU toks s).text==x)with
 | false=>simp
 | true=>
  simp only[zI,beq_iff_eq]at b;have:=a.name b.1;rw[b.2,c]at this;cases this
theorem SV(s:PS):iP (encI toks s)=some (encI toks (jv s),⟨0,0,[],[]⟩):=by
 obtain⟨i,bad⟩:=s;unfold iP jv encI;cases bad with
 | some b=>
  have e:decide ((b:Int)<0)=false:=by simp
  simp[e]
 | none=>simp
theorem JX{n:Nat}(h:n<=60):w64 ((n:Int)+1)=((n+1:Nat):Int):=by rw[bK (by omega) (by omega)];rfl
theorem Dx{s:PS}(h:dZ toks stop)(a:s.i<toks.length):(aV.mk (encI toks s).toks (w64 ((encI toks s).i+1)) (encI toks s).bad)=encI toks (bI s):=by
 have:=h.len;have e:w64 ((encI toks s).i+1)=((s.i+1:Nat):Int):=JX (by omega);rw[e];rfl
theorem lM{s:PS}(h:dZ toks stop)(a:s.i<toks.length):(GRd.mk (encS toks stop s).toks (w64 ((encS toks stop s).i+1)) (encS toks stop s).stop (encS toks stop s).bad)=encS toks stop (bI s):=by
 have:=h.len;have e:w64 ((encS toks stop s).i+1)=((s.i+1:Nat):Int):=JX (by omega);rw[e];rfl
theorem jY(h:dZ toks stop)(s:PS)(x:Str)(a:letter x=false):bg (encI toks s) x=some (encI toks (if sees toks s x=true then bI s else s),sees toks s x):=by
 unfold bg;rw[yQ h];simp only[zA,afI,Hw h s x a];cases b:sees toks s x with
 | true=>simp only[ac,if_true];rw[Dx h (bV b).2]
 | false=>simp
theorem yR(h:dZ toks stop)(s:PS)(x:Str):di (encI toks s) x=some (encI toks (gI toks s x)):=by
 unfold di gI;rw[yQ h];simp only[zA,afJ,yQ h,afI,SV];have a:=Gw (toks:=toks) s x;cases b:((aU toks s).kind==1&&(aU toks s).text==x)with
 | true=>
  rw[b,Bool.or_true]at a;simp only[ac,<- a,if_true];rw[Dx h (bV a.symm).2]
 | false=>
  rw[b,Bool.or_false]at a;simp only[aa,a];cases c:sees toks s x with
  | true=>simp only[ac,if_true];rw[Dx h (bV c).2]
  | false=>simp
theorem rF(h:dZ toks stop)(s:PS)(x:Str):eX (encS toks stop s) x=some (encS toks stop s,sees toks s x):=by
 obtain⟨i,bad⟩:=s;unfold eX sees encS;cases bad with
 | some b=>
  have:=mY h b;have e:decide (CY toks stop b<0)=false:=by simp;omega
  simp[e]
 | none=>
  simp only;by_cases hi:i<toks.length
  ·simp only[au,zF hi,zA,ae4,akU];have a:decide ((-1:Int)<0)=true:=rfl;have c:decide ((i:Int)<(toks.length:Int))=true:=by simp;omega
   simp only[a,c,ac];cases (toks[i].kind==4)<;>cases (toks[i].kind==1)<;>cases (toks[i].text==x)<;>simp
  ·have:toks[i]?=none:=zJ (by omega);simp[hi,this]
theorem vC(h:dZ toks stop)(s:PS):ja (encS toks stop s)=some (encS toks stop (jv s),⟨0,0,[],[]⟩):=by
 obtain⟨i,bad⟩:=s;unfold ja jv encS;cases bad with
 | some b=>
  have:=mY h b;have e:decide (CY toks stop b<0)=false:=by simp;omega
  simp[e]
 | none=>
  simp only;by_cases hi:i<toks.length
  ·simp[au,hi,zF hi,CY]
  ·have:toks[i]?=none:=zJ (by omega);simp[hi,this,CY]
theorem uT(h:dZ toks stop)(s:PS)(x:Str):fD (encS toks stop s) x=some (encS toks stop (gI toks s x)):=by
 unfold fD gI;rw[rF h];simp only[zA,vC h];cases a:sees toks s x with
 | true=>simp only[aM,aa,if_true];rw[lM h (bV a).2]
 | false=>simp
def fF(a:Str):Bool:=(aZ a).getD false
theorem EJ(a:Str)(b:a.length<=120):aZ a=some (fF a):=by
 obtain⟨v,h⟩:=mO a (by omega);unfold fF;rw[h];rfl
theorem Ei(a:Str)(b:a.length<=120):bM a=some (fF a):=by
 rw[<- oQ a (by omega),EJ a b]
def lD(t:aJ):Bool:=t.kind==1&&fF t.text
def nG(toks:List aJ)(s:PS):PS×Str:=if lD (aU toks s)=true then (bI s,(aU toks s).text)else (jv s,[])
theorem rQ{s:PS}(h:¬(aU toks s).kind=0):s.bad=none/\s.i<toks.length/\toks[s.i]?=some (aU toks s):=by
 unfold aU at h ⊢;cases a:s.bad with
 | some b=>rw[a]at h;exact absurd rfl h
 | none=>
  rw[a]at h;simp only at h ⊢;cases c:toks[s.i]? with
  | none=>rw[c]at h;exact absurd rfl h
  | some t=>exact⟨trivial,(zC.1 c).1,rfl⟩
theorem Lc{s:PS}(h:lD (aU toks s)=true):s.bad=none/\s.i<toks.length/\toks[s.i]?=some (aU toks s):=by
 refine rQ fun a=>?_
 unfold lD at h;rw[a]at h;cases h
theorem abn(h:dZ toks stop)(s:PS):mF (encI toks s)=some (encI toks (nG toks s).1,(nG toks s).2):=by
 unfold mF nG;rw[yQ h];have c:=mg h s;simp only[zA,SV,EJ _ c.len];cases b:((aU toks s).kind==1)with
 | false=>
  have e:((aU toks s).kind != 1)=true:=by simp[bne,b]
  have a:lD (aU toks s)=false:=by unfold lD;rw[b];rfl
  rw[e,a];simp
 | true=>
  have e:((aU toks s).kind != 1)=false:=by simp[bne,b]
  rw[e];cases hv:fF (aU toks s).text with
  | false=>
   have a:lD (aU toks s)=false:=by unfold lD;rw[b,hv];rfl
   rw[a];simp
  | true=>
   have a:lD (aU toks s)=true:=by unfold lD;rw[b,hv];rfl
   rw[a];simp only[aa,aM,if_true];rw[Dx h (Lc a).2.1]
theorem ZP(h:dZ toks stop)(s:PS):CO (encS toks stop s)=some (encS toks stop (nG toks s).1,(nG toks s).2):=by
 unfold CO nG;simp only[vC h];obtain⟨i,bad⟩:=s;cases bad with
 | some b=>
  have:=mY h b;have e:decide ((encS toks stop ⟨i,some b⟩).bad>=0)=true:=by simp[encS];omega
  have a:lD (aU toks ⟨i,some b⟩)=false:=rfl;rw[e,a];simp
 | none=>
  have e:decide ((encS toks stop ⟨i,none⟩).bad>=0)=false:=by simp[encS]
  rw[e];by_cases hi:i<toks.length
  ·have g:decide ((encS toks stop ⟨i,none⟩).i>=((encS toks stop ⟨i,none⟩).toks.length:Int))=false:=by simp[encS];omega
   have f:toks[i]?=some (aU toks ⟨i,none⟩):=by simp[aU,zF hi]
   have j:idx (encS toks stop ⟨i,none⟩).toks (encS toks stop ⟨i,none⟩).i=some (aU toks ⟨i,none⟩):=by
    show idx toks (i:Int)=_
    rw[au,f]
   have hlen:=h.len;have c:idx (encS toks stop ⟨i,none⟩).toks (w64 (w64 ((encS toks stop ⟨i,none⟩).i+1)-1))=some (aU toks ⟨i,none⟩):=by
    have l:w64 (w64 ((encS toks stop ⟨i,none⟩).i+1)-1)=(i:Int):=by
     show w64 (w64 ((i:Int)+1)-1)=_
     rw[JX (by omega),bK (by omega) (by omega)];omega
    rw[l];show idx toks (i:Int)=_
    rw[au,f]
   have k:=mg h ⟨i,none⟩;rw[g];simp only[aa,j,c,zA,Ei _ k.len];cases d:((aU toks ⟨i,none⟩).kind==1)with
   | false=>
    have e:((aU toks ⟨i,none⟩).kind != 1)=true:=by simp[bne,d]
    have a:lD (aU toks ⟨i,none⟩)=false:=by unfold lD;rw[d];rfl
    rw[e,a];simp
   | true=>
    have e:((aU toks ⟨i,none⟩).kind != 1)=false:=by simp[bne,d]
    rw[e];cases hv:fF (aU toks ⟨i,none⟩).text with
    | false=>
     have a:lD (aU toks ⟨i,none⟩)=false:=by unfold lD;rw[d,hv];rfl
     rw[a];simp
    | true=>
     have a:lD (aU toks ⟨i,none⟩)=true:=by unfold lD;rw[d,hv];rfl
     rw[a];simp only[aa,aM,if_true];rw[lM (s:=⟨i,none⟩) h hi]
  ·have g:decide ((encS toks stop ⟨i,none⟩).i>=((encS toks stop ⟨i,none⟩).toks.length:Int))=true:=by simp[encS];omega
   have f:toks[i]?=none:=zJ (by omega);have a:lD (aU toks ⟨i,none⟩)=false:=by simp[aU,f,lD]
   rw[g,a];simp
structure Adv(toks:List aJ)(s s':PS):Prop where
 le:s.i<=s'.i
 len:s'.i<=toks.length
 bad:∀b,s.bad=some b->s'=s
theorem Adv.refl{s:PS}(h:s.i<=toks.length):Adv toks s s:=⟨az _,h,fun _ _=>rfl⟩
theorem Adv.trans{a b c:PS}(h:Adv toks a b)(k:Adv toks b c):Adv toks a c:=⟨Nat.le_trans h.le k.le,k.len,fun x d=>by
 have e:=h.bad x d;subst e;exact k.bad x d⟩
def rem(toks:List aJ)(s:PS):Nat:=match s.bad with
 | some _=>0
 | none=>toks.length-s.i
theorem Adv.rem{s s':PS}(h:Adv toks s s'):rem toks s'<=rem toks s:=by
 cases a:s.bad with
 | some b=>rw[h.bad b a];exact az _
 | none=>
  have e:Go.Proofs.YtngjomkjlonfpaaGreatDoor.rem toks s=toks.length-s.i:=by unfold Go.Proofs.YtngjomkjlonfpaaGreatDoor.rem;rw[a]
  rw[e];have:=h.le;unfold Go.Proofs.YtngjomkjlonfpaaGreatDoor.rem;cases s'.bad with
  | some b=>exact Nat.zero_le _
  | none=>simp only;omega
theorem gV{s:PS}(a:s.bad=none)(hi:s.i<toks.length):Adv toks s (bI s)/\rem toks (bI s)+1=rem toks s:=by
 refine⟨⟨by simp[bI],hi,fun b h=>by rw[a]at h;cases h⟩,?_⟩;simp only[rem,bI,a];omega
theorem JJ{s:PS}(hi:s.i<=toks.length):Adv toks s (jv s):=by
 unfold jv;cases a:s.bad with
 | some b=>exact Adv.refl hi
 | none=>exact⟨az _,hi,fun b h=>by rw[a]at h;cases h⟩
theorem abM(s:PS):∃b,(jv s).bad=some b:=by
 unfold jv;cases a:s.bad with
 | some b=>exact⟨b,a⟩
 | none=>exact⟨s.i,rfl⟩
theorem rD{s:PS}{x:Str}(hi:s.i<=toks.length):Adv toks s (gI toks s x):=by
 unfold gI;split
 ·rename_i h;exact (gV (bV h).1 (bV h).2).1
 ·exact JJ hi
theorem aaQ{s:PS}(hi:s.i<=toks.length):Adv toks s (nG toks s).1:=by
 unfold nG;split
 ·rename_i h;exact (gV (Lc h).1 (Lc h).2.1).1
 ·exact JJ hi
variable {toks:List aJ} {stop:Int}
mutual
def wtE:af->Nat
 | ⟨_,_,t,a⟩=>(if t.length<=120 then 1 else 18446744073709551616)+wtL a
def wtL:List af->Nat
 | []=>0
 | x::r=>wtE x+wtL r
end
theorem zn(a b:List af):wtL (a++b)=wtL a+wtL b:=by
 induction a with
 | nil=>simp[wtL]
 | cons x r ih=>simp only[List.cons_append,wtL,ih];omega
theorem xN{k n:Int}{t:Str}{a:List af}(h:t.length<=120):wtE ⟨k,n,t,a⟩=1+wtL a:=by simp[wtE,h]
theorem Ee{k n:Int}{a:List af}:wtE ⟨k,n,[],a⟩=1+wtL a:=by simp[wtE]
theorem Xg(x:af):wtL [x]=wtE x:=by simp[wtL]
theorem wG(x y:af):wtL [x,y]=wtE x+wtE y:=by simp[wtL]
theorem VK(x y z:af):wtL [x,y,z]=wtE x+(wtE y+wtE z):=by simp[wtL]
def Sim{α:Type}(w:α->Nat)(toks:List aJ)(stop:Int)(f:aV->Option (aV×α))(g:GRd->Option (GRd×α))(s:PS):Prop:=
 ∃(s':PS) (x y:α),f (encI toks s)=some (encI toks s',x)/\g (encS toks stop s)=some (encS toks stop s',y)/\(s'.bad=none->x=y/\w x+s.i<=s'.i)/\Adv toks s s'
theorem kH(s:PS):(bI s).i=s.i+1:=rfl
theorem ae3{s:PS}{x y:Str}(h:sees toks s x=true)(a:x≠y):sees toks s y=false:=by
 unfold sees at h ⊢;cases c:s.bad with
 | some b=>rfl
 | none=>
  rw[c]at h;simp only at h ⊢;cases d:toks[s.i]? with
  | none=>rfl
  | some t=>
   rw[d]at h;simp only[zI,beq_iff_eq]at h ⊢;have:¬t.text=y:=by rw[h.2];exact a
   simp[this]
abbrev IX:=(List aJ)×Int×Int×Int×Int×Str×(List af)×Int×Int×Str×(List af)
abbrev SX:=(List aJ)×Int×Int×Int×Int×Int×Str×(List af)×Int×Int×Str×(List af)
def pkI(toks:List aJ)(s:PS)(e:af):IX:=((encI toks s).toks,(encI toks s).i,(encI toks s).bad,0,0,[],[],e.kind,e.n,e.text,e.args)
def pkS(toks:List aJ)(stop:Int)(s:PS)(e:af):SX:=((encS toks stop s).toks,(encS toks stop s).i,(encS toks stop s).stop,(encS toks stop s).bad,0,0,[],[],e.kind,e.n,e.text,e.args)
def afj(fa:aV->Option (aV×af)):IX->Option (IX⊕(aV×af)):=(fun (a:(List aJ)×Int×Int×Int×Int×Str×(List af)×Int×Int×Str×(List af))=>
  (bg (aV.mk a.1 a.2.1 a.2.2.1) [42]).bind fun c=>
  bif c.2 then
   (fa c.1).bind fun b=>
   some (.inl (b.1.toks,b.1.i,b.1.bad,a.2.2.2.1,a.2.2.2.2.1,a.2.2.2.2.2.1,a.2.2.2.2.2.2.1,6,3,[],[af.mk a.2.2.2.2.2.2.2.1 a.2.2.2.2.2.2.2.2.1 a.2.2.2.2.2.2.2.2.2.1 a.2.2.2.2.2.2.2.2.2.2,aj b.2]))
  else
   some (.inr (c.1,af.mk a.2.2.2.2.2.2.2.1 a.2.2.2.2.2.2.2.2.1 a.2.2.2.2.2.2.2.2.2.1 a.2.2.2.2.2.2.2.2.2.2))
 )
def afi(ga:GRd->Option (GRd×af)):SX->Option (SX⊕(GRd×af)):=(fun (a:(List aJ)×Int×Int×Int×Int×Int×Str×(List af)×Int×Int×Str×(List af))=>
  (eX (GRd.mk a.1 a.2.1 a.2.2.1 a.2.2.2.1) [42]).bind fun b=>
  bif b.2 then
   (ga (GRd.mk b.1.toks (w64 (b.1.i+1)) b.1.stop b.1.bad)).bind fun c=>
   (jF 3 (af.mk a.2.2.2.2.2.2.2.2.1 a.2.2.2.2.2.2.2.2.2.1 a.2.2.2.2.2.2.2.2.2.2.1 a.2.2.2.2.2.2.2.2.2.2.2) (aj c.2)).bind fun d=>
   some (.inl (c.1.toks,c.1.i,c.1.stop,c.1.bad,a.2.2.2.2.1,a.2.2.2.2.2.1,a.2.2.2.2.2.2.1,a.2.2.2.2.2.2.2.1,d.kind,d.n,d.text,d.args))
  else
   some (.inr (b.1,af.mk a.2.2.2.2.2.2.2.2.1 a.2.2.2.2.2.2.2.2.2.1 a.2.2.2.2.2.2.2.2.2.2.1 a.2.2.2.2.2.2.2.2.2.2.2))
 )
def agd(fa:aV->Option (aV×af)):IX->Option (IX⊕(aV×af)):=(fun (a:(List aJ)×Int×Int×Int×Int×Str×(List af)×Int×Int×Str×(List af))=>
  bif (decide (a.2.2.1<0))then
   (bg (aV.mk a.1 a.2.1 a.2.2.1) [43]).bind fun d=>
   bif (!d.2)then
    (bg d.1 [45]).bind fun e=>
    bif (!e.2)then
     some (.inr (e.1,af.mk a.2.2.2.2.2.2.2.1 a.2.2.2.2.2.2.2.2.1 a.2.2.2.2.2.2.2.2.2.1 a.2.2.2.2.2.2.2.2.2.2))
    else
     (fa e.1).bind fun b=>
     some (.inl (b.1.toks,b.1.i,b.1.bad,a.2.2.2.1,a.2.2.2.2.1,a.2.2.2.2.2.1,a.2.2.2.2.2.2.1,6,2,[],[af.mk a.2.2.2.2.2.2.2.1 a.2.2.2.2.2.2.2.2.1 a.2.2.2.2.2.2.2.2.2.1 a.2.2.2.2.2.2.2.2.2.2,aj b.2]))
   else
    (fa d.1).bind fun c=>
    some (.inl (c.1.toks,c.1.i,c.1.bad,a.2.2.2.1,a.2.2.2.2.1,a.2.2.2.2.2.1,a.2.2.2.2.2.2.1,6,1,[],[af.mk a.2.2.2.2.2.2.2.1 a.2.2.2.2.2.2.2.2.1 a.2.2.2.2.2.2.2.2.2.1 a.2.2.2.2.2.2.2.2.2.2,aj c.2]))
  else
   some (.inr (aV.mk a.1 a.2.1 a.2.2.1,af.mk a.2.2.2.2.2.2.2.1 a.2.2.2.2.2.2.2.2.1 a.2.2.2.2.2.2.2.2.2.1 a.2.2.2.2.2.2.2.2.2.2))
 )
def agb(ga:GRd->Option (GRd×af)):SX->Option (SX⊕(GRd×af)):=(fun (a:(List aJ)×Int×Int×Int×Int×Int×Str×(List af)×Int×Int×Str×(List af))=>
  (eX (GRd.mk a.1 a.2.1 a.2.2.1 a.2.2.2.1) [43]).bind fun m=>
  bif m.2 then
   (eX m.1 [45]).bind fun e=>
   bif e.2 then
    (ga (GRd.mk e.1.toks (w64 (e.1.i+1)) e.1.stop e.1.bad)).bind fun h=>
    (jF 2 (af.mk a.2.2.2.2.2.2.2.2.1 a.2.2.2.2.2.2.2.2.2.1 a.2.2.2.2.2.2.2.2.2.2.1 a.2.2.2.2.2.2.2.2.2.2.2) (aj h.2)).bind fun k=>
    some (.inl (h.1.toks,h.1.i,h.1.stop,h.1.bad,a.2.2.2.2.1,a.2.2.2.2.2.1,a.2.2.2.2.2.2.1,a.2.2.2.2.2.2.2.1,k.kind,k.n,k.text,k.args))
   else
    (ga (GRd.mk e.1.toks (w64 (e.1.i+1)) e.1.stop e.1.bad)).bind fun j=>
    (jF 1 (af.mk a.2.2.2.2.2.2.2.2.1 a.2.2.2.2.2.2.2.2.2.1 a.2.2.2.2.2.2.2.2.2.2.1 a.2.2.2.2.2.2.2.2.2.2.2) (aj j.2)).bind fun l=>
    some (.inl (j.1.toks,j.1.i,j.1.stop,j.1.bad,a.2.2.2.2.1,a.2.2.2.2.2.1,a.2.2.2.2.2.2.1,a.2.2.2.2.2.2.2.1,l.kind,l.n,l.text,l.args))
  else
  (eX m.1 [45]).bind fun o=>
  bif o.2 then
   (eX o.1 [45]).bind fun b=>
   bif b.2 then
    (ga (GRd.mk b.1.toks (w64 (b.1.i+1)) b.1.stop b.1.bad)).bind fun c=>
    (jF 2 (af.mk a.2.2.2.2.2.2.2.2.1 a.2.2.2.2.2.2.2.2.2.1 a.2.2.2.2.2.2.2.2.2.2.1 a.2.2.2.2.2.2.2.2.2.2.2) (aj c.2)).bind fun f=>
    some (.inl (c.1.toks,c.1.i,c.1.stop,c.1.bad,a.2.2.2.2.1,a.2.2.2.2.2.1,a.2.2.2.2.2.2.1,a.2.2.2.2.2.2.2.1,f.kind,f.n,f.text,f.args))
   else
    (ga (GRd.mk b.1.toks (w64 (b.1.i+1)) b.1.stop b.1.bad)).bind fun d=>
    (jF 1 (af.mk a.2.2.2.2.2.2.2.2.1 a.2.2.2.2.2.2.2.2.2.1 a.2.2.2.2.2.2.2.2.2.2.1 a.2.2.2.2.2.2.2.2.2.2.2) (aj d.2)).bind fun g=>
    some (.inl (d.1.toks,d.1.i,d.1.stop,d.1.bad,a.2.2.2.2.1,a.2.2.2.2.2.1,a.2.2.2.2.2.2.1,a.2.2.2.2.2.2.2.1,g.kind,g.n,g.text,g.args))
  else
   some (.inr (o.1,af.mk a.2.2.2.2.2.2.2.2.1 a.2.2.2.2.2.2.2.2.2.1 a.2.2.2.2.2.2.2.2.2.2.1 a.2.2.2.2.2.2.2.2.2.2.2))
 )
theorem ak7(b c d fa e)(a:aV):sJ b c d fa e a=(fa a).bind fun r=>aA (afj fa) (r.1.toks,r.1.i,r.1.bad,0,0,[],[],r.2.kind,r.2.n,r.2.text,r.2.args):=rfl
theorem ak6(b c d e ga f)(a:GRd):zO b c d e ga f a=(ga a).bind fun r=>aA (afi ga) (r.1.toks,r.1.i,r.1.stop,r.1.bad,0,0,[],[],r.2.kind,r.2.n,r.2.text,r.2.args):=rfl
theorem aoW(b c fa d e)(a:aV):Dp b c fa d e a=(fa a).bind fun r=>aA (agd fa) (r.1.toks,r.1.i,r.1.bad,0,0,[],[],r.2.kind,r.2.n,r.2.text,r.2.args):=rfl
theorem aoV(b c d ga e f)(a:GRd):Qh b c d ga e f a=(ga a).bind fun r=>aA (agb ga) (r.1.toks,r.1.i,r.1.stop,r.1.bad,0,0,[],[],r.2.kind,r.2.n,r.2.text,r.2.args):=rfl
theorem Gs(h:dZ toks stop)(fa)(s:PS)(e:af):afj fa (pkI toks s e)=if sees toks s [42]=true then (fa (encI toks (bI s))).bind fun r=>some (.inl (r.1.toks,r.1.i,r.1.bad,0,0,[],[],6,3,[],[e,r.2]))else some (.inr (encI toks s,e)):=by
 obtain⟨ek,en,et,ea⟩:=e;have a:(aV.mk (pkI toks s ⟨ek,en,et,ea⟩).1 (pkI toks s ⟨ek,en,et,ea⟩).2.1 (pkI toks s ⟨ek,en,et,ea⟩).2.2.1)=encI toks s:=rfl;unfold afj;simp only[a,jY h s [42] rfl,zA];cases sees toks s [42]with
 | true=>simp only[ac,if_true,aO];rfl
 | false=>simp only[aa,aL,if_false];rfl
theorem Gq(h:dZ toks stop)(ga)(s:PS)(e:af):afi ga (pkS toks stop s e)=if sees toks s [42]=true then (ga (encS toks stop (bI s))).bind fun r=>some (.inl (r.1.toks,r.1.i,r.1.stop,r.1.bad,0,0,[],[],6,3,[],[e,r.2]))else some (.inr (encS toks stop s,e)):=by
 obtain⟨ek,en,et,ea⟩:=e;have a:(GRd.mk (pkS toks stop s ⟨ek,en,et,ea⟩).1 (pkS toks stop s ⟨ek,en,et,ea⟩).2.1 (pkS toks stop s ⟨ek,en,et,ea⟩).2.2.1 (pkS toks stop s ⟨ek,en,et,ea⟩).2.2.2.1)=encS toks stop s:=rfl;unfold afi;simp only[a,rF h s [42],zA];cases b:sees toks s [42]with
 | true=>
  simp only[ac,if_true];rw[lM h (bV b).2];simp only[jF,zA,aO];rfl
 | false=>simp only[aa,aL,if_false];rfl
theorem agS(h:dZ toks stop){k g:Nat}{fa ga}(m:∀s,s.i<=toks.length->rem toks s<=k->Sim wtE toks stop fa ga s):∀(r:Nat) (s:PS) (b c:af),s.i<=toks.length->rem toks s<=r->r<=k->(s.bad=none->b=c/\wtE b+g<=s.i) ->
  ∃(s':PS) (x y:af),aA (afj fa) (pkI toks s b)=some (encI toks s',x)/\aA (afi ga) (pkS toks stop s c)=some (encS toks stop s',y)/\(s'.bad=none->x=y/\wtE x+g<=s'.i)/\Adv toks s s':=by
 intro r;induction r with
 | zero=>
  intro s b c e n o d;have a:sees toks s [42]=false:=by
   cases a:sees toks s [42]with
   | false=>rfl
   | true=>have:=(gV (bV a).1 (bV a).2).2;omega
  refine⟨s,b,c,?_,?_,d,Adv.refl e⟩
  ·rw[aH,Gs h,a];rfl
  ·rw[aH,Gq h,a];rfl
 | succ r ih=>
  intro s b c e n o d;cases a:sees toks s [42]with
  | false=>
   refine⟨s,b,c,?_,?_,d,Adv.refl e⟩
   ·rw[aH,Gs h,a];rfl
   ·rw[aH,Gq h,a];rfl
  | true=>
   obtain⟨j,hrem⟩:=gV (bV a).1 (bV a).2;obtain⟨p,x,y,q,t,u,f⟩:=m (bI s) j.len (by omega);have v:=f.rem;obtain⟨s',x',y',w,z,A,B⟩:=ih p ⟨6,3,[],[b,x]⟩ ⟨6,3,[],[c,y]⟩ f.len (by omega) (by omega) (fun C=>by
    have l:=u C;have D:=d (bV a).1;refine⟨by rw[l.1,D.1],?_⟩;have E:=l.2;rw[kH]at E;rw[Ee,wG];omega)
   refine⟨s',x',y',?_,?_,A,(j.trans f).trans B⟩
   ·rw[aH,Gs h,a];simp only[if_true,q,zA];exact w
   ·rw[aH,Gq h,a];simp only[if_true,t,zA];exact z
theorem aiN(h:dZ toks stop){k:Nat}{fa ga}(b:∀s,s.i<=toks.length->rem toks s<=k->Sim wtE toks stop fa ga s)(d e f g t1 j l m n)(s:PS)(o:s.i<=toks.length)(p:rem toks s<=k) :
  Sim wtE toks stop (sJ d e f fa g) (zO t1 j l m ga n) s:=by
 obtain⟨c,x,y,q,r,t,a⟩:=b s o p;have u:=a.rem;obtain⟨s',x',y',v,w,z,A⟩:=agS h b (rem toks c) c x y a.len (az _) (by omega) t;refine⟨s',x',y',?_,?_,z,a.trans A⟩
 ·rw[ak7,q];exact v
 ·rw[ak6,r];exact w
def afp{toks:List aJ}(fa:aV->Option (aV×af))(s:PS)(e:af)(op:Int):Option (IX⊕(aV×af)):=(fa (encI toks (bI s))).bind fun r=>some (.inl (r.1.toks,r.1.i,r.1.bad,0,0,[],[],6,op,[],[e,r.2]))
def afo{toks:List aJ}{stop:Int}(ga:GRd->Option (GRd×af))(s:PS)(e:af)(op:Int):Option (SX⊕(GRd×af)):=(ga (encS toks stop (bI s))).bind fun r=>some (.inl (r.1.toks,r.1.i,r.1.stop,r.1.bad,0,0,[],[],6,op,[],[e,r.2]))
theorem Eh(h:dZ toks stop)(fa)(s:PS)(e:af):agd fa (pkI toks s e)=if sees toks s [43]=true then afp (toks:=toks) fa s e 1 else if sees toks s [45]=true then afp (toks:=toks) fa s e 2 else some (.inr (encI toks s,e)):=by
 obtain⟨ek,en,et,ea⟩:=e;have f:(aV.mk (pkI toks s ⟨ek,en,et,ea⟩).1 (pkI toks s ⟨ek,en,et,ea⟩).2.1 (pkI toks s ⟨ek,en,et,ea⟩).2.2.1)=encI toks s:=rfl;unfold agd;simp only[f];cases a:s.bad with
 | some b=>
  have c:decide ((pkI toks s ⟨ek,en,et,ea⟩).2.2.1<0)=false:=by
   show decide ((encI toks s).bad<0)=false
   simp[encI,a]
  have d:∀x,sees toks s x=false:=fun x=>by unfold sees;rw[a]
  rw[c,d,d];rfl
 | none=>
  have c:decide ((pkI toks s ⟨ek,en,et,ea⟩).2.2.1<0)=true:=by
   show decide ((encI toks s).bad<0)=true
   simp[encI,a]
  rw[c];simp only[ac,jY h s [43] rfl,zA];cases i:sees toks s [43]with
  | true=>simp only[aM,aa,if_true,aO];rfl
  | false=>
   simp only[Bool.not_false,ac,aL,if_false,jY h s [45] rfl,zA];cases g:sees toks s [45]with
   | true=>simp only[aM,aa,if_true,aO];rfl
   | false=>simp only[Bool.not_false,ac,aL,if_false];rfl
theorem Eg(h:dZ toks stop)(ga)(s:PS)(e:af):agb ga (pkS toks stop s e)=if sees toks s [43]=true then afo (toks:=toks) (stop:=stop) ga s e 1 else if sees toks s [45]=true then afo (toks:=toks) (stop:=stop) ga s e 2 else some (.inr (encS toks stop s,e)):=by
 obtain⟨ek,en,et,ea⟩:=e;have c:(GRd.mk (pkS toks stop s ⟨ek,en,et,ea⟩).1 (pkS toks stop s ⟨ek,en,et,ea⟩).2.1 (pkS toks stop s ⟨ek,en,et,ea⟩).2.2.1 (pkS toks stop s ⟨ek,en,et,ea⟩).2.2.2.1)=encS toks stop s:=rfl;unfold agb;simp only[c,rF h s,zA];cases b:sees toks s [43]with
 | true=>
  have a:=ae3 b (show ([43]:Str)≠[45] by decide);simp only[ac,if_true,a,aa];rw[lM h (bV b).2];simp only[jF,zA,aO];rfl
 | false=>
  simp only[aa,aL,if_false];cases a:sees toks s [45]with
  | true=>
   simp only[ac,if_true];rw[lM h (bV a).2];simp only[jF,zA,aO];rfl
  | false=>simp only[aa,aL,if_false];rfl
theorem ah3(h:dZ toks stop){k f:Nat}{fa ga}(n:∀s,s.i<=toks.length->rem toks s<=k->Sim wtE toks stop fa ga s):∀(r:Nat) (s:PS) (b d:af),s.i<=toks.length->rem toks s<=r->r<=k->(s.bad=none->b=d/\wtE b+f<=s.i) ->
  ∃(s':PS) (x y:af),aA (agd fa) (pkI toks s b)=some (encI toks s',x)/\aA (agb ga) (pkS toks stop s d)=some (encS toks stop s',y)/\(s'.bad=none->x=y/\wtE x+f<=s'.i)/\Adv toks s s':=by
 intro r;induction r with
 | zero=>
  intro s b d g o p e;have a:∀x,sees toks s x=false:=by
   intro x;cases a:sees toks s x with
   | false=>rfl
   | true=>have:=(gV (bV a).1 (bV a).2).2;omega
  refine⟨s,b,d,?_,?_,e,Adv.refl g⟩
  ·rw[aH,Eh h,a,a];rfl
  ·rw[aH,Eg h,a,a];rfl
 | succ r ih=>
  intro s b d g o p e;have go:∀(x:Str) (op:Int),sees toks s x=true->agd fa (pkI toks s b)=afp (toks:=toks) fa s b op->agb ga (pkS toks stop s d)=afo (toks:=toks) (stop:=stop) ga s d op ->
    ∃(s':PS) (x y:af),aA (agd fa) (pkI toks s b)=some (encI toks s',x)/\aA (agb ga) (pkS toks stop s d)=some (encS toks stop s',y)/\(s'.bad=none->x=y/\wtE x+f<=s'.i)/\Adv toks s s':=by
   intro I op a q t;obtain⟨l,hrem⟩:=gV (bV a).1 (bV a).2;obtain⟨u,x,y,v,w,z,j⟩:=n (bI s) l.len (by omega);have A:=j.rem;obtain⟨s',x',y',B,C,D,E⟩:=ih u ⟨6,op,[],[b,x]⟩ ⟨6,op,[],[d,y]⟩ j.len (by omega) (by omega) (fun F=>by
    have m:=z F;have G:=e (bV a).1;refine⟨by rw[m.1,G.1],?_⟩;have H:=m.2;rw[kH]at H;rw[Ee,wG];omega)
   refine⟨s',x',y',?_,?_,D,(l.trans j).trans E⟩
   ·rw[aH,q];simp only[afp,v,zA];exact B
   ·rw[aH,t];simp only[afo,w,zA];exact C
  cases a:sees toks s [43]with
  | true=>exact go [43] 1 a (by rw[Eh h,a,if_pos rfl]) (by rw[Eg h,a,if_pos rfl])
  | false=>
   cases c:sees toks s [45]with
   | true=>exact go [45] 2 c (by rw[Eh h,a,c,if_neg Bool.false_ne_true,if_pos rfl]) (by rw[Eg h,a,c,if_neg Bool.false_ne_true,if_pos rfl])
   | false=>
    refine⟨s,b,d,?_,?_,e,Adv.refl g⟩
    ·rw[aH,Eh h,a,c];rfl
    ·rw[aH,Eg h,a,c];rfl
theorem akG(h:dZ toks stop){k:Nat}{fa ga}(b:∀s,s.i<=toks.length->rem toks s<=k->Sim wtE toks stop fa ga s)(d e f g t1 j l m n)(s:PS)(o:s.i<=toks.length)(p:rem toks s<=k) :
  Sim wtE toks stop (Dp d e fa f g) (Qh t1 j l ga m n) s:=by
 obtain⟨c,x,y,q,r,t,a⟩:=b s o p;have u:=a.rem;obtain⟨s',x',y',v,w,z,A⟩:=ah3 h b (rem toks c) c x y a.len (az _) (by omega) t;refine⟨s',x',y',?_,?_,z,a.trans A⟩
 ·rw[aoW,q];exact v
 ·rw[aoV,r];exact w
abbrev IL:=(List aJ)×Int×Int×Str×(List af)
abbrev SL:=(List aJ)×Int×Int×Int×Str×(List af)
def plI(toks:List aJ)(s:PS)(b:Str)(o:List af):IL:=((encI toks s).toks,(encI toks s).i,(encI toks s).bad,b,o)
def plS(toks:List aJ)(stop:Int)(s:PS)(b:Str)(o:List af):SL:=((encS toks stop s).toks,(encS toks stop s).i,(encS toks stop s).stop,(encS toks stop s).bad,b,o)
def Jg(fa:aV->Option (aV×af)):IL->Option (IL⊕(aV×List af)):=(fun (a:(List aJ)×Int×Int×Str×(List af))=>
  bif (decide (a.2.2.1<0))then
   (fa (aV.mk a.1 a.2.1 a.2.2.1)).bind fun b=>
   (gd (a.2.2.2.2.length+[aj b.2].length)).bind fun _=>
   (bg b.1 a.2.2.2.1).bind fun c=>
   bif c.2 then
    some (.inr (c.1,a.2.2.2.2++[aj b.2]))
   else
    (di c.1 [44]).bind fun d=>
    some (.inl (d.toks,d.i,d.bad,a.2.2.2.1,a.2.2.2.2++[aj b.2]))
  else
   some (.inr (aV.mk a.1 a.2.1 a.2.2.1,a.2.2.2.2))
 )
def Jf(ga:GRd->Option (GRd×af)):SL->Option (SL⊕(GRd×List af)):=(fun (a:(List aJ)×Int×Int×Int×Str×(List af))=>
  bif (decide (a.2.2.2.1<0))then
   (ga (GRd.mk a.1 a.2.1 a.2.2.1 a.2.2.2.1)).bind fun c=>
   (gd (a.2.2.2.2.2.length+[aj c.2].length)).bind fun _=>
   (eX c.1 [44]).bind fun b=>
   bif (!b.2)then
    (
     (fD b.1 a.2.2.2.2.1).bind fun d=>
     some (d,a.2.2.2.2.2++[aj c.2])
    ).bind fun r=>some (.inr r)
   else
    some (.inl (b.1.toks,w64 (b.1.i+1),b.1.stop,b.1.bad,a.2.2.2.2.1,a.2.2.2.2.2++[aj c.2]))
  else
   (
    (fD (GRd.mk a.1 a.2.1 a.2.2.1 a.2.2.2.1) a.2.2.2.2.1).bind fun e=>
    some (e,a.2.2.2.2.2)
   ).bind fun r=>some (.inr r)
 )
theorem afv(fa d e f g)(a:aV)(b:Str):nT fa d e f g a b=(bg a b).bind fun c=>bif c.2 then some (c.1,[])else aA (Jg fa) (c.1.toks,c.1.i,c.1.bad,b,[]):=rfl
theorem afu(ga d e f g h)(a:GRd)(b:Str):yh ga d e f g h a b=(eX a b).bind fun c=>bif c.2 then some (GRd.mk c.1.toks (w64 (c.1.i+1)) c.1.stop c.1.bad,[])else aA (Jf ga) (c.1.toks,c.1.i,c.1.stop,c.1.bad,b,[]):=rfl
theorem ako{s:PS}:decide ((encI toks s).bad<0)=s.bad.isNone:=by
 unfold encI;cases s.bad with
 | none=>rfl
 | some b=>simp
theorem akn(h:dZ toks stop){s:PS}:decide ((encS toks stop s).bad<0)=s.bad.isNone:=by
 unfold encS;cases s.bad with
 | none=>rfl
 | some b=>
  have:=mY h b;simp;omega
theorem gdp{n:Nat}(h:n<=34359738368):gd n=some ():=by unfold gd;simp[h]
theorem Ro(fa){s:PS}(a:s.bad.isNone=false)(b:Str)(o:List af):aA (Jg fa) (plI toks s b o)=some (encI toks s,o):=by
 rw[aH];have e:Jg fa (plI toks s b o)=some (.inr (encI toks s,o)):=by
  unfold Jg;show (bif decide ((encI toks s).bad<0)then _ else _)=_
  rw[ako,a];rfl
 rw[e]
theorem ajT{s:PS}(a:s.bad.isNone=false):jv s=s:=by
 unfold jv;cases h:s.bad with
 | some b=>rfl
 | none=>rw[h]at a;cases a
theorem ad2(h:dZ toks stop)(ga){s:PS}(a:s.bad.isNone=false)(b:Str)(o:List af):aA (Jf ga) (plS toks stop s b o)=some (encS toks stop s,o):=by
 rw[aH];have e:Jf ga (plS toks stop s b o)=some (.inr (encS toks stop s,o)):=by
  unfold Jf;show (bif decide ((encS toks stop s).bad<0)then _ else ((fD (encS toks stop s) b).bind fun c=>some (c,o)).bind fun r=>some (Sum.inr r))=_
  have d:gI toks s b=s:=by
   have:sees toks s b=false:=by
    unfold sees;cases h:s.bad with
    | some b=>rfl
    | none=>rw[h]at a;cases a
   unfold gI;rw[this,if_neg Bool.false_ne_true,ajT a]
  rw[akn h,a,uT h,d];rfl
 rw[e]
theorem ag5(h:dZ toks stop){k q:Nat}{fa ga}(M:∀s,s.i<=toks.length->rem toks s<=k->Sim wtE toks stop fa ga s)(b:Str)(C:letter b=false)(D:b≠[44]):∀(r:Nat) (s:PS) (c d:List af),s.i<=toks.length->rem toks s<=r->r<=k->c.length<=s.i->d.length<=s.i->(s.bad=none->c=d/\wtL c+q<=s.i) ->
  ∃(s':PS) (x y:List af),aA (Jg fa) (plI toks s b c)=some (encI toks s',x)/\aA (Jf ga) (plS toks stop s b d)=some (encS toks stop s',y)/\(s'.bad=none->x=y/\wtL x+q<=s'.i)/\Adv toks s s':=by
 have step:∀(s:PS) (c d:List af),s.i<=toks.length->rem toks s<=k->c.length<=s.i->d.length<=s.i->(s.bad=none->c=d/\wtL c+q<=s.i) ->
   (∀(a:PS) (l o:List af),a.i<=toks.length->rem toks a+1<=rem toks s->l.length<=a.i->o.length<=a.i->(a.bad=none->l=o/\wtL l+q<=a.i)->∃(s':PS) (x y:List af),aA (Jg fa) (plI toks a b l)=some (encI toks s',x)/\aA (Jf ga) (plS toks stop a b o)=some (encS toks stop s',y)/\(s'.bad=none->x=y/\wtL x+q<=s'.i)/\Adv toks a s') ->
   ∃(s':PS) (x y:List af),aA (Jg fa) (plI toks s b c)=some (encI toks s',x)/\aA (Jf ga) (plS toks stop s b d)=some (encS toks stop s',y)/\(s'.bad=none->x=y/\wtL x+q<=s'.i)/\Adv toks s s':=by
  intro s c d t E h1 h2 u ih;cases v:s.bad.isNone with
  | false=>exact⟨s,c,d,Ro fa v b c,ad2 h ga v b d,u,Adv.refl t⟩
  | true=>
   have hlen:=h.len;obtain⟨a,x,y,N,O,J,w⟩:=M s t E;have F:s.bad=none:=by cases hh:s.bad with
    | none=>rfl
    | some b=>rw[hh]at v;cases v
   have m:=u F;have eI:Jg fa (plI toks s b c)=(if sees toks a b=true then some (Sum.inr (encI toks (bI a),c++[x]))else some (Sum.inl (plI toks (gI toks a [44]) b (c++[x])))):=by
    unfold Jg;show (bif decide ((encI toks s).bad<0)then (fa (encI toks s)).bind fun n=>(gd (c.length+[aj n.2].length)).bind fun _=>(bg n.1 b).bind fun j=>bif j.2 then some (Sum.inr (j.1,c++[aj n.2]))else (di j.1 [44]).bind fun z=>some (Sum.inl (z.toks,z.i,z.bad,b,c++[aj n.2]))else _)=_
    rw[ako,v];simp only[ac,N,zA,aO,jY h a b C];rw[gdp (by simp;omega)];simp only[zA];cases g:sees toks a b with
    | true=>simp
    | false=>
     simp only[aa,aL,if_false,yR h,zA];rfl
   have eS:Jf ga (plS toks stop s b d)=(if sees toks a [44]=true then some (Sum.inl (plS toks stop (bI a) b (d++[y])))else some (Sum.inr (encS toks stop (gI toks a b),d++[y]))):=by
    unfold Jf;show (bif decide ((encS toks stop s).bad<0)then (ga (encS toks stop s)).bind fun n=>(gd (d.length+[aj n.2].length)).bind fun _=>(eX n.1 [44]).bind fun j=>bif (!j.2)then (((fD j.1 b).bind fun z=>some (z,d++[aj n.2])).bind fun r=>some (Sum.inr r))else some (Sum.inl (j.1.toks,w64 (j.1.i+1),j.1.stop,j.1.bad,b,d++[aj n.2]))else _)=_
    rw[akn h,v];simp only[ac,O,zA,aO,rF h a [44]];rw[gdp (by simp;omega)];simp only[zA];cases g:sees toks a [44]with
    | true=>
     simp only[aM,aa,if_true];have:=lM (toks:=toks) (stop:=stop) (s:=a) h (bV g).2;have G:=congrArg GRd.i this;have G:w64 ((encS toks stop a).i+1)=(encS toks stop (bI a)).i:=G;rw[G];rfl
    | false=>simp only[Bool.not_false,ac,aL,if_false,uT h,zA]
   cases g:sees toks a b with
   | true=>
    have f:=ae3 g D;obtain⟨B,_⟩:=gV (bV g).1 (bV g).2;refine⟨bI a,c++[x],d++[y],?_,?_,fun hh=>(by
     have p:=J (bV g).1;refine⟨by rw[m.1,p.1],?_⟩;have K:=p.2;have H:=m.2;rw[zn,Xg,kH];omega),w.trans B⟩
    ·rw[aH,eI,g];rfl
    ·rw[aH,eS,f];simp only[aL,if_false];unfold gI;rw[g,if_pos rfl]
   | false=>
    cases f:sees toks a [44]with
    | true=>
     obtain⟨B,L⟩:=gV (bV f).1 (bV f).2;have P:=w.rem;have Q:=w.le;obtain⟨s',x',y',l,o,R,S⟩:=ih (bI a) (c++[x]) (d++[y]) B.len (by omega) (by simp[bI];omega) (by simp[bI];omega) (fun _=>by
      have p:=J (bV f).1;refine⟨by rw[m.1,p.1],?_⟩;have K:=p.2;have H:=m.2;rw[zn,Xg,kH];omega)
     refine⟨s',x',y',?_,?_,R,(w.trans B).trans S⟩
     ·rw[aH,eI,g];simp only[aL,if_false];have e:gI toks a [44]=bI a:=by unfold gI;rw[f,if_pos rfl]
      rw[e];exact l
     ·rw[aH,eS,f];exact o
    | false=>
     have e:gI toks a [44]=jv a:=by unfold gI;rw[f,if_neg Bool.false_ne_true]
     have T:gI toks a b=jv a:=by unfold gI;rw[g,if_neg Bool.false_ne_true]
     obtain⟨X,A⟩:=abM a;have I:(jv a).bad.isNone=false:=by rw[A];rfl
     refine⟨jv a,c++[x],d++[y],?_,?_,fun hh=>(by rw[A]at hh;cases hh),w.trans (JJ w.len)⟩
     ·rw[aH,eI,g];simp only[aL,if_false,e];exact Ro fa I b _
     ·rw[aH,eS,f];simp only[aL,if_false,T]
 intro r;induction r with
 | zero=>
  intro s c d t L E h1 h2 u;exact step s c d t (by omega) h1 h2 u fun a l o _ U=>by omega
 | succ r ih=>
  intro s c d t L E h1 h2 u;exact step s c d t (by omega) h1 h2 u fun a l o p K H V W=>ih a l o p (by omega) (by omega) H V W
theorem aji(h:dZ toks stop){k:Nat}{fa ga}(r:∀s,s.i<=toks.length->rem toks s<=k->Sim wtE toks stop fa ga s)(b:Str)(c:letter b=false)(e:b≠[44])(f g j l m n o p q)(s:PS)(t:s.i<=toks.length)(u:rem toks s<=k) :
  Sim wtL toks stop (fun a=>nT fa f g j l a b) (fun a=>yh ga m n o p q a b) s:=by
 cases d:sees toks s b with
 | true=>
  obtain⟨v,_⟩:=gV (bV d).1 (bV d).2;refine⟨bI s,[],[],?_,?_,fun _=>⟨rfl,by rw[kH];simp[wtL]⟩,v⟩
  ·show nT fa f g j l (encI toks s) b=_
   rw[afv,jY h s b c,d];rfl
  ·show yh ga m n o p q (encS toks stop s) b=_
   rw[afu,rF h s b,d];simp only[zA,ac];rw[lM h (bV d).2]
 | false=>
  obtain⟨s',x',y',w,x,y,z⟩:=ag5 h r b c e (rem toks s) s [] [] t (az _) u (Nat.zero_le _) (Nat.zero_le _) (fun _=>⟨rfl,by show 0+s.i<=s.i;omega⟩);refine⟨s',x',y',?_,?_,y,z⟩
  ·show nT fa f g j l (encI toks s) b=_
   rw[afv,jY h s b c,d];exact w
  ·show yh ga m n o p q (encS toks stop s) b=_
   rw[afu,rF h s b,d];exact x
variable {toks:List aJ} {stop:Int}
theorem apd{α:Type}{c:Bool}{x y:Option α}(a:∃r,x=some r)(b:∃r,y=some r):∃r,(bif c then x else y)=some r:=by
 cases c
 ·exact b
 ·exact a
theorem amk(a:Str):∃r,dP a=some r:=by
 unfold dP;repeat refine apd ⟨_,rfl⟩ ?_
 exact⟨_,rfl⟩
def MG(a:Str):Int:=(dP a).getD (-1)
theorem aav(a:Str):dP a=some (MG a):=by
 obtain⟨r,h⟩:=amk a;unfold MG;rw[h];rfl
theorem ajJ(a:Str):fQ a=some (MG a):=(ajI a).trans (aav a)
def VR(toks:List aJ)(fe:aV->Option (aV×af))(fl:aV->Str->Option (aV×List af))(s:PS):Option (aV×af):=
 if sees toks s [91]=true then (fl (encI toks (bI s)) [93]).bind fun r=>some (r.1,⟨4,0,[],r.2⟩)
 else if sees toks s [40]=true then (fe (encI toks (bI s))).bind fun r=>(di r.1 [41]).bind fun a=>some (a,r.2)
 else some (encI toks (jv s),⟨0,0,[],[]⟩)
def Hu(toks:List aJ)(stop:Int)(ge:GRd->Option (GRd×af))(gl:GRd->Str->Option (GRd×List af))(s:PS):Option (GRd×af):=
 if sees toks s [91]=true then (gl (encS toks stop (bI s)) [93]).bind fun r=>some (r.1,⟨4,0,[],r.2⟩)
 else if sees toks s [40]=true then (ge (encS toks stop (bI s))).bind fun r=>(fD r.1 [41]).bind fun a=>some (a,r.2)
 else some (encS toks stop (jv s),⟨0,0,[],[]⟩)
def akt(toks:List aJ)(fe:aV->Option (aV×af))(fl:aV->Str->Option (aV×List af))(s:PS):Option (aV×af):=
 if (aU toks s).kind=2 then some (encI toks (bI s),⟨1,(aU toks s).n,[],[]⟩)
 else if (aU toks s).kind=3 then some (encI toks (bI s),⟨2,0,(aU toks s).text,[]⟩)
 else if (aU toks s).kind=1 then
  if fF (aU toks s).text=true then some (encI toks (bI s),⟨3,0,(aU toks s).text,[]⟩)
  else if 0<=MG (aU toks s).text then (fl (encI toks (gI toks (bI s) [40])) [41]).bind fun r=>some (r.1,⟨5,0,(aU toks s).text,r.2⟩)
  else VR toks fe fl s
 else VR toks fe fl s
def akr(toks:List aJ)(stop:Int)(ge:GRd->Option (GRd×af))(gl:GRd->Str->Option (GRd×List af))(s:PS):Option (GRd×af):=
 if (aU toks s).kind=2 then some (encS toks stop (bI s),⟨1,(aU toks s).n,[],[]⟩)
 else if (aU toks s).kind=3 then some (encS toks stop (bI s),⟨2,0,(aU toks s).text,[]⟩)
 else if (aU toks s).kind=1 then
  if fF (aU toks s).text=true then some (encS toks stop (bI s),⟨3,0,(aU toks s).text,[]⟩)
  else if 0<=MG (aU toks s).text then (gl (encS toks stop (gI toks (bI s) [40])) [41]).bind fun r=>some (r.1,⟨5,0,(aU toks s).text,r.2⟩)
  else Hu toks stop ge gl s
 else Hu toks stop ge gl s
theorem ZB(h:dZ toks stop)(fe fl)(s:PS):((bg (encI toks s) [91]).bind fun b=>
      bif b.2 then (fl b.1 [93]).bind fun e=>some (e.1,af.mk 4 0 [] e.2)
      else (bg b.1 [40]).bind fun c=>bif c.2 then (fe c.1).bind fun f=>(di f.1 [41]).bind fun d=>some (d,aj f.2)
       else (iP c.1).bind fun a=>some (a.1,aj a.2))=VR toks fe fl s:=by
 unfold VR;rw[jY h s [91] rfl];simp only[zA,aO];cases i:sees toks s [91]with
 | true=>simp
 | false=>
  simp only[aa,aL,if_false,jY h s [40] rfl,zA];cases g:sees toks s [40]with
  | true=>simp
  | false=>simp[SV]
theorem aks(h:dZ toks stop)(fe j k l fl)(s:PS):tN fe j k l fl (encI toks s)=akt toks fe fl s:=by
 have g:=mg h s;unfold tN akt;rw[yQ h];simp only[zA,EJ _ g.len,ajJ];have a:¬(aU toks s).kind=0->(aV.mk (encI toks s).toks (w64 ((encI toks s).i+1)) (encI toks s).bad)=encI toks (bI s):=fun m=>Dx h (rQ m).2.1
 by_cases b:(aU toks s).kind=2
 ·have e:((aU toks s).kind==2)=true:=by simp[b]
  rw[e,if_pos b,a (by rw[b];decide)];rfl
 ·have n:((aU toks s).kind==2)=false:=by simp[b]
  rw[n,if_neg b];simp only[aa];by_cases c:(aU toks s).kind=3
  ·have e:((aU toks s).kind==3)=true:=by simp[c]
   rw[e,if_pos c,a (by rw[c];decide)];rfl
  ·have o:((aU toks s).kind==3)=false:=by simp[c]
   rw[o,if_neg c];simp only[aa];by_cases d:(aU toks s).kind=1
   ·have e:((aU toks s).kind==1)=true:=by simp[d]
    rw[e,if_pos d,a (by rw[d];decide)];simp only[ac];cases hv:fF (aU toks s).text with
    | true=>rfl
    | false=>
     simp only[aa,aL,if_false];by_cases f:0<=MG (aU toks s).text
     ·have ea:decide (MG (aU toks s).text>=0)=true:=by simpa using f
      rw[ea,if_pos f];simp only[ac,yR h,zA]
     ·have ea:decide (MG (aU toks s).text>=0)=false:=by simpa using f
      rw[ea,if_neg f];simp only[aa];exact ZB h fe fl s
   ·have e:((aU toks s).kind==1)=false:=by simp[d]
    rw[e,if_neg d];simp only[aa];exact ZB h fe fl s
theorem ZA(h:dZ toks stop)(ge gl){s:PS}(j:s.bad=none)(hi:s.i<toks.length):((iT (aU toks s) [91]).bind fun d=>
  bif d then (gl (GRd.mk (encS toks stop s).toks (w64 ((encS toks stop s).i+1)) (encS toks stop s).stop (encS toks stop s).bad) [93]).bind fun a=>some (a.1,af.mk 4 0 [] a.2)
  else (iT (aU toks s) [40]).bind fun e=>bif e then (ge (GRd.mk (encS toks stop s).toks (w64 ((encS toks stop s).i+1)) (encS toks stop s).stop (encS toks stop s).bad)).bind fun b=>(fD b.1 [41]).bind fun f=>some (f,aj b.2)
   else (ja (encS toks stop s)).bind fun c=>some (c.1,aj c.2))=Hu toks stop ge gl s:=by
 unfold Hu;simp only[ae4,Hw h s [91] rfl,Hw h s [40] rfl,zA,aO,lM h hi,vC h];cases k:sees toks s [91]with
 | true=>simp
 | false=>
  simp only[aa,aL,if_false];cases g:sees toks s [40]with
  | true=>simp
  | false=>simp
theorem akq(h:dZ toks stop)(ge q t u v gl)(s:PS):Eu ge q t u v gl (encS toks stop s)=akr toks stop ge gl s:=by
 have j:=mg h s;unfold Eu akr;simp only[vC h,zA,aO];have dead:∀(k:aU toks s=⟨0,0,0,[]⟩),some (encS toks stop (jv s),(⟨0,0,[],[]⟩:af))=(if (aU toks s).kind=2 then some (encS toks stop (bI s),⟨1,(aU toks s).n,[],[]⟩)
   else if (aU toks s).kind=3 then some (encS toks stop (bI s),⟨2,0,(aU toks s).text,[]⟩)
   else if (aU toks s).kind=1 then
    if fF (aU toks s).text=true then some (encS toks stop (bI s),⟨3,0,(aU toks s).text,[]⟩)
    else if 0<=MG (aU toks s).text then (gl (encS toks stop (gI toks (bI s) [40])) [41]).bind fun r=>some (r.1,⟨5,0,(aU toks s).text,r.2⟩)
    else Hu toks stop ge gl s
   else Hu toks stop ge gl s):=by
  intro k;have p:∀x,letter x=false->sees toks s x=false:=fun x w=>by rw[<- Hw h s x w,k];rfl
  rw[k];unfold Hu;rw[p [91] rfl,p [40] rfl];rfl
 cases a:s.bad with
 | some b=>
  have:=mY h b;have e:decide ((encS toks stop s).bad>=0)=true:=by simp[encS,a];omega
  rw[e];simp only[ac];exact dead (by unfold aU;rw[a])
 | none=>
  have e:decide ((encS toks stop s).bad>=0)=false:=by simp[encS,a]
  rw[e];simp only[aa];by_cases hi:s.i<toks.length
  ·have l:decide ((encS toks stop s).i>=((encS toks stop s).toks.length:Int))=false:=by simp[encS];omega
   have m:toks[s.i]?=some (aU toks s):=by simp[aU,a,zF hi]
   have o:idx (encS toks stop s).toks (encS toks stop s).i=some (aU toks s):=by
    show idx toks (s.i:Int)=_
    rw[au,m]
   rw[l];simp only[aa,o,zA,Ei _ j.len,aav,kz,CQ,aO];by_cases c:(aU toks s).kind=2
   ·have e:((aU toks s).kind==2)=true:=by simp[c]
    rw[e,if_pos c,lM h hi];rfl
   ·have y:((aU toks s).kind==2)=false:=by simp[c]
    rw[y,if_neg c];simp only[aa];by_cases d:(aU toks s).kind=3
    ·have e:((aU toks s).kind==3)=true:=by simp[d]
     rw[e,if_pos d,lM h hi];rfl
    ·have z:((aU toks s).kind==3)=false:=by simp[d]
     rw[z,if_neg d];simp only[aa];by_cases f:(aU toks s).kind=1
     ·have e:((aU toks s).kind==1)=true:=by simp[f]
      rw[e,if_pos f];simp only[ac];cases hv:fF (aU toks s).text with
      | true=>simp only[ac,if_true,lM h hi]
      | false=>
       simp only[aa,aL,if_false];by_cases g:0<=MG (aU toks s).text
       ·have ea:decide (MG (aU toks s).text>=0)=true:=by simpa using g
        rw[ea,if_pos g,lM h hi];simp only[ac,uT h,zA]
       ·have ea:decide (MG (aU toks s).text>=0)=false:=by simpa using g
        rw[ea,if_neg g];simp only[aa];have:=ZA h ge gl a hi;simp only[aO,vC h,zA]at this;exact this
     ·have e:((aU toks s).kind==1)=false:=by simp[f]
      rw[e,if_neg f];simp only[aa];have:=ZA h ge gl a hi;simp only[aO,vC h,zA]at this;exact this
  ·have l:decide ((encS toks stop s).i>=((encS toks stop s).toks.length:Int))=true:=by simp[encS];omega
   have m:toks[s.i]?=none:=zJ (by omega);rw[l];simp only[ac];exact dead (by unfold aU;rw[a];simp[m])
theorem Ea{s s':PS}(h:Adv toks s s')(a:s'.bad=none):s.bad=none:=by
 cases c:s.bad with
 | none=>rfl
 | some b=>rw[h.bad b c,c]at a;cases a
theorem ah2(h:dZ toks stop){k:Nat}{fe ge fl gl}(t:∀s,s.i<=toks.length->rem toks s+1<=k->Sim wtE toks stop fe ge s)
  (u:∀b,letter b=false->b≠[44]->∀s,s.i<=toks.length->rem toks s+1<=k->Sim wtL toks stop (fun a=>fl a b) (fun a=>gl a b) s) (s:PS) (v:s.i<=toks.length) (z:rem toks s<=k) :
  ∃(s':PS) (x y:af),VR toks fe fl s=some (encI toks s',x)/\Hu toks stop ge gl s=some (encS toks stop s',y)/\(s'.bad=none->x=y/\wtE x+s.i<=s'.i)/\Adv toks s s':=by
 unfold VR Hu;cases r:sees toks s [91]with
 | true=>
  obtain⟨d,w⟩:=gV (bV r).1 (bV r).2;obtain⟨j,x,y,l,m,n,g⟩:=u [93] rfl (by decide) (bI s) d.len (by omega);refine⟨j,⟨4,0,[],x⟩,⟨4,0,[],y⟩,?_,?_,fun c=>(by
   have e:=n c;refine⟨by rw[e.1],?_⟩;have o:=e.2;rw[kH]at o;rw[Ee];omega),d.trans g⟩
  ·simp only[if_true];rw[show fl (encI toks (bI s)) [93]=_ from l];rfl
  ·simp only[if_true];rw[show gl (encS toks stop (bI s)) [93]=_ from m];rfl
 | false=>
  simp only[aL,if_false];cases f:sees toks s [40]with
  | true=>
   obtain⟨d,w⟩:=gV (bV f).1 (bV f).2;obtain⟨j,x,y,l,m,n,g⟩:=t (bI s) d.len (by omega);have p:=rD (x:=[41]) g.len;refine⟨gI toks j [41],x,y,?_,?_,fun c=>(by
    have e:=n (Ea p c);refine⟨e.1,?_⟩;have o:=e.2;rw[kH]at o;have A:=p.le;omega),(d.trans g).trans p⟩
   ·simp only[if_true,l,zA,yR h]
   ·simp only[if_true,m,zA,uT h]
  | false=>
   simp only[aL,if_false];obtain⟨B,q⟩:=abM s;exact⟨jv s,_,_,rfl,rfl,fun c=>(by rw[q]at c;cases c),JJ v⟩
theorem Yz{s:PS}{t:aJ}(h:Xc t){k n:Int}{x:Str}(a:x=[]\/x=t.text):wtE ⟨k,n,x,[]⟩+s.i<=(bI s).i:=by
 have b:x.length<=120:=by
  rcases a with rfl | rfl
  ·simp
  ·exact h.len
 rw[xN b,kH];simp[wtL];omega
theorem akp(h:dZ toks stop){k:Nat}{fe ge fl gl}(o:∀s,s.i<=toks.length->rem toks s+1<=k->Sim wtE toks stop fe ge s)
  (l:∀b,letter b=false->b≠[44]->∀s,s.i<=toks.length->rem toks s+1<=k->Sim wtL toks stop (fun a=>fl a b) (fun a=>gl a b) s) (p q r t u v w) (s:PS) (z:s.i<=toks.length) (A:rem toks s<=k) :
  Sim wtE toks stop (tN fe p q r fl) (Eu ge t u v w gl) s:=by
 unfold Sim;rw[aks h,akq h];have m:=ah2 h o l s z A;unfold akt akr;by_cases d:(aU toks s).kind=2
 ·obtain⟨c,_⟩:=gV (rQ (s:=s) (by rw[d];decide)).1 (rQ (s:=s) (by rw[d];decide)).2.1;rw[if_pos d,if_pos d];exact⟨bI s,_,_,rfl,rfl,fun _=>⟨rfl,Yz (mg h s) (by first | exact .inl rfl | exact .inr rfl)⟩,c⟩
 rw[if_neg d,if_neg d];by_cases e:(aU toks s).kind=3
 ·obtain⟨c,_⟩:=gV (rQ (s:=s) (by rw[e];decide)).1 (rQ (s:=s) (by rw[e];decide)).2.1;rw[if_pos e,if_pos e];exact⟨bI s,_,_,rfl,rfl,fun _=>⟨rfl,Yz (mg h s) (by first | exact .inl rfl | exact .inr rfl)⟩,c⟩
 rw[if_neg e,if_neg e];by_cases f:(aU toks s).kind=1
 ·obtain⟨c,J⟩:=gV (rQ (s:=s) (by rw[f];decide)).1 (rQ (s:=s) (by rw[f];decide)).2.1;rw[if_pos f,if_pos f];cases hv:fF (aU toks s).text with
  | true=>
   simp only[if_true];exact⟨bI s,_,_,rfl,rfl,fun _=>⟨rfl,Yz (mg h s) (by first | exact .inl rfl | exact .inr rfl)⟩,c⟩
  | false=>
   simp only[aL,if_false];by_cases g:0<=MG (aU toks s).text
   ·rw[if_pos g,if_pos g];have j:=rD (x:=[40]) c.len;have B:=j.rem;obtain⟨C,x,y,D,E,F,G⟩:=l [41] rfl (by decide) (gI toks (bI s) [40]) j.len (by omega);refine⟨C,⟨5,0,(aU toks s).text,x⟩,⟨5,0,(aU toks s).text,y⟩,?_,?_,fun H=>(by
     have n:=F H;refine⟨by rw[n.1],?_⟩;have K:=n.2;have I:=j.le;rw[kH]at I;rw[xN (mg h s).len];omega),(c.trans j).trans G⟩
    ·rw[show fl (encI toks (gI toks (bI s) [40])) [41]=_ from D];rfl
    ·rw[show gl (encS toks stop (gI toks (bI s) [40])) [41]=_ from E];rfl
   ·rw[if_neg g,if_neg g];exact m
 ·rw[if_neg f,if_neg f];exact m
abbrev CX:=(List aJ)×Int×Int×Int×Int×Str×(List af)×Int×Int×Str×(List af)×(List Int)×Int×Int
def TG(fs:aV->Option (aV×af)):CX->Option (CX⊕(aV×af)):=(fun (a:(List aJ)×Int×Int×Int×Int×Str×(List af)×Int×Int×Str×(List af)×(List Int)×Int×Int)=>
  bif (decide (a.2.2.2.2.2.2.2.2.2.2.2.2.2<a.2.2.2.2.2.2.2.2.2.2.2.2.1))then
   (idx a.2.2.2.2.2.2.2.2.2.2.2.1 a.2.2.2.2.2.2.2.2.2.2.2.2.2).bind fun _=>
   (a.2.2.2.2.2.2.2.2.2.2.2.1[a.2.2.2.2.2.2.2.2.2.2.2.2.2.toNat]?).bind fun c=>
   (uG c).bind fun e=>
   (bg (aV.mk a.1 a.2.1 a.2.2.1) e).bind fun b=>
   bif b.2 then
    (fs b.1).bind fun d=>
    some (.inr (d.1,af.mk 6 c [] [af.mk a.2.2.2.2.2.2.2.1 a.2.2.2.2.2.2.2.2.1 a.2.2.2.2.2.2.2.2.2.1 a.2.2.2.2.2.2.2.2.2.2.1,aj d.2]))
   else
    some (.inl (b.1.toks,b.1.i,b.1.bad,a.2.2.2.1,a.2.2.2.2.1,a.2.2.2.2.2.1,a.2.2.2.2.2.2.1,a.2.2.2.2.2.2.2.1,a.2.2.2.2.2.2.2.2.1,a.2.2.2.2.2.2.2.2.2.1,a.2.2.2.2.2.2.2.2.2.2.1,a.2.2.2.2.2.2.2.2.2.2.2.1,a.2.2.2.2.2.2.2.2.2.2.2.2.1,w64 (a.2.2.2.2.2.2.2.2.2.2.2.2.2+1)))
  else
   some (.inr (aV.mk a.1 a.2.1 a.2.2.1,af.mk a.2.2.2.2.2.2.2.1 a.2.2.2.2.2.2.2.2.1 a.2.2.2.2.2.2.2.2.2.1 a.2.2.2.2.2.2.2.2.2.2.1))
 )
def pkC(toks:List aJ)(s:PS)(e:af)(j:Int):CX:=((encI toks s).toks,(encI toks s).i,(encI toks s).bad,0,0,[],[],e.kind,e.n,e.text,e.args,[4,5],2,j)
def ama(toks:List aJ)(fs:aV->Option (aV×af))(s:PS)(e:af):Option (aV×af):=
 if sees toks s [60]=true then (fs (encI toks (bI s))).bind fun r=>some (r.1,⟨6,4,[],[e,r.2]⟩)
 else if sees toks s [61,61]=true then (fs (encI toks (bI s))).bind fun r=>some (r.1,⟨6,5,[],[e,r.2]⟩)
 else some (encI toks s,e)
theorem cmp_eq(h:dZ toks stop)(fs)(s:PS)(e:af):aA (TG fs) (pkC toks s e 0)=ama toks fs s e:=by
 obtain⟨ek,en,et,ea⟩:=e;have d:TG fs (pkC toks s ⟨ek,en,et,ea⟩ 0)=if sees toks s [60]=true then (fs (encI toks (bI s))).bind fun r=>some (.inr (r.1,⟨6,4,[],[⟨ek,en,et,ea⟩,r.2]⟩))else some (.inl (pkC toks s ⟨ek,en,et,ea⟩ 1)):=by
  unfold TG;show ((bg (encI toks s) [60]).bind fun a=>bif a.2 then (fs a.1).bind fun b=>some (Sum.inr (b.1,af.mk 6 4 [] [⟨ek,en,et,ea⟩,aj b.2]))else some (Sum.inl (a.1.toks,a.1.i,a.1.bad,0,0,[],[],ek,en,et,ea,[4,5],2,w64 (0+1))))=_
  rw[jY h s [60] rfl];simp only[zA,aO];cases c:sees toks s [60]with
  | true=>simp
  | false=>simp only[aa,aL,if_false];rfl
 have f:TG fs (pkC toks s ⟨ek,en,et,ea⟩ 1)=if sees toks s [61,61]=true then (fs (encI toks (bI s))).bind fun r=>some (.inr (r.1,⟨6,5,[],[⟨ek,en,et,ea⟩,r.2]⟩))else some (.inl (pkC toks s ⟨ek,en,et,ea⟩ 2)):=by
  unfold TG;show ((bg (encI toks s) [61,61]).bind fun a=>bif a.2 then (fs a.1).bind fun b=>some (Sum.inr (b.1,af.mk 6 5 [] [⟨ek,en,et,ea⟩,aj b.2]))else some (Sum.inl (a.1.toks,a.1.i,a.1.bad,0,0,[],[],ek,en,et,ea,[4,5],2,w64 (1+1))))=_
  rw[jY h s [61,61] rfl];simp only[zA,aO];cases c:sees toks s [61,61]with
  | true=>simp
  | false=>simp only[aa,aL,if_false];rfl
 have g:TG fs (pkC toks s ⟨ek,en,et,ea⟩ 2)=some (.inr (encI toks s,⟨ek,en,et,ea⟩)):=rfl;unfold ama;rw[aH,d];cases c:sees toks s [60]with
 | true=>
  simp only[if_true];cases fs (encI toks (bI s))<;>rfl
 | false=>
  simp only[aL,if_false];rw[aH,f];cases j:sees toks s [61,61]with
  | true=>
   simp only[if_true];cases fs (encI toks (bI s))<;>rfl
  | false=>
   simp only[aL,if_false];rw[aH,g]
theorem ah0{s b c:PS}{op:Int}{x y a d:af}(p:a=d/\wtE a+(bI b).i<=c.i)(q:x=y/\wtE x+s.i<=b.i):(⟨6,op,[],[x,a]⟩:af)=⟨6,op,[],[y,d]⟩/\wtE ⟨6,op,[],[x,a]⟩+s.i<=c.i:=by
 refine⟨by rw[p.1,q.1],?_⟩;have e:=p.2;have f:=q.2;rw[kH]at e;rw[Ee,wG];omega
theorem al9(h:dZ toks stop){k:Nat}{fs gs}(g:∀s,s.i<=toks.length->rem toks s<=k->Sim wtE toks stop fs gs s)(t1 w z A B)(s:PS)(C:s.i<=toks.length)(D:rem toks s<=k) :
  Sim wtE toks stop (fun a=>(fs a).bind fun r=>aA (TG fs) (r.1.toks,r.1.i,r.1.bad,0,0,[],[],r.2.kind,r.2.n,r.2.text,r.2.args,[4,5],([4,5].length:Int),0)) (sW t1 w gs z A B) s:=by
 obtain⟨b,x,y,E,F,j,f⟩:=g s C D;have G:=f.rem;have eI:((fs (encI toks s)).bind fun r=>aA (TG fs) (r.1.toks,r.1.i,r.1.bad,0,0,[],[],r.2.kind,r.2.n,r.2.text,r.2.args,[4,5],([4,5].length:Int),0))=ama toks fs b x:=by
  rw[E];exact cmp_eq h fs b x
 have eS:sW t1 w gs z A B (encS toks stop s)=(if sees toks b [60]=true then (gs (encS toks stop (bI b))).bind fun r=>some (r.1,⟨6,4,[],[y,r.2]⟩)else if sees toks b [61,61]=true then (gs (encS toks stop (bI b))).bind fun r=>some (r.1,⟨6,5,[],[y,r.2]⟩)else some (encS toks stop b,y)):=by
  unfold sW;simp only[F,zA,rF h b,jF,aO];cases d:sees toks b [60]with
  | true=>
   simp only[ac,if_true];rw[lM h (bV d).2]
  | false=>
   simp only[aa,aL,if_false];cases c:sees toks b [61,61]with
   | true=>
    simp only[ac,if_true];rw[lM h (bV c).2]
   | false=>simp
 unfold Sim;show ∃(s':PS) (x' y':af),((fs (encI toks s)).bind fun r=>aA (TG fs) (r.1.toks,r.1.i,r.1.bad,0,0,[],[],r.2.kind,r.2.n,r.2.text,r.2.args,[4,5],([4,5].length:Int),0))=_/\_
 rw[eI,eS];unfold ama;cases d:sees toks b [60]with
 | true=>
  obtain⟨e,H⟩:=gV (bV d).1 (bV d).2;obtain⟨l,m,o,p,q,t,u⟩:=g (bI b) e.len (by omega);refine⟨l,⟨6,4,[],[x,m]⟩,⟨6,4,[],[y,o]⟩,?_,?_,fun v=>(ah0 (t v) (j (bV d).1)),(f.trans e).trans u⟩
  ·simp only[if_true,p,zA]
  ·simp only[if_true,q,zA]
 | false=>
  simp only[aL,if_false];cases c:sees toks b [61,61]with
  | true=>
   obtain⟨e,H⟩:=gV (bV c).1 (bV c).2;obtain⟨l,m,o,p,q,t,u⟩:=g (bI b) e.len (by omega);refine⟨l,⟨6,5,[],[x,m]⟩,⟨6,5,[],[y,o]⟩,?_,?_,fun v=>(ah0 (t v) (j (bV c).1)),(f.trans e).trans u⟩
   ·simp only[if_true,p,zA]
   ·simp only[if_true,q,zA]
  | false=>
   simp only[aL,if_false];exact⟨b,x,y,rfl,rfl,j,f⟩
theorem alV(fe fs o p j)(a:aV):Am fe fs o p j a =
 ((fM a).bind fun k=>
 (jZ k.2 [108,101,116]).bind fun w=>
 bif w then
  (mF (aV.mk k.1.toks (w64 (k.1.i+1)) k.1.bad)).bind fun o=>
  (di o.1 [61]).bind fun p=>
  (fe p).bind fun j=>
  (gd ([aj j.2].length)).bind fun _=>
  (di j.1 [105,110]).bind fun x=>
  (fe x).bind fun q=>
  (gd ([aj j.2].length+[aj q.2].length)).bind fun _=>
  some (q.1,af.mk 7 0 o.2 ([aj j.2]++[aj q.2]))
 else
 (fM k.1).bind fun l=>
 (jZ l.2 [105,102]).bind fun y=>
 bif y then
  (fe (aV.mk l.1.toks (w64 (l.1.i+1)) l.1.bad)).bind fun c=>
  (gd ([aj c.2].length)).bind fun _=>
  (di c.1 [116,104,101,110]).bind fun r=>
  (fe r).bind fun e=>
  (gd ([aj c.2].length+[aj e.2].length)).bind fun _=>
  (di e.1 [101,108,115,101]).bind fun s=>
  (fe s).bind fun g=>
  (gd (([aj c.2]++[aj e.2]).length+[aj g.2].length)).bind fun _=>
  some (g.1,af.mk 8 0 [] (([aj c.2]++[aj e.2])++[aj g.2]))
 else
 (fM l.1).bind fun d=>
 (jZ d.2 [102,111,114]).bind fun t=>
 bif t then
  (mF (aV.mk d.1.toks (w64 (d.1.i+1)) d.1.bad)).bind fun m=>
  (di m.1 [105,110]).bind fun u=>
  (fe u).bind fun f=>
  (gd ([aj f.2].length)).bind fun _=>
  (di f.1 [100,111]).bind fun v=>
  (fe v).bind fun h=>
  (gd ([aj f.2].length+[aj h.2].length)).bind fun _=>
  some (h.1,af.mk 9 0 m.2 ([aj f.2]++[aj h.2]))
 else
 (fs d.1).bind fun b=>
 aA (TG fs) (b.1.toks,b.1.i,b.1.bad,0,0,[],[],b.2.kind,b.2.n,b.2.text,b.2.args,[4,5],([4,5].length:Int),0)):=rfl
theorem Q9(h:dZ toks stop)(s:PS):(nG toks s).2.length<=120:=by
 unfold nG;split
 ·exact (mg h s).len
 ·simp
theorem ajU(h:dZ toks stop){k:Nat}{fe ge fs gc}(q:∀s,s.i<=toks.length->rem toks s+1<=k->Sim wtE toks stop fe ge s)
  (T:∀s,s.i<=toks.length->rem toks s<=k->Sim wtE toks stop (fun a=>(fs a).bind fun r=>aA (TG fs) (r.1.toks,r.1.i,r.1.bad,0,0,[],[],r.2.kind,r.2.n,r.2.text,r.2.args,[4,5],([4,5].length:Int),0)) gc s)
  (U V W X Y Z t6) (s:PS) (hs:s.i<=toks.length) (hk:rem toks s<=k):Sim wtE toks stop (Am fe fs U V W) (KD ge gc X Y Z t6) s:=by
 unfold Sim;have L:∀x:af,gd [x].length=some ():=fun x=>gdp (by simp)
 have M:∀x y:af,gd ([x].length+[y].length)=some ():=fun x y=>gdp (by simp)
 have g3:∀x y z:af,gd (([x]++[y]).length+[z].length)=some ():=fun x y z=>gdp (by simp)
 rw[alV];unfold KD;simp only[yQ h,zA,afJ,RG h s [108,101,116] rfl,RG h s [105,102] rfl,RG h s [102,111,114] rfl,rF h s,aO];cases J:sees toks s [108,101,116]with
 | true=>
  obtain⟨m,P⟩:=gV (bV J).1 (bV J).2;have d:=aaQ (toks:=toks) m.len;have e:=rD (x:=[61]) d.len;obtain⟨A,B,C,t,u,v,c⟩:=q (gI toks (nG toks (bI s)).1 [61]) e.len (by have:=d.rem;have:=e.rem;omega);have b:=rD (x:=[105,110]) c.len;obtain⟨D,E,F,G,H,I,f⟩:=q (gI toks A [105,110]) b.len (by have:=d.rem;have:=e.rem;have:=c.rem;have:=b.rem;omega);refine⟨D,⟨7,0,(nG toks (bI s)).2,[B,E]⟩,⟨7,0,(nG toks (bI s)).2,[C,F]⟩,?_,?_,fun g=>(by
   have o:=I g;have p:=v (Ea (b.trans f) g);refine⟨by rw[o.1,p.1],?_⟩;have Q:=o.2;have N:=p.2;have K:=d.le;have c4:=e.le;have R:=b.le;rw[kH]at K;rw[xN (Q9 h (bI s)),wG];omega),((((m.trans d).trans e).trans c).trans b).trans f⟩
  ·simp only[ac];rw[Dx h (bV J).2];simp only[abn h,zA,yR h,t,L,M,G];rfl
  ·simp only[ac];rw[lM h (bV J).2];simp only[ZP h,zA,uT h,u,H]
 | false=>
  simp only[aa];cases j:sees toks s [105,102]with
  | true=>
   obtain⟨m,P⟩:=gV (bV j).1 (bV j).2;obtain⟨A,B,C,t,u,v,c⟩:=q (bI s) m.len (by omega);have b:=rD (x:=[116,104,101,110]) c.len;obtain⟨D,E,F,G,H,I,f⟩:=q (gI toks A [116,104,101,110]) b.len (by have:=c.rem;have:=b.rem;omega);have w:=rD (x:=[101,108,115,101]) f.len;obtain⟨s4,x4,y4,u1,u2,u3,O⟩:=q (gI toks D [101,108,115,101]) w.len (by have:=c.rem;have:=b.rem;have:=f.rem;have:=w.rem;omega);refine⟨s4,⟨8,0,[],[B,E,x4]⟩,⟨8,0,[],[C,F,y4]⟩,?_,?_,fun g=>(by
    have S:=u3 g;have o:=I (Ea (w.trans O) g);have p:=v (Ea ((b.trans f).trans (w.trans O)) g);refine⟨by rw[S.1,o.1,p.1],?_⟩;have c0:=S.2;have Q:=o.2;have N:=p.2;have K:=b.le;have R:=w.le;rw[kH]at N;rw[Ee,VK];omega),((((m.trans c).trans b).trans f).trans w).trans O⟩
   ·simp only[ac];rw[Dx h (bV j).2];simp only[zA,yR h,t,L,M,g3,G,u1];rfl
   ·simp only[ac];rw[lM h (bV j).2];simp only[zA,uT h,u,H,u2]
  | false=>
   simp only[aa];cases l:sees toks s [102,111,114]with
   | true=>
    obtain⟨m,P⟩:=gV (bV l).1 (bV l).2;have d:=aaQ (toks:=toks) m.len;have e:=rD (x:=[105,110]) d.len;obtain⟨A,B,C,t,u,v,c⟩:=q (gI toks (nG toks (bI s)).1 [105,110]) e.len (by have:=d.rem;have:=e.rem;omega);have b:=rD (x:=[100,111]) c.len;obtain⟨D,E,F,G,H,I,f⟩:=q (gI toks A [100,111]) b.len (by have:=d.rem;have:=e.rem;have:=c.rem;have:=b.rem;omega);refine⟨D,⟨9,0,(nG toks (bI s)).2,[B,E]⟩,⟨9,0,(nG toks (bI s)).2,[C,F]⟩,?_,?_,fun g=>(by
   have o:=I g;have p:=v (Ea (b.trans f) g);refine⟨by rw[o.1,p.1],?_⟩;have Q:=o.2;have N:=p.2;have K:=d.le;have c4:=e.le;have R:=b.le;rw[kH]at K;rw[xN (Q9 h (bI s)),wG];omega),((((m.trans d).trans e).trans c).trans b).trans f⟩
    ·simp only[ac];rw[Dx h (bV l).2];simp only[abn h,zA,yR h,t,L,M,G];rfl
    ·simp only[ac];rw[lM h (bV l).2];simp only[ZP h,zA,uT h,u,H]
   | false=>
    simp only[aa];obtain⟨s',x,y,t,u,v,c⟩:=T s hs hk;refine⟨s',x,y,t,?_,v,c⟩;rw[u];rfl
variable {toks:List aJ} {stop:Int}
theorem adK(h:dZ toks stop):∀(k:Nat) (s:PS),s.i<=toks.length->rem toks s<=k->∀n m,5*k+5<=n->6*k+6<=m->Sim wtE toks stop (aF n).1 (aG m).1 s:=by
 intro k;induction k using Nat.strongRecOn with
 | _ k ih=>
  have o:∀n m,5*k<=n->6*k<=m->∀s,s.i<=toks.length->rem toks s+1<=k->Sim wtE toks stop (aF n).1 (aG m).1 s:=fun n m j l s e f=>
   ih (k-1) (by omega) s e (by omega) n m (by omega) (by omega)
  have q:∀n m,5*k+1<=n->6*k+1<=m->∀b,letter b=false->b≠[44]->∀s,s.i<=toks.length->rem toks s+1<=k->Sim wtL toks stop (fun a=>(aF n).2.2.2.2 a b) (fun a=>(aG m).2.2.2.2.2 a b) s:=by
   intro n m j l b r p s e f;obtain⟨d,rfl⟩:∃d,n=d+1:=⟨n-1,by omega⟩;obtain⟨c,rfl⟩:∃c,m=c+1:=⟨m-1,by omega⟩;exact aji h (k:=k-1) (fun s e f=>o d c (by omega) (by omega) s e (by omega)) b r p (aF d).2.1 (aF d).2.2.1 (aF d).2.2.2.1 (aF d).2.2.2.2 (aG c).2.1 (aG c).2.2.1 (aG c).2.2.2.1 (aG c).2.2.2.2.1 (aG c).2.2.2.2.2 s e (by omega)
  have t:∀n m,5*k+2<=n->6*k+2<=m->∀s,s.i<=toks.length->rem toks s<=k->Sim wtE toks stop (aF n).2.2.2.1 (aG m).2.2.2.2.1 s:=by
   intro n m j l s e f;obtain⟨d,rfl⟩:∃d,n=d+1:=⟨n-1,by omega⟩;obtain⟨c,rfl⟩:∃c,m=c+1:=⟨m-1,by omega⟩;exact akp h (o d c (by omega) (by omega)) (q d c (by omega) (by omega)) (aF d).2.1 (aF d).2.2.1 (aF d).2.2.2.1 (aG c).2.1 (aG c).2.2.1 (aG c).2.2.2.1 (aG c).2.2.2.2.1 s e f
  have u:∀n m,5*k+3<=n->6*k+3<=m->∀s,s.i<=toks.length->rem toks s<=k->Sim wtE toks stop (aF n).2.2.1 (aG m).2.2.2.1 s:=by
   intro n m j l s e f;obtain⟨d,rfl⟩:∃d,n=d+1:=⟨n-1,by omega⟩;obtain⟨c,rfl⟩:∃c,m=c+1:=⟨m-1,by omega⟩;exact aiN h (t d c (by omega) (by omega)) (aF d).1 (aF d).2.1 (aF d).2.2.1 (aF d).2.2.2.2 (aG c).1 (aG c).2.1 (aG c).2.2.1 (aG c).2.2.2.1 (aG c).2.2.2.2.2 s e f
  have v:∀n m,5*k+4<=n->6*k+4<=m->∀s,s.i<=toks.length->rem toks s<=k->Sim wtE toks stop (aF n).2.1 (aG m).2.2.1 s:=by
   intro n m j l s e f;obtain⟨d,rfl⟩:∃d,n=d+1:=⟨n-1,by omega⟩;obtain⟨c,rfl⟩:∃c,m=c+1:=⟨m-1,by omega⟩;exact akG h (u d c (by omega) (by omega)) (aF d).1 (aF d).2.1 (aF d).2.2.2.1 (aF d).2.2.2.2 (aG c).1 (aG c).2.1 (aG c).2.2.1 (aG c).2.2.2.2.1 (aG c).2.2.2.2.2 s e f
  intro s e f n m j l;obtain⟨d,rfl⟩:∃d,n=d+1:=⟨n-1,by omega⟩;obtain⟨c,rfl⟩:∃c,m=c+1:=⟨m-1,by omega⟩;refine ajU h (o d c (by omega) (by omega)) (fs:=(aF d).2.1) (gc:=(aG c).2.1) (fun s e f=>?_) (aF d).2.2.1 (aF d).2.2.2.1 (aF d).2.2.2.2 (aG c).2.2.1 (aG c).2.2.2.1 (aG c).2.2.2.2.1 (aG c).2.2.2.2.2 s e f;obtain⟨g,rfl⟩:∃g,c=g+1:=⟨c-1,by omega⟩;exact al9 h (v d g (by omega) (by omega)) (aG g).1 (aG g).2.1 (aG g).2.2.2.1 (aG g).2.2.2.2.1 (aG g).2.2.2.2.2 s e f
variable {toks:List aJ} {stop:Int}
theorem rE(n:Int):1<=SizeOf.sizeOf n:=by
 cases n with
 | ofNat m=>rw[Int.ofNat.sizeOf_spec];omega
 | negSucc m=>rw[Int.negSucc.sizeOf_spec];omega
theorem agf{α:Type}[SizeOf α](xs:List α):1<=SizeOf.sizeOf xs:=by
 cases xs with
 | nil=>rw[List.nil.sizeOf_spec];omega
 | cons x r=>rw[List.cons.sizeOf_spec];omega
theorem akL(t:aJ):5<=SizeOf.sizeOf t:=by
 obtain⟨a,b,c,d⟩:=t;rw[aJ.mk.sizeOf_spec];have:=rE a;have:=rE b;have:=rE c;have:=agf d;omega
theorem ah9(toks:List aJ):6*toks.length+1<=SizeOf.sizeOf toks:=by
 induction toks with
 | nil=>rw[List.nil.sizeOf_spec];simp
 | cons t r ih=>
  rw[List.cons.sizeOf_spec];have:=akL t;simp only[List.length_cons];omega
theorem Yg(h:dZ toks stop):∃(s':PS) (x y:af),Du (aV.mk toks 0 (-1))=some (encI toks s',x)/\Qj (GRd.mk toks 0 stop (-1))=some (encS toks stop s',y)/\(s'.bad=none->x=y/\wtE x<=s'.i)/\s'.i<=toks.length:=by
 have h1:=ah9 toks;have hi:5*toks.length+5<=siz (aV.mk toks 0 (-1))+1:=by
  show _<=SizeOf.sizeOf (aV.mk toks 0 (-1))+1
  rw[aV.mk.sizeOf_spec];have:=rE 0;have:=rE (-1);omega
 have a:6*toks.length+6<=siz (GRd.mk toks 0 stop (-1))+1:=by
  show _<=SizeOf.sizeOf (GRd.mk toks 0 stop (-1))+1
  rw[GRd.mk.sizeOf_spec];have:=rE 0;have:=rE (-1);have:=rE stop;omega
 obtain⟨s',x,y,b,c,d,e⟩:=adK h toks.length ⟨0,none⟩ (Nat.zero_le _) (by simp[rem]) _ _ hi a;exact⟨s',x,y,b,c,d,e.len⟩
theorem adM(a:Str){toks:List aJ}{t:Int}(hi:yM a=some (toks,t))(w:xR a=some (toks,t))(m:t<0->dZ toks (a.length:Int))
  (hv:∀e:af,wtE e<=60->∃v,iL e=some v/\gU e=some v):∃(e:af) (p:Int),qO a=some (e,p)/\ql a=some (e,p)/\(p<0->iL e=some true/\wtE e<=60):=by
 unfold qO ql;rw[hi,w];simp only[zA];by_cases s:t>=0
 ·have e:decide (t>=0)=true:=by simpa using s
  rw[e];exact⟨_,_,rfl,rfl,fun h=>by omega⟩
 ·have e:decide (t>=0)=false:=by simpa using s
  rw[e];simp only[aa];have h:=m (by omega);obtain⟨s',x,y,z,A,B,D⟩:=Yg h;have hlen:=h.len;rw[z,A];simp only[zA,aO];rw[ako,akn h];cases g:s'.bad with
  | some b=>
   have eb:(encI toks s').bad=(b:Int):=by simp[encI,g]
   have es:(encS toks (a.length:Int) s').bad=CY toks (a.length:Int) b:=by simp[encS,g]
   have n:=mY h b;have j:decide ((encS toks (a.length:Int) s').bad>=0)=true:=by rw[es];simpa using n
   have k:decide ((encI toks s').bad>=0)=true:=by rw[eb];simp
   rw[j,k,eb,es];simp only[Option.isNone_some,aa,ac];by_cases c:b<toks.length
   ·have d:decide ((b:Int)>=(toks.length:Int))=false:=by simp;omega
    rw[d];simp only[aa,au,zF c,zA,aD];refine⟨_,_,rfl,?_,fun hh=>?_⟩
    ·simp[CY,zF c]
    ·have:=(h.all _ (List.getElem_mem c)).pos;omega
   ·have d:decide ((b:Int)>=(toks.length:Int))=true:=by simp;omega
    rw[d];simp only[ac];have:toks[b]?=none:=zJ (by omega);refine⟨_,_,rfl,?_,fun hh=>by omega⟩;simp[CY,this]
  | none=>
   have ei:(encI toks s').i=(s'.i:Int):=rfl;have esi:(encS toks (a.length:Int) s').i=(s'.i:Int):=rfl;have eb:(encI toks s').bad = -1:=by simp[encI,g]
   have es:(encS toks (a.length:Int) s').bad = -1:=by simp[encS,g]
   simp only[Option.isNone_none,ac,ei,esi,vC h,zA];obtain⟨o,f⟩:=B g;have f:wtE x<=60:=by omega
   subst o;by_cases q:s'.i<toks.length
   ·have j:decide ((s'.i:Int)<(toks.length:Int))=true:=by simp;omega
    have k:decide ((s'.i:Int)>=(toks.length:Int))=false:=by simp;omega
    have d:decide ((s'.i:Int)>=0)=true:=by simp
    have u:(encS toks (a.length:Int) (jv s')).bad=toks[s'.i].pos:=by simp[encS,jv,g,CY,zF q]
    have n:=(h.all _ (List.getElem_mem q)).pos;have C:decide ((encS toks (a.length:Int) (jv s')).bad>=0)=true:=by rw[u];simpa using n
    rw[j,k,d,C,u];simp only[ac,aa,au,zF q,zA,aD];exact⟨_,_,rfl,rfl,fun hh=>by omega⟩
   ·have j:decide ((s'.i:Int)<(toks.length:Int))=false:=by simp;omega
    have k:decide ((-1:Int)>=(toks.length:Int))=false:=by simp;omega
    have d:decide ((-1:Int)>=0)=false:=rfl;obtain⟨v,l,r⟩:=hv x f;rw[j,eb,es,k,d];simp only[aa,l,r,zA];cases v with
    | false=>exact⟨_,_,rfl,rfl,fun hh=>by omega⟩
    | true=>exact⟨_,_,rfl,rfl,fun _=>⟨l,f⟩⟩
end
end Go.Proofs.YtngjomkjlonfpaaGreatDoor
