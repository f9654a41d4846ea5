import Derived.Test.YtbbmkcioplbhbaaGreatDoorPlain1
set_option linter.unusedSimpArgs false
set_option linter.unusedVariables false
/- The two parsers: their states, and the steps that read a token. The two parsers alike: products, sums, lists. The two parsers alike: atoms, expressions. The two parsers alike: with enough fuel they come to the same end. ParseExpr alike, out of the same tokens. -/
namespace Go.Proofs.YtbbmkcioplbhbaaGreatDoor
noncomputable section
open Go.Abs Go.Proofs
structure PS where
 i:Nat
 bad:Option Nat
def BX(toks:List aJ)(stop:Int)(b:Nat):Int:=match toks[b]? with
 | some t=>t.pos
 | none=>stop
def encI(toks:List aJ)(s:PS):aW:=⟨toks,s.i,match s.bad with | none=>-1 | some b=>b⟩
def encS(toks:List aJ)(stop:Int)(s:PS):GRd:=⟨toks,s.i,stop,match s.bad with | none=>-1 | some b=>BX toks stop b⟩
def letter(s:Str):Bool:=match s with
 | c::_=>decide (97<=c.toNat/\c.toNat<=122)
 | []=>false
structure WB(t:aJ):Prop where
 pos:0<=t.pos
 name:t.kind=1->letter t.text=true
 sym:t.kind=4->letter t.text=false
 len:t.text.length<=120
structure dJ(toks:List aJ)(stop:Int):Prop where
 all:∀t,t∈toks->WB t
 stop:0<=stop
 len:toks.length<=60
def sees(toks:List aJ)(s:PS)(x:Str):Bool:=match s.bad with
 | some _=>false
 | none=>match toks[s.i]? with
  | some t=>(t.kind==4||t.kind==1)&&t.text==x
  | none=>false
def iY(s:PS):PS:=match s.bad with
 | some _=>s
 | none=>⟨s.i,some s.i⟩
def bF(s:PS):PS:=⟨s.i+1,s.bad⟩
def fO(toks:List aJ)(s:PS)(x:Str):PS:=if sees toks s x=true then bF s else iY s
variable {toks:List aJ} {stop:Int}
theorem lU(h:dJ toks stop)(b:Nat):0<=BX toks stop b:=by
 unfold BX;cases a:toks[b]? with
 | none=>exact h.stop
 | some t=>exact (h.all t (zG a)).pos
theorem bK{s:PS}{x:Str}(h:sees toks s x=true):s.bad=none/\s.i<toks.length:=by
 unfold sees at h;cases a:s.bad with
 | some b=>rw[a]at h;cases h
 | none=>
  rw[a]at h;refine⟨rfl,?_⟩;cases c:toks[s.i]? with
  | none=>rw[c]at h;cases h
  | some t=>exact (zC.1 c).1
def aU(toks:List aJ)(s:PS):aJ:=match s.bad with
 | some _=>⟨0,0,0,[]⟩
 | none=>(toks[s.i]?).getD ⟨0,0,0,[]⟩
theorem yg(h:dJ toks stop)(s:PS):fD (encI toks s)=some (encI toks s,aU toks s):=by
 obtain⟨i,bad⟩:=s;unfold fD aU encI;cases bad with
 | some b=>
  have e:decide ((b:Int)<0)=false:=by simp
  simp[e]
 | none=>
  simp only;by_cases hi:i<toks.length
  ·simp[aA,hi,zF hi]
  ·have:toks[i]?=none:=zJ (by omega);simp[hi,this]
theorem afl(t:aJ)(x:Str):yj t x=some (t.kind==4&&t.text==x):=by
 unfold yj;by_cases h:t.kind==4<;>simp[h]
theorem afm(t:aJ)(x:Str):jF t x=some (t.kind==1&&t.text==x):=by
 unfold jF;by_cases h:t.kind==1<;>simp[h]
theorem aeR(t:aJ)(x:Str):iE t x=some (t.kind==4&&t.text==x):=by
 unfold iE;by_cases h:t.kind==4<;>simp[h]
theorem akL(t:aJ)(x:Str):yZ t x=some (t.kind==1&&t.text==x):=by
 unfold yZ;by_cases h:t.kind==1<;>simp[h]
theorem Gs(s:PS)(x:Str):((aU toks s).kind==4&&(aU toks s).text==x||(aU toks s).kind==1&&(aU toks s).text==x)=sees toks s x:=by
 unfold aU sees;cases s.bad with
 | some b=>simp
 | none=>
  cases toks[s.i]? with
  | none=>simp
  | some t=>simp only[Option.getD_some];cases (t.kind==4)<;>cases (t.kind==1)<;>simp
theorem lq(h:dJ toks stop)(s:PS):WB (aU toks s):=by
 have a:WB ⟨0,0,0,[]⟩:=⟨by simp,by simp,by simp,by simp⟩;unfold aU;cases s.bad with
 | some b=>exact a
 | none=>
  cases c:toks[s.i]? with
  | none=>exact a
  | some t=>exact h.all t (zG c)
theorem QY(h:dJ toks stop)(s:PS)(x:Str)(c:letter x=true):((aU toks s).kind==1&&(aU toks s).text==x)=sees toks s x:=by
 rw[<- Gs];have a:=lq h s;cases b:((aU toks s).kind==4&&(aU toks s).text==x)with
 | false=>simp
 | true=>
  simp only[zI,beq_iff_eq]at b;have:=a.sym b.1;rw[b.2,c]at this;cases this
theorem Ht(h:dJ toks stop)(s:PS)(x:Str)(c:letter x=false):((aU toks s).kind==4&&(aU toks s).text==x)=sees toks s x:=by
 rw[<- Gs];have a:=lq h s;cases b:((aU toks s).kind==1&&(aU toks s).text==x)with
 | false=>simp
 | true=>
  simp only[zI,beq_iff_eq]at b;have:=a.name b.1;rw[b.2,c]at this;cases this
theorem RJ(s:PS):iw (encI toks s)=some (encI toks (iY s),⟨0,0,[],[]⟩):=by
 obtain⟨i,bad⟩:=s;unfold iw iY encI;cases bad with
 | some b=>
  have e:decide ((b:Int)<0)=false:=by simp
  simp[e]
 | none=>simp
theorem Jv{n:Nat}(h:n<=60):w64 ((n:Int)+1)=((n+1:Nat):Int):=by rw[aT (by omega) (by omega)];rfl
theorem CW{s:PS}(h:dJ toks stop)(a:s.i<toks.length):(aW.mk (encI toks s).toks (w64 ((encI toks s).i+1)) (encI toks s).bad)=encI toks (bF s):=by
 have:=h.len;have e:w64 ((encI toks s).i+1)=((s.i+1:Nat):Int):=Jv (by omega);rw[e];rfl
theorem kU{s:PS}(h:dJ toks stop)(a:s.i<toks.length):(GRd.mk (encS toks stop s).toks (w64 ((encS toks stop s).i+1)) (encS toks stop s).stop (encS toks stop s).bad)=encS toks stop (bF s):=by
 have:=h.len;have e:w64 ((encS toks stop s).i+1)=((s.i+1:Nat):Int):=Jv (by omega);rw[e];rfl
theorem jE(h:dJ toks stop)(s:PS)(x:Str)(a:letter x=false):bn (encI toks s) x=some (encI toks (if sees toks s x=true then bF s else s),sees toks s x):=by
 unfold bn;rw[yg h];simp only[zA,afl,Ht h s x a];cases b:sees toks s x with
 | true=>simp only[ac,if_true];rw[CW h (bK b).2]
 | false=>simp
theorem yh(h:dJ toks stop)(s:PS)(x:Str):bV (encI toks s) x=some (encI toks (fO toks s x)):=by
 unfold bV fO;rw[yg h];simp only[zA,afm,yg h,afl,RJ];have a:=Gs (toks:=toks) s x;cases b:((aU toks s).kind==1&&(aU toks s).text==x)with
 | true=>
  rw[b,Bool.or_true]at a;simp only[ac,<- a,if_true];rw[CW h (bK a.symm).2]
 | false=>
  rw[b,Bool.or_false]at a;simp only[aa,a];cases c:sees toks s x with
  | true=>simp only[ac,if_true];rw[CW h (bK c).2]
  | false=>simp
theorem qG(h:dJ toks stop)(s:PS)(x:Str):dW (encS toks stop s) x=some (encS toks stop s,sees toks s x):=by
 obtain⟨i,bad⟩:=s;unfold dW sees encS;cases bad with
 | some b=>
  have:=lU h b;have e:decide (BX toks stop b<0)=false:=by simp;omega
  simp[e]
 | none=>
  simp only;by_cases hi:i<toks.length
  ·simp only[aA,zF hi,zA,aeR,akL];have a:decide ((-1:Int)<0)=true:=rfl;have c:decide ((i:Int)<(toks.length:Int))=true:=by simp;omega
   simp only[a,c,ac];cases (toks[i].kind==4)<;>cases (toks[i].kind==1)<;>cases (toks[i].text==x)<;>simp
  ·have:toks[i]?=none:=zJ (by omega);simp[hi,this]
theorem uq(h:dJ toks stop)(s:PS):iI (encS toks stop s)=some (encS toks stop (iY s),⟨0,0,[],[]⟩):=by
 obtain⟨i,bad⟩:=s;unfold iI iY encS;cases bad with
 | some b=>
  have:=lU h b;have e:decide (BX toks stop b<0)=false:=by simp;omega
  simp[e]
 | none=>
  simp only;by_cases hi:i<toks.length
  ·simp[aA,hi,zF hi,BX]
  ·have:toks[i]?=none:=zJ (by omega);simp[hi,this,BX]
theorem ug(h:dJ toks stop)(s:PS)(x:Str):eH (encS toks stop s) x=some (encS toks stop (fO toks s x)):=by
 unfold eH fO;rw[qG h];simp only[zA,uq h];cases a:sees toks s x with
 | true=>simp only[aL,aa,if_true];rw[kU h (bK a).2]
 | false=>simp
def fU(a:Str):Bool:=(bH a).getD false
theorem En(a:Str)(b:a.length<=120):bH a=some (fU a):=by
 obtain⟨v,h⟩:=oJ a (by omega);unfold fU;rw[h];rfl
theorem DX(a:Str)(b:a.length<=120):bM a=some (fU a):=by
 rw[<- nY a (by omega),En a b]
def kS(t:aJ):Bool:=t.kind==1&&fU t.text
def mr(toks:List aJ)(s:PS):PS×Str:=if kS (aU toks s)=true then (bF s,(aU toks s).text)else (iY s,[])
theorem qO{s:PS}(h:¬(aU toks s).kind=0):s.bad=none/\s.i<toks.length/\toks[s.i]?=some (aU toks s):=by
 unfold aU at h ⊢;cases a:s.bad with
 | some b=>rw[a]at h;exact absurd rfl h
 | none=>
  rw[a]at h;simp only at h ⊢;cases c:toks[s.i]? with
  | none=>rw[c]at h;exact absurd rfl h
  | some t=>exact⟨trivial,(zC.1 c).1,rfl⟩
theorem KC{s:PS}(h:kS (aU toks s)=true):s.bad=none/\s.i<toks.length/\toks[s.i]?=some (aU toks s):=by
 refine qO fun a=>?_
 unfold kS at h;rw[a]at h;cases h
theorem aa8(h:dJ toks stop)(s:PS):lF (encI toks s)=some (encI toks (mr toks s).1,(mr toks s).2):=by
 unfold lF mr;rw[yg h];have c:=lq h s;simp only[zA,RJ,En _ c.len];cases b:((aU toks s).kind==1)with
 | false=>
  have e:((aU toks s).kind != 1)=true:=by simp[bne,b]
  have a:kS (aU toks s)=false:=by unfold kS;rw[b];rfl
  rw[e,a];simp
 | true=>
  have e:((aU toks s).kind != 1)=false:=by simp[bne,b]
  rw[e];cases hv:fU (aU toks s).text with
  | false=>
   have a:kS (aU toks s)=false:=by unfold kS;rw[b,hv];rfl
   rw[a];simp
  | true=>
   have a:kS (aU toks s)=true:=by unfold kS;rw[b,hv];rfl
   rw[a];simp only[aa,aL,if_true];rw[CW h (KC a).2.1]
theorem ZT(h:dJ toks stop)(s:PS):BN (encS toks stop s)=some (encS toks stop (mr toks s).1,(mr toks s).2):=by
 unfold BN mr;simp only[uq h];obtain⟨i,bad⟩:=s;cases bad with
 | some b=>
  have:=lU h b;have e:decide ((encS toks stop ⟨i,some b⟩).bad>=0)=true:=by simp[encS];omega
  have a:kS (aU toks ⟨i,some b⟩)=false:=rfl;rw[e,a];simp
 | none=>
  have e:decide ((encS toks stop ⟨i,none⟩).bad>=0)=false:=by simp[encS]
  rw[e];by_cases hi:i<toks.length
  ·have g:decide ((encS toks stop ⟨i,none⟩).i>=((encS toks stop ⟨i,none⟩).toks.length:Int))=false:=by simp[encS];omega
   have f:toks[i]?=some (aU toks ⟨i,none⟩):=by simp[aU,zF hi]
   have j:idx (encS toks stop ⟨i,none⟩).toks (encS toks stop ⟨i,none⟩).i=some (aU toks ⟨i,none⟩):=by
    show idx toks (i:Int)=_
    rw[aA,f]
   have hlen:=h.len;have c:idx (encS toks stop ⟨i,none⟩).toks (w64 (w64 ((encS toks stop ⟨i,none⟩).i+1)-1))=some (aU toks ⟨i,none⟩):=by
    have l:w64 (w64 ((encS toks stop ⟨i,none⟩).i+1)-1)=(i:Int):=by
     show w64 (w64 ((i:Int)+1)-1)=_
     rw[Jv (by omega),aT (by omega) (by omega)];omega
    rw[l];show idx toks (i:Int)=_
    rw[aA,f]
   have k:=lq h ⟨i,none⟩;rw[g];simp only[aa,j,c,zA,DX _ k.len];cases d:((aU toks ⟨i,none⟩).kind==1)with
   | false=>
    have e:((aU toks ⟨i,none⟩).kind != 1)=true:=by simp[bne,d]
    have a:kS (aU toks ⟨i,none⟩)=false:=by unfold kS;rw[d];rfl
    rw[e,a];simp
   | true=>
    have e:((aU toks ⟨i,none⟩).kind != 1)=false:=by simp[bne,d]
    rw[e];cases hv:fU (aU toks ⟨i,none⟩).text with
    | false=>
     have a:kS (aU toks ⟨i,none⟩)=false:=by unfold kS;rw[d,hv];rfl
     rw[a];simp
    | true=>
     have a:kS (aU toks ⟨i,none⟩)=true:=by unfold kS;rw[d,hv];rfl
     rw[a];simp only[aa,aL,if_true];rw[kU (s:=⟨i,none⟩) h hi]
  ·have g:decide ((encS toks stop ⟨i,none⟩).i>=((encS toks stop ⟨i,none⟩).toks.length:Int))=true:=by simp[encS];omega
   have f:toks[i]?=none:=zJ (by omega);have a:kS (aU toks ⟨i,none⟩)=false:=by simp[aU,f,kS]
   rw[g,a];simp
structure Adv(toks:List aJ)(s s':PS):Prop where
 le:s.i<=s'.i
 len:s'.i<=toks.length
 bad:∀b,s.bad=some b->s'=s
theorem Adv.refl{s:PS}(h:s.i<=toks.length):Adv toks s s:=⟨aw _,h,fun _ _=>rfl⟩
theorem Adv.trans{a b c:PS}(h:Adv toks a b)(k:Adv toks b c):Adv toks a c:=⟨Nat.le_trans h.le k.le,k.len,fun x d=>by
 have e:=h.bad x d;subst e;exact k.bad x d⟩
def rem(toks:List aJ)(s:PS):Nat:=match s.bad with
 | some _=>0
 | none=>toks.length-s.i
theorem Adv.rem{s s':PS}(h:Adv toks s s'):rem toks s'<=rem toks s:=by
 cases a:s.bad with
 | some b=>rw[h.bad b a];exact aw _
 | none=>
  have e:Go.Proofs.YtbbmkcioplbhbaaGreatDoor.rem toks s=toks.length-s.i:=by unfold Go.Proofs.YtbbmkcioplbhbaaGreatDoor.rem;rw[a]
  rw[e];have:=h.le;unfold Go.Proofs.YtbbmkcioplbhbaaGreatDoor.rem;cases s'.bad with
  | some b=>exact Nat.zero_le _
  | none=>simp only;omega
theorem gq{s:PS}(a:s.bad=none)(hi:s.i<toks.length):Adv toks s (bF s)/\rem toks (bF s)+1=rem toks s:=by
 refine⟨⟨by simp[bF],hi,fun b h=>by rw[a]at h;cases h⟩,?_⟩;simp only[rem,bF,a];omega
theorem Jf{s:PS}(hi:s.i<=toks.length):Adv toks s (iY s):=by
 unfold iY;cases a:s.bad with
 | some b=>exact Adv.refl hi
 | none=>exact⟨aw _,hi,fun b h=>by rw[a]at h;cases h⟩
theorem abB(s:PS):∃b,(iY s).bad=some b:=by
 unfold iY;cases a:s.bad with
 | some b=>exact⟨b,a⟩
 | none=>exact⟨s.i,rfl⟩
theorem qE{s:PS}{x:Str}(hi:s.i<=toks.length):Adv toks s (fO toks s x):=by
 unfold fO;split
 ·rename_i h;exact (gq (bK h).1 (bK h).2).1
 ·exact Jf hi
theorem aaG{s:PS}(hi:s.i<=toks.length):Adv toks s (mr toks s).1:=by
 unfold mr;split
 ·rename_i h;exact (gq (KC h).1 (KC h).2.1).1
 ·exact Jf hi
variable {toks:List aJ} {stop:Int}
mutual
def wtE:af->Nat
 | ⟨_,_,t,a⟩=>(if t.length<=120 then 1 else 18446744073709551616)+wtL a
def wtL:List af->Nat
 | []=>0
 | x::r=>wtE x+wtL r
end
theorem yK(a b:List af):wtL (a++b)=wtL a+wtL b:=by
 induction a with
 | nil=>simp[wtL]
 | cons x r ih=>simp only[List.cons_append,wtL,ih];omega
theorem wP{k n:Int}{t:Str}{a:List af}(h:t.length<=120):wtE ⟨k,n,t,a⟩=1+wtL a:=by simp[wtE,h]
theorem DK{k n:Int}{a:List af}:wtE ⟨k,n,[],a⟩=1+wtL a:=by simp[wtE]
theorem WH(x:af):wtL [x]=wtE x:=by simp[wtL]
theorem vz(x y:af):wtL [x,y]=wtE x+wtE y:=by simp[wtL]
theorem Vf(x y z:af):wtL [x,y,z]=wtE x+(wtE y+wtE z):=by simp[wtL]
def Sim{α:Type}(w:α->Nat)(toks:List aJ)(stop:Int)(f:aW->Option (aW×α))(g:GRd->Option (GRd×α))(s:PS):Prop:=
 ∃(s':PS) (x y:α),f (encI toks s)=some (encI toks s',x)/\g (encS toks stop s)=some (encS toks stop s',y)/\(s'.bad=none->x=y/\w x+s.i<=s'.i)/\Adv toks s s'
theorem jP(s:PS):(bF s).i=s.i+1:=rfl
theorem aeQ{s:PS}{x y:Str}(h:sees toks s x=true)(a:x≠y):sees toks s y=false:=by
 unfold sees at h ⊢;cases c:s.bad with
 | some b=>rfl
 | none=>
  rw[c]at h;simp only at h ⊢;cases d:toks[s.i]? with
  | none=>rfl
  | some t=>
   rw[d]at h;simp only[zI,beq_iff_eq]at h ⊢;have:¬t.text=y:=by rw[h.2];exact a
   simp[this]
abbrev IX:=(List aJ)×Int×Int×Int×Int×Str×(List af)×Int×Int×Str×(List af)
abbrev SX:=(List aJ)×Int×Int×Int×Int×Int×Str×(List af)×Int×Int×Str×(List af)
def pkI(toks:List aJ)(s:PS)(e:af):IX:=((encI toks s).toks,(encI toks s).i,(encI toks s).bad,0,0,[],[],e.kind,e.n,e.text,e.args)
def pkS(toks:List aJ)(stop:Int)(s:PS)(e:af):SX:=((encS toks stop s).toks,(encS toks stop s).i,(encS toks stop s).stop,(encS toks stop s).bad,0,0,[],[],e.kind,e.n,e.text,e.args)
def ae4(fa:aW->Option (aW×af)):IX->Option (IX⊕(aW×af)):=(fun (a:(List aJ)×Int×Int×Int×Int×Str×(List af)×Int×Int×Str×(List af))=>
  (bn (aW.mk a.1 a.2.1 a.2.2.1) [42]).bind fun c=>
  bif c.2 then
   (fa c.1).bind fun b=>
   some (.inl (b.1.toks,b.1.i,b.1.bad,a.2.2.2.1,a.2.2.2.2.1,a.2.2.2.2.2.1,a.2.2.2.2.2.2.1,6,3,[],[af.mk a.2.2.2.2.2.2.2.1 a.2.2.2.2.2.2.2.2.1 a.2.2.2.2.2.2.2.2.2.1 a.2.2.2.2.2.2.2.2.2.2,aj b.2]))
  else
   some (.inr (c.1,af.mk a.2.2.2.2.2.2.2.1 a.2.2.2.2.2.2.2.2.1 a.2.2.2.2.2.2.2.2.2.1 a.2.2.2.2.2.2.2.2.2.2))
 )
def ae3(ga:GRd->Option (GRd×af)):SX->Option (SX⊕(GRd×af)):=(fun (a:(List aJ)×Int×Int×Int×Int×Int×Str×(List af)×Int×Int×Str×(List af))=>
  (dW (GRd.mk a.1 a.2.1 a.2.2.1 a.2.2.2.1) [42]).bind fun b=>
  bif b.2 then
   (ga (GRd.mk b.1.toks (w64 (b.1.i+1)) b.1.stop b.1.bad)).bind fun c=>
   (kW 3 (af.mk a.2.2.2.2.2.2.2.2.1 a.2.2.2.2.2.2.2.2.2.1 a.2.2.2.2.2.2.2.2.2.2.1 a.2.2.2.2.2.2.2.2.2.2.2) (aj c.2)).bind fun d=>
   some (.inl (c.1.toks,c.1.i,c.1.stop,c.1.bad,a.2.2.2.2.1,a.2.2.2.2.2.1,a.2.2.2.2.2.2.1,a.2.2.2.2.2.2.2.1,d.kind,d.n,d.text,d.args))
  else
   some (.inr (b.1,af.mk a.2.2.2.2.2.2.2.2.1 a.2.2.2.2.2.2.2.2.2.1 a.2.2.2.2.2.2.2.2.2.2.1 a.2.2.2.2.2.2.2.2.2.2.2))
 )
def afZ(fa:aW->Option (aW×af)):IX->Option (IX⊕(aW×af)):=(fun (a:(List aJ)×Int×Int×Int×Int×Str×(List af)×Int×Int×Str×(List af))=>
  bif (decide (a.2.2.1<0))then
   (bn (aW.mk a.1 a.2.1 a.2.2.1) [43]).bind fun d=>
   bif (!d.2)then
    (bn d.1 [45]).bind fun e=>
    bif (!e.2)then
     some (.inr (e.1,af.mk a.2.2.2.2.2.2.2.1 a.2.2.2.2.2.2.2.2.1 a.2.2.2.2.2.2.2.2.2.1 a.2.2.2.2.2.2.2.2.2.2))
    else
     (fa e.1).bind fun b=>
     some (.inl (b.1.toks,b.1.i,b.1.bad,a.2.2.2.1,a.2.2.2.2.1,a.2.2.2.2.2.1,a.2.2.2.2.2.2.1,6,2,[],[af.mk a.2.2.2.2.2.2.2.1 a.2.2.2.2.2.2.2.2.1 a.2.2.2.2.2.2.2.2.2.1 a.2.2.2.2.2.2.2.2.2.2,aj b.2]))
   else
    (fa d.1).bind fun c=>
    some (.inl (c.1.toks,c.1.i,c.1.bad,a.2.2.2.1,a.2.2.2.2.1,a.2.2.2.2.2.1,a.2.2.2.2.2.2.1,6,1,[],[af.mk a.2.2.2.2.2.2.2.1 a.2.2.2.2.2.2.2.2.1 a.2.2.2.2.2.2.2.2.2.1 a.2.2.2.2.2.2.2.2.2.2,aj c.2]))
  else
   some (.inr (aW.mk a.1 a.2.1 a.2.2.1,af.mk a.2.2.2.2.2.2.2.1 a.2.2.2.2.2.2.2.2.1 a.2.2.2.2.2.2.2.2.2.1 a.2.2.2.2.2.2.2.2.2.2))
 )
def afY(ga:GRd->Option (GRd×af)):SX->Option (SX⊕(GRd×af)):=(fun (a:(List aJ)×Int×Int×Int×Int×Int×Str×(List af)×Int×Int×Str×(List af))=>
  (dW (GRd.mk a.1 a.2.1 a.2.2.1 a.2.2.2.1) [43]).bind fun m=>
  bif m.2 then
   (dW m.1 [45]).bind fun e=>
   bif e.2 then
    (ga (GRd.mk e.1.toks (w64 (e.1.i+1)) e.1.stop e.1.bad)).bind fun h=>
    (kW 2 (af.mk a.2.2.2.2.2.2.2.2.1 a.2.2.2.2.2.2.2.2.2.1 a.2.2.2.2.2.2.2.2.2.2.1 a.2.2.2.2.2.2.2.2.2.2.2) (aj h.2)).bind fun k=>
    some (.inl (h.1.toks,h.1.i,h.1.stop,h.1.bad,a.2.2.2.2.1,a.2.2.2.2.2.1,a.2.2.2.2.2.2.1,a.2.2.2.2.2.2.2.1,k.kind,k.n,k.text,k.args))
   else
    (ga (GRd.mk e.1.toks (w64 (e.1.i+1)) e.1.stop e.1.bad)).bind fun j=>
    (kW 1 (af.mk a.2.2.2.2.2.2.2.2.1 a.2.2.2.2.2.2.2.2.2.1 a.2.2.2.2.2.2.2.2.2.2.1 a.2.2.2.2.2.2.2.2.2.2.2) (aj j.2)).bind fun l=>
    some (.inl (j.1.toks,j.1.i,j.1.stop,j.1.bad,a.2.2.2.2.1,a.2.2.2.2.2.1,a.2.2.2.2.2.2.1,a.2.2.2.2.2.2.2.1,l.kind,l.n,l.text,l.args))
  else
  (dW m.1 [45]).bind fun o=>
  bif o.2 then
   (dW o.1 [45]).bind fun b=>
   bif b.2 then
    (ga (GRd.mk b.1.toks (w64 (b.1.i+1)) b.1.stop b.1.bad)).bind fun c=>
    (kW 2 (af.mk a.2.2.2.2.2.2.2.2.1 a.2.2.2.2.2.2.2.2.2.1 a.2.2.2.2.2.2.2.2.2.2.1 a.2.2.2.2.2.2.2.2.2.2.2) (aj c.2)).bind fun f=>
    some (.inl (c.1.toks,c.1.i,c.1.stop,c.1.bad,a.2.2.2.2.1,a.2.2.2.2.2.1,a.2.2.2.2.2.2.1,a.2.2.2.2.2.2.2.1,f.kind,f.n,f.text,f.args))
   else
    (ga (GRd.mk b.1.toks (w64 (b.1.i+1)) b.1.stop b.1.bad)).bind fun d=>
    (kW 1 (af.mk a.2.2.2.2.2.2.2.2.1 a.2.2.2.2.2.2.2.2.2.1 a.2.2.2.2.2.2.2.2.2.2.1 a.2.2.2.2.2.2.2.2.2.2.2) (aj d.2)).bind fun g=>
    some (.inl (d.1.toks,d.1.i,d.1.stop,d.1.bad,a.2.2.2.2.1,a.2.2.2.2.2.1,a.2.2.2.2.2.2.1,a.2.2.2.2.2.2.2.1,g.kind,g.n,g.text,g.args))
  else
   some (.inr (o.1,af.mk a.2.2.2.2.2.2.2.2.1 a.2.2.2.2.2.2.2.2.2.1 a.2.2.2.2.2.2.2.2.2.2.1 a.2.2.2.2.2.2.2.2.2.2.2))
 )
theorem akY(b c d fa e)(a:aW):rE b c d fa e a=(fa a).bind fun r=>au (ae4 fa) (r.1.toks,r.1.i,r.1.bad,0,0,[],[],r.2.kind,r.2.n,r.2.text,r.2.args):=rfl
theorem akX(b c d e ga f)(a:GRd):yY b c d e ga f a=(ga a).bind fun r=>au (ae3 ga) (r.1.toks,r.1.i,r.1.stop,r.1.bad,0,0,[],[],r.2.kind,r.2.n,r.2.text,r.2.args):=rfl
theorem aoK(b c fa d e)(a:aW):CO b c fa d e a=(fa a).bind fun r=>au (afZ fa) (r.1.toks,r.1.i,r.1.bad,0,0,[],[],r.2.kind,r.2.n,r.2.text,r.2.args):=rfl
theorem aoJ(b c d ga e f)(a:GRd):PK b c d ga e f a=(ga a).bind fun r=>au (afY ga) (r.1.toks,r.1.i,r.1.stop,r.1.bad,0,0,[],[],r.2.kind,r.2.n,r.2.text,r.2.args):=rfl
theorem Gl(h:dJ toks stop)(fa)(s:PS)(e:af):ae4 fa (pkI toks s e)=if sees toks s [42]=true then (fa (encI toks (bF s))).bind fun r=>some (.inl (r.1.toks,r.1.i,r.1.bad,0,0,[],[],6,3,[],[e,r.2]))else some (.inr (encI toks s,e)):=by
 obtain⟨ek,en,et,ea⟩:=e;have a:(aW.mk (pkI toks s ⟨ek,en,et,ea⟩).1 (pkI toks s ⟨ek,en,et,ea⟩).2.1 (pkI toks s ⟨ek,en,et,ea⟩).2.2.1)=encI toks s:=rfl;unfold ae4;simp only[a,jE h s [42] rfl,zA];cases sees toks s [42]with
 | true=>simp only[ac,if_true,aS];rfl
 | false=>simp only[aa,aE,if_false];rfl
theorem Gj(h:dJ toks stop)(ga)(s:PS)(e:af):ae3 ga (pkS toks stop s e)=if sees toks s [42]=true then (ga (encS toks stop (bF s))).bind fun r=>some (.inl (r.1.toks,r.1.i,r.1.stop,r.1.bad,0,0,[],[],6,3,[],[e,r.2]))else some (.inr (encS toks stop s,e)):=by
 obtain⟨ek,en,et,ea⟩:=e;have a:(GRd.mk (pkS toks stop s ⟨ek,en,et,ea⟩).1 (pkS toks stop s ⟨ek,en,et,ea⟩).2.1 (pkS toks stop s ⟨ek,en,et,ea⟩).2.2.1 (pkS toks stop s ⟨ek,en,et,ea⟩).2.2.2.1)=encS toks stop s:=rfl;unfold ae3;simp only[a,qG h s [42],zA];cases b:sees toks s [42]with
 | true=>
  simp only[ac,if_true];rw[kU h (bK b).2];simp only[kW,zA,aS];rfl
 | false=>simp only[aa,aE,if_false];rfl
theorem agv(h:dJ toks stop){k g:Nat}{fa ga}(m:∀s,s.i<=toks.length->rem toks s<=k->Sim wtE toks stop fa ga s):∀(r:Nat) (s:PS) (b c:af),s.i<=toks.length->rem toks s<=r->r<=k->(s.bad=none->b=c/\wtE b+g<=s.i) ->
  ∃(s':PS) (x y:af),au (ae4 fa) (pkI toks s b)=some (encI toks s',x)/\au (ae3 ga) (pkS toks stop s c)=some (encS toks stop s',y)/\(s'.bad=none->x=y/\wtE x+g<=s'.i)/\Adv toks s s':=by
 intro r;induction r with
 | zero=>
  intro s b c e n o d;have a:sees toks s [42]=false:=by
   cases a:sees toks s [42]with
   | false=>rfl
   | true=>have:=(gq (bK a).1 (bK a).2).2;omega
  refine⟨s,b,c,?_,?_,d,Adv.refl e⟩
  ·rw[aH,Gl h,a];rfl
  ·rw[aH,Gj h,a];rfl
 | succ r ih=>
  intro s b c e n o d;cases a:sees toks s [42]with
  | false=>
   refine⟨s,b,c,?_,?_,d,Adv.refl e⟩
   ·rw[aH,Gl h,a];rfl
   ·rw[aH,Gj h,a];rfl
  | true=>
   obtain⟨j,hrem⟩:=gq (bK a).1 (bK a).2;obtain⟨p,x,y,q,t,u,f⟩:=m (bF s) j.len (by omega);have v:=f.rem;obtain⟨s',x',y',w,z,A,B⟩:=ih p ⟨6,3,[],[b,x]⟩ ⟨6,3,[],[c,y]⟩ f.len (by omega) (by omega) (fun C=>by
    have l:=u C;have D:=d (bK a).1;refine⟨by rw[l.1,D.1],?_⟩;have E:=l.2;rw[jP]at E;rw[DK,vz];omega)
   refine⟨s',x',y',?_,?_,A,(j.trans f).trans B⟩
   ·rw[aH,Gl h,a];simp only[if_true,q,zA];exact w
   ·rw[aH,Gj h,a];simp only[if_true,t,zA];exact z
theorem aiH(h:dJ toks stop){k:Nat}{fa ga}(b:∀s,s.i<=toks.length->rem toks s<=k->Sim wtE toks stop fa ga s)(d e f g j l m n o)(s:PS)(p:s.i<=toks.length)(q:rem toks s<=k) :
  Sim wtE toks stop (rE d e f fa g) (yY j l m n ga o) s:=by
 obtain⟨c,x,y,r,t,u,a⟩:=b s p q;have v:=a.rem;obtain⟨s',x',y',w,z,A,B⟩:=agv h b (rem toks c) c x y a.len (aw _) (by omega) u;refine⟨s',x',y',?_,?_,A,a.trans B⟩
 ·rw[akY,r];exact w
 ·rw[akX,t];exact z
def ae9{toks:List aJ}(fa:aW->Option (aW×af))(s:PS)(e:af)(op:Int):Option (IX⊕(aW×af)):=(fa (encI toks (bF s))).bind fun r=>some (.inl (r.1.toks,r.1.i,r.1.bad,0,0,[],[],6,op,[],[e,r.2]))
def ae8{toks:List aJ}{stop:Int}(ga:GRd->Option (GRd×af))(s:PS)(e:af)(op:Int):Option (SX⊕(GRd×af)):=(ga (encS toks stop (bF s))).bind fun r=>some (.inl (r.1.toks,r.1.i,r.1.stop,r.1.bad,0,0,[],[],6,op,[],[e,r.2]))
theorem DV(h:dJ toks stop)(fa)(s:PS)(e:af):afZ fa (pkI toks s e)=if sees toks s [43]=true then ae9 (toks:=toks) fa s e 1 else if sees toks s [45]=true then ae9 (toks:=toks) fa s e 2 else some (.inr (encI toks s,e)):=by
 obtain⟨ek,en,et,ea⟩:=e;have f:(aW.mk (pkI toks s ⟨ek,en,et,ea⟩).1 (pkI toks s ⟨ek,en,et,ea⟩).2.1 (pkI toks s ⟨ek,en,et,ea⟩).2.2.1)=encI toks s:=rfl;unfold afZ;simp only[f];cases a:s.bad with
 | some b=>
  have c:decide ((pkI toks s ⟨ek,en,et,ea⟩).2.2.1<0)=false:=by
   show decide ((encI toks s).bad<0)=false
   simp[encI,a]
  have d:∀x,sees toks s x=false:=fun x=>by unfold sees;rw[a]
  rw[c,d,d];rfl
 | none=>
  have c:decide ((pkI toks s ⟨ek,en,et,ea⟩).2.2.1<0)=true:=by
   show decide ((encI toks s).bad<0)=true
   simp[encI,a]
  rw[c];simp only[ac,jE h s [43] rfl,zA];cases i:sees toks s [43]with
  | true=>simp only[aL,aa,if_true,aS];rfl
  | false=>
   simp only[Bool.not_false,ac,aE,if_false,jE h s [45] rfl,zA];cases g:sees toks s [45]with
   | true=>simp only[aL,aa,if_true,aS];rfl
   | false=>simp only[Bool.not_false,ac,aE,if_false];rfl
theorem DU(h:dJ toks stop)(ga)(s:PS)(e:af):afY ga (pkS toks stop s e)=if sees toks s [43]=true then ae8 (toks:=toks) (stop:=stop) ga s e 1 else if sees toks s [45]=true then ae8 (toks:=toks) (stop:=stop) ga s e 2 else some (.inr (encS toks stop s,e)):=by
 obtain⟨ek,en,et,ea⟩:=e;have c:(GRd.mk (pkS toks stop s ⟨ek,en,et,ea⟩).1 (pkS toks stop s ⟨ek,en,et,ea⟩).2.1 (pkS toks stop s ⟨ek,en,et,ea⟩).2.2.1 (pkS toks stop s ⟨ek,en,et,ea⟩).2.2.2.1)=encS toks stop s:=rfl;unfold afY;simp only[c,qG h s,zA];cases b:sees toks s [43]with
 | true=>
  have a:=aeQ b (show ([43]:Str)≠[45] by decide);simp only[ac,if_true,a,aa];rw[kU h (bK b).2];simp only[kW,zA,aS];rfl
 | false=>
  simp only[aa,aE,if_false];cases a:sees toks s [45]with
  | true=>
   simp only[ac,if_true];rw[kU h (bK a).2];simp only[kW,zA,aS];rfl
  | false=>simp only[aa,aE,if_false];rfl
theorem ahW(h:dJ toks stop){k f:Nat}{fa ga}(n:∀s,s.i<=toks.length->rem toks s<=k->Sim wtE toks stop fa ga s):∀(r:Nat) (s:PS) (b d:af),s.i<=toks.length->rem toks s<=r->r<=k->(s.bad=none->b=d/\wtE b+f<=s.i) ->
  ∃(s':PS) (x y:af),au (afZ fa) (pkI toks s b)=some (encI toks s',x)/\au (afY ga) (pkS toks stop s d)=some (encS toks stop s',y)/\(s'.bad=none->x=y/\wtE x+f<=s'.i)/\Adv toks s s':=by
 intro r;induction r with
 | zero=>
  intro s b d g o p e;have a:∀x,sees toks s x=false:=by
   intro x;cases a:sees toks s x with
   | false=>rfl
   | true=>have:=(gq (bK a).1 (bK a).2).2;omega
  refine⟨s,b,d,?_,?_,e,Adv.refl g⟩
  ·rw[aH,DV h,a,a];rfl
  ·rw[aH,DU h,a,a];rfl
 | succ r ih=>
  intro s b d g o p e;have go:∀(x:Str) (op:Int),sees toks s x=true->afZ fa (pkI toks s b)=ae9 (toks:=toks) fa s b op->afY ga (pkS toks stop s d)=ae8 (toks:=toks) (stop:=stop) ga s d op ->
    ∃(s':PS) (x y:af),au (afZ fa) (pkI toks s b)=some (encI toks s',x)/\au (afY ga) (pkS toks stop s d)=some (encS toks stop s',y)/\(s'.bad=none->x=y/\wtE x+f<=s'.i)/\Adv toks s s':=by
   intro I op a q t;obtain⟨l,hrem⟩:=gq (bK a).1 (bK a).2;obtain⟨u,x,y,v,w,z,j⟩:=n (bF s) l.len (by omega);have A:=j.rem;obtain⟨s',x',y',B,C,D,E⟩:=ih u ⟨6,op,[],[b,x]⟩ ⟨6,op,[],[d,y]⟩ j.len (by omega) (by omega) (fun F=>by
    have m:=z F;have G:=e (bK a).1;refine⟨by rw[m.1,G.1],?_⟩;have H:=m.2;rw[jP]at H;rw[DK,vz];omega)
   refine⟨s',x',y',?_,?_,D,(l.trans j).trans E⟩
   ·rw[aH,q];simp only[ae9,v,zA];exact B
   ·rw[aH,t];simp only[ae8,w,zA];exact C
  cases a:sees toks s [43]with
  | true=>exact go [43] 1 a (by rw[DV h,a,if_pos rfl]) (by rw[DU h,a,if_pos rfl])
  | false=>
   cases c:sees toks s [45]with
   | true=>exact go [45] 2 c (by rw[DV h,a,c,if_neg Bool.false_ne_true,if_pos rfl]) (by rw[DU h,a,c,if_neg Bool.false_ne_true,if_pos rfl])
   | false=>
    refine⟨s,b,d,?_,?_,e,Adv.refl g⟩
    ·rw[aH,DV h,a,c];rfl
    ·rw[aH,DU h,a,c];rfl
theorem akC(h:dJ toks stop){k:Nat}{fa ga}(b:∀s,s.i<=toks.length->rem toks s<=k->Sim wtE toks stop fa ga s)(d e f g j l m n o)(s:PS)(p:s.i<=toks.length)(q:rem toks s<=k) :
  Sim wtE toks stop (CO d e fa f g) (PK j l m ga n o) s:=by
 obtain⟨c,x,y,r,t,u,a⟩:=b s p q;have v:=a.rem;obtain⟨s',x',y',w,z,A,B⟩:=ahW h b (rem toks c) c x y a.len (aw _) (by omega) u;refine⟨s',x',y',?_,?_,A,a.trans B⟩
 ·rw[aoK,r];exact w
 ·rw[aoJ,t];exact z
abbrev IL:=(List aJ)×Int×Int×Str×(List af)
abbrev SL:=(List aJ)×Int×Int×Int×Str×(List af)
def plI(toks:List aJ)(s:PS)(b:Str)(o:List af):IL:=((encI toks s).toks,(encI toks s).i,(encI toks s).bad,b,o)
def plS(toks:List aJ)(stop:Int)(s:PS)(b:Str)(o:List af):SL:=((encS toks stop s).toks,(encS toks stop s).i,(encS toks stop s).stop,(encS toks stop s).bad,b,o)
def II(fa:aW->Option (aW×af)):IL->Option (IL⊕(aW×List af)):=(fun (a:(List aJ)×Int×Int×Str×(List af))=>
  bif (decide (a.2.2.1<0))then
   (fa (aW.mk a.1 a.2.1 a.2.2.1)).bind fun b=>
   (gd (a.2.2.2.2.length+[aj b.2].length)).bind fun _=>
   (bn b.1 a.2.2.2.1).bind fun c=>
   bif c.2 then
    some (.inr (c.1,a.2.2.2.2++[aj b.2]))
   else
    (bV c.1 [44]).bind fun d=>
    some (.inl (d.toks,d.i,d.bad,a.2.2.2.1,a.2.2.2.2++[aj b.2]))
  else
   some (.inr (aW.mk a.1 a.2.1 a.2.2.1,a.2.2.2.2))
 )
def IG(ga:GRd->Option (GRd×af)):SL->Option (SL⊕(GRd×List af)):=(fun (a:(List aJ)×Int×Int×Int×Str×(List af))=>
  bif (decide (a.2.2.2.1<0))then
   (ga (GRd.mk a.1 a.2.1 a.2.2.1 a.2.2.2.1)).bind fun c=>
   (gd (a.2.2.2.2.2.length+[aj c.2].length)).bind fun _=>
   (dW c.1 [44]).bind fun b=>
   bif (!b.2)then
    (
     (eH b.1 a.2.2.2.2.1).bind fun d=>
     some (d,a.2.2.2.2.2++[aj c.2])
    ).bind fun r=>some (.inr r)
   else
    some (.inl (b.1.toks,w64 (b.1.i+1),b.1.stop,b.1.bad,a.2.2.2.2.1,a.2.2.2.2.2++[aj c.2]))
  else
   (
    (eH (GRd.mk a.1 a.2.1 a.2.2.1 a.2.2.2.1) a.2.2.2.2.1).bind fun e=>
    some (e,a.2.2.2.2.2)
   ).bind fun r=>some (.inr r)
 )
theorem afb(fa d e f g)(a:aW)(b:Str):mP fa d e f g a b=(bn a b).bind fun c=>bif c.2 then some (c.1,[])else au (II fa) (c.1.toks,c.1.i,c.1.bad,b,[]):=rfl
theorem afa(ga d e f g h)(a:GRd)(b:Str):xh ga d e f g h a b=(dW a b).bind fun c=>bif c.2 then some (GRd.mk c.1.toks (w64 (c.1.i+1)) c.1.stop c.1.bad,[])else au (IG ga) (c.1.toks,c.1.i,c.1.stop,c.1.bad,b,[]):=rfl
theorem akg{s:PS}:decide ((encI toks s).bad<0)=s.bad.isNone:=by
 unfold encI;cases s.bad with
 | none=>rfl
 | some b=>simp
theorem akf(h:dJ toks stop){s:PS}:decide ((encS toks stop s).bad<0)=s.bad.isNone:=by
 unfold encS;cases s.bad with
 | none=>rfl
 | some b=>
  have:=lU h b;simp;omega
theorem gdp{n:Nat}(h:n<=34359738368):gd n=some ():=by unfold gd;simp[h]
theorem QR(fa){s:PS}(a:s.bad.isNone=false)(b:Str)(o:List af):au (II fa) (plI toks s b o)=some (encI toks s,o):=by
 rw[aH];have e:II fa (plI toks s b o)=some (.inr (encI toks s,o)):=by
  unfold II;show (bif decide ((encI toks s).bad<0)then _ else _)=_
  rw[akg,a];rfl
 rw[e]
theorem ajJ{s:PS}(a:s.bad.isNone=false):iY s=s:=by
 unfold iY;cases h:s.bad with
 | some b=>rfl
 | none=>rw[h]at a;cases a
theorem adG(h:dJ toks stop)(ga){s:PS}(a:s.bad.isNone=false)(b:Str)(o:List af):au (IG ga) (plS toks stop s b o)=some (encS toks stop s,o):=by
 rw[aH];have e:IG ga (plS toks stop s b o)=some (.inr (encS toks stop s,o)):=by
  unfold IG;show (bif decide ((encS toks stop s).bad<0)then _ else ((eH (encS toks stop s) b).bind fun c=>some (c,o)).bind fun r=>some (Sum.inr r))=_
  have d:fO toks s b=s:=by
   have:sees toks s b=false:=by
    unfold sees;cases h:s.bad with
    | some b=>rfl
    | none=>rw[h]at a;cases a
   unfold fO;rw[this,if_neg Bool.false_ne_true,ajJ a]
  rw[akf h,a,ug h,d];rfl
 rw[e]
theorem agJ(h:dJ toks stop){k q:Nat}{fa ga}(M:∀s,s.i<=toks.length->rem toks s<=k->Sim wtE toks stop fa ga s)(b:Str)(C:letter b=false)(D:b≠[44]):∀(r:Nat) (s:PS) (c d:List af),s.i<=toks.length->rem toks s<=r->r<=k->c.length<=s.i->d.length<=s.i->(s.bad=none->c=d/\wtL c+q<=s.i) ->
  ∃(s':PS) (x y:List af),au (II fa) (plI toks s b c)=some (encI toks s',x)/\au (IG ga) (plS toks stop s b d)=some (encS toks stop s',y)/\(s'.bad=none->x=y/\wtL x+q<=s'.i)/\Adv toks s s':=by
 have step:∀(s:PS) (c d:List af),s.i<=toks.length->rem toks s<=k->c.length<=s.i->d.length<=s.i->(s.bad=none->c=d/\wtL c+q<=s.i) ->
   (∀(a:PS) (l o:List af),a.i<=toks.length->rem toks a+1<=rem toks s->l.length<=a.i->o.length<=a.i->(a.bad=none->l=o/\wtL l+q<=a.i)->∃(s':PS) (x y:List af),au (II fa) (plI toks a b l)=some (encI toks s',x)/\au (IG ga) (plS toks stop a b o)=some (encS toks stop s',y)/\(s'.bad=none->x=y/\wtL x+q<=s'.i)/\Adv toks a s') ->
   ∃(s':PS) (x y:List af),au (II fa) (plI toks s b c)=some (encI toks s',x)/\au (IG ga) (plS toks stop s b d)=some (encS toks stop s',y)/\(s'.bad=none->x=y/\wtL x+q<=s'.i)/\Adv toks s s':=by
  intro s c d t E h1 h2 u ih;cases v:s.bad.isNone with
  | false=>exact⟨s,c,d,QR fa v b c,adG h ga v b d,u,Adv.refl t⟩
  | true=>
   have hlen:=h.len;obtain⟨a,x,y,N,O,J,w⟩:=M s t E;have F:s.bad=none:=by cases hh:s.bad with
    | none=>rfl
    | some b=>rw[hh]at v;cases v
   have m:=u F;have eI:II fa (plI toks s b c)=(if sees toks a b=true then some (Sum.inr (encI toks (bF a),c++[x]))else some (Sum.inl (plI toks (fO toks a [44]) b (c++[x])))):=by
    unfold II;show (bif decide ((encI toks s).bad<0)then (fa (encI toks s)).bind fun n=>(gd (c.length+[aj n.2].length)).bind fun _=>(bn n.1 b).bind fun j=>bif j.2 then some (Sum.inr (j.1,c++[aj n.2]))else (bV j.1 [44]).bind fun z=>some (Sum.inl (z.toks,z.i,z.bad,b,c++[aj n.2]))else _)=_
    rw[akg,v];simp only[ac,N,zA,aS,jE h a b C];rw[gdp (by simp;omega)];simp only[zA];cases g:sees toks a b with
    | true=>simp
    | false=>
     simp only[aa,aE,if_false,yh h,zA];rfl
   have eS:IG ga (plS toks stop s b d)=(if sees toks a [44]=true then some (Sum.inl (plS toks stop (bF a) b (d++[y])))else some (Sum.inr (encS toks stop (fO toks a b),d++[y]))):=by
    unfold IG;show (bif decide ((encS toks stop s).bad<0)then (ga (encS toks stop s)).bind fun n=>(gd (d.length+[aj n.2].length)).bind fun _=>(dW n.1 [44]).bind fun j=>bif (!j.2)then (((eH j.1 b).bind fun z=>some (z,d++[aj n.2])).bind fun r=>some (Sum.inr r))else some (Sum.inl (j.1.toks,w64 (j.1.i+1),j.1.stop,j.1.bad,b,d++[aj n.2]))else _)=_
    rw[akf h,v];simp only[ac,O,zA,aS,qG h a [44]];rw[gdp (by simp;omega)];simp only[zA];cases g:sees toks a [44]with
    | true=>
     simp only[aL,aa,if_true];have:=kU (toks:=toks) (stop:=stop) (s:=a) h (bK g).2;have G:=congrArg GRd.i this;have G:w64 ((encS toks stop a).i+1)=(encS toks stop (bF a)).i:=G;rw[G];rfl
    | false=>simp only[Bool.not_false,ac,aE,if_false,ug h,zA]
   cases g:sees toks a b with
   | true=>
    have f:=aeQ g D;obtain⟨B,_⟩:=gq (bK g).1 (bK g).2;refine⟨bF a,c++[x],d++[y],?_,?_,fun hh=>(by
     have p:=J (bK g).1;refine⟨by rw[m.1,p.1],?_⟩;have K:=p.2;have H:=m.2;rw[yK,WH,jP];omega),w.trans B⟩
    ·rw[aH,eI,g];rfl
    ·rw[aH,eS,f];simp only[aE,if_false];unfold fO;rw[g,if_pos rfl]
   | false=>
    cases f:sees toks a [44]with
    | true=>
     obtain⟨B,L⟩:=gq (bK f).1 (bK f).2;have P:=w.rem;have Q:=w.le;obtain⟨s',x',y',l,o,R,S⟩:=ih (bF a) (c++[x]) (d++[y]) B.len (by omega) (by simp[bF];omega) (by simp[bF];omega) (fun _=>by
      have p:=J (bK f).1;refine⟨by rw[m.1,p.1],?_⟩;have K:=p.2;have H:=m.2;rw[yK,WH,jP];omega)
     refine⟨s',x',y',?_,?_,R,(w.trans B).trans S⟩
     ·rw[aH,eI,g];simp only[aE,if_false];have e:fO toks a [44]=bF a:=by unfold fO;rw[f,if_pos rfl]
      rw[e];exact l
     ·rw[aH,eS,f];exact o
    | false=>
     have e:fO toks a [44]=iY a:=by unfold fO;rw[f,if_neg Bool.false_ne_true]
     have T:fO toks a b=iY a:=by unfold fO;rw[g,if_neg Bool.false_ne_true]
     obtain⟨X,A⟩:=abB a;have I:(iY a).bad.isNone=false:=by rw[A];rfl
     refine⟨iY a,c++[x],d++[y],?_,?_,fun hh=>(by rw[A]at hh;cases hh),w.trans (Jf w.len)⟩
     ·rw[aH,eI,g];simp only[aE,if_false,e];exact QR fa I b _
     ·rw[aH,eS,f];simp only[aE,if_false,T]
 intro r;induction r with
 | zero=>
  intro s c d t L E h1 h2 u;exact step s c d t (by omega) h1 h2 u fun a l o _ U=>by omega
 | succ r ih=>
  intro s c d t L E h1 h2 u;exact step s c d t (by omega) h1 h2 u fun a l o p K H V W=>ih a l o p (by omega) (by omega) H V W
theorem ai8(h:dJ toks stop){k:Nat}{fa ga}(r:∀s,s.i<=toks.length->rem toks s<=k->Sim wtE toks stop fa ga s)(b:Str)(c:letter b=false)(e:b≠[44])(f g j l m n o p q)(s:PS)(t:s.i<=toks.length)(u:rem toks s<=k) :
  Sim wtL toks stop (fun a=>mP fa f g j l a b) (fun a=>xh ga m n o p q a b) s:=by
 cases d:sees toks s b with
 | true=>
  obtain⟨v,_⟩:=gq (bK d).1 (bK d).2;refine⟨bF s,[],[],?_,?_,fun _=>⟨rfl,by rw[jP];simp[wtL]⟩,v⟩
  ·show mP fa f g j l (encI toks s) b=_
   rw[afb,jE h s b c,d];rfl
  ·show xh ga m n o p q (encS toks stop s) b=_
   rw[afa,qG h s b,d];simp only[zA,ac];rw[kU h (bK d).2]
 | false=>
  obtain⟨s',x',y',w,x,y,z⟩:=agJ h r b c e (rem toks s) s [] [] t (aw _) u (Nat.zero_le _) (Nat.zero_le _) (fun _=>⟨rfl,by show 0+s.i<=s.i;omega⟩);refine⟨s',x',y',?_,?_,y,z⟩
  ·show mP fa f g j l (encI toks s) b=_
   rw[afb,jE h s b c,d];exact w
  ·show xh ga m n o p q (encS toks stop s) b=_
   rw[afa,qG h s b,d];exact x
variable {toks:List aJ} {stop:Int}
theorem aoX{α:Type}{c:Bool}{x y:Option α}(a:∃r,x=some r)(b:∃r,y=some r):∃r,(bif c then x else y)=some r:=by
 cases c
 ·exact b
 ·exact a
theorem alT(a:Str):∃r,dP a=some r:=by
 unfold dP;repeat refine aoX ⟨_,rfl⟩ ?_
 exact⟨_,rfl⟩
def Lr(a:Str):Int:=(dP a).getD (-1)
theorem aal(a:Str):dP a=some (Lr a):=by
 obtain⟨r,h⟩:=alT a;unfold Lr;rw[h];rfl
theorem ajD(a:Str):fG a=some (Lr a):=(ajC a).trans (aal a)
def Vp(toks:List aJ)(fe:aW->Option (aW×af))(fl:aW->Str->Option (aW×List af))(s:PS):Option (aW×af):=
 if sees toks s [91]=true then (fl (encI toks (bF s)) [93]).bind fun r=>some (r.1,⟨4,0,[],r.2⟩)
 else if sees toks s [40]=true then (fe (encI toks (bF s))).bind fun r=>(bV r.1 [41]).bind fun a=>some (a,r.2)
 else some (encI toks (iY s),⟨0,0,[],[]⟩)
def Hq(toks:List aJ)(stop:Int)(ge:GRd->Option (GRd×af))(gl:GRd->Str->Option (GRd×List af))(s:PS):Option (GRd×af):=
 if sees toks s [91]=true then (gl (encS toks stop (bF s)) [93]).bind fun r=>some (r.1,⟨4,0,[],r.2⟩)
 else if sees toks s [40]=true then (ge (encS toks stop (bF s))).bind fun r=>(eH r.1 [41]).bind fun a=>some (a,r.2)
 else some (encS toks stop (iY s),⟨0,0,[],[]⟩)
def akl(toks:List aJ)(fe:aW->Option (aW×af))(fl:aW->Str->Option (aW×List af))(s:PS):Option (aW×af):=
 if (aU toks s).kind=2 then some (encI toks (bF s),⟨1,(aU toks s).n,[],[]⟩)
 else if (aU toks s).kind=3 then some (encI toks (bF s),⟨2,0,(aU toks s).text,[]⟩)
 else if (aU toks s).kind=1 then
  if fU (aU toks s).text=true then some (encI toks (bF s),⟨3,0,(aU toks s).text,[]⟩)
  else if 0<=Lr (aU toks s).text then (fl (encI toks (fO toks (bF s) [40])) [41]).bind fun r=>some (r.1,⟨5,0,(aU toks s).text,r.2⟩)
  else Vp toks fe fl s
 else Vp toks fe fl s
def akj(toks:List aJ)(stop:Int)(ge:GRd->Option (GRd×af))(gl:GRd->Str->Option (GRd×List af))(s:PS):Option (GRd×af):=
 if (aU toks s).kind=2 then some (encS toks stop (bF s),⟨1,(aU toks s).n,[],[]⟩)
 else if (aU toks s).kind=3 then some (encS toks stop (bF s),⟨2,0,(aU toks s).text,[]⟩)
 else if (aU toks s).kind=1 then
  if fU (aU toks s).text=true then some (encS toks stop (bF s),⟨3,0,(aU toks s).text,[]⟩)
  else if 0<=Lr (aU toks s).text then (gl (encS toks stop (fO toks (bF s) [40])) [41]).bind fun r=>some (r.1,⟨5,0,(aU toks s).text,r.2⟩)
  else Hq toks stop ge gl s
 else Hq toks stop ge gl s
theorem ZC(h:dJ toks stop)(fe fl)(s:PS):((bn (encI toks s) [91]).bind fun b=>
      bif b.2 then (fl b.1 [93]).bind fun e=>some (e.1,af.mk 4 0 [] e.2)
      else (bn b.1 [40]).bind fun c=>bif c.2 then (fe c.1).bind fun f=>(bV f.1 [41]).bind fun d=>some (d,aj f.2)
       else (iw c.1).bind fun a=>some (a.1,aj a.2))=Vp toks fe fl s:=by
 unfold Vp;rw[jE h s [91] rfl];simp only[zA,aS];cases i:sees toks s [91]with
 | true=>simp
 | false=>
  simp only[aa,aE,if_false,jE h s [40] rfl,zA];cases g:sees toks s [40]with
  | true=>simp
  | false=>simp[RJ]
theorem akk(h:dJ toks stop)(fe j k l fl)(s:PS):sF fe j k l fl (encI toks s)=akl toks fe fl s:=by
 have g:=lq h s;unfold sF akl;rw[yg h];simp only[zA,En _ g.len,ajD];have a:¬(aU toks s).kind=0->(aW.mk (encI toks s).toks (w64 ((encI toks s).i+1)) (encI toks s).bad)=encI toks (bF s):=fun m=>CW h (qO m).2.1
 by_cases b:(aU toks s).kind=2
 ·have e:((aU toks s).kind==2)=true:=by simp[b]
  rw[e,if_pos b,a (by rw[b];decide)];rfl
 ·have n:((aU toks s).kind==2)=false:=by simp[b]
  rw[n,if_neg b];simp only[aa];by_cases c:(aU toks s).kind=3
  ·have e:((aU toks s).kind==3)=true:=by simp[c]
   rw[e,if_pos c,a (by rw[c];decide)];rfl
  ·have o:((aU toks s).kind==3)=false:=by simp[c]
   rw[o,if_neg c];simp only[aa];by_cases d:(aU toks s).kind=1
   ·have e:((aU toks s).kind==1)=true:=by simp[d]
    rw[e,if_pos d,a (by rw[d];decide)];simp only[ac];cases hv:fU (aU toks s).text with
    | true=>rfl
    | false=>
     simp only[aa,aE,if_false];by_cases f:0<=Lr (aU toks s).text
     ·have ea:decide (Lr (aU toks s).text>=0)=true:=by simpa using f
      rw[ea,if_pos f];simp only[ac,yh h,zA]
     ·have ea:decide (Lr (aU toks s).text>=0)=false:=by simpa using f
      rw[ea,if_neg f];simp only[aa];exact ZC h fe fl s
   ·have e:((aU toks s).kind==1)=false:=by simp[d]
    rw[e,if_neg d];simp only[aa];exact ZC h fe fl s
theorem ZB(h:dJ toks stop)(ge gl){s:PS}(j:s.bad=none)(hi:s.i<toks.length):((iE (aU toks s) [91]).bind fun d=>
  bif d then (gl (GRd.mk (encS toks stop s).toks (w64 ((encS toks stop s).i+1)) (encS toks stop s).stop (encS toks stop s).bad) [93]).bind fun a=>some (a.1,af.mk 4 0 [] a.2)
  else (iE (aU toks s) [40]).bind fun e=>bif e then (ge (GRd.mk (encS toks stop s).toks (w64 ((encS toks stop s).i+1)) (encS toks stop s).stop (encS toks stop s).bad)).bind fun b=>(eH b.1 [41]).bind fun f=>some (f,aj b.2)
   else (iI (encS toks stop s)).bind fun c=>some (c.1,aj c.2))=Hq toks stop ge gl s:=by
 unfold Hq;simp only[aeR,Ht h s [91] rfl,Ht h s [40] rfl,zA,aS,kU h hi,uq h];cases k:sees toks s [91]with
 | true=>simp
 | false=>
  simp only[aa,aE,if_false];cases g:sees toks s [40]with
  | true=>simp
  | false=>simp
theorem aki(h:dJ toks stop)(ge q t u v gl)(s:PS):D8 ge q t u v gl (encS toks stop s)=akj toks stop ge gl s:=by
 have j:=lq h s;unfold D8 akj;simp only[uq h,zA,aS];have dead:∀(k:aU toks s=⟨0,0,0,[]⟩),some (encS toks stop (iY s),(⟨0,0,[],[]⟩:af))=(if (aU toks s).kind=2 then some (encS toks stop (bF s),⟨1,(aU toks s).n,[],[]⟩)
   else if (aU toks s).kind=3 then some (encS toks stop (bF s),⟨2,0,(aU toks s).text,[]⟩)
   else if (aU toks s).kind=1 then
    if fU (aU toks s).text=true then some (encS toks stop (bF s),⟨3,0,(aU toks s).text,[]⟩)
    else if 0<=Lr (aU toks s).text then (gl (encS toks stop (fO toks (bF s) [40])) [41]).bind fun r=>some (r.1,⟨5,0,(aU toks s).text,r.2⟩)
    else Hq toks stop ge gl s
   else Hq toks stop ge gl s):=by
  intro k;have p:∀x,letter x=false->sees toks s x=false:=fun x w=>by rw[<- Ht h s x w,k];rfl
  rw[k];unfold Hq;rw[p [91] rfl,p [40] rfl];rfl
 cases a:s.bad with
 | some b=>
  have:=lU h b;have e:decide ((encS toks stop s).bad>=0)=true:=by simp[encS,a];omega
  rw[e];simp only[ac];exact dead (by unfold aU;rw[a])
 | none=>
  have e:decide ((encS toks stop s).bad>=0)=false:=by simp[encS,a]
  rw[e];simp only[aa];by_cases hi:s.i<toks.length
  ·have l:decide ((encS toks stop s).i>=((encS toks stop s).toks.length:Int))=false:=by simp[encS];omega
   have m:toks[s.i]?=some (aU toks s):=by simp[aU,a,zF hi]
   have o:idx (encS toks stop s).toks (encS toks stop s).i=some (aU toks s):=by
    show idx toks (s.i:Int)=_
    rw[aA,m]
   rw[l];simp only[aa,o,zA,DX _ j.len,aal,XF,PV,aS];by_cases c:(aU toks s).kind=2
   ·have e:((aU toks s).kind==2)=true:=by simp[c]
    rw[e,if_pos c,kU h hi];rfl
   ·have y:((aU toks s).kind==2)=false:=by simp[c]
    rw[y,if_neg c];simp only[aa];by_cases d:(aU toks s).kind=3
    ·have e:((aU toks s).kind==3)=true:=by simp[d]
     rw[e,if_pos d,kU h hi];rfl
    ·have z:((aU toks s).kind==3)=false:=by simp[d]
     rw[z,if_neg d];simp only[aa];by_cases f:(aU toks s).kind=1
     ·have e:((aU toks s).kind==1)=true:=by simp[f]
      rw[e,if_pos f];simp only[ac];cases hv:fU (aU toks s).text with
      | true=>simp only[ac,if_true,kU h hi]
      | false=>
       simp only[aa,aE,if_false];by_cases g:0<=Lr (aU toks s).text
       ·have ea:decide (Lr (aU toks s).text>=0)=true:=by simpa using g
        rw[ea,if_pos g,kU h hi];simp only[ac,ug h,zA]
       ·have ea:decide (Lr (aU toks s).text>=0)=false:=by simpa using g
        rw[ea,if_neg g];simp only[aa];have:=ZB h ge gl a hi;simp only[aS,uq h,zA]at this;exact this
     ·have e:((aU toks s).kind==1)=false:=by simp[f]
      rw[e,if_neg f];simp only[aa];have:=ZB h ge gl a hi;simp only[aS,uq h,zA]at this;exact this
  ·have l:decide ((encS toks stop s).i>=((encS toks stop s).toks.length:Int))=true:=by simp[encS];omega
   have m:toks[s.i]?=none:=zJ (by omega);rw[l];simp only[ac];exact dead (by unfold aU;rw[a];simp[m])
theorem DF{s s':PS}(h:Adv toks s s')(a:s'.bad=none):s.bad=none:=by
 cases c:s.bad with
 | none=>rfl
 | some b=>rw[h.bad b c,c]at a;cases a
theorem ahN(h:dJ toks stop){k:Nat}{fe ge fl gl}(t:∀s,s.i<=toks.length->rem toks s+1<=k->Sim wtE toks stop fe ge s)
  (u:∀b,letter b=false->b≠[44]->∀s,s.i<=toks.length->rem toks s+1<=k->Sim wtL toks stop (fun a=>fl a b) (fun a=>gl a b) s) (s:PS) (v:s.i<=toks.length) (z:rem toks s<=k) :
  ∃(s':PS) (x y:af),Vp toks fe fl s=some (encI toks s',x)/\Hq toks stop ge gl s=some (encS toks stop s',y)/\(s'.bad=none->x=y/\wtE x+s.i<=s'.i)/\Adv toks s s':=by
 unfold Vp Hq;cases r:sees toks s [91]with
 | true=>
  obtain⟨d,w⟩:=gq (bK r).1 (bK r).2;obtain⟨j,x,y,l,m,n,g⟩:=u [93] rfl (by decide) (bF s) d.len (by omega);refine⟨j,⟨4,0,[],x⟩,⟨4,0,[],y⟩,?_,?_,fun c=>(by
   have e:=n c;refine⟨by rw[e.1],?_⟩;have o:=e.2;rw[jP]at o;rw[DK];omega),d.trans g⟩
  ·simp only[if_true];rw[show fl (encI toks (bF s)) [93]=_ from l];rfl
  ·simp only[if_true];rw[show gl (encS toks stop (bF s)) [93]=_ from m];rfl
 | false=>
  simp only[aE,if_false];cases f:sees toks s [40]with
  | true=>
   obtain⟨d,w⟩:=gq (bK f).1 (bK f).2;obtain⟨j,x,y,l,m,n,g⟩:=t (bF s) d.len (by omega);have p:=qE (x:=[41]) g.len;refine⟨fO toks j [41],x,y,?_,?_,fun c=>(by
    have e:=n (DF p c);refine⟨e.1,?_⟩;have o:=e.2;rw[jP]at o;have A:=p.le;omega),(d.trans g).trans p⟩
   ·simp only[if_true,l,zA,yh h]
   ·simp only[if_true,m,zA,ug h]
  | false=>
   simp only[aE,if_false];obtain⟨B,q⟩:=abB s;exact⟨iY s,_,_,rfl,rfl,fun c=>(by rw[q]at c;cases c),Jf v⟩
theorem Ym{s:PS}{t:aJ}(h:WB t){k n:Int}{x:Str}(a:x=[]\/x=t.text):wtE ⟨k,n,x,[]⟩+s.i<=(bF s).i:=by
 have b:x.length<=120:=by
  rcases a with rfl | rfl
  ·simp
  ·exact h.len
 rw[wP b,jP];simp[wtL];omega
theorem akh(h:dJ toks stop){k:Nat}{fe ge fl gl}(o:∀s,s.i<=toks.length->rem toks s+1<=k->Sim wtE toks stop fe ge s)
  (l:∀b,letter b=false->b≠[44]->∀s,s.i<=toks.length->rem toks s+1<=k->Sim wtL toks stop (fun a=>fl a b) (fun a=>gl a b) s) (p q r t u v w) (s:PS) (z:s.i<=toks.length) (A:rem toks s<=k) :
  Sim wtE toks stop (sF fe p q r fl) (D8 ge t u v w gl) s:=by
 unfold Sim;rw[akk h,aki h];have m:=ahN h o l s z A;unfold akl akj;by_cases d:(aU toks s).kind=2
 ·obtain⟨c,_⟩:=gq (qO (s:=s) (by rw[d];decide)).1 (qO (s:=s) (by rw[d];decide)).2.1;rw[if_pos d,if_pos d];exact⟨bF s,_,_,rfl,rfl,fun _=>⟨rfl,Ym (lq h s) (by first | exact .inl rfl | exact .inr rfl)⟩,c⟩
 rw[if_neg d,if_neg d];by_cases e:(aU toks s).kind=3
 ·obtain⟨c,_⟩:=gq (qO (s:=s) (by rw[e];decide)).1 (qO (s:=s) (by rw[e];decide)).2.1;rw[if_pos e,if_pos e];exact⟨bF s,_,_,rfl,rfl,fun _=>⟨rfl,Ym (lq h s) (by first | exact .inl rfl | exact .inr rfl)⟩,c⟩
 rw[if_neg e,if_neg e];by_cases f:(aU toks s).kind=1
 ·obtain⟨c,J⟩:=gq (qO (s:=s) (by rw[f];decide)).1 (qO (s:=s) (by rw[f];decide)).2.1;rw[if_pos f,if_pos f];cases hv:fU (aU toks s).text with
  | true=>
   simp only[if_true];exact⟨bF s,_,_,rfl,rfl,fun _=>⟨rfl,Ym (lq h s) (by first | exact .inl rfl | exact .inr rfl)⟩,c⟩
  | false=>
   simp only[aE,if_false];by_cases g:0<=Lr (aU toks s).text
   ·rw[if_pos g,if_pos g];have j:=qE (x:=[40]) c.len;have B:=j.rem;obtain⟨C,x,y,D,E,F,G⟩:=l [41] rfl (by decide) (fO toks (bF s) [40]) j.len (by omega);refine⟨C,⟨5,0,(aU toks s).text,x⟩,⟨5,0,(aU toks s).text,y⟩,?_,?_,fun H=>(by
     have n:=F H;refine⟨by rw[n.1],?_⟩;have K:=n.2;have I:=j.le;rw[jP]at I;rw[wP (lq h s).len];omega),(c.trans j).trans G⟩
    ·rw[show fl (encI toks (fO toks (bF s) [40])) [41]=_ from D];rfl
    ·rw[show gl (encS toks stop (fO toks (bF s) [40])) [41]=_ from E];rfl
   ·rw[if_neg g,if_neg g];exact m
 ·rw[if_neg f,if_neg f];exact m
abbrev CX:=(List aJ)×Int×Int×Int×Int×Str×(List af)×Int×Int×Str×(List af)×(List Int)×Int×Int
def SK(fs:aW->Option (aW×af)):CX->Option (CX⊕(aW×af)):=(fun (a:(List aJ)×Int×Int×Int×Int×Str×(List af)×Int×Int×Str×(List af)×(List Int)×Int×Int)=>
  bif (decide (a.2.2.2.2.2.2.2.2.2.2.2.2.2<a.2.2.2.2.2.2.2.2.2.2.2.2.1))then
   (idx a.2.2.2.2.2.2.2.2.2.2.2.1 a.2.2.2.2.2.2.2.2.2.2.2.2.2).bind fun _=>
   (a.2.2.2.2.2.2.2.2.2.2.2.1[a.2.2.2.2.2.2.2.2.2.2.2.2.2.toNat]?).bind fun c=>
   (tC c).bind fun e=>
   (bn (aW.mk a.1 a.2.1 a.2.2.1) e).bind fun b=>
   bif b.2 then
    (fs b.1).bind fun d=>
    some (.inr (d.1,af.mk 6 c [] [af.mk a.2.2.2.2.2.2.2.1 a.2.2.2.2.2.2.2.2.1 a.2.2.2.2.2.2.2.2.2.1 a.2.2.2.2.2.2.2.2.2.2.1,aj d.2]))
   else
    some (.inl (b.1.toks,b.1.i,b.1.bad,a.2.2.2.1,a.2.2.2.2.1,a.2.2.2.2.2.1,a.2.2.2.2.2.2.1,a.2.2.2.2.2.2.2.1,a.2.2.2.2.2.2.2.2.1,a.2.2.2.2.2.2.2.2.2.1,a.2.2.2.2.2.2.2.2.2.2.1,a.2.2.2.2.2.2.2.2.2.2.2.1,a.2.2.2.2.2.2.2.2.2.2.2.2.1,w64 (a.2.2.2.2.2.2.2.2.2.2.2.2.2+1)))
  else
   some (.inr (aW.mk a.1 a.2.1 a.2.2.1,af.mk a.2.2.2.2.2.2.2.1 a.2.2.2.2.2.2.2.2.1 a.2.2.2.2.2.2.2.2.2.1 a.2.2.2.2.2.2.2.2.2.2.1))
 )
def pkC(toks:List aJ)(s:PS)(e:af)(j:Int):CX:=((encI toks s).toks,(encI toks s).i,(encI toks s).bad,0,0,[],[],e.kind,e.n,e.text,e.args,[4,5],2,j)
def alN(toks:List aJ)(fs:aW->Option (aW×af))(s:PS)(e:af):Option (aW×af):=
 if sees toks s [60]=true then (fs (encI toks (bF s))).bind fun r=>some (r.1,⟨6,4,[],[e,r.2]⟩)
 else if sees toks s [61,61]=true then (fs (encI toks (bF s))).bind fun r=>some (r.1,⟨6,5,[],[e,r.2]⟩)
 else some (encI toks s,e)
theorem cmp_eq(h:dJ toks stop)(fs)(s:PS)(e:af):au (SK fs) (pkC toks s e 0)=alN toks fs s e:=by
 obtain⟨ek,en,et,ea⟩:=e;have d:SK fs (pkC toks s ⟨ek,en,et,ea⟩ 0)=if sees toks s [60]=true then (fs (encI toks (bF s))).bind fun r=>some (.inr (r.1,⟨6,4,[],[⟨ek,en,et,ea⟩,r.2]⟩))else some (.inl (pkC toks s ⟨ek,en,et,ea⟩ 1)):=by
  unfold SK;show ((bn (encI toks s) [60]).bind fun a=>bif a.2 then (fs a.1).bind fun b=>some (Sum.inr (b.1,af.mk 6 4 [] [⟨ek,en,et,ea⟩,aj b.2]))else some (Sum.inl (a.1.toks,a.1.i,a.1.bad,0,0,[],[],ek,en,et,ea,[4,5],2,w64 (0+1))))=_
  rw[jE h s [60] rfl];simp only[zA,aS];cases c:sees toks s [60]with
  | true=>simp
  | false=>simp only[aa,aE,if_false];rfl
 have f:SK fs (pkC toks s ⟨ek,en,et,ea⟩ 1)=if sees toks s [61,61]=true then (fs (encI toks (bF s))).bind fun r=>some (.inr (r.1,⟨6,5,[],[⟨ek,en,et,ea⟩,r.2]⟩))else some (.inl (pkC toks s ⟨ek,en,et,ea⟩ 2)):=by
  unfold SK;show ((bn (encI toks s) [61,61]).bind fun a=>bif a.2 then (fs a.1).bind fun b=>some (Sum.inr (b.1,af.mk 6 5 [] [⟨ek,en,et,ea⟩,aj b.2]))else some (Sum.inl (a.1.toks,a.1.i,a.1.bad,0,0,[],[],ek,en,et,ea,[4,5],2,w64 (1+1))))=_
  rw[jE h s [61,61] rfl];simp only[zA,aS];cases c:sees toks s [61,61]with
  | true=>simp
  | false=>simp only[aa,aE,if_false];rfl
 have g:SK fs (pkC toks s ⟨ek,en,et,ea⟩ 2)=some (.inr (encI toks s,⟨ek,en,et,ea⟩)):=rfl;unfold alN;rw[aH,d];cases c:sees toks s [60]with
 | true=>
  simp only[if_true];cases fs (encI toks (bF s))<;>rfl
 | false=>
  simp only[aE,if_false];rw[aH,f];cases j:sees toks s [61,61]with
  | true=>
   simp only[if_true];cases fs (encI toks (bF s))<;>rfl
  | false=>
   simp only[aE,if_false];rw[aH,g]
theorem ahD{s b c:PS}{op:Int}{x y a d:af}(p:a=d/\wtE a+(bF b).i<=c.i)(q:x=y/\wtE x+s.i<=b.i):(⟨6,op,[],[x,a]⟩:af)=⟨6,op,[],[y,d]⟩/\wtE ⟨6,op,[],[x,a]⟩+s.i<=c.i:=by
 refine⟨by rw[p.1,q.1],?_⟩;have e:=p.2;have f:=q.2;rw[jP]at e;rw[DK,vz];omega
theorem alM(h:dJ toks stop){k:Nat}{fs gs}(g:∀s,s.i<=toks.length->rem toks s<=k->Sim wtE toks stop fs gs s)(w z A B C)(s:PS)(D:s.i<=toks.length)(E:rem toks s<=k) :
  Sim wtE toks stop (fun a=>(fs a).bind fun r=>au (SK fs) (r.1.toks,r.1.i,r.1.bad,0,0,[],[],r.2.kind,r.2.n,r.2.text,r.2.args,[4,5],([4,5].length:Int),0)) (rU w z gs A B C) s:=by
 obtain⟨b,x,y,F,G,j,f⟩:=g s D E;have H:=f.rem;have eI:((fs (encI toks s)).bind fun r=>au (SK fs) (r.1.toks,r.1.i,r.1.bad,0,0,[],[],r.2.kind,r.2.n,r.2.text,r.2.args,[4,5],([4,5].length:Int),0))=alN toks fs b x:=by
  rw[F];exact cmp_eq h fs b x
 have eS:rU w z gs A B C (encS toks stop s)=(if sees toks b [60]=true then (gs (encS toks stop (bF b))).bind fun r=>some (r.1,⟨6,4,[],[y,r.2]⟩)else if sees toks b [61,61]=true then (gs (encS toks stop (bF b))).bind fun r=>some (r.1,⟨6,5,[],[y,r.2]⟩)else some (encS toks stop b,y)):=by
  unfold rU;simp only[G,zA,qG h b,kW,aS];cases d:sees toks b [60]with
  | true=>
   simp only[ac,if_true];rw[kU h (bK d).2]
  | false=>
   simp only[aa,aE,if_false];cases c:sees toks b [61,61]with
   | true=>
    simp only[ac,if_true];rw[kU h (bK c).2]
   | false=>simp
 unfold Sim;show ∃(s':PS) (x' y':af),((fs (encI toks s)).bind fun r=>au (SK fs) (r.1.toks,r.1.i,r.1.bad,0,0,[],[],r.2.kind,r.2.n,r.2.text,r.2.args,[4,5],([4,5].length:Int),0))=_/\_
 rw[eI,eS];unfold alN;cases d:sees toks b [60]with
 | true=>
  obtain⟨e,I⟩:=gq (bK d).1 (bK d).2;obtain⟨l,m,o,p,q,t,u⟩:=g (bF b) e.len (by omega);refine⟨l,⟨6,4,[],[x,m]⟩,⟨6,4,[],[y,o]⟩,?_,?_,fun v=>(ahD (t v) (j (bK d).1)),(f.trans e).trans u⟩
  ·simp only[if_true,p,zA]
  ·simp only[if_true,q,zA]
 | false=>
  simp only[aE,if_false];cases c:sees toks b [61,61]with
  | true=>
   obtain⟨e,I⟩:=gq (bK c).1 (bK c).2;obtain⟨l,m,o,p,q,t,u⟩:=g (bF b) e.len (by omega);refine⟨l,⟨6,5,[],[x,m]⟩,⟨6,5,[],[y,o]⟩,?_,?_,fun v=>(ahD (t v) (j (bK c).1)),(f.trans e).trans u⟩
   ·simp only[if_true,p,zA]
   ·simp only[if_true,q,zA]
  | false=>
   simp only[aE,if_false];exact⟨b,x,y,rfl,rfl,j,f⟩
theorem alv(fe fs o p j)(a:aW):zQ fe fs o p j a =
 ((fD a).bind fun k=>
 (jF k.2 [108,101,116]).bind fun w=>
 bif w then
  (lF (aW.mk k.1.toks (w64 (k.1.i+1)) k.1.bad)).bind fun o=>
  (bV o.1 [61]).bind fun p=>
  (fe p).bind fun j=>
  (gd ([aj j.2].length)).bind fun _=>
  (bV j.1 [105,110]).bind fun x=>
  (fe x).bind fun q=>
  (gd ([aj j.2].length+[aj q.2].length)).bind fun _=>
  some (q.1,af.mk 7 0 o.2 ([aj j.2]++[aj q.2]))
 else
 (fD k.1).bind fun l=>
 (jF l.2 [105,102]).bind fun y=>
 bif y then
  (fe (aW.mk l.1.toks (w64 (l.1.i+1)) l.1.bad)).bind fun c=>
  (gd ([aj c.2].length)).bind fun _=>
  (bV c.1 [116,104,101,110]).bind fun r=>
  (fe r).bind fun e=>
  (gd ([aj c.2].length+[aj e.2].length)).bind fun _=>
  (bV e.1 [101,108,115,101]).bind fun s=>
  (fe s).bind fun g=>
  (gd (([aj c.2]++[aj e.2]).length+[aj g.2].length)).bind fun _=>
  some (g.1,af.mk 8 0 [] (([aj c.2]++[aj e.2])++[aj g.2]))
 else
 (fD l.1).bind fun d=>
 (jF d.2 [102,111,114]).bind fun t=>
 bif t then
  (lF (aW.mk d.1.toks (w64 (d.1.i+1)) d.1.bad)).bind fun m=>
  (bV m.1 [105,110]).bind fun u=>
  (fe u).bind fun f=>
  (gd ([aj f.2].length)).bind fun _=>
  (bV f.1 [100,111]).bind fun v=>
  (fe v).bind fun h=>
  (gd ([aj f.2].length+[aj h.2].length)).bind fun _=>
  some (h.1,af.mk 9 0 m.2 ([aj f.2]++[aj h.2]))
 else
 (fs d.1).bind fun b=>
 au (SK fs) (b.1.toks,b.1.i,b.1.bad,0,0,[],[],b.2.kind,b.2.n,b.2.text,b.2.args,[4,5],([4,5].length:Int),0)):=rfl
theorem QE(h:dJ toks stop)(s:PS):(mr toks s).2.length<=120:=by
 unfold mr;split
 ·exact (lq h s).len
 ·simp
theorem ajK(h:dJ toks stop){k:Nat}{fe ge fs gc}(q:∀s,s.i<=toks.length->rem toks s+1<=k->Sim wtE toks stop fe ge s)
  (T:∀s,s.i<=toks.length->rem toks s<=k->Sim wtE toks stop (fun a=>(fs a).bind fun r=>au (SK fs) (r.1.toks,r.1.i,r.1.bad,0,0,[],[],r.2.kind,r.2.n,r.2.text,r.2.args,[4,5],([4,5].length:Int),0)) gc s)
  (U V W X Y Z t6) (s:PS) (hs:s.i<=toks.length) (hk:rem toks s<=k):Sim wtE toks stop (zQ fe fs U V W) (JX ge gc X Y Z t6) s:=by
 unfold Sim;have L:∀x:af,gd [x].length=some ():=fun x=>gdp (by simp)
 have M:∀x y:af,gd ([x].length+[y].length)=some ():=fun x y=>gdp (by simp)
 have g3:∀x y z:af,gd (([x]++[y]).length+[z].length)=some ():=fun x y z=>gdp (by simp)
 rw[alv];unfold JX;simp only[yg h,zA,afm,QY h s [108,101,116] rfl,QY h s [105,102] rfl,QY h s [102,111,114] rfl,qG h s,aS];cases J:sees toks s [108,101,116]with
 | true=>
  obtain⟨m,P⟩:=gq (bK J).1 (bK J).2;have d:=aaG (toks:=toks) m.len;have e:=qE (x:=[61]) d.len;obtain⟨A,B,C,t,u,v,c⟩:=q (fO toks (mr toks (bF s)).1 [61]) e.len (by have:=d.rem;have:=e.rem;omega);have b:=qE (x:=[105,110]) c.len;obtain⟨D,E,F,G,H,I,f⟩:=q (fO toks A [105,110]) b.len (by have:=d.rem;have:=e.rem;have:=c.rem;have:=b.rem;omega);refine⟨D,⟨7,0,(mr toks (bF s)).2,[B,E]⟩,⟨7,0,(mr toks (bF s)).2,[C,F]⟩,?_,?_,fun g=>(by
   have o:=I g;have p:=v (DF (b.trans f) g);refine⟨by rw[o.1,p.1],?_⟩;have Q:=o.2;have N:=p.2;have K:=d.le;have c4:=e.le;have R:=b.le;rw[jP]at K;rw[wP (QE h (bF s)),vz];omega),((((m.trans d).trans e).trans c).trans b).trans f⟩
  ·simp only[ac];rw[CW h (bK J).2];simp only[aa8 h,zA,yh h,t,L,M,G];rfl
  ·simp only[ac];rw[kU h (bK J).2];simp only[ZT h,zA,ug h,u,H]
 | false=>
  simp only[aa];cases j:sees toks s [105,102]with
  | true=>
   obtain⟨m,P⟩:=gq (bK j).1 (bK j).2;obtain⟨A,B,C,t,u,v,c⟩:=q (bF s) m.len (by omega);have b:=qE (x:=[116,104,101,110]) c.len;obtain⟨D,E,F,G,H,I,f⟩:=q (fO toks A [116,104,101,110]) b.len (by have:=c.rem;have:=b.rem;omega);have w:=qE (x:=[101,108,115,101]) f.len;obtain⟨s4,x4,y4,u1,u2,u3,O⟩:=q (fO toks D [101,108,115,101]) w.len (by have:=c.rem;have:=b.rem;have:=f.rem;have:=w.rem;omega);refine⟨s4,⟨8,0,[],[B,E,x4]⟩,⟨8,0,[],[C,F,y4]⟩,?_,?_,fun g=>(by
    have S:=u3 g;have o:=I (DF (w.trans O) g);have p:=v (DF ((b.trans f).trans (w.trans O)) g);refine⟨by rw[S.1,o.1,p.1],?_⟩;have c0:=S.2;have Q:=o.2;have N:=p.2;have K:=b.le;have R:=w.le;rw[jP]at N;rw[DK,Vf];omega),((((m.trans c).trans b).trans f).trans w).trans O⟩
   ·simp only[ac];rw[CW h (bK j).2];simp only[zA,yh h,t,L,M,g3,G,u1];rfl
   ·simp only[ac];rw[kU h (bK j).2];simp only[zA,ug h,u,H,u2]
  | false=>
   simp only[aa];cases l:sees toks s [102,111,114]with
   | true=>
    obtain⟨m,P⟩:=gq (bK l).1 (bK l).2;have d:=aaG (toks:=toks) m.len;have e:=qE (x:=[105,110]) d.len;obtain⟨A,B,C,t,u,v,c⟩:=q (fO toks (mr toks (bF s)).1 [105,110]) e.len (by have:=d.rem;have:=e.rem;omega);have b:=qE (x:=[100,111]) c.len;obtain⟨D,E,F,G,H,I,f⟩:=q (fO toks A [100,111]) b.len (by have:=d.rem;have:=e.rem;have:=c.rem;have:=b.rem;omega);refine⟨D,⟨9,0,(mr toks (bF s)).2,[B,E]⟩,⟨9,0,(mr toks (bF s)).2,[C,F]⟩,?_,?_,fun g=>(by
   have o:=I g;have p:=v (DF (b.trans f) g);refine⟨by rw[o.1,p.1],?_⟩;have Q:=o.2;have N:=p.2;have K:=d.le;have c4:=e.le;have R:=b.le;rw[jP]at K;rw[wP (QE h (bF s)),vz];omega),((((m.trans d).trans e).trans c).trans b).trans f⟩
    ·simp only[ac];rw[CW h (bK l).2];simp only[aa8 h,zA,yh h,t,L,M,G];rfl
    ·simp only[ac];rw[kU h (bK l).2];simp only[ZT h,zA,ug h,u,H]
   | false=>
    simp only[aa];obtain⟨s',x,y,t,u,v,c⟩:=T s hs hk;refine⟨s',x,y,t,?_,v,c⟩;rw[u];rfl
variable {toks:List aJ} {stop:Int}
theorem ado(h:dJ toks stop):∀(k:Nat) (s:PS),s.i<=toks.length->rem toks s<=k->∀n m,5*k+5<=n->6*k+6<=m->Sim wtE toks stop (aF n).1 (aG m).1 s:=by
 intro k;induction k using Nat.strongRecOn with
 | _ k ih=>
  have o:∀n m,5*k<=n->6*k<=m->∀s,s.i<=toks.length->rem toks s+1<=k->Sim wtE toks stop (aF n).1 (aG m).1 s:=fun n m j l s e f=>
   ih (k-1) (by omega) s e (by omega) n m (by omega) (by omega)
  have q:∀n m,5*k+1<=n->6*k+1<=m->∀b,letter b=false->b≠[44]->∀s,s.i<=toks.length->rem toks s+1<=k->Sim wtL toks stop (fun a=>(aF n).2.2.2.2 a b) (fun a=>(aG m).2.2.2.2.2 a b) s:=by
   intro n m j l b r p s e f;obtain⟨d,rfl⟩:∃d,n=d+1:=⟨n-1,by omega⟩;obtain⟨c,rfl⟩:∃c,m=c+1:=⟨m-1,by omega⟩;exact ai8 h (k:=k-1) (fun s e f=>o d c (by omega) (by omega) s e (by omega)) b r p (aF d).2.1 (aF d).2.2.1 (aF d).2.2.2.1 (aF d).2.2.2.2 (aG c).2.1 (aG c).2.2.1 (aG c).2.2.2.1 (aG c).2.2.2.2.1 (aG c).2.2.2.2.2 s e (by omega)
  have t:∀n m,5*k+2<=n->6*k+2<=m->∀s,s.i<=toks.length->rem toks s<=k->Sim wtE toks stop (aF n).2.2.2.1 (aG m).2.2.2.2.1 s:=by
   intro n m j l s e f;obtain⟨d,rfl⟩:∃d,n=d+1:=⟨n-1,by omega⟩;obtain⟨c,rfl⟩:∃c,m=c+1:=⟨m-1,by omega⟩;exact akh h (o d c (by omega) (by omega)) (q d c (by omega) (by omega)) (aF d).2.1 (aF d).2.2.1 (aF d).2.2.2.1 (aG c).2.1 (aG c).2.2.1 (aG c).2.2.2.1 (aG c).2.2.2.2.1 s e f
  have u:∀n m,5*k+3<=n->6*k+3<=m->∀s,s.i<=toks.length->rem toks s<=k->Sim wtE toks stop (aF n).2.2.1 (aG m).2.2.2.1 s:=by
   intro n m j l s e f;obtain⟨d,rfl⟩:∃d,n=d+1:=⟨n-1,by omega⟩;obtain⟨c,rfl⟩:∃c,m=c+1:=⟨m-1,by omega⟩;exact aiH h (t d c (by omega) (by omega)) (aF d).1 (aF d).2.1 (aF d).2.2.1 (aF d).2.2.2.2 (aG c).1 (aG c).2.1 (aG c).2.2.1 (aG c).2.2.2.1 (aG c).2.2.2.2.2 s e f
  have v:∀n m,5*k+4<=n->6*k+4<=m->∀s,s.i<=toks.length->rem toks s<=k->Sim wtE toks stop (aF n).2.1 (aG m).2.2.1 s:=by
   intro n m j l s e f;obtain⟨d,rfl⟩:∃d,n=d+1:=⟨n-1,by omega⟩;obtain⟨c,rfl⟩:∃c,m=c+1:=⟨m-1,by omega⟩;exact akC h (u d c (by omega) (by omega)) (aF d).1 (aF d).2.1 (aF d).2.2.2.1 (aF d).2.2.2.2 (aG c).1 (aG c).2.1 (aG c).2.2.1 (aG c).2.2.2.2.1 (aG c).2.2.2.2.2 s e f
  intro s e f n m j l;obtain⟨d,rfl⟩:∃d,n=d+1:=⟨n-1,by omega⟩;obtain⟨c,rfl⟩:∃c,m=c+1:=⟨m-1,by omega⟩;refine ajK h (o d c (by omega) (by omega)) (fs:=(aF d).2.1) (gc:=(aG c).2.1) (fun s e f=>?_) (aF d).2.2.1 (aF d).2.2.2.1 (aF d).2.2.2.2 (aG c).2.2.1 (aG c).2.2.2.1 (aG c).2.2.2.2.1 (aG c).2.2.2.2.2 s e f;obtain⟨g,rfl⟩:∃g,c=g+1:=⟨c-1,by omega⟩;exact alM h (v d g (by omega) (by omega)) (aG g).1 (aG g).2.1 (aG g).2.2.2.1 (aG g).2.2.2.2.1 (aG g).2.2.2.2.2 s e f
variable {toks:List aJ} {stop:Int}
theorem qF(n:Int):1<=SizeOf.sizeOf n:=by
 cases n with
 | ofNat m=>rw[Int.ofNat.sizeOf_spec];omega
 | negSucc m=>rw[Int.negSucc.sizeOf_spec];omega
theorem af0{α:Type}[SizeOf α](xs:List α):1<=SizeOf.sizeOf xs:=by
 cases xs with
 | nil=>rw[List.nil.sizeOf_spec];omega
 | cons x r=>rw[List.cons.sizeOf_spec];omega
theorem akD(t:aJ):5<=SizeOf.sizeOf t:=by
 obtain⟨a,b,c,d⟩:=t;rw[aJ.mk.sizeOf_spec];have:=qF a;have:=qF b;have:=qF c;have:=af0 d;omega
theorem ah2(toks:List aJ):6*toks.length+1<=SizeOf.sizeOf toks:=by
 induction toks with
 | nil=>rw[List.nil.sizeOf_spec];simp
 | cons t r ih=>
  rw[List.cons.sizeOf_spec];have:=akD t;simp only[List.length_cons];omega
theorem XW(h:dJ toks stop):∃(s':PS) (x y:af),CS (aW.mk toks 0 (-1))=some (encI toks s',x)/\PN (GRd.mk toks 0 stop (-1))=some (encS toks stop s',y)/\(s'.bad=none->x=y/\wtE x<=s'.i)/\s'.i<=toks.length:=by
 have h1:=ah2 toks;have hi:5*toks.length+5<=siz (aW.mk toks 0 (-1))+1:=by
  show _<=SizeOf.sizeOf (aW.mk toks 0 (-1))+1
  rw[aW.mk.sizeOf_spec];have:=qF 0;have:=qF (-1);omega
 have a:6*toks.length+6<=siz (GRd.mk toks 0 stop (-1))+1:=by
  show _<=SizeOf.sizeOf (GRd.mk toks 0 stop (-1))+1
  rw[GRd.mk.sizeOf_spec];have:=qF 0;have:=qF (-1);have:=qF stop;omega
 obtain⟨s',x,y,b,c,d,e⟩:=ado h toks.length ⟨0,none⟩ (Nat.zero_le _) (by simp[rem]) _ _ hi a;exact⟨s',x,y,b,c,d,e.len⟩
theorem adq(a:Str){toks:List aJ}{t:Int}(hi:xW a=some (toks,t))(w:wV a=some (toks,t))(m:t<0->dJ toks (a.length:Int))
  (hv:∀e:af,wtE e<=60->∃v,gZ e=some v/\iK e=some v):∃(e:af) (p:Int),qc a=some (e,p)/\pq a=some (e,p)/\(p<0->gZ e=some true/\wtE e<=60):=by
 unfold qc pq;rw[hi,w];simp only[zA];by_cases s:t>=0
 ·have e:decide (t>=0)=true:=by simpa using s
  rw[e];exact⟨_,_,rfl,rfl,fun h=>by omega⟩
 ·have e:decide (t>=0)=false:=by simpa using s
  rw[e];simp only[aa];have h:=m (by omega);obtain⟨s',x,y,z,A,B,D⟩:=XW h;have hlen:=h.len;rw[z,A];simp only[zA,aS];rw[akg,akf h];cases g:s'.bad with
  | some b=>
   have eb:(encI toks s').bad=(b:Int):=by simp[encI,g]
   have es:(encS toks (a.length:Int) s').bad=BX toks (a.length:Int) b:=by simp[encS,g]
   have n:=lU h b;have j:decide ((encS toks (a.length:Int) s').bad>=0)=true:=by rw[es];simpa using n
   have k:decide ((encI toks s').bad>=0)=true:=by rw[eb];simp
   rw[j,k,eb,es];simp only[Option.isNone_some,aa,ac];by_cases c:b<toks.length
   ·have d:decide ((b:Int)>=(toks.length:Int))=false:=by simp;omega
    rw[d];simp only[aa,aA,zF c,zA,az];refine⟨_,_,rfl,?_,fun hh=>?_⟩
    ·simp[BX,zF c]
    ·have:=(h.all _ (List.getElem_mem c)).pos;omega
   ·have d:decide ((b:Int)>=(toks.length:Int))=true:=by simp;omega
    rw[d];simp only[ac];have:toks[b]?=none:=zJ (by omega);refine⟨_,_,rfl,?_,fun hh=>by omega⟩;simp[BX,this]
  | none=>
   have ei:(encI toks s').i=(s'.i:Int):=rfl;have esi:(encS toks (a.length:Int) s').i=(s'.i:Int):=rfl;have eb:(encI toks s').bad = -1:=by simp[encI,g]
   have es:(encS toks (a.length:Int) s').bad = -1:=by simp[encS,g]
   simp only[Option.isNone_none,ac,ei,esi,uq h,zA];obtain⟨o,f⟩:=B g;have f:wtE x<=60:=by omega
   subst o;by_cases q:s'.i<toks.length
   ·have j:decide ((s'.i:Int)<(toks.length:Int))=true:=by simp;omega
    have k:decide ((s'.i:Int)>=(toks.length:Int))=false:=by simp;omega
    have d:decide ((s'.i:Int)>=0)=true:=by simp
    have u:(encS toks (a.length:Int) (iY s')).bad=toks[s'.i].pos:=by simp[encS,iY,g,BX,zF q]
    have n:=(h.all _ (List.getElem_mem q)).pos;have C:decide ((encS toks (a.length:Int) (iY s')).bad>=0)=true:=by rw[u];simpa using n
    rw[j,k,d,C,u];simp only[ac,aa,aA,zF q,zA,az];exact⟨_,_,rfl,rfl,fun hh=>by omega⟩
   ·have j:decide ((s'.i:Int)<(toks.length:Int))=false:=by simp;omega
    have k:decide ((-1:Int)>=(toks.length:Int))=false:=by simp;omega
    have d:decide ((-1:Int)>=0)=false:=rfl;obtain⟨v,l,r⟩:=hv x f;rw[j,eb,es,k,d];simp only[aa,l,r,zA];cases v with
    | false=>exact⟨_,_,rfl,rfl,fun hh=>by omega⟩
    | true=>exact⟨_,_,rfl,rfl,fun _=>⟨l,f⟩⟩
end
end Go.Proofs.YtbbmkcioplbhbaaGreatDoor
