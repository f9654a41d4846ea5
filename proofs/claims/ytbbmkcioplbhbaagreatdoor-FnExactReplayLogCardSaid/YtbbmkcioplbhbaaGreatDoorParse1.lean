import Derived.Test.YtbbmkcioplbhbaaGreatDoorPlain1
set_option linter.unusedSimpArgs false
set_option linter.unusedVariables false
/- The two parsers: their states, and the steps that read a token. The two parsers alike: products, sums, lists. The two parsers alike: atoms, expressions. The two parsers alike: with enough fuel they come to the same end. ParseExpr alike, out of the same tokens. -/
namespace Go.Proofs.YtbbmkcioplbhbaaGreatDoor
noncomputable section
open Go.Abs Go.Proofs
structure PS where
 i:Nat
 bad:Option Nat
def Ce(toks:List aK)(stop:Int)(b:Nat):Int:=match toks[b]? with
 | some t=>t.pos
 | none=>stop
def encI(toks:List aK)(s:PS):aV:=⟨toks,s.i,match s.bad with | none=>-1 | some b=>b⟩
def encS(toks:List aK)(stop:Int)(s:PS):GRd:=⟨toks,s.i,stop,match s.bad with | none=>-1 | some b=>Ce toks stop b⟩
def letter(s:Str):Bool:=match s with
 | c::_=>decide (97<=c.toNat/\c.toNat<=122)
 | []=>false
structure WM(t:aK):Prop where
 pos:0<=t.pos
 name:t.kind=1->letter t.text=true
 sym:t.kind=4->letter t.text=false
 len:t.text.length<=120
structure dJ(toks:List aK)(stop:Int):Prop where
 all:∀t,t∈toks->WM t
 stop:0<=stop
 len:toks.length<=60
def sees(toks:List aK)(s:PS)(x:Str):Bool:=match s.bad with
 | some _=>false
 | none=>match toks[s.i]? with
  | some t=>(t.kind==4||t.kind==1)&&t.text==x
  | none=>false
def ja(s:PS):PS:=match s.bad with
 | some _=>s
 | none=>⟨s.i,some s.i⟩
def bF(s:PS):PS:=⟨s.i+1,s.bad⟩
def fM(toks:List aK)(s:PS)(x:Str):PS:=if sees toks s x=true then bF s else ja s
variable {toks:List aK} {stop:Int}
theorem lT(h:dJ toks stop)(b:Nat):0<=Ce toks stop b:=by
 unfold Ce;cases a:toks[b]? with
 | none=>exact h.stop
 | some t=>exact (h.all t (zG a)).pos
theorem bK{s:PS}{x:Str}(h:sees toks s x=true):s.bad=none/\s.i<toks.length:=by
 unfold sees at h;cases a:s.bad with
 | some b=>rw[a]at h;cases h
 | none=>
  rw[a]at h;refine⟨rfl,?_⟩;cases c:toks[s.i]? with
  | none=>rw[c]at h;cases h
  | some t=>exact (zC.1 c).1
def aU(toks:List aK)(s:PS):aK:=match s.bad with
 | some _=>⟨0,0,0,[]⟩
 | none=>(toks[s.i]?).getD ⟨0,0,0,[]⟩
theorem yj(h:dJ toks stop)(s:PS):fA (encI toks s)=some (encI toks s,aU toks s):=by
 obtain⟨i,bad⟩:=s;unfold fA aU encI;cases bad with
 | some b=>
  have e:decide ((b:Int)<0)=false:=by simp
  simp[e]
 | none=>
  simp only;by_cases hi:i<toks.length
  ·simp[aA,hi,zF hi]
  ·have:toks[i]?=none:=zJ (by omega);simp[hi,this]
theorem afQ(t:aK)(x:Str):yu t x=some (t.kind==4&&t.text==x):=by
 unfold yu;by_cases h:t.kind==4<;>simp[h]
theorem afR(t:aK)(x:Str):jI t x=some (t.kind==1&&t.text==x):=by
 unfold jI;by_cases h:t.kind==1<;>simp[h]
theorem afm(t:aK)(x:Str):iE t x=some (t.kind==4&&t.text==x):=by
 unfold iE;by_cases h:t.kind==4<;>simp[h]
theorem aly(t:aK)(x:Str):zh t x=some (t.kind==1&&t.text==x):=by
 unfold zh;by_cases h:t.kind==1<;>simp[h]
theorem Gw(s:PS)(x:Str):((aU toks s).kind==4&&(aU toks s).text==x||(aU toks s).kind==1&&(aU toks s).text==x)=sees toks s x:=by
 unfold aU sees;cases s.bad with
 | some b=>simp
 | none=>
  cases toks[s.i]? with
  | none=>simp
  | some t=>simp only[Option.getD_some];cases (t.kind==4)<;>cases (t.kind==1)<;>simp
theorem lF(h:dJ toks stop)(s:PS):WM (aU toks s):=by
 have a:WM ⟨0,0,0,[]⟩:=⟨by simp,by simp,by simp,by simp⟩;unfold aU;cases s.bad with
 | some b=>exact a
 | none=>
  cases c:toks[s.i]? with
  | none=>exact a
  | some t=>exact h.all t (zG c)
theorem Ri(h:dJ toks stop)(s:PS)(x:Str)(c:letter x=true):((aU toks s).kind==1&&(aU toks s).text==x)=sees toks s x:=by
 rw[<- Gw];have a:=lF h s;cases b:((aU toks s).kind==4&&(aU toks s).text==x)with
 | false=>simp
 | true=>
  simp only[zI,beq_iff_eq]at b;have:=a.sym b.1;rw[b.2,c]at this;cases this
theorem Hy(h:dJ toks stop)(s:PS)(x:Str)(c:letter x=false):((aU toks s).kind==4&&(aU toks s).text==x)=sees toks s x:=by
 rw[<- Gw];have a:=lF h s;cases b:((aU toks s).kind==1&&(aU toks s).text==x)with
 | false=>simp
 | true=>
  simp only[zI,beq_iff_eq]at b;have:=a.name b.1;rw[b.2,c]at this;cases this
theorem RY(s:PS):iw (encI toks s)=some (encI toks (ja s),⟨0,0,[],[]⟩):=by
 obtain⟨i,bad⟩:=s;unfold iw ja encI;cases bad with
 | some b=>
  have e:decide ((b:Int)<0)=false:=by simp
  simp[e]
 | none=>simp
theorem Jz{n:Nat}(h:n<=60):w64 ((n:Int)+1)=((n+1:Nat):Int):=by rw[aT (by omega) (by omega)];rfl
theorem Dc{s:PS}(h:dJ toks stop)(a:s.i<toks.length):(aV.mk (encI toks s).toks (w64 ((encI toks s).i+1)) (encI toks s).bad)=encI toks (bF s):=by
 have:=h.len;have e:w64 ((encI toks s).i+1)=((s.i+1:Nat):Int):=Jz (by omega);rw[e];rfl
theorem kY{s:PS}(h:dJ toks stop)(a:s.i<toks.length):(GRd.mk (encS toks stop s).toks (w64 ((encS toks stop s).i+1)) (encS toks stop s).stop (encS toks stop s).bad)=encS toks stop (bF s):=by
 have:=h.len;have e:w64 ((encS toks stop s).i+1)=((s.i+1:Nat):Int):=Jz (by omega);rw[e];rfl
theorem jH(h:dJ toks stop)(s:PS)(x:Str)(a:letter x=false):bn (encI toks s) x=some (encI toks (if sees toks s x=true then bF s else s),sees toks s x):=by
 unfold bn;rw[yj h];simp only[zA,afQ,Hy h s x a];cases b:sees toks s x with
 | true=>simp only[ac,if_true];rw[Dc h (bK b).2]
 | false=>simp
theorem yt(h:dJ toks stop)(s:PS)(x:Str):bV (encI toks s) x=some (encI toks (fM toks s x)):=by
 unfold bV fM;rw[yj h];simp only[zA,afR,yj h,afQ,RY];have a:=Gw (toks:=toks) s x;cases b:((aU toks s).kind==1&&(aU toks s).text==x)with
 | true=>
  rw[b,Bool.or_true]at a;simp only[ac,<- a,if_true];rw[Dc h (bK a.symm).2]
 | false=>
  rw[b,Bool.or_false]at a;simp only[aa,a];cases c:sees toks s x with
  | true=>simp only[ac,if_true];rw[Dc h (bK c).2]
  | false=>simp
theorem qI(h:dJ toks stop)(s:PS)(x:Str):dZ (encS toks stop s) x=some (encS toks stop s,sees toks s x):=by
 obtain⟨i,bad⟩:=s;unfold dZ sees encS;cases bad with
 | some b=>
  have:=lT h b;have e:decide (Ce toks stop b<0)=false:=by simp;omega
  simp[e]
 | none=>
  simp only;by_cases hi:i<toks.length
  ·simp only[aA,zF hi,zA,afm,aly];have a:decide ((-1:Int)<0)=true:=rfl;have c:decide ((i:Int)<(toks.length:Int))=true:=by simp;omega
   simp only[a,c,ac];cases (toks[i].kind==4)<;>cases (toks[i].kind==1)<;>cases (toks[i].text==x)<;>simp
  ·have:toks[i]?=none:=zJ (by omega);simp[hi,this]
theorem uq(h:dJ toks stop)(s:PS):iJ (encS toks stop s)=some (encS toks stop (ja s),⟨0,0,[],[]⟩):=by
 obtain⟨i,bad⟩:=s;unfold iJ ja encS;cases bad with
 | some b=>
  have:=lT h b;have e:decide (Ce toks stop b<0)=false:=by simp;omega
  simp[e]
 | none=>
  simp only;by_cases hi:i<toks.length
  ·simp[aA,hi,zF hi,Ce]
  ·have:toks[i]?=none:=zJ (by omega);simp[hi,this,Ce]
theorem ug(h:dJ toks stop)(s:PS)(x:Str):eP (encS toks stop s) x=some (encS toks stop (fM toks s x)):=by
 unfold eP fM;rw[qI h];simp only[zA,uq h];cases a:sees toks s x with
 | true=>simp only[aM,aa,if_true];rw[kY h (bK a).2]
 | false=>simp
def fQ(a:Str):Bool:=(bI a).getD false
theorem Ey(a:Str)(b:a.length<=120):bI a=some (fQ a):=by
 obtain⟨v,h⟩:=oK a (by omega);unfold fQ;rw[h];rfl
theorem D7(a:Str)(b:a.length<=120):bM a=some (fQ a):=by
 rw[<- nY a (by omega),Ey a b]
def kW(t:aK):Bool:=t.kind==1&&fQ t.text
def mr(toks:List aK)(s:PS):PS×Str:=if kW (aU toks s)=true then (bF s,(aU toks s).text)else (ja s,[])
theorem qQ{s:PS}(h:¬(aU toks s).kind=0):s.bad=none/\s.i<toks.length/\toks[s.i]?=some (aU toks s):=by
 unfold aU at h ⊢;cases a:s.bad with
 | some b=>rw[a]at h;exact absurd rfl h
 | none=>
  rw[a]at h;simp only at h ⊢;cases c:toks[s.i]? with
  | none=>rw[c]at h;exact absurd rfl h
  | some t=>exact⟨trivial,(zC.1 c).1,rfl⟩
theorem KD{s:PS}(h:kW (aU toks s)=true):s.bad=none/\s.i<toks.length/\toks[s.i]?=some (aU toks s):=by
 refine qQ fun a=>?_
 unfold kW at h;rw[a]at h;cases h
theorem abt(h:dJ toks stop)(s:PS):lI (encI toks s)=some (encI toks (mr toks s).1,(mr toks s).2):=by
 unfold lI mr;rw[yj h];have c:=lF h s;simp only[zA,RY,Ey _ c.len];cases b:((aU toks s).kind==1)with
 | false=>
  have e:((aU toks s).kind != 1)=true:=by simp[bne,b]
  have a:kW (aU toks s)=false:=by unfold kW;rw[b];rfl
  rw[e,a];simp
 | true=>
  have e:((aU toks s).kind != 1)=false:=by simp[bne,b]
  rw[e];cases hv:fQ (aU toks s).text with
  | false=>
   have a:kW (aU toks s)=false:=by unfold kW;rw[b,hv];rfl
   rw[a];simp
  | true=>
   have a:kW (aU toks s)=true:=by unfold kW;rw[b,hv];rfl
   rw[a];simp only[aa,aM,if_true];rw[Dc h (KD a).2.1]
theorem aad(h:dJ toks stop)(s:PS):BQ (encS toks stop s)=some (encS toks stop (mr toks s).1,(mr toks s).2):=by
 unfold BQ mr;simp only[uq h];obtain⟨i,bad⟩:=s;cases bad with
 | some b=>
  have:=lT h b;have e:decide ((encS toks stop ⟨i,some b⟩).bad>=0)=true:=by simp[encS];omega
  have a:kW (aU toks ⟨i,some b⟩)=false:=rfl;rw[e,a];simp
 | none=>
  have e:decide ((encS toks stop ⟨i,none⟩).bad>=0)=false:=by simp[encS]
  rw[e];by_cases hi:i<toks.length
  ·have g:decide ((encS toks stop ⟨i,none⟩).i>=((encS toks stop ⟨i,none⟩).toks.length:Int))=false:=by simp[encS];omega
   have f:toks[i]?=some (aU toks ⟨i,none⟩):=by simp[aU,zF hi]
   have j:idx (encS toks stop ⟨i,none⟩).toks (encS toks stop ⟨i,none⟩).i=some (aU toks ⟨i,none⟩):=by
    show idx toks (i:Int)=_
    rw[aA,f]
   have hlen:=h.len;have c:idx (encS toks stop ⟨i,none⟩).toks (w64 (w64 ((encS toks stop ⟨i,none⟩).i+1)-1))=some (aU toks ⟨i,none⟩):=by
    have l:w64 (w64 ((encS toks stop ⟨i,none⟩).i+1)-1)=(i:Int):=by
     show w64 (w64 ((i:Int)+1)-1)=_
     rw[Jz (by omega),aT (by omega) (by omega)];omega
    rw[l];show idx toks (i:Int)=_
    rw[aA,f]
   have k:=lF h ⟨i,none⟩;rw[g];simp only[aa,j,c,zA,D7 _ k.len];cases d:((aU toks ⟨i,none⟩).kind==1)with
   | false=>
    have e:((aU toks ⟨i,none⟩).kind != 1)=true:=by simp[bne,d]
    have a:kW (aU toks ⟨i,none⟩)=false:=by unfold kW;rw[d];rfl
    rw[e,a];simp
   | true=>
    have e:((aU toks ⟨i,none⟩).kind != 1)=false:=by simp[bne,d]
    rw[e];cases hv:fQ (aU toks ⟨i,none⟩).text with
    | false=>
     have a:kW (aU toks ⟨i,none⟩)=false:=by unfold kW;rw[d,hv];rfl
     rw[a];simp
    | true=>
     have a:kW (aU toks ⟨i,none⟩)=true:=by unfold kW;rw[d,hv];rfl
     rw[a];simp only[aa,aM,if_true];rw[kY (s:=⟨i,none⟩) h hi]
  ·have g:decide ((encS toks stop ⟨i,none⟩).i>=((encS toks stop ⟨i,none⟩).toks.length:Int))=true:=by simp[encS];omega
   have f:toks[i]?=none:=zJ (by omega);have a:kW (aU toks ⟨i,none⟩)=false:=by simp[aU,f,kW]
   rw[g,a];simp
structure Adv(toks:List aK)(s s':PS):Prop where
 le:s.i<=s'.i
 len:s'.i<=toks.length
 bad:∀b,s.bad=some b->s'=s
theorem Adv.refl{s:PS}(h:s.i<=toks.length):Adv toks s s:=⟨az _,h,fun _ _=>rfl⟩
theorem Adv.trans{a b c:PS}(h:Adv toks a b)(k:Adv toks b c):Adv toks a c:=⟨Nat.le_trans h.le k.le,k.len,fun x d=>by
 have e:=h.bad x d;subst e;exact k.bad x d⟩
def rem(toks:List aK)(s:PS):Nat:=match s.bad with
 | some _=>0
 | none=>toks.length-s.i
theorem Adv.rem{s s':PS}(h:Adv toks s s'):rem toks s'<=rem toks s:=by
 cases a:s.bad with
 | some b=>rw[h.bad b a];exact az _
 | none=>
  have e:Go.Proofs.YtbbmkcioplbhbaaGreatDoor.rem toks s=toks.length-s.i:=by unfold Go.Proofs.YtbbmkcioplbhbaaGreatDoor.rem;rw[a]
  rw[e];have:=h.le;unfold Go.Proofs.YtbbmkcioplbhbaaGreatDoor.rem;cases s'.bad with
  | some b=>exact Nat.zero_le _
  | none=>simp only;omega
theorem fZ{s:PS}(a:s.bad=none)(hi:s.i<toks.length):Adv toks s (bF s)/\rem toks (bF s)+1=rem toks s:=by
 refine⟨⟨by simp[bF],hi,fun b h=>by rw[a]at h;cases h⟩,?_⟩;simp only[rem,bF,a];omega
theorem Jj{s:PS}(hi:s.i<=toks.length):Adv toks s (ja s):=by
 unfold ja;cases a:s.bad with
 | some b=>exact Adv.refl hi
 | none=>exact⟨az _,hi,fun b h=>by rw[a]at h;cases h⟩
theorem abT(s:PS):∃b,(ja s).bad=some b:=by
 unfold ja;cases a:s.bad with
 | some b=>exact⟨b,a⟩
 | none=>exact⟨s.i,rfl⟩
theorem qG{s:PS}{x:Str}(hi:s.i<=toks.length):Adv toks s (fM toks s x):=by
 unfold fM;split
 ·rename_i h;exact (fZ (bK h).1 (bK h).2).1
 ·exact Jj hi
theorem aaX{s:PS}(hi:s.i<=toks.length):Adv toks s (mr toks s).1:=by
 unfold mr;split
 ·rename_i h;exact (fZ (KD h).1 (KD h).2.1).1
 ·exact Jj hi
variable {toks:List aK} {stop:Int}
mutual
def wtE:af->Nat
 | ⟨_,_,t,a⟩=>(if t.length<=120 then 1 else 18446744073709551616)+wtL a
def wtL:List af->Nat
 | []=>0
 | x::r=>wtE x+wtL r
end
theorem yP(a b:List af):wtL (a++b)=wtL a+wtL b:=by
 induction a with
 | nil=>simp[wtL]
 | cons x r ih=>simp only[List.cons_append,wtL,ih];omega
theorem wQ{k n:Int}{t:Str}{a:List af}(h:t.length<=120):wtE ⟨k,n,t,a⟩=1+wtL a:=by simp[wtE,h]
theorem DU{k n:Int}{a:List af}:wtE ⟨k,n,[],a⟩=1+wtL a:=by simp[wtE]
theorem WR(x:af):wtL [x]=wtE x:=by simp[wtL]
theorem vF(x y:af):wtL [x,y]=wtE x+wtE y:=by simp[wtL]
theorem Vm(x y z:af):wtL [x,y,z]=wtE x+(wtE y+wtE z):=by simp[wtL]
def Sim{α:Type}(w:α->Nat)(toks:List aK)(stop:Int)(f:aV->Option (aV×α))(g:GRd->Option (GRd×α))(s:PS):Prop:=
 ∃(s':PS) (x y:α),f (encI toks s)=some (encI toks s',x)/\g (encS toks stop s)=some (encS toks stop s',y)/\(s'.bad=none->x=y/\w x+s.i<=s'.i)/\Adv toks s s'
theorem jT(s:PS):(bF s).i=s.i+1:=rfl
theorem afl{s:PS}{x y:Str}(h:sees toks s x=true)(a:x≠y):sees toks s y=false:=by
 unfold sees at h ⊢;cases c:s.bad with
 | some b=>rfl
 | none=>
  rw[c]at h;simp only at h ⊢;cases d:toks[s.i]? with
  | none=>rfl
  | some t=>
   rw[d]at h;simp only[zI,beq_iff_eq]at h ⊢;have:¬t.text=y:=by rw[h.2];exact a
   simp[this]
abbrev IX:=(List aK)×Int×Int×Int×Int×Str×(List af)×Int×Int×Str×(List af)
abbrev SX:=(List aK)×Int×Int×Int×Int×Int×Str×(List af)×Int×Int×Str×(List af)
def pkI(toks:List aK)(s:PS)(e:af):IX:=((encI toks s).toks,(encI toks s).i,(encI toks s).bad,0,0,[],[],e.kind,e.n,e.text,e.args)
def pkS(toks:List aK)(stop:Int)(s:PS)(e:af):SX:=((encS toks stop s).toks,(encS toks stop s).i,(encS toks stop s).stop,(encS toks stop s).bad,0,0,[],[],e.kind,e.n,e.text,e.args)
def afz(fa:aV->Option (aV×af)):IX->Option (IX⊕(aV×af)):=(fun (a:(List aK)×Int×Int×Int×Int×Str×(List af)×Int×Int×Str×(List af))=>
  (bn (aV.mk a.1 a.2.1 a.2.2.1) [42]).bind fun c=>
  bif c.2 then
   (fa c.1).bind fun b=>
   some (.inl (b.1.toks,b.1.i,b.1.bad,a.2.2.2.1,a.2.2.2.2.1,a.2.2.2.2.2.1,a.2.2.2.2.2.2.1,6,3,[],[af.mk a.2.2.2.2.2.2.2.1 a.2.2.2.2.2.2.2.2.1 a.2.2.2.2.2.2.2.2.2.1 a.2.2.2.2.2.2.2.2.2.2,aj b.2]))
  else
   some (.inr (c.1,af.mk a.2.2.2.2.2.2.2.1 a.2.2.2.2.2.2.2.2.1 a.2.2.2.2.2.2.2.2.2.1 a.2.2.2.2.2.2.2.2.2.2))
 )
def afy(ga:GRd->Option (GRd×af)):SX->Option (SX⊕(GRd×af)):=(fun (a:(List aK)×Int×Int×Int×Int×Int×Str×(List af)×Int×Int×Str×(List af))=>
  (dZ (GRd.mk a.1 a.2.1 a.2.2.1 a.2.2.2.1) [42]).bind fun b=>
  bif b.2 then
   (ga (GRd.mk b.1.toks (w64 (b.1.i+1)) b.1.stop b.1.bad)).bind fun c=>
   (lg 3 (af.mk a.2.2.2.2.2.2.2.2.1 a.2.2.2.2.2.2.2.2.2.1 a.2.2.2.2.2.2.2.2.2.2.1 a.2.2.2.2.2.2.2.2.2.2.2) (aj c.2)).bind fun d=>
   some (.inl (c.1.toks,c.1.i,c.1.stop,c.1.bad,a.2.2.2.2.1,a.2.2.2.2.2.1,a.2.2.2.2.2.2.1,a.2.2.2.2.2.2.2.1,d.kind,d.n,d.text,d.args))
  else
   some (.inr (b.1,af.mk a.2.2.2.2.2.2.2.2.1 a.2.2.2.2.2.2.2.2.2.1 a.2.2.2.2.2.2.2.2.2.2.1 a.2.2.2.2.2.2.2.2.2.2.2))
 )
def agy(fa:aV->Option (aV×af)):IX->Option (IX⊕(aV×af)):=(fun (a:(List aK)×Int×Int×Int×Int×Str×(List af)×Int×Int×Str×(List af))=>
  bif (decide (a.2.2.1<0))then
   (bn (aV.mk a.1 a.2.1 a.2.2.1) [43]).bind fun d=>
   bif (!d.2)then
    (bn d.1 [45]).bind fun e=>
    bif (!e.2)then
     some (.inr (e.1,af.mk a.2.2.2.2.2.2.2.1 a.2.2.2.2.2.2.2.2.1 a.2.2.2.2.2.2.2.2.2.1 a.2.2.2.2.2.2.2.2.2.2))
    else
     (fa e.1).bind fun b=>
     some (.inl (b.1.toks,b.1.i,b.1.bad,a.2.2.2.1,a.2.2.2.2.1,a.2.2.2.2.2.1,a.2.2.2.2.2.2.1,6,2,[],[af.mk a.2.2.2.2.2.2.2.1 a.2.2.2.2.2.2.2.2.1 a.2.2.2.2.2.2.2.2.2.1 a.2.2.2.2.2.2.2.2.2.2,aj b.2]))
   else
    (fa d.1).bind fun c=>
    some (.inl (c.1.toks,c.1.i,c.1.bad,a.2.2.2.1,a.2.2.2.2.1,a.2.2.2.2.2.1,a.2.2.2.2.2.2.1,6,1,[],[af.mk a.2.2.2.2.2.2.2.1 a.2.2.2.2.2.2.2.2.1 a.2.2.2.2.2.2.2.2.2.1 a.2.2.2.2.2.2.2.2.2.2,aj c.2]))
  else
   some (.inr (aV.mk a.1 a.2.1 a.2.2.1,af.mk a.2.2.2.2.2.2.2.1 a.2.2.2.2.2.2.2.2.1 a.2.2.2.2.2.2.2.2.2.1 a.2.2.2.2.2.2.2.2.2.2))
 )
def agx(ga:GRd->Option (GRd×af)):SX->Option (SX⊕(GRd×af)):=(fun (a:(List aK)×Int×Int×Int×Int×Int×Str×(List af)×Int×Int×Str×(List af))=>
  (dZ (GRd.mk a.1 a.2.1 a.2.2.1 a.2.2.2.1) [43]).bind fun m=>
  bif m.2 then
   (dZ m.1 [45]).bind fun e=>
   bif e.2 then
    (ga (GRd.mk e.1.toks (w64 (e.1.i+1)) e.1.stop e.1.bad)).bind fun h=>
    (lg 2 (af.mk a.2.2.2.2.2.2.2.2.1 a.2.2.2.2.2.2.2.2.2.1 a.2.2.2.2.2.2.2.2.2.2.1 a.2.2.2.2.2.2.2.2.2.2.2) (aj h.2)).bind fun k=>
    some (.inl (h.1.toks,h.1.i,h.1.stop,h.1.bad,a.2.2.2.2.1,a.2.2.2.2.2.1,a.2.2.2.2.2.2.1,a.2.2.2.2.2.2.2.1,k.kind,k.n,k.text,k.args))
   else
    (ga (GRd.mk e.1.toks (w64 (e.1.i+1)) e.1.stop e.1.bad)).bind fun j=>
    (lg 1 (af.mk a.2.2.2.2.2.2.2.2.1 a.2.2.2.2.2.2.2.2.2.1 a.2.2.2.2.2.2.2.2.2.2.1 a.2.2.2.2.2.2.2.2.2.2.2) (aj j.2)).bind fun l=>
    some (.inl (j.1.toks,j.1.i,j.1.stop,j.1.bad,a.2.2.2.2.1,a.2.2.2.2.2.1,a.2.2.2.2.2.2.1,a.2.2.2.2.2.2.2.1,l.kind,l.n,l.text,l.args))
  else
  (dZ m.1 [45]).bind fun o=>
  bif o.2 then
   (dZ o.1 [45]).bind fun b=>
   bif b.2 then
    (ga (GRd.mk b.1.toks (w64 (b.1.i+1)) b.1.stop b.1.bad)).bind fun c=>
    (lg 2 (af.mk a.2.2.2.2.2.2.2.2.1 a.2.2.2.2.2.2.2.2.2.1 a.2.2.2.2.2.2.2.2.2.2.1 a.2.2.2.2.2.2.2.2.2.2.2) (aj c.2)).bind fun f=>
    some (.inl (c.1.toks,c.1.i,c.1.stop,c.1.bad,a.2.2.2.2.1,a.2.2.2.2.2.1,a.2.2.2.2.2.2.1,a.2.2.2.2.2.2.2.1,f.kind,f.n,f.text,f.args))
   else
    (ga (GRd.mk b.1.toks (w64 (b.1.i+1)) b.1.stop b.1.bad)).bind fun d=>
    (lg 1 (af.mk a.2.2.2.2.2.2.2.2.1 a.2.2.2.2.2.2.2.2.2.1 a.2.2.2.2.2.2.2.2.2.2.1 a.2.2.2.2.2.2.2.2.2.2.2) (aj d.2)).bind fun g=>
    some (.inl (d.1.toks,d.1.i,d.1.stop,d.1.bad,a.2.2.2.2.1,a.2.2.2.2.2.1,a.2.2.2.2.2.2.1,a.2.2.2.2.2.2.2.1,g.kind,g.n,g.text,g.args))
  else
   some (.inr (o.1,af.mk a.2.2.2.2.2.2.2.2.1 a.2.2.2.2.2.2.2.2.2.1 a.2.2.2.2.2.2.2.2.2.2.1 a.2.2.2.2.2.2.2.2.2.2.2))
 )
theorem alL(b c d fa e)(a:aV):rE b c d fa e a=(fa a).bind fun r=>au (afz fa) (r.1.toks,r.1.i,r.1.bad,0,0,[],[],r.2.kind,r.2.n,r.2.text,r.2.args):=rfl
theorem alK(b c d e ga f)(a:GRd):zf b c d e ga f a=(ga a).bind fun r=>au (afy ga) (r.1.toks,r.1.i,r.1.stop,r.1.bad,0,0,[],[],r.2.kind,r.2.n,r.2.text,r.2.args):=rfl
theorem apL(b c fa d e)(a:aV):CU b c fa d e a=(fa a).bind fun r=>au (agy fa) (r.1.toks,r.1.i,r.1.bad,0,0,[],[],r.2.kind,r.2.n,r.2.text,r.2.args):=rfl
theorem apK(b c d ga e f)(a:GRd):PY b c d ga e f a=(ga a).bind fun r=>au (agx ga) (r.1.toks,r.1.i,r.1.stop,r.1.bad,0,0,[],[],r.2.kind,r.2.n,r.2.text,r.2.args):=rfl
theorem Gs(h:dJ toks stop)(fa)(s:PS)(e:af):afz fa (pkI toks s e)=if sees toks s [42]=true then (fa (encI toks (bF s))).bind fun r=>some (.inl (r.1.toks,r.1.i,r.1.bad,0,0,[],[],6,3,[],[e,r.2]))else some (.inr (encI toks s,e)):=by
 obtain⟨ek,en,et,ea⟩:=e;have a:(aV.mk (pkI toks s ⟨ek,en,et,ea⟩).1 (pkI toks s ⟨ek,en,et,ea⟩).2.1 (pkI toks s ⟨ek,en,et,ea⟩).2.2.1)=encI toks s:=rfl;unfold afz;simp only[a,jH h s [42] rfl,zA];cases sees toks s [42]with
 | true=>simp only[ac,if_true,aS];rfl
 | false=>simp only[aa,aL,if_false];rfl
theorem Gq(h:dJ toks stop)(ga)(s:PS)(e:af):afy ga (pkS toks stop s e)=if sees toks s [42]=true then (ga (encS toks stop (bF s))).bind fun r=>some (.inl (r.1.toks,r.1.i,r.1.stop,r.1.bad,0,0,[],[],6,3,[],[e,r.2]))else some (.inr (encS toks stop s,e)):=by
 obtain⟨ek,en,et,ea⟩:=e;have a:(GRd.mk (pkS toks stop s ⟨ek,en,et,ea⟩).1 (pkS toks stop s ⟨ek,en,et,ea⟩).2.1 (pkS toks stop s ⟨ek,en,et,ea⟩).2.2.1 (pkS toks stop s ⟨ek,en,et,ea⟩).2.2.2.1)=encS toks stop s:=rfl;unfold afy;simp only[a,qI h s [42],zA];cases b:sees toks s [42]with
 | true=>
  simp only[ac,if_true];rw[kY h (bK b).2];simp only[lg,zA,aS];rfl
 | false=>simp only[aa,aL,if_false];rfl
theorem ag0(h:dJ toks stop){k g:Nat}{fa ga}(m:∀s,s.i<=toks.length->rem toks s<=k->Sim wtE toks stop fa ga s):∀(r:Nat) (s:PS) (b c:af),s.i<=toks.length->rem toks s<=r->r<=k->(s.bad=none->b=c/\wtE b+g<=s.i) ->
  ∃(s':PS) (x y:af),au (afz fa) (pkI toks s b)=some (encI toks s',x)/\au (afy ga) (pkS toks stop s c)=some (encS toks stop s',y)/\(s'.bad=none->x=y/\wtE x+g<=s'.i)/\Adv toks s s':=by
 intro r;induction r with
 | zero=>
  intro s b c e n o d;have a:sees toks s [42]=false:=by
   cases a:sees toks s [42]with
   | false=>rfl
   | true=>have:=(fZ (bK a).1 (bK a).2).2;omega
  refine⟨s,b,c,?_,?_,d,Adv.refl e⟩
  ·rw[aC,Gs h,a];rfl
  ·rw[aC,Gq h,a];rfl
 | succ r ih=>
  intro s b c e n o d;cases a:sees toks s [42]with
  | false=>
   refine⟨s,b,c,?_,?_,d,Adv.refl e⟩
   ·rw[aC,Gs h,a];rfl
   ·rw[aC,Gq h,a];rfl
  | true=>
   obtain⟨j,hrem⟩:=fZ (bK a).1 (bK a).2;obtain⟨p,x,y,q,t,u,f⟩:=m (bF s) j.len (by omega);have v:=f.rem;obtain⟨s',x',y',w,z,A,B⟩:=ih p ⟨6,3,[],[b,x]⟩ ⟨6,3,[],[c,y]⟩ f.len (by omega) (by omega) (fun C=>by
    have l:=u C;have D:=d (bK a).1;refine⟨by rw[l.1,D.1],?_⟩;have E:=l.2;rw[jT]at E;rw[DU,vF];omega)
   refine⟨s',x',y',?_,?_,A,(j.trans f).trans B⟩
   ·rw[aC,Gs h,a];simp only[if_true,q,zA];exact w
   ·rw[aC,Gq h,a];simp only[if_true,t,zA];exact z
theorem ajh(h:dJ toks stop){k:Nat}{fa ga}(b:∀s,s.i<=toks.length->rem toks s<=k->Sim wtE toks stop fa ga s)(d e f g j l m n o)(s:PS)(p:s.i<=toks.length)(q:rem toks s<=k) :
  Sim wtE toks stop (rE d e f fa g) (zf j l m n ga o) s:=by
 obtain⟨c,x,y,r,t,u,a⟩:=b s p q;have v:=a.rem;obtain⟨s',x',y',w,z,A,B⟩:=ag0 h b (rem toks c) c x y a.len (az _) (by omega) u;refine⟨s',x',y',?_,?_,A,a.trans B⟩
 ·rw[alL,r];exact w
 ·rw[alK,t];exact z
def afE{toks:List aK}(fa:aV->Option (aV×af))(s:PS)(e:af)(op:Int):Option (IX⊕(aV×af)):=(fa (encI toks (bF s))).bind fun r=>some (.inl (r.1.toks,r.1.i,r.1.bad,0,0,[],[],6,op,[],[e,r.2]))
def afD{toks:List aK}{stop:Int}(ga:GRd->Option (GRd×af))(s:PS)(e:af)(op:Int):Option (SX⊕(GRd×af)):=(ga (encS toks stop (bF s))).bind fun r=>some (.inl (r.1.toks,r.1.i,r.1.stop,r.1.bad,0,0,[],[],6,op,[],[e,r.2]))
theorem D5(h:dJ toks stop)(fa)(s:PS)(e:af):agy fa (pkI toks s e)=if sees toks s [43]=true then afE (toks:=toks) fa s e 1 else if sees toks s [45]=true then afE (toks:=toks) fa s e 2 else some (.inr (encI toks s,e)):=by
 obtain⟨ek,en,et,ea⟩:=e;have f:(aV.mk (pkI toks s ⟨ek,en,et,ea⟩).1 (pkI toks s ⟨ek,en,et,ea⟩).2.1 (pkI toks s ⟨ek,en,et,ea⟩).2.2.1)=encI toks s:=rfl;unfold agy;simp only[f];cases a:s.bad with
 | some b=>
  have c:decide ((pkI toks s ⟨ek,en,et,ea⟩).2.2.1<0)=false:=by
   show decide ((encI toks s).bad<0)=false
   simp[encI,a]
  have d:∀x,sees toks s x=false:=fun x=>by unfold sees;rw[a]
  rw[c,d,d];rfl
 | none=>
  have c:decide ((pkI toks s ⟨ek,en,et,ea⟩).2.2.1<0)=true:=by
   show decide ((encI toks s).bad<0)=true
   simp[encI,a]
  rw[c];simp only[ac,jH h s [43] rfl,zA];cases i:sees toks s [43]with
  | true=>simp only[aM,aa,if_true,aS];rfl
  | false=>
   simp only[Bool.not_false,ac,aL,if_false,jH h s [45] rfl,zA];cases g:sees toks s [45]with
   | true=>simp only[aM,aa,if_true,aS];rfl
   | false=>simp only[Bool.not_false,ac,aL,if_false];rfl
theorem DZ(h:dJ toks stop)(ga)(s:PS)(e:af):agx ga (pkS toks stop s e)=if sees toks s [43]=true then afD (toks:=toks) (stop:=stop) ga s e 1 else if sees toks s [45]=true then afD (toks:=toks) (stop:=stop) ga s e 2 else some (.inr (encS toks stop s,e)):=by
 obtain⟨ek,en,et,ea⟩:=e;have c:(GRd.mk (pkS toks stop s ⟨ek,en,et,ea⟩).1 (pkS toks stop s ⟨ek,en,et,ea⟩).2.1 (pkS toks stop s ⟨ek,en,et,ea⟩).2.2.1 (pkS toks stop s ⟨ek,en,et,ea⟩).2.2.2.1)=encS toks stop s:=rfl;unfold agx;simp only[c,qI h s,zA];cases b:sees toks s [43]with
 | true=>
  have a:=afl b (show ([43]:Str)≠[45] by decide);simp only[ac,if_true,a,aa];rw[kY h (bK b).2];simp only[lg,zA,aS];rfl
 | false=>
  simp only[aa,aL,if_false];cases a:sees toks s [45]with
  | true=>
   simp only[ac,if_true];rw[kY h (bK a).2];simp only[lg,zA,aS];rfl
  | false=>simp only[aa,aL,if_false];rfl
theorem aiy(h:dJ toks stop){k f:Nat}{fa ga}(n:∀s,s.i<=toks.length->rem toks s<=k->Sim wtE toks stop fa ga s):∀(r:Nat) (s:PS) (b d:af),s.i<=toks.length->rem toks s<=r->r<=k->(s.bad=none->b=d/\wtE b+f<=s.i) ->
  ∃(s':PS) (x y:af),au (agy fa) (pkI toks s b)=some (encI toks s',x)/\au (agx ga) (pkS toks stop s d)=some (encS toks stop s',y)/\(s'.bad=none->x=y/\wtE x+f<=s'.i)/\Adv toks s s':=by
 intro r;induction r with
 | zero=>
  intro s b d g o p e;have a:∀x,sees toks s x=false:=by
   intro x;cases a:sees toks s x with
   | false=>rfl
   | true=>have:=(fZ (bK a).1 (bK a).2).2;omega
  refine⟨s,b,d,?_,?_,e,Adv.refl g⟩
  ·rw[aC,D5 h,a,a];rfl
  ·rw[aC,DZ h,a,a];rfl
 | succ r ih=>
  intro s b d g o p e;have go:∀(x:Str) (op:Int),sees toks s x=true->agy fa (pkI toks s b)=afE (toks:=toks) fa s b op->agx ga (pkS toks stop s d)=afD (toks:=toks) (stop:=stop) ga s d op ->
    ∃(s':PS) (x y:af),au (agy fa) (pkI toks s b)=some (encI toks s',x)/\au (agx ga) (pkS toks stop s d)=some (encS toks stop s',y)/\(s'.bad=none->x=y/\wtE x+f<=s'.i)/\Adv toks s s':=by
   intro I op a q t;obtain⟨l,hrem⟩:=fZ (bK a).1 (bK a).2;obtain⟨u,x,y,v,w,z,j⟩:=n (bF s) l.len (by omega);have A:=j.rem;obtain⟨s',x',y',B,C,D,E⟩:=ih u ⟨6,op,[],[b,x]⟩ ⟨6,op,[],[d,y]⟩ j.len (by omega) (by omega) (fun F=>by
    have m:=z F;have G:=e (bK a).1;refine⟨by rw[m.1,G.1],?_⟩;have H:=m.2;rw[jT]at H;rw[DU,vF];omega)
   refine⟨s',x',y',?_,?_,D,(l.trans j).trans E⟩
   ·rw[aC,q];simp only[afE,v,zA];exact B
   ·rw[aC,t];simp only[afD,w,zA];exact C
  cases a:sees toks s [43]with
  | true=>exact go [43] 1 a (by rw[D5 h,a,if_pos rfl]) (by rw[DZ h,a,if_pos rfl])
  | false=>
   cases c:sees toks s [45]with
   | true=>exact go [45] 2 c (by rw[D5 h,a,c,if_neg Bool.false_ne_true,if_pos rfl]) (by rw[DZ h,a,c,if_neg Bool.false_ne_true,if_pos rfl])
   | false=>
    refine⟨s,b,d,?_,?_,e,Adv.refl g⟩
    ·rw[aC,D5 h,a,c];rfl
    ·rw[aC,DZ h,a,c];rfl
theorem alj(h:dJ toks stop){k:Nat}{fa ga}(b:∀s,s.i<=toks.length->rem toks s<=k->Sim wtE toks stop fa ga s)(d e f g j l m n o)(s:PS)(p:s.i<=toks.length)(q:rem toks s<=k) :
  Sim wtE toks stop (CU d e fa f g) (PY j l m ga n o) s:=by
 obtain⟨c,x,y,r,t,u,a⟩:=b s p q;have v:=a.rem;obtain⟨s',x',y',w,z,A,B⟩:=aiy h b (rem toks c) c x y a.len (az _) (by omega) u;refine⟨s',x',y',?_,?_,A,a.trans B⟩
 ·rw[apL,r];exact w
 ·rw[apK,t];exact z
abbrev IL:=(List aK)×Int×Int×Str×(List af)
abbrev SL:=(List aK)×Int×Int×Int×Str×(List af)
def plI(toks:List aK)(s:PS)(b:Str)(o:List af):IL:=((encI toks s).toks,(encI toks s).i,(encI toks s).bad,b,o)
def plS(toks:List aK)(stop:Int)(s:PS)(b:Str)(o:List af):SL:=((encS toks stop s).toks,(encS toks stop s).i,(encS toks stop s).stop,(encS toks stop s).bad,b,o)
def IU(fa:aV->Option (aV×af)):IL->Option (IL⊕(aV×List af)):=(fun (a:(List aK)×Int×Int×Str×(List af))=>
  bif (decide (a.2.2.1<0))then
   (fa (aV.mk a.1 a.2.1 a.2.2.1)).bind fun b=>
   (gd (a.2.2.2.2.length+[aj b.2].length)).bind fun _=>
   (bn b.1 a.2.2.2.1).bind fun c=>
   bif c.2 then
    some (.inr (c.1,a.2.2.2.2++[aj b.2]))
   else
    (bV c.1 [44]).bind fun d=>
    some (.inl (d.toks,d.i,d.bad,a.2.2.2.1,a.2.2.2.2++[aj b.2]))
  else
   some (.inr (aV.mk a.1 a.2.1 a.2.2.1,a.2.2.2.2))
 )
def IQ(ga:GRd->Option (GRd×af)):SL->Option (SL⊕(GRd×List af)):=(fun (a:(List aK)×Int×Int×Int×Str×(List af))=>
  bif (decide (a.2.2.2.1<0))then
   (ga (GRd.mk a.1 a.2.1 a.2.2.1 a.2.2.2.1)).bind fun c=>
   (gd (a.2.2.2.2.2.length+[aj c.2].length)).bind fun _=>
   (dZ c.1 [44]).bind fun b=>
   bif (!b.2)then
    (
     (eP b.1 a.2.2.2.2.1).bind fun d=>
     some (d,a.2.2.2.2.2++[aj c.2])
    ).bind fun r=>some (.inr r)
   else
    some (.inl (b.1.toks,w64 (b.1.i+1),b.1.stop,b.1.bad,a.2.2.2.2.1,a.2.2.2.2.2++[aj c.2]))
  else
   (
    (eP (GRd.mk a.1 a.2.1 a.2.2.1 a.2.2.2.1) a.2.2.2.2.1).bind fun e=>
    some (e,a.2.2.2.2.2)
   ).bind fun r=>some (.inr r)
 )
theorem afG(fa d e f g)(a:aV)(b:Str):mV fa d e f g a b=(bn a b).bind fun c=>bif c.2 then some (c.1,[])else au (IU fa) (c.1.toks,c.1.i,c.1.bad,b,[]):=rfl
theorem afF(ga d e f g h)(a:GRd)(b:Str):xq ga d e f g h a b=(dZ a b).bind fun c=>bif c.2 then some (GRd.mk c.1.toks (w64 (c.1.i+1)) c.1.stop c.1.bad,[])else au (IQ ga) (c.1.toks,c.1.i,c.1.stop,c.1.bad,b,[]):=rfl
theorem akV{s:PS}:decide ((encI toks s).bad<0)=s.bad.isNone:=by
 unfold encI;cases s.bad with
 | none=>rfl
 | some b=>simp
theorem akU(h:dJ toks stop){s:PS}:decide ((encS toks stop s).bad<0)=s.bad.isNone:=by
 unfold encS;cases s.bad with
 | none=>rfl
 | some b=>
  have:=lT h b;simp;omega
theorem gdp{n:Nat}(h:n<=34359738368):gd n=some ():=by unfold gd;simp[h]
theorem QY(fa){s:PS}(a:s.bad.isNone=false)(b:Str)(o:List af):au (IU fa) (plI toks s b o)=some (encI toks s,o):=by
 rw[aC];have e:IU fa (plI toks s b o)=some (.inr (encI toks s,o)):=by
  unfold IU;show (bif decide ((encI toks s).bad<0)then _ else _)=_
  rw[akV,a];rfl
 rw[e]
theorem ako{s:PS}(a:s.bad.isNone=false):ja s=s:=by
 unfold ja;cases h:s.bad with
 | some b=>rfl
 | none=>rw[h]at a;cases a
theorem ad3(h:dJ toks stop)(ga){s:PS}(a:s.bad.isNone=false)(b:Str)(o:List af):au (IQ ga) (plS toks stop s b o)=some (encS toks stop s,o):=by
 rw[aC];have e:IQ ga (plS toks stop s b o)=some (.inr (encS toks stop s,o)):=by
  unfold IQ;show (bif decide ((encS toks stop s).bad<0)then _ else ((eP (encS toks stop s) b).bind fun c=>some (c,o)).bind fun r=>some (Sum.inr r))=_
  have d:fM toks s b=s:=by
   have:sees toks s b=false:=by
    unfold sees;cases h:s.bad with
    | some b=>rfl
    | none=>rw[h]at a;cases a
   unfold fM;rw[this,if_neg Bool.false_ne_true,ako a]
  rw[akU h,a,ug h,d];rfl
 rw[e]
theorem ahe(h:dJ toks stop){k q:Nat}{fa ga}(M:∀s,s.i<=toks.length->rem toks s<=k->Sim wtE toks stop fa ga s)(b:Str)(C:letter b=false)(D:b≠[44]):∀(r:Nat) (s:PS) (c d:List af),s.i<=toks.length->rem toks s<=r->r<=k->c.length<=s.i->d.length<=s.i->(s.bad=none->c=d/\wtL c+q<=s.i) ->
  ∃(s':PS) (x y:List af),au (IU fa) (plI toks s b c)=some (encI toks s',x)/\au (IQ ga) (plS toks stop s b d)=some (encS toks stop s',y)/\(s'.bad=none->x=y/\wtL x+q<=s'.i)/\Adv toks s s':=by
 have step:∀(s:PS) (c d:List af),s.i<=toks.length->rem toks s<=k->c.length<=s.i->d.length<=s.i->(s.bad=none->c=d/\wtL c+q<=s.i) ->
   (∀(a:PS) (l o:List af),a.i<=toks.length->rem toks a+1<=rem toks s->l.length<=a.i->o.length<=a.i->(a.bad=none->l=o/\wtL l+q<=a.i)->∃(s':PS) (x y:List af),au (IU fa) (plI toks a b l)=some (encI toks s',x)/\au (IQ ga) (plS toks stop a b o)=some (encS toks stop s',y)/\(s'.bad=none->x=y/\wtL x+q<=s'.i)/\Adv toks a s') ->
   ∃(s':PS) (x y:List af),au (IU fa) (plI toks s b c)=some (encI toks s',x)/\au (IQ ga) (plS toks stop s b d)=some (encS toks stop s',y)/\(s'.bad=none->x=y/\wtL x+q<=s'.i)/\Adv toks s s':=by
  intro s c d t E h1 h2 u ih;cases v:s.bad.isNone with
  | false=>exact⟨s,c,d,QY fa v b c,ad3 h ga v b d,u,Adv.refl t⟩
  | true=>
   have hlen:=h.len;obtain⟨a,x,y,N,O,J,w⟩:=M s t E;have F:s.bad=none:=by cases hh:s.bad with
    | none=>rfl
    | some b=>rw[hh]at v;cases v
   have m:=u F;have eI:IU fa (plI toks s b c)=(if sees toks a b=true then some (Sum.inr (encI toks (bF a),c++[x]))else some (Sum.inl (plI toks (fM toks a [44]) b (c++[x])))):=by
    unfold IU;show (bif decide ((encI toks s).bad<0)then (fa (encI toks s)).bind fun n=>(gd (c.length+[aj n.2].length)).bind fun _=>(bn n.1 b).bind fun j=>bif j.2 then some (Sum.inr (j.1,c++[aj n.2]))else (bV j.1 [44]).bind fun z=>some (Sum.inl (z.toks,z.i,z.bad,b,c++[aj n.2]))else _)=_
    rw[akV,v];simp only[ac,N,zA,aS,jH h a b C];rw[gdp (by simp;omega)];simp only[zA];cases g:sees toks a b with
    | true=>simp
    | false=>
     simp only[aa,aL,if_false,yt h,zA];rfl
   have eS:IQ ga (plS toks stop s b d)=(if sees toks a [44]=true then some (Sum.inl (plS toks stop (bF a) b (d++[y])))else some (Sum.inr (encS toks stop (fM toks a b),d++[y]))):=by
    unfold IQ;show (bif decide ((encS toks stop s).bad<0)then (ga (encS toks stop s)).bind fun n=>(gd (d.length+[aj n.2].length)).bind fun _=>(dZ n.1 [44]).bind fun j=>bif (!j.2)then (((eP j.1 b).bind fun z=>some (z,d++[aj n.2])).bind fun r=>some (Sum.inr r))else some (Sum.inl (j.1.toks,w64 (j.1.i+1),j.1.stop,j.1.bad,b,d++[aj n.2]))else _)=_
    rw[akU h,v];simp only[ac,O,zA,aS,qI h a [44]];rw[gdp (by simp;omega)];simp only[zA];cases g:sees toks a [44]with
    | true=>
     simp only[aM,aa,if_true];have:=kY (toks:=toks) (stop:=stop) (s:=a) h (bK g).2;have G:=congrArg GRd.i this;have G:w64 ((encS toks stop a).i+1)=(encS toks stop (bF a)).i:=G;rw[G];rfl
    | false=>simp only[Bool.not_false,ac,aL,if_false,ug h,zA]
   cases g:sees toks a b with
   | true=>
    have f:=afl g D;obtain⟨B,_⟩:=fZ (bK g).1 (bK g).2;refine⟨bF a,c++[x],d++[y],?_,?_,fun hh=>(by
     have p:=J (bK g).1;refine⟨by rw[m.1,p.1],?_⟩;have K:=p.2;have H:=m.2;rw[yP,WR,jT];omega),w.trans B⟩
    ·rw[aC,eI,g];rfl
    ·rw[aC,eS,f];simp only[aL,if_false];unfold fM;rw[g,if_pos rfl]
   | false=>
    cases f:sees toks a [44]with
    | true=>
     obtain⟨B,L⟩:=fZ (bK f).1 (bK f).2;have P:=w.rem;have Q:=w.le;obtain⟨s',x',y',l,o,R,S⟩:=ih (bF a) (c++[x]) (d++[y]) B.len (by omega) (by simp[bF];omega) (by simp[bF];omega) (fun _=>by
      have p:=J (bK f).1;refine⟨by rw[m.1,p.1],?_⟩;have K:=p.2;have H:=m.2;rw[yP,WR,jT];omega)
     refine⟨s',x',y',?_,?_,R,(w.trans B).trans S⟩
     ·rw[aC,eI,g];simp only[aL,if_false];have e:fM toks a [44]=bF a:=by unfold fM;rw[f,if_pos rfl]
      rw[e];exact l
     ·rw[aC,eS,f];exact o
    | false=>
     have e:fM toks a [44]=ja a:=by unfold fM;rw[f,if_neg Bool.false_ne_true]
     have T:fM toks a b=ja a:=by unfold fM;rw[g,if_neg Bool.false_ne_true]
     obtain⟨X,A⟩:=abT a;have I:(ja a).bad.isNone=false:=by rw[A];rfl
     refine⟨ja a,c++[x],d++[y],?_,?_,fun hh=>(by rw[A]at hh;cases hh),w.trans (Jj w.len)⟩
     ·rw[aC,eI,g];simp only[aL,if_false,e];exact QY fa I b _
     ·rw[aC,eS,f];simp only[aL,if_false,T]
 intro r;induction r with
 | zero=>
  intro s c d t L E h1 h2 u;exact step s c d t (by omega) h1 h2 u fun a l o _ U=>by omega
 | succ r ih=>
  intro s c d t L E h1 h2 u;exact step s c d t (by omega) h1 h2 u fun a l o p K H V W=>ih a l o p (by omega) (by omega) H V W
theorem ajL(h:dJ toks stop){k:Nat}{fa ga}(r:∀s,s.i<=toks.length->rem toks s<=k->Sim wtE toks stop fa ga s)(b:Str)(c:letter b=false)(e:b≠[44])(f g j l m n o p q)(s:PS)(t:s.i<=toks.length)(u:rem toks s<=k) :
  Sim wtL toks stop (fun a=>mV fa f g j l a b) (fun a=>xq ga m n o p q a b) s:=by
 cases d:sees toks s b with
 | true=>
  obtain⟨v,_⟩:=fZ (bK d).1 (bK d).2;refine⟨bF s,[],[],?_,?_,fun _=>⟨rfl,by rw[jT];simp[wtL]⟩,v⟩
  ·show mV fa f g j l (encI toks s) b=_
   rw[afG,jH h s b c,d];rfl
  ·show xq ga m n o p q (encS toks stop s) b=_
   rw[afF,qI h s b,d];simp only[zA,ac];rw[kY h (bK d).2]
 | false=>
  obtain⟨s',x',y',w,x,y,z⟩:=ahe h r b c e (rem toks s) s [] [] t (az _) u (Nat.zero_le _) (Nat.zero_le _) (fun _=>⟨rfl,by show 0+s.i<=s.i;omega⟩);refine⟨s',x',y',?_,?_,y,z⟩
  ·show mV fa f g j l (encI toks s) b=_
   rw[afG,jH h s b c,d];exact w
  ·show xq ga m n o p q (encS toks stop s) b=_
   rw[afF,qI h s b,d];exact x
variable {toks:List aK} {stop:Int}
theorem apY{α:Type}{c:Bool}{x y:Option α}(a:∃r,x=some r)(b:∃r,y=some r):∃r,(bif c then x else y)=some r:=by
 cases c
 ·exact b
 ·exact a
theorem amF(a:Str):∃r,dQ a=some r:=by
 unfold dQ;repeat refine apY ⟨_,rfl⟩ ?_
 exact⟨_,rfl⟩
def Ls(a:Str):Int:=(dQ a).getD (-1)
theorem aaz(a:Str):dQ a=some (Ls a):=by
 obtain⟨r,h⟩:=amF a;unfold Ls;rw[h];rfl
theorem aki(a:Str):fC a=some (Ls a):=(akh a).trans (aaz a)
def Vw(toks:List aK)(fe:aV->Option (aV×af))(fl:aV->Str->Option (aV×List af))(s:PS):Option (aV×af):=
 if sees toks s [91]=true then (fl (encI toks (bF s)) [93]).bind fun r=>some (r.1,⟨4,0,[],r.2⟩)
 else if sees toks s [40]=true then (fe (encI toks (bF s))).bind fun r=>(bV r.1 [41]).bind fun a=>some (a,r.2)
 else some (encI toks (ja s),⟨0,0,[],[]⟩)
def Hw(toks:List aK)(stop:Int)(ge:GRd->Option (GRd×af))(gl:GRd->Str->Option (GRd×List af))(s:PS):Option (GRd×af):=
 if sees toks s [91]=true then (gl (encS toks stop (bF s)) [93]).bind fun r=>some (r.1,⟨4,0,[],r.2⟩)
 else if sees toks s [40]=true then (ge (encS toks stop (bF s))).bind fun r=>(eP r.1 [41]).bind fun a=>some (a,r.2)
 else some (encS toks stop (ja s),⟨0,0,[],[]⟩)
def ak0(toks:List aK)(fe:aV->Option (aV×af))(fl:aV->Str->Option (aV×List af))(s:PS):Option (aV×af):=
 if (aU toks s).kind=2 then some (encI toks (bF s),⟨1,(aU toks s).n,[],[]⟩)
 else if (aU toks s).kind=3 then some (encI toks (bF s),⟨2,0,(aU toks s).text,[]⟩)
 else if (aU toks s).kind=1 then
  if fQ (aU toks s).text=true then some (encI toks (bF s),⟨3,0,(aU toks s).text,[]⟩)
  else if 0<=Ls (aU toks s).text then (fl (encI toks (fM toks (bF s) [40])) [41]).bind fun r=>some (r.1,⟨5,0,(aU toks s).text,r.2⟩)
  else Vw toks fe fl s
 else Vw toks fe fl s
def akY(toks:List aK)(stop:Int)(ge:GRd->Option (GRd×af))(gl:GRd->Str->Option (GRd×List af))(s:PS):Option (GRd×af):=
 if (aU toks s).kind=2 then some (encS toks stop (bF s),⟨1,(aU toks s).n,[],[]⟩)
 else if (aU toks s).kind=3 then some (encS toks stop (bF s),⟨2,0,(aU toks s).text,[]⟩)
 else if (aU toks s).kind=1 then
  if fQ (aU toks s).text=true then some (encS toks stop (bF s),⟨3,0,(aU toks s).text,[]⟩)
  else if 0<=Ls (aU toks s).text then (gl (encS toks stop (fM toks (bF s) [40])) [41]).bind fun r=>some (r.1,⟨5,0,(aU toks s).text,r.2⟩)
  else Hw toks stop ge gl s
 else Hw toks stop ge gl s
theorem ZP(h:dJ toks stop)(fe fl)(s:PS):((bn (encI toks s) [91]).bind fun b=>
      bif b.2 then (fl b.1 [93]).bind fun e=>some (e.1,af.mk 4 0 [] e.2)
      else (bn b.1 [40]).bind fun c=>bif c.2 then (fe c.1).bind fun f=>(bV f.1 [41]).bind fun d=>some (d,aj f.2)
       else (iw c.1).bind fun a=>some (a.1,aj a.2))=Vw toks fe fl s:=by
 unfold Vw;rw[jH h s [91] rfl];simp only[zA,aS];cases i:sees toks s [91]with
 | true=>simp
 | false=>
  simp only[aa,aL,if_false,jH h s [40] rfl,zA];cases g:sees toks s [40]with
  | true=>simp
  | false=>simp[RY]
theorem akZ(h:dJ toks stop)(fe j k l fl)(s:PS):sF fe j k l fl (encI toks s)=ak0 toks fe fl s:=by
 have g:=lF h s;unfold sF ak0;rw[yj h];simp only[zA,Ey _ g.len,aki];have a:¬(aU toks s).kind=0->(aV.mk (encI toks s).toks (w64 ((encI toks s).i+1)) (encI toks s).bad)=encI toks (bF s):=fun m=>Dc h (qQ m).2.1
 by_cases b:(aU toks s).kind=2
 ·have e:((aU toks s).kind==2)=true:=by simp[b]
  rw[e,if_pos b,a (by rw[b];decide)];rfl
 ·have n:((aU toks s).kind==2)=false:=by simp[b]
  rw[n,if_neg b];simp only[aa];by_cases c:(aU toks s).kind=3
  ·have e:((aU toks s).kind==3)=true:=by simp[c]
   rw[e,if_pos c,a (by rw[c];decide)];rfl
  ·have o:((aU toks s).kind==3)=false:=by simp[c]
   rw[o,if_neg c];simp only[aa];by_cases d:(aU toks s).kind=1
   ·have e:((aU toks s).kind==1)=true:=by simp[d]
    rw[e,if_pos d,a (by rw[d];decide)];simp only[ac];cases hv:fQ (aU toks s).text with
    | true=>rfl
    | false=>
     simp only[aa,aL,if_false];by_cases f:0<=Ls (aU toks s).text
     ·have ea:decide (Ls (aU toks s).text>=0)=true:=by simpa using f
      rw[ea,if_pos f];simp only[ac,yt h,zA]
     ·have ea:decide (Ls (aU toks s).text>=0)=false:=by simpa using f
      rw[ea,if_neg f];simp only[aa];exact ZP h fe fl s
   ·have e:((aU toks s).kind==1)=false:=by simp[d]
    rw[e,if_neg d];simp only[aa];exact ZP h fe fl s
theorem ZO(h:dJ toks stop)(ge gl){s:PS}(j:s.bad=none)(hi:s.i<toks.length):((iE (aU toks s) [91]).bind fun d=>
  bif d then (gl (GRd.mk (encS toks stop s).toks (w64 ((encS toks stop s).i+1)) (encS toks stop s).stop (encS toks stop s).bad) [93]).bind fun a=>some (a.1,af.mk 4 0 [] a.2)
  else (iE (aU toks s) [40]).bind fun e=>bif e then (ge (GRd.mk (encS toks stop s).toks (w64 ((encS toks stop s).i+1)) (encS toks stop s).stop (encS toks stop s).bad)).bind fun b=>(eP b.1 [41]).bind fun f=>some (f,aj b.2)
   else (iJ (encS toks stop s)).bind fun c=>some (c.1,aj c.2))=Hw toks stop ge gl s:=by
 unfold Hw;simp only[afm,Hy h s [91] rfl,Hy h s [40] rfl,zA,aS,kY h hi,uq h];cases k:sees toks s [91]with
 | true=>simp
 | false=>
  simp only[aa,aL,if_false];cases g:sees toks s [40]with
  | true=>simp
  | false=>simp
theorem akX(h:dJ toks stop)(ge q t u v gl)(s:PS):Ee ge q t u v gl (encS toks stop s)=akY toks stop ge gl s:=by
 have j:=lF h s;unfold Ee akY;simp only[uq h,zA,aS];have dead:∀(k:aU toks s=⟨0,0,0,[]⟩),some (encS toks stop (ja s),(⟨0,0,[],[]⟩:af))=(if (aU toks s).kind=2 then some (encS toks stop (bF s),⟨1,(aU toks s).n,[],[]⟩)
   else if (aU toks s).kind=3 then some (encS toks stop (bF s),⟨2,0,(aU toks s).text,[]⟩)
   else if (aU toks s).kind=1 then
    if fQ (aU toks s).text=true then some (encS toks stop (bF s),⟨3,0,(aU toks s).text,[]⟩)
    else if 0<=Ls (aU toks s).text then (gl (encS toks stop (fM toks (bF s) [40])) [41]).bind fun r=>some (r.1,⟨5,0,(aU toks s).text,r.2⟩)
    else Hw toks stop ge gl s
   else Hw toks stop ge gl s):=by
  intro k;have p:∀x,letter x=false->sees toks s x=false:=fun x w=>by rw[<- Hy h s x w,k];rfl
  rw[k];unfold Hw;rw[p [91] rfl,p [40] rfl];rfl
 cases a:s.bad with
 | some b=>
  have:=lT h b;have e:decide ((encS toks stop s).bad>=0)=true:=by simp[encS,a];omega
  rw[e];simp only[ac];exact dead (by unfold aU;rw[a])
 | none=>
  have e:decide ((encS toks stop s).bad>=0)=false:=by simp[encS,a]
  rw[e];simp only[aa];by_cases hi:s.i<toks.length
  ·have l:decide ((encS toks stop s).i>=((encS toks stop s).toks.length:Int))=false:=by simp[encS];omega
   have m:toks[s.i]?=some (aU toks s):=by simp[aU,a,zF hi]
   have o:idx (encS toks stop s).toks (encS toks stop s).i=some (aU toks s):=by
    show idx toks (s.i:Int)=_
    rw[aA,m]
   rw[l];simp only[aa,o,zA,D7 _ j.len,aaz,XP,P8,aS];by_cases c:(aU toks s).kind=2
   ·have e:((aU toks s).kind==2)=true:=by simp[c]
    rw[e,if_pos c,kY h hi];rfl
   ·have y:((aU toks s).kind==2)=false:=by simp[c]
    rw[y,if_neg c];simp only[aa];by_cases d:(aU toks s).kind=3
    ·have e:((aU toks s).kind==3)=true:=by simp[d]
     rw[e,if_pos d,kY h hi];rfl
    ·have z:((aU toks s).kind==3)=false:=by simp[d]
     rw[z,if_neg d];simp only[aa];by_cases f:(aU toks s).kind=1
     ·have e:((aU toks s).kind==1)=true:=by simp[f]
      rw[e,if_pos f];simp only[ac];cases hv:fQ (aU toks s).text with
      | true=>simp only[ac,if_true,kY h hi]
      | false=>
       simp only[aa,aL,if_false];by_cases g:0<=Ls (aU toks s).text
       ·have ea:decide (Ls (aU toks s).text>=0)=true:=by simpa using g
        rw[ea,if_pos g,kY h hi];simp only[ac,ug h,zA]
       ·have ea:decide (Ls (aU toks s).text>=0)=false:=by simpa using g
        rw[ea,if_neg g];simp only[aa];have:=ZO h ge gl a hi;simp only[aS,uq h,zA]at this;exact this
     ·have e:((aU toks s).kind==1)=false:=by simp[f]
      rw[e,if_neg f];simp only[aa];have:=ZO h ge gl a hi;simp only[aS,uq h,zA]at this;exact this
  ·have l:decide ((encS toks stop s).i>=((encS toks stop s).toks.length:Int))=true:=by simp[encS];omega
   have m:toks[s.i]?=none:=zJ (by omega);rw[l];simp only[ac];exact dead (by unfold aU;rw[a];simp[m])
theorem DN{s s':PS}(h:Adv toks s s')(a:s'.bad=none):s.bad=none:=by
 cases c:s.bad with
 | none=>rfl
 | some b=>rw[h.bad b c,c]at a;cases a
theorem aim(h:dJ toks stop){k:Nat}{fe ge fl gl}(t:∀s,s.i<=toks.length->rem toks s+1<=k->Sim wtE toks stop fe ge s)
  (u:∀b,letter b=false->b≠[44]->∀s,s.i<=toks.length->rem toks s+1<=k->Sim wtL toks stop (fun a=>fl a b) (fun a=>gl a b) s) (s:PS) (v:s.i<=toks.length) (z:rem toks s<=k) :
  ∃(s':PS) (x y:af),Vw toks fe fl s=some (encI toks s',x)/\Hw toks stop ge gl s=some (encS toks stop s',y)/\(s'.bad=none->x=y/\wtE x+s.i<=s'.i)/\Adv toks s s':=by
 unfold Vw Hw;cases r:sees toks s [91]with
 | true=>
  obtain⟨d,w⟩:=fZ (bK r).1 (bK r).2;obtain⟨j,x,y,l,m,n,g⟩:=u [93] rfl (by decide) (bF s) d.len (by omega);refine⟨j,⟨4,0,[],x⟩,⟨4,0,[],y⟩,?_,?_,fun c=>(by
   have e:=n c;refine⟨by rw[e.1],?_⟩;have o:=e.2;rw[jT]at o;rw[DU];omega),d.trans g⟩
  ·simp only[if_true];rw[show fl (encI toks (bF s)) [93]=_ from l];rfl
  ·simp only[if_true];rw[show gl (encS toks stop (bF s)) [93]=_ from m];rfl
 | false=>
  simp only[aL,if_false];cases f:sees toks s [40]with
  | true=>
   obtain⟨d,w⟩:=fZ (bK f).1 (bK f).2;obtain⟨j,x,y,l,m,n,g⟩:=t (bF s) d.len (by omega);have p:=qG (x:=[41]) g.len;refine⟨fM toks j [41],x,y,?_,?_,fun c=>(by
    have e:=n (DN p c);refine⟨e.1,?_⟩;have o:=e.2;rw[jT]at o;have A:=p.le;omega),(d.trans g).trans p⟩
   ·simp only[if_true,l,zA,yt h]
   ·simp only[if_true,m,zA,ug h]
  | false=>
   simp only[aL,if_false];obtain⟨B,q⟩:=abT s;exact⟨ja s,_,_,rfl,rfl,fun c=>(by rw[q]at c;cases c),Jj v⟩
theorem Yw{s:PS}{t:aK}(h:WM t){k n:Int}{x:Str}(a:x=[]\/x=t.text):wtE ⟨k,n,x,[]⟩+s.i<=(bF s).i:=by
 have b:x.length<=120:=by
  rcases a with rfl | rfl
  ·simp
  ·exact h.len
 rw[wQ b,jT];simp[wtL];omega
theorem akW(h:dJ toks stop){k:Nat}{fe ge fl gl}(o:∀s,s.i<=toks.length->rem toks s+1<=k->Sim wtE toks stop fe ge s)
  (l:∀b,letter b=false->b≠[44]->∀s,s.i<=toks.length->rem toks s+1<=k->Sim wtL toks stop (fun a=>fl a b) (fun a=>gl a b) s) (p q r t u v w) (s:PS) (z:s.i<=toks.length) (A:rem toks s<=k) :
  Sim wtE toks stop (sF fe p q r fl) (Ee ge t u v w gl) s:=by
 unfold Sim;rw[akZ h,akX h];have m:=aim h o l s z A;unfold ak0 akY;by_cases d:(aU toks s).kind=2
 ·obtain⟨c,_⟩:=fZ (qQ (s:=s) (by rw[d];decide)).1 (qQ (s:=s) (by rw[d];decide)).2.1;rw[if_pos d,if_pos d];exact⟨bF s,_,_,rfl,rfl,fun _=>⟨rfl,Yw (lF h s) (by first | exact .inl rfl | exact .inr rfl)⟩,c⟩
 rw[if_neg d,if_neg d];by_cases e:(aU toks s).kind=3
 ·obtain⟨c,_⟩:=fZ (qQ (s:=s) (by rw[e];decide)).1 (qQ (s:=s) (by rw[e];decide)).2.1;rw[if_pos e,if_pos e];exact⟨bF s,_,_,rfl,rfl,fun _=>⟨rfl,Yw (lF h s) (by first | exact .inl rfl | exact .inr rfl)⟩,c⟩
 rw[if_neg e,if_neg e];by_cases f:(aU toks s).kind=1
 ·obtain⟨c,J⟩:=fZ (qQ (s:=s) (by rw[f];decide)).1 (qQ (s:=s) (by rw[f];decide)).2.1;rw[if_pos f,if_pos f];cases hv:fQ (aU toks s).text with
  | true=>
   simp only[if_true];exact⟨bF s,_,_,rfl,rfl,fun _=>⟨rfl,Yw (lF h s) (by first | exact .inl rfl | exact .inr rfl)⟩,c⟩
  | false=>
   simp only[aL,if_false];by_cases g:0<=Ls (aU toks s).text
   ·rw[if_pos g,if_pos g];have j:=qG (x:=[40]) c.len;have B:=j.rem;obtain⟨C,x,y,D,E,F,G⟩:=l [41] rfl (by decide) (fM toks (bF s) [40]) j.len (by omega);refine⟨C,⟨5,0,(aU toks s).text,x⟩,⟨5,0,(aU toks s).text,y⟩,?_,?_,fun H=>(by
     have n:=F H;refine⟨by rw[n.1],?_⟩;have K:=n.2;have I:=j.le;rw[jT]at I;rw[wQ (lF h s).len];omega),(c.trans j).trans G⟩
    ·rw[show fl (encI toks (fM toks (bF s) [40])) [41]=_ from D];rfl
    ·rw[show gl (encS toks stop (fM toks (bF s) [40])) [41]=_ from E];rfl
   ·rw[if_neg g,if_neg g];exact m
 ·rw[if_neg f,if_neg f];exact m
abbrev CX:=(List aK)×Int×Int×Int×Int×Str×(List af)×Int×Int×Str×(List af)×(List Int)×Int×Int
def Tc(fs:aV->Option (aV×af)):CX->Option (CX⊕(aV×af)):=(fun (a:(List aK)×Int×Int×Int×Int×Str×(List af)×Int×Int×Str×(List af)×(List Int)×Int×Int)=>
  bif (decide (a.2.2.2.2.2.2.2.2.2.2.2.2.2<a.2.2.2.2.2.2.2.2.2.2.2.2.1))then
   (idx a.2.2.2.2.2.2.2.2.2.2.2.1 a.2.2.2.2.2.2.2.2.2.2.2.2.2).bind fun _=>
   (a.2.2.2.2.2.2.2.2.2.2.2.1[a.2.2.2.2.2.2.2.2.2.2.2.2.2.toNat]?).bind fun c=>
   (tu c).bind fun e=>
   (bn (aV.mk a.1 a.2.1 a.2.2.1) e).bind fun b=>
   bif b.2 then
    (fs b.1).bind fun d=>
    some (.inr (d.1,af.mk 6 c [] [af.mk a.2.2.2.2.2.2.2.1 a.2.2.2.2.2.2.2.2.1 a.2.2.2.2.2.2.2.2.2.1 a.2.2.2.2.2.2.2.2.2.2.1,aj d.2]))
   else
    some (.inl (b.1.toks,b.1.i,b.1.bad,a.2.2.2.1,a.2.2.2.2.1,a.2.2.2.2.2.1,a.2.2.2.2.2.2.1,a.2.2.2.2.2.2.2.1,a.2.2.2.2.2.2.2.2.1,a.2.2.2.2.2.2.2.2.2.1,a.2.2.2.2.2.2.2.2.2.2.1,a.2.2.2.2.2.2.2.2.2.2.2.1,a.2.2.2.2.2.2.2.2.2.2.2.2.1,w64 (a.2.2.2.2.2.2.2.2.2.2.2.2.2+1)))
  else
   some (.inr (aV.mk a.1 a.2.1 a.2.2.1,af.mk a.2.2.2.2.2.2.2.1 a.2.2.2.2.2.2.2.2.1 a.2.2.2.2.2.2.2.2.2.1 a.2.2.2.2.2.2.2.2.2.2.1))
 )
def pkC(toks:List aK)(s:PS)(e:af)(j:Int):CX:=((encI toks s).toks,(encI toks s).i,(encI toks s).bad,0,0,[],[],e.kind,e.n,e.text,e.args,[4,5],2,j)
def amz(toks:List aK)(fs:aV->Option (aV×af))(s:PS)(e:af):Option (aV×af):=
 if sees toks s [60]=true then (fs (encI toks (bF s))).bind fun r=>some (r.1,⟨6,4,[],[e,r.2]⟩)
 else if sees toks s [61,61]=true then (fs (encI toks (bF s))).bind fun r=>some (r.1,⟨6,5,[],[e,r.2]⟩)
 else some (encI toks s,e)
theorem cmp_eq(h:dJ toks stop)(fs)(s:PS)(e:af):au (Tc fs) (pkC toks s e 0)=amz toks fs s e:=by
 obtain⟨ek,en,et,ea⟩:=e;have d:Tc fs (pkC toks s ⟨ek,en,et,ea⟩ 0)=if sees toks s [60]=true then (fs (encI toks (bF s))).bind fun r=>some (.inr (r.1,⟨6,4,[],[⟨ek,en,et,ea⟩,r.2]⟩))else some (.inl (pkC toks s ⟨ek,en,et,ea⟩ 1)):=by
  unfold Tc;show ((bn (encI toks s) [60]).bind fun a=>bif a.2 then (fs a.1).bind fun b=>some (Sum.inr (b.1,af.mk 6 4 [] [⟨ek,en,et,ea⟩,aj b.2]))else some (Sum.inl (a.1.toks,a.1.i,a.1.bad,0,0,[],[],ek,en,et,ea,[4,5],2,w64 (0+1))))=_
  rw[jH h s [60] rfl];simp only[zA,aS];cases c:sees toks s [60]with
  | true=>simp
  | false=>simp only[aa,aL,if_false];rfl
 have f:Tc fs (pkC toks s ⟨ek,en,et,ea⟩ 1)=if sees toks s [61,61]=true then (fs (encI toks (bF s))).bind fun r=>some (.inr (r.1,⟨6,5,[],[⟨ek,en,et,ea⟩,r.2]⟩))else some (.inl (pkC toks s ⟨ek,en,et,ea⟩ 2)):=by
  unfold Tc;show ((bn (encI toks s) [61,61]).bind fun a=>bif a.2 then (fs a.1).bind fun b=>some (Sum.inr (b.1,af.mk 6 5 [] [⟨ek,en,et,ea⟩,aj b.2]))else some (Sum.inl (a.1.toks,a.1.i,a.1.bad,0,0,[],[],ek,en,et,ea,[4,5],2,w64 (1+1))))=_
  rw[jH h s [61,61] rfl];simp only[zA,aS];cases c:sees toks s [61,61]with
  | true=>simp
  | false=>simp only[aa,aL,if_false];rfl
 have g:Tc fs (pkC toks s ⟨ek,en,et,ea⟩ 2)=some (.inr (encI toks s,⟨ek,en,et,ea⟩)):=rfl;unfold amz;rw[aC,d];cases c:sees toks s [60]with
 | true=>
  simp only[if_true];cases fs (encI toks (bF s))<;>rfl
 | false=>
  simp only[aL,if_false];rw[aC,f];cases j:sees toks s [61,61]with
  | true=>
   simp only[if_true];cases fs (encI toks (bF s))<;>rfl
  | false=>
   simp only[aL,if_false];rw[aC,g]
theorem ah8{s b c:PS}{op:Int}{x y a d:af}(p:a=d/\wtE a+(bF b).i<=c.i)(q:x=y/\wtE x+s.i<=b.i):(⟨6,op,[],[x,a]⟩:af)=⟨6,op,[],[y,d]⟩/\wtE ⟨6,op,[],[x,a]⟩+s.i<=c.i:=by
 refine⟨by rw[p.1,q.1],?_⟩;have e:=p.2;have f:=q.2;rw[jT]at e;rw[DU,vF];omega
theorem amy(h:dJ toks stop){k:Nat}{fs gs}(g:∀s,s.i<=toks.length->rem toks s<=k->Sim wtE toks stop fs gs s)(w z A B C)(s:PS)(D:s.i<=toks.length)(E:rem toks s<=k) :
  Sim wtE toks stop (fun a=>(fs a).bind fun r=>au (Tc fs) (r.1.toks,r.1.i,r.1.bad,0,0,[],[],r.2.kind,r.2.n,r.2.text,r.2.args,[4,5],([4,5].length:Int),0)) (rU w z gs A B C) s:=by
 obtain⟨b,x,y,F,G,j,f⟩:=g s D E;have H:=f.rem;have eI:((fs (encI toks s)).bind fun r=>au (Tc fs) (r.1.toks,r.1.i,r.1.bad,0,0,[],[],r.2.kind,r.2.n,r.2.text,r.2.args,[4,5],([4,5].length:Int),0))=amz toks fs b x:=by
  rw[F];exact cmp_eq h fs b x
 have eS:rU w z gs A B C (encS toks stop s)=(if sees toks b [60]=true then (gs (encS toks stop (bF b))).bind fun r=>some (r.1,⟨6,4,[],[y,r.2]⟩)else if sees toks b [61,61]=true then (gs (encS toks stop (bF b))).bind fun r=>some (r.1,⟨6,5,[],[y,r.2]⟩)else some (encS toks stop b,y)):=by
  unfold rU;simp only[G,zA,qI h b,lg,aS];cases d:sees toks b [60]with
  | true=>
   simp only[ac,if_true];rw[kY h (bK d).2]
  | false=>
   simp only[aa,aL,if_false];cases c:sees toks b [61,61]with
   | true=>
    simp only[ac,if_true];rw[kY h (bK c).2]
   | false=>simp
 unfold Sim;show ∃(s':PS) (x' y':af),((fs (encI toks s)).bind fun r=>au (Tc fs) (r.1.toks,r.1.i,r.1.bad,0,0,[],[],r.2.kind,r.2.n,r.2.text,r.2.args,[4,5],([4,5].length:Int),0))=_/\_
 rw[eI,eS];unfold amz;cases d:sees toks b [60]with
 | true=>
  obtain⟨e,I⟩:=fZ (bK d).1 (bK d).2;obtain⟨l,m,o,p,q,t,u⟩:=g (bF b) e.len (by omega);refine⟨l,⟨6,4,[],[x,m]⟩,⟨6,4,[],[y,o]⟩,?_,?_,fun v=>(ah8 (t v) (j (bK d).1)),(f.trans e).trans u⟩
  ·simp only[if_true,p,zA]
  ·simp only[if_true,q,zA]
 | false=>
  simp only[aL,if_false];cases c:sees toks b [61,61]with
  | true=>
   obtain⟨e,I⟩:=fZ (bK c).1 (bK c).2;obtain⟨l,m,o,p,q,t,u⟩:=g (bF b) e.len (by omega);refine⟨l,⟨6,5,[],[x,m]⟩,⟨6,5,[],[y,o]⟩,?_,?_,fun v=>(ah8 (t v) (j (bK c).1)),(f.trans e).trans u⟩
   ·simp only[if_true,p,zA]
   ·simp only[if_true,q,zA]
  | false=>
   simp only[aL,if_false];exact⟨b,x,y,rfl,rfl,j,f⟩
theorem amg(fe fs o p j)(a:aV):zU fe fs o p j a =
 ((fA a).bind fun k=>
 (jI k.2 [108,101,116]).bind fun w=>
 bif w then
  (lI (aV.mk k.1.toks (w64 (k.1.i+1)) k.1.bad)).bind fun o=>
  (bV o.1 [61]).bind fun p=>
  (fe p).bind fun j=>
  (gd ([aj j.2].length)).bind fun _=>
  (bV j.1 [105,110]).bind fun x=>
  (fe x).bind fun q=>
  (gd ([aj j.2].length+[aj q.2].length)).bind fun _=>
  some (q.1,af.mk 7 0 o.2 ([aj j.2]++[aj q.2]))
 else
 (fA k.1).bind fun l=>
 (jI l.2 [105,102]).bind fun y=>
 bif y then
  (fe (aV.mk l.1.toks (w64 (l.1.i+1)) l.1.bad)).bind fun c=>
  (gd ([aj c.2].length)).bind fun _=>
  (bV c.1 [116,104,101,110]).bind fun r=>
  (fe r).bind fun e=>
  (gd ([aj c.2].length+[aj e.2].length)).bind fun _=>
  (bV e.1 [101,108,115,101]).bind fun s=>
  (fe s).bind fun g=>
  (gd (([aj c.2]++[aj e.2]).length+[aj g.2].length)).bind fun _=>
  some (g.1,af.mk 8 0 [] (([aj c.2]++[aj e.2])++[aj g.2]))
 else
 (fA l.1).bind fun d=>
 (jI d.2 [102,111,114]).bind fun t=>
 bif t then
  (lI (aV.mk d.1.toks (w64 (d.1.i+1)) d.1.bad)).bind fun m=>
  (bV m.1 [105,110]).bind fun u=>
  (fe u).bind fun f=>
  (gd ([aj f.2].length)).bind fun _=>
  (bV f.1 [100,111]).bind fun v=>
  (fe v).bind fun h=>
  (gd ([aj f.2].length+[aj h.2].length)).bind fun _=>
  some (h.1,af.mk 9 0 m.2 ([aj f.2]++[aj h.2]))
 else
 (fs d.1).bind fun b=>
 au (Tc fs) (b.1.toks,b.1.i,b.1.bad,0,0,[],[],b.2.kind,b.2.n,b.2.text,b.2.args,[4,5],([4,5].length:Int),0)):=rfl
theorem QK(h:dJ toks stop)(s:PS):(mr toks s).2.length<=120:=by
 unfold mr;split
 ·exact (lF h s).len
 ·simp
theorem akp(h:dJ toks stop){k:Nat}{fe ge fs gc}(q:∀s,s.i<=toks.length->rem toks s+1<=k->Sim wtE toks stop fe ge s)
  (T:∀s,s.i<=toks.length->rem toks s<=k->Sim wtE toks stop (fun a=>(fs a).bind fun r=>au (Tc fs) (r.1.toks,r.1.i,r.1.bad,0,0,[],[],r.2.kind,r.2.n,r.2.text,r.2.args,[4,5],([4,5].length:Int),0)) gc s)
  (U V W X Y Z t6) (s:PS) (hs:s.i<=toks.length) (hk:rem toks s<=k):Sim wtE toks stop (zU fe fs U V W) (JZ ge gc X Y Z t6) s:=by
 unfold Sim;have L:∀x:af,gd [x].length=some ():=fun x=>gdp (by simp)
 have M:∀x y:af,gd ([x].length+[y].length)=some ():=fun x y=>gdp (by simp)
 have g3:∀x y z:af,gd (([x]++[y]).length+[z].length)=some ():=fun x y z=>gdp (by simp)
 rw[amg];unfold JZ;simp only[yj h,zA,afR,Ri h s [108,101,116] rfl,Ri h s [105,102] rfl,Ri h s [102,111,114] rfl,qI h s,aS];cases J:sees toks s [108,101,116]with
 | true=>
  obtain⟨m,P⟩:=fZ (bK J).1 (bK J).2;have d:=aaX (toks:=toks) m.len;have e:=qG (x:=[61]) d.len;obtain⟨A,B,C,t,u,v,c⟩:=q (fM toks (mr toks (bF s)).1 [61]) e.len (by have:=d.rem;have:=e.rem;omega);have b:=qG (x:=[105,110]) c.len;obtain⟨D,E,F,G,H,I,f⟩:=q (fM toks A [105,110]) b.len (by have:=d.rem;have:=e.rem;have:=c.rem;have:=b.rem;omega);refine⟨D,⟨7,0,(mr toks (bF s)).2,[B,E]⟩,⟨7,0,(mr toks (bF s)).2,[C,F]⟩,?_,?_,fun g=>(by
   have o:=I g;have p:=v (DN (b.trans f) g);refine⟨by rw[o.1,p.1],?_⟩;have Q:=o.2;have N:=p.2;have K:=d.le;have c4:=e.le;have R:=b.le;rw[jT]at K;rw[wQ (QK h (bF s)),vF];omega),((((m.trans d).trans e).trans c).trans b).trans f⟩
  ·simp only[ac];rw[Dc h (bK J).2];simp only[abt h,zA,yt h,t,L,M,G];rfl
  ·simp only[ac];rw[kY h (bK J).2];simp only[aad h,zA,ug h,u,H]
 | false=>
  simp only[aa];cases j:sees toks s [105,102]with
  | true=>
   obtain⟨m,P⟩:=fZ (bK j).1 (bK j).2;obtain⟨A,B,C,t,u,v,c⟩:=q (bF s) m.len (by omega);have b:=qG (x:=[116,104,101,110]) c.len;obtain⟨D,E,F,G,H,I,f⟩:=q (fM toks A [116,104,101,110]) b.len (by have:=c.rem;have:=b.rem;omega);have w:=qG (x:=[101,108,115,101]) f.len;obtain⟨s4,x4,y4,u1,u2,u3,O⟩:=q (fM toks D [101,108,115,101]) w.len (by have:=c.rem;have:=b.rem;have:=f.rem;have:=w.rem;omega);refine⟨s4,⟨8,0,[],[B,E,x4]⟩,⟨8,0,[],[C,F,y4]⟩,?_,?_,fun g=>(by
    have S:=u3 g;have o:=I (DN (w.trans O) g);have p:=v (DN ((b.trans f).trans (w.trans O)) g);refine⟨by rw[S.1,o.1,p.1],?_⟩;have c0:=S.2;have Q:=o.2;have N:=p.2;have K:=b.le;have R:=w.le;rw[jT]at N;rw[DU,Vm];omega),((((m.trans c).trans b).trans f).trans w).trans O⟩
   ·simp only[ac];rw[Dc h (bK j).2];simp only[zA,yt h,t,L,M,g3,G,u1];rfl
   ·simp only[ac];rw[kY h (bK j).2];simp only[zA,ug h,u,H,u2]
  | false=>
   simp only[aa];cases l:sees toks s [102,111,114]with
   | true=>
    obtain⟨m,P⟩:=fZ (bK l).1 (bK l).2;have d:=aaX (toks:=toks) m.len;have e:=qG (x:=[105,110]) d.len;obtain⟨A,B,C,t,u,v,c⟩:=q (fM toks (mr toks (bF s)).1 [105,110]) e.len (by have:=d.rem;have:=e.rem;omega);have b:=qG (x:=[100,111]) c.len;obtain⟨D,E,F,G,H,I,f⟩:=q (fM toks A [100,111]) b.len (by have:=d.rem;have:=e.rem;have:=c.rem;have:=b.rem;omega);refine⟨D,⟨9,0,(mr toks (bF s)).2,[B,E]⟩,⟨9,0,(mr toks (bF s)).2,[C,F]⟩,?_,?_,fun g=>(by
   have o:=I g;have p:=v (DN (b.trans f) g);refine⟨by rw[o.1,p.1],?_⟩;have Q:=o.2;have N:=p.2;have K:=d.le;have c4:=e.le;have R:=b.le;rw[jT]at K;rw[wQ (QK h (bF s)),vF];omega),((((m.trans d).trans e).trans c).trans b).trans f⟩
    ·simp only[ac];rw[Dc h (bK l).2];simp only[abt h,zA,yt h,t,L,M,G];rfl
    ·simp only[ac];rw[kY h (bK l).2];simp only[aad h,zA,ug h,u,H]
   | false=>
    simp only[aa];obtain⟨s',x,y,t,u,v,c⟩:=T s hs hk;refine⟨s',x,y,t,?_,v,c⟩;rw[u];rfl
variable {toks:List aK} {stop:Int}
theorem adK(h:dJ toks stop):∀(k:Nat) (s:PS),s.i<=toks.length->rem toks s<=k->∀n m,5*k+5<=n->6*k+6<=m->Sim wtE toks stop (aG n).1 (aH m).1 s:=by
 intro k;induction k using Nat.strongRecOn with
 | _ k ih=>
  have o:∀n m,5*k<=n->6*k<=m->∀s,s.i<=toks.length->rem toks s+1<=k->Sim wtE toks stop (aG n).1 (aH m).1 s:=fun n m j l s e f=>
   ih (k-1) (by omega) s e (by omega) n m (by omega) (by omega)
  have q:∀n m,5*k+1<=n->6*k+1<=m->∀b,letter b=false->b≠[44]->∀s,s.i<=toks.length->rem toks s+1<=k->Sim wtL toks stop (fun a=>(aG n).2.2.2.2 a b) (fun a=>(aH m).2.2.2.2.2 a b) s:=by
   intro n m j l b r p s e f;obtain⟨d,rfl⟩:∃d,n=d+1:=⟨n-1,by omega⟩;obtain⟨c,rfl⟩:∃c,m=c+1:=⟨m-1,by omega⟩;exact ajL h (k:=k-1) (fun s e f=>o d c (by omega) (by omega) s e (by omega)) b r p (aG d).2.1 (aG d).2.2.1 (aG d).2.2.2.1 (aG d).2.2.2.2 (aH c).2.1 (aH c).2.2.1 (aH c).2.2.2.1 (aH c).2.2.2.2.1 (aH c).2.2.2.2.2 s e (by omega)
  have t:∀n m,5*k+2<=n->6*k+2<=m->∀s,s.i<=toks.length->rem toks s<=k->Sim wtE toks stop (aG n).2.2.2.1 (aH m).2.2.2.2.1 s:=by
   intro n m j l s e f;obtain⟨d,rfl⟩:∃d,n=d+1:=⟨n-1,by omega⟩;obtain⟨c,rfl⟩:∃c,m=c+1:=⟨m-1,by omega⟩;exact akW h (o d c (by omega) (by omega)) (q d c (by omega) (by omega)) (aG d).2.1 (aG d).2.2.1 (aG d).2.2.2.1 (aH c).2.1 (aH c).2.2.1 (aH c).2.2.2.1 (aH c).2.2.2.2.1 s e f
  have u:∀n m,5*k+3<=n->6*k+3<=m->∀s,s.i<=toks.length->rem toks s<=k->Sim wtE toks stop (aG n).2.2.1 (aH m).2.2.2.1 s:=by
   intro n m j l s e f;obtain⟨d,rfl⟩:∃d,n=d+1:=⟨n-1,by omega⟩;obtain⟨c,rfl⟩:∃c,m=c+1:=⟨m-1,by omega⟩;exact ajh h (t d c (by omega) (by omega)) (aG d).1 (aG d).2.1 (aG d).2.2.1 (aG d).2.2.2.2 (aH c).1 (aH c).2.1 (aH c).2.2.1 (aH c).2.2.2.1 (aH c).2.2.2.2.2 s e f
  have v:∀n m,5*k+4<=n->6*k+4<=m->∀s,s.i<=toks.length->rem toks s<=k->Sim wtE toks stop (aG n).2.1 (aH m).2.2.1 s:=by
   intro n m j l s e f;obtain⟨d,rfl⟩:∃d,n=d+1:=⟨n-1,by omega⟩;obtain⟨c,rfl⟩:∃c,m=c+1:=⟨m-1,by omega⟩;exact alj h (u d c (by omega) (by omega)) (aG d).1 (aG d).2.1 (aG d).2.2.2.1 (aG d).2.2.2.2 (aH c).1 (aH c).2.1 (aH c).2.2.1 (aH c).2.2.2.2.1 (aH c).2.2.2.2.2 s e f
  intro s e f n m j l;obtain⟨d,rfl⟩:∃d,n=d+1:=⟨n-1,by omega⟩;obtain⟨c,rfl⟩:∃c,m=c+1:=⟨m-1,by omega⟩;refine akp h (o d c (by omega) (by omega)) (fs:=(aG d).2.1) (gc:=(aH c).2.1) (fun s e f=>?_) (aG d).2.2.1 (aG d).2.2.2.1 (aG d).2.2.2.2 (aH c).2.2.1 (aH c).2.2.2.1 (aH c).2.2.2.2.1 (aH c).2.2.2.2.2 s e f;obtain⟨g,rfl⟩:∃g,c=g+1:=⟨c-1,by omega⟩;exact amy h (v d g (by omega) (by omega)) (aH g).1 (aH g).2.1 (aH g).2.2.2.1 (aH g).2.2.2.2.1 (aH g).2.2.2.2.2 s e f
variable {toks:List aK} {stop:Int}
theorem qH(n:Int):1<=SizeOf.sizeOf n:=by
 cases n with
 | ofNat m=>rw[Int.ofNat.sizeOf_spec];omega
 | negSucc m=>rw[Int.negSucc.sizeOf_spec];omega
theorem agz{α:Type}[SizeOf α](xs:List α):1<=SizeOf.sizeOf xs:=by
 cases xs with
 | nil=>rw[List.nil.sizeOf_spec];omega
 | cons x r=>rw[List.cons.sizeOf_spec];omega
theorem aln(t:aK):5<=SizeOf.sizeOf t:=by
 obtain⟨a,b,c,d⟩:=t;rw[aK.mk.sizeOf_spec];have:=qH a;have:=qH b;have:=qH c;have:=agz d;omega
theorem aiE(toks:List aK):6*toks.length+1<=SizeOf.sizeOf toks:=by
 induction toks with
 | nil=>rw[List.nil.sizeOf_spec];simp
 | cons t r ih=>
  rw[List.cons.sizeOf_spec];have:=aln t;simp only[List.length_cons];omega
theorem X9(h:dJ toks stop):∃(s':PS) (x y:af),CY (aV.mk toks 0 (-1))=some (encI toks s',x)/\P5 (GRd.mk toks 0 stop (-1))=some (encS toks stop s',y)/\(s'.bad=none->x=y/\wtE x<=s'.i)/\s'.i<=toks.length:=by
 have h1:=aiE toks;have hi:5*toks.length+5<=siz (aV.mk toks 0 (-1))+1:=by
  show _<=SizeOf.sizeOf (aV.mk toks 0 (-1))+1
  rw[aV.mk.sizeOf_spec];have:=qH 0;have:=qH (-1);omega
 have a:6*toks.length+6<=siz (GRd.mk toks 0 stop (-1))+1:=by
  show _<=SizeOf.sizeOf (GRd.mk toks 0 stop (-1))+1
  rw[GRd.mk.sizeOf_spec];have:=qH 0;have:=qH (-1);have:=qH stop;omega
 obtain⟨s',x,y,b,c,d,e⟩:=adK h toks.length ⟨0,none⟩ (Nat.zero_le _) (by simp[rem]) _ _ hi a;exact⟨s',x,y,b,c,d,e.len⟩
theorem adM(a:Str){toks:List aK}{t:Int}(hi:xY a=some (toks,t))(w:wW a=some (toks,t))(m:t<0->dJ toks (a.length:Int))
  (hv:∀e:af,wtE e<=60->∃v,gZ e=some v/\iL e=some v):∃(e:af) (p:Int),qf a=some (e,p)/\pz a=some (e,p)/\(p<0->gZ e=some true/\wtE e<=60):=by
 unfold qf pz;rw[hi,w];simp only[zA];by_cases s:t>=0
 ·have e:decide (t>=0)=true:=by simpa using s
  rw[e];exact⟨_,_,rfl,rfl,fun h=>by omega⟩
 ·have e:decide (t>=0)=false:=by simpa using s
  rw[e];simp only[aa];have h:=m (by omega);obtain⟨s',x,y,z,A,B,D⟩:=X9 h;have hlen:=h.len;rw[z,A];simp only[zA,aS];rw[akV,akU h];cases g:s'.bad with
  | some b=>
   have eb:(encI toks s').bad=(b:Int):=by simp[encI,g]
   have es:(encS toks (a.length:Int) s').bad=Ce toks (a.length:Int) b:=by simp[encS,g]
   have n:=lT h b;have j:decide ((encS toks (a.length:Int) s').bad>=0)=true:=by rw[es];simpa using n
   have k:decide ((encI toks s').bad>=0)=true:=by rw[eb];simp
   rw[j,k,eb,es];simp only[Option.isNone_some,aa,ac];by_cases c:b<toks.length
   ·have d:decide ((b:Int)>=(toks.length:Int))=false:=by simp;omega
    rw[d];simp only[aa,aA,zF c,zA,aD];refine⟨_,_,rfl,?_,fun hh=>?_⟩
    ·simp[Ce,zF c]
    ·have:=(h.all _ (List.getElem_mem c)).pos;omega
   ·have d:decide ((b:Int)>=(toks.length:Int))=true:=by simp;omega
    rw[d];simp only[ac];have:toks[b]?=none:=zJ (by omega);refine⟨_,_,rfl,?_,fun hh=>by omega⟩;simp[Ce,this]
  | none=>
   have ei:(encI toks s').i=(s'.i:Int):=rfl;have esi:(encS toks (a.length:Int) s').i=(s'.i:Int):=rfl;have eb:(encI toks s').bad = -1:=by simp[encI,g]
   have es:(encS toks (a.length:Int) s').bad = -1:=by simp[encS,g]
   simp only[Option.isNone_none,ac,ei,esi,uq h,zA];obtain⟨o,f⟩:=B g;have f:wtE x<=60:=by omega
   subst o;by_cases q:s'.i<toks.length
   ·have j:decide ((s'.i:Int)<(toks.length:Int))=true:=by simp;omega
    have k:decide ((s'.i:Int)>=(toks.length:Int))=false:=by simp;omega
    have d:decide ((s'.i:Int)>=0)=true:=by simp
    have u:(encS toks (a.length:Int) (ja s')).bad=toks[s'.i].pos:=by simp[encS,ja,g,Ce,zF q]
    have n:=(h.all _ (List.getElem_mem q)).pos;have C:decide ((encS toks (a.length:Int) (ja s')).bad>=0)=true:=by rw[u];simpa using n
    rw[j,k,d,C,u];simp only[ac,aa,aA,zF q,zA,aD];exact⟨_,_,rfl,rfl,fun hh=>by omega⟩
   ·have j:decide ((s'.i:Int)<(toks.length:Int))=false:=by simp;omega
    have k:decide ((-1:Int)>=(toks.length:Int))=false:=by simp;omega
    have d:decide ((-1:Int)>=0)=false:=rfl;obtain⟨v,l,r⟩:=hv x f;rw[j,eb,es,k,d];simp only[aa,l,r,zA];cases v with
    | false=>exact⟨_,_,rfl,rfl,fun hh=>by omega⟩
    | true=>exact⟨_,_,rfl,rfl,fun _=>⟨l,f⟩⟩
end
end Go.Proofs.YtbbmkcioplbhbaaGreatDoor
