import Derived.Test.YtjbajpfonnnfoaaGreatDoorS4
import Derived.Test.YtjbajpfonnnfoaaGreatDoorModels
import Derived.KernelRfl
import Derived.Test.YtjbajpfonnnfoaaGreatDoorLink1
import Derived.Test.YtjbajpfonnnfoaaGreatDoorRows
set_option linter.unusedSimpArgs false
set_option linter.unusedVariables false
/- Functions that write into the lists that they are given. -/
namespace Go.Abs
open Go.RowKit
inductive Rf where
 | tree
 | box (off:Nat)
 | sub (off n:Nat) (agg:Bool)
 | elt (i sz off:Nat)
 | inner (i sz off:Nat)
structure Ms where
 S:St
 R:List (Option Rf)
 ds:List D
def Ms.getR(M:Ms)(i:Nat):Option Rf:=M.R.getD i none
def Ms.list(M:Ms):Option ((t:Ty)×List t.den):=match M.ds with
 | [.list t xs]=>some ⟨t,xs⟩
 | _=>none
structure LM where
 n:Nat
 ty:Ty
 si:Nat
 sk:Nat
section
variable {P:Program} {o:Oper} {a:Act} {w:World} {K:Act->World->Prop} {Q:Exit->Act->World->Prop}
end
def gK(K:Nat->Nat->Prop):Gh:={ bk:=λ_=>0,ov:=λ_ _=>undef,ow:=λ_=>none,S:=K,lk:=λ_=>False,lb:=λ_=>False }
structure Gm where
 u:Value
 vs:List Value
 fps:Nat->Nat->Prop
def Gm.F(g:Gm)(c:Nat):Prop:=∃i,g.fps i c
def Kw(g:Gm)(w:World)(b _:Nat):Prop:=b<w.heap.size/\¬g.F b
def isSl:Value->Bool
 | .slice _ _ _=>true
 | _=>false
def RfOk(g:Gm)(agg:Bool)(w:World):Rf->Value->Prop
 | .tree,v=>v=g.u
 | .box off,v=>∃bb,v=.pointer (some ⟨bb,off,none⟩)/\¬g.F bb/\bb<w.heap.size/\∀j x,g.vs[j]?=some x->w.cell? ⟨bb,j,none⟩=some x
 | .sub off n ag,v=>(ag=true->v=.agg (seg g.vs off n).toArray)/\(ag=false->seg g.vs off n=[v])
 | .elt i sz off,v=>agg=false/\∃b len cap,g.u=.slice (some ⟨b,0,none⟩) len cap/\v=.pointer (some ⟨b,i*sz+off,none⟩)
 | .inner i sz off,v=>agg=false/\isSl v=true/\∃b len cap,g.u=.slice (some ⟨b,0,none⟩) len cap/\w.cell? ⟨b,i*sz+off,none⟩=some v
def OwD(w:World)(d:D)(v:Value)(fp:Nat->Prop):Prop:=Ow w (λ_ _=>False) true d v fp
structure InvM(w0:World)(agg:Bool)(g:Gm)(M:Ms)(a:Act)(w:World):Prop where
 off:Off g.F w0 w
 inv:Inv ⟨w,Kw g w,λ_=>False,none⟩ (gK (Kw g w)) M.S a w
 no:∀k,M.S.aQ k=[]/\M.S.fK k=none
 rsz:M.R.length=M.S.tmps.length
 tree:aV (λi d v=>OwD w d v (g.fps i)) 0 M.ds g.vs
 uv:(agg=true->g.u=.agg g.vs.toArray)/\(agg=false->g.vs=[g.u])
 refs:∀i r v,M.getR i=some r->a.tmps[i]?=some v->RfOk g agg w r v
 lt:∀i c,g.fps i c->c<w0.heap.size
 am:amb w0/\∀i c,g.fps i c->nT<=c
 dis:∀i i' c,g.fps i c->g.fps i' c->i=i'
section sound
variable {P:Program} {w0:World} {agg:Bool} {g:Gm} {M:Ms} {a:Act} {w:World} {o:Oper} {K:Act->World->Prop} {Q:Exit->Act->World->Prop} {E:Env}
end sound
theorem OwD.slice{w:World}{ty:Ty}{xs:List ty.den}{v:Value}{fp:Nat->Prop}(h:OwD w (.list ty xs) v fp):isSl v=true:=by
 unfold OwD at h;generalize a:D.list ty xs=dd at h;cases h with
 | int=>cases a
 | bool=>cases a
 | str=>cases a
 | nil t'=>rfl
 | ro _ _ _ b=>cases b
 | list=>rfl
section sound
variable {P:Program} {w0:World} {agg:Bool} {g:Gm} {M:Ms} {a:Act} {w:World} {o:Oper} {K:Act->World->Prop} {Q:Exit->Act->World->Prop} {E:Env}
end sound
section sound
variable {P:Program} {w0:World} {agg:Bool} {g:Gm} {M:Ms} {a:Act} {w:World} {o:Oper} {K:Act->World->Prop} {Q:Exit->Act->World->Prop} {E:Env}
end sound
section sound
variable {P:Program} {w0:World} {agg:Bool} {g:Gm} {M:Ms} {a:Act} {w:World} {o:Oper} {K:Act->World->Prop} {Q:Exit->Act->World->Prop} {E:Env}
end sound
end Go.Abs
/- Environments, one contract after the other. -/
namespace Go.Abs
theorem jd.nil{P:Program}{tt:TT}{tr:Bool}(h:tt.ok P=true):jd P { tt:=tt,fs:=[],ms:=[],trees:=tr }:=⟨h,λs a=>(by cases a),λs a=>(by cases a),λs a=>(by cases a),λs a=>(by cases a),λs a=>(by cases a),λs a=>(by cases a),λs a=>(by cases a),λs a=>(by cases a),λs a=>(by cases a),λs a=>(by cases a)⟩
theorem jd.cons{P:Program}{tt:TT}{tr:Bool}{s:Fsp}{r bs ns ss:List Fsp}{ms:List Msp}(h:callable P s.fid=true)(c:Sound P s)(a:jd P { tt:=tt,fs:=r,ms:=ms,trees:=tr,bs:=bs,ns:=ns,ss:=ss }):jd P { tt:=tt,fs:=s::r,ms:=ms,trees:=tr,bs:=bs,ns:=ns,ss:=ss }:=
 ⟨a.1,λx b=>(by
  rcases bh.1 b with rfl | b
  ·exact⟨h,c⟩
  ·exact a.2.1 x b),a.2.2⟩
theorem Sound.fuel{P:Program}{s:Fsp}(t:Nat->Fsp){G:Nat->Tup s.ps->Option (Tup s.rs)}(b:∀n,t n=⟨s.fid,s.ps,s.rs,s.ex,s.sh,G n⟩)(h:∀n,Sound P (t n))(k:Tup s.ps->Nat)(hk:∀x,G (k x) x=s.fn x):Sound P s:=by
 intro w S args x y hf;have a:=h (k x);rw[b]at a;exact a w S args x y ((hk x).trans hf)
theorem jw.fuel{P:Program}{s:Fsp}(t:Nat->Fsp){G:Nat->Tup s.ps->Option (Tup s.rs)}(b:∀n,t n=⟨s.fid,s.ps,s.rs,s.ex,s.sh,G n⟩)(h:∀n,jw P (t n))(k:Tup s.ps->Nat)(hk:∀x,G (k x) x=s.fn x):jw P s:=by
 intro w S bb vs Et args x y hf;have a:=h (k x);rw[b]at a;exact a w S bb vs Et args x y ((hk x).trans hf)
theorem fH.fuel{P:Program}{s:Fsp}{ap:Nat}(t:Nat->Fsp){G:Nat->Tup s.ps->Option (Tup s.rs)}(b:∀n,t n=⟨s.fid,s.ps,s.rs,s.ex,s.sh,G n⟩)(h:∀n,fH P (t n) ap)(k:Tup s.ps->Nat)(hk:∀x,G (k x) x=s.fn x):fH P s ap:=by
 intro w S R bb vs Et args x y hf;have a:=h (k x);rw[b]at a;exact a w S R bb vs Et args x y ((hk x).trans hf)
theorem jd.sorts{P:Program}{E:Env}(l:List Srt)(a:∀s,s∈l->callable P s.fid=true/\G5 P s/\∃d,P.underlying s.T=some d/\∀ms,d≠.interface ms)(h:jd P E):jd P { E with so:=l }:=
 ⟨h.1,h.2.1,h.2.2.1,h.2.2.2.1,h.2.2.2.2.1,h.2.2.2.2.2.1,a,h.2.2.2.2.2.2.2⟩
theorem jd.aeJ{P:Program}{E:Env}(l:List Nat)(h:jd P E):jd P { E with aeJ:=l }:=h
theorem jd.cuts{P:Program}{E:Env}(l:List (Nat×Nat×Nat×Nat×Nat))(h:jd P E):jd P { E with cuts:=l }:=h
theorem jd.pre{P:Program}{E:Env}(l:List (Nat×List (Nat×Nat)))(h:jd P E):jd P { E with pre:=l }:=h
end Go.Abs
namespace Go.Proofs.YtjbajpfonnnfoaaGreatDoor
noncomputable section
open Go.Abs Go.Proofs
set_option maxRecDepth 100000 in
theorem adN:tt.ok Tryz.prog=true:=by kernel_rfl
theorem rY:Tryz.prog.follows .mixedOrders=true:=by kernel_rfl
abbrev Ek:Type _:={ E:Env // jd Tryz.prog E }
namespace Ek
theorem II{α:Type _}{p:α->Prop}{l:List α}{x:α}(h:p x)(b:∀s,s∈l->p s):∀s,s∈x::l->p s:=λs a=>by
 rcases bh.1 a with rfl | a
 ·exact h
 ·exact b s a
def f(k:Ek){s:Fsp}(h:Sound Tryz.prog s)(hc:callable Tryz.prog s.fid=true:=by kernel_rfl):Ek:=⟨{ k.1 with fs:=s::k.1.fs },k.2.1,II ⟨hc,h⟩ k.2.2.1,k.2.2.2⟩
def m(k:Ek){s:Msp}(h:aay Tryz.prog s)(hc:callable Tryz.prog s.fid=true:=by kernel_rfl):Ek:=⟨{ k.1 with ms:=s::k.1.ms },k.2.1,k.2.2.1,II ⟨hc,h⟩ k.2.2.2.1,k.2.2.2.2⟩
def b(k:Ek){s:Fsp}(h:jw Tryz.prog s)(hc:callable Tryz.prog s.fid=true:=by kernel_rfl):Ek:=⟨{ k.1 with bs:=s::k.1.bs },k.2.1,k.2.2.1,k.2.2.2.1,II ⟨hc,h⟩ k.2.2.2.2.1,k.2.2.2.2.2⟩
def n(k:Ek){s:Fsp}(h:PX Tryz.prog s)(hc:callable Tryz.prog s.fid=true:=by kernel_rfl):Ek:=⟨{ k.1 with ns:=s::k.1.ns },k.2.1,k.2.2.1,k.2.2.2.1,k.2.2.2.2.1,II ⟨hc,h⟩ k.2.2.2.2.2.1,k.2.2.2.2.2.2⟩
def s(k:Ek){s:Fsp}(h:PV Tryz.prog s)(hc:callable Tryz.prog s.fid=true:=by kernel_rfl):Ek:=⟨{ k.1 with ss:=s::k.1.ss },k.2.1,k.2.2.1,k.2.2.2.1,k.2.2.2.2.1,k.2.2.2.2.2.1,II ⟨hc,h⟩ k.2.2.2.2.2.2.1,k.2.2.2.2.2.2.2⟩
def mc(k:Ek){s:Fsp}(ap:Nat)(h:fH Tryz.prog s ap)(hc:callable Tryz.prog s.fid=true:=by kernel_rfl):Ek:=⟨{ k.1 with mb:=(s,ap)::k.1.mb },k.2.1,k.2.2.1,k.2.2.2.1,k.2.2.2.2.1,k.2.2.2.2.2.1,k.2.2.2.2.2.2.1,k.2.2.2.2.2.2.2.1,k.2.2.2.2.2.2.2.2.1,II ⟨hc,h⟩ k.2.2.2.2.2.2.2.2.2.1,k.2.2.2.2.2.2.2.2.2.2⟩
def pk(k:Ek){s:Psp}(h:PW Tryz.prog s){t:Ksp}(c:PY Tryz.prog t)(hc:callable Tryz.prog s.fid=true:=by kernel_rfl)(b:callable Tryz.prog t.fid=true:=by kernel_rfl):Ek:=⟨{ k.1 with fs:=k.1.fs.filter λq=>q.fid != s.fid,bs:=k.1.bs.filter λq=>q.fid != t.fid,ps:=[s],ks:=[t] },k.2.1,λq a=>k.2.2.1 q (List.mem_filter.1 a).1,k.2.2.2.1,λq a=>k.2.2.2.2.1 q (List.mem_filter.1 a).1,k.2.2.2.2.2.1,k.2.2.2.2.2.2.1,k.2.2.2.2.2.2.2.1,k.2.2.2.2.2.2.2.2.1,k.2.2.2.2.2.2.2.2.2.1,λq a=>(by have:=List.mem_singleton.1 a;subst this;exact⟨hc,h⟩),λq a=>(by have:=List.mem_singleton.1 a;subst this;exact⟨b,c⟩)⟩
def trs(k:Ek)(l:List Nat):Ek:=⟨{ k.1 with trs:=l },k.2⟩
def hol(k:Ek)(l:List Nat):Ek:=⟨{ k.1 with hols:=l },k.2⟩
def mo(k:Ek):Ek:=⟨{ k.1 with ma:=true },k.2⟩
def tr(k:Ek):Ek:=⟨{ k.1 with trees:=true },k.2⟩
def so(k:Ek)(l:List Srt)(a:∀s,s∈l->callable Tryz.prog s.fid=true/\G5 Tryz.prog s/\∃d,Tryz.prog.underlying s.T=some d/\∀ms,d≠.interface ms):Ek:=⟨{ k.1 with so:=l },jd.sorts l a k.2⟩
def aeJ(k:Ek)(l:List Nat):Ek:=⟨{ k.1 with aeJ:=l },k.2⟩
def cuts(k:Ek)(l:List (Nat×Nat×Nat×Nat×Nat)):Ek:=⟨{ k.1 with cuts:=l },k.2⟩
def pre(k:Ek)(l:List (Nat×List (Nat×Nat))):Ek:=⟨{ k.1 with pre:=l },k.2⟩
end Ek
def kk0:Ek:=⟨{ tt:=tt,fs:=[] },.nil adN⟩
theorem snd(k:Ek)(an:List (Nat×LA)){s:Fsp}(fn:Func)(hf:Tryz.prog.funcs[s.fid]?=some fn:=by kernel_rfl)(a:∀x,ale k.1 an fn s.ps s.rs s.ex x=s.fn x:=by (intro x;kernel_rfl)):Sound Tryz.prog s:=TW k.2 rY an hf a
theorem bnd(k:Ek)(an:List (Nat×LA)){s:Fsp}(fn:Func)(hf:Tryz.prog.funcs[s.fid]?=some fn:=by kernel_rfl)(a:∀x,alf k.1 an fn s.ps s.rs s.ex s.sh x=s.fn x:=by (intro x;kernel_rfl)):jw Tryz.prog s:=QZ k.2 rY an hf a
theorem nnd(k:Ek)(an:List (Nat×LA)){s:Fsp}(fn:Func)(hf:Tryz.prog.funcs[s.fid]?=some fn:=by kernel_rfl)(a:∀x,ald k.1 an fn s.ps s.rs x=s.fn x:=by (intro x;kernel_rfl)):PX Tryz.prog s:=QA k.2 rY an hf a
theorem ssd(k:Ek)(an:List (Nat×LA)){s:Fsp}(fn:Func)(hf:Tryz.prog.funcs[s.fid]?=some fn:=by kernel_rfl)(a:∀x,alc k.1 an fn s.ps s.rs x=s.fn x:=by (intro x;kernel_rfl)):PV Tryz.prog s:=PZ k.2 rY an hf a
theorem mcd(k:Ek)(an:List (Nat×LA)){s:Fsp}(ap:Nat)(fn:Func)(hf:Tryz.prog.funcs[s.fid]?=some fn:=by kernel_rfl)(a:∀x,af9 k.1 an fn s.ps s.rs ap x=s.fn x:=by (intro x;kernel_rfl)):fH Tryz.prog s ap:=N7 k.2 rY an hf a
abbrev roI:Sr:=.ro (.base .int)
abbrev roS:Sr:=.ro (.base .str)
abbrev roE(b:Base):Sr:=.ro (.base b)
abbrev roL(b:Base):Sr:=.ro (.list (.base b))
abbrev owE(b:Base)(k:Nat):Sr:=.own (.base b) true true k
abbrev _root_.Go.Abs.LA.c(n:Nat)(its:List It)(boxes:List (Nat×Nat))(ptrs:List (Nat×Nat×Nat)):LA:={ n:=n,its:=its,boxes:=boxes,ptrs:=ptrs }
def amX(n:Nat):Nat->List Sr->List It
 | _,[]=>[]
 | i,x::r=>.b n i x::amX n (i+1) r
def amY(n:Nat):List It:=amX n 0 [roI,roI,roS,(roL .expr)]
def amZ(n:Nat):List It:=amX n 0 [(roL .u8),roI,roI]
def am0(n a:Nat):List It:=amX n 0 [roI,roI,roS,(owE .expr a)]
def am1(n:Nat):List It:=amX n 0 [roI,roI,roS,(.own (.base .expr) false true 1)]
def am2(n a b c:Nat):List It:=amX n 0 [roI,roI,roI,roS,(owE .val a),(owE .str b),(owE .row c)]
def am3(n a b:Nat):List It:=amX n 0 [(owE .int a),(owE .origin b)]
def am4(n:Nat):List It:=amX n 0 [roI,roI,roI,roS,(roL .val),(roL .str),(roL .row)]
def am5(n:Nat):List It:=amX n 0 [(roL .int),(roL .origin)]
def am6(n a b:Nat):List It:=amX n 0 [roI,roI,roI,roS,(owE .val a),(roL .str),(owE .row b)]
def am7(n a:Nat):List It:=amX n 0 [roI,roI,roI,roS,(.tree (.base .val) 3),(owE .str a),(.tree (.base .row) 11)]
def am8(n:Nat):List It:=amX n 0 [roI,roI,roI,roS,roI,roI,roI,roS,(roL .val),(roL .str),(roL .row)]
def am9(n:Nat):List It:=amX n 0 [(roL .read),roI,roI,(roL .file),roI,roI,(.own (.base .read) false false 0),roI,(roE .bool)]
def ana(n a b:Nat):List It:=amX n 0 [roI,roI,roI,roS,(owE .val a),(owE .str b),(.own (.base .row) false true 10)]
def Ek.anb(k:Ek)(s:Fsp)(an:List (Nat×LA))(fn:Func)(hf:Tryz.prog.funcs[s.fid]?=some fn:=by kernel_rfl)(a:∀x,ale k.1 an fn s.ps s.rs s.ex x=s.fn x:=by (intro x;kernel_rfl))(hc:callable Tryz.prog s.fid=true:=by kernel_rfl):Ek:=k.f (s:=s) (snd k an fn hf a) hc
def Ek.anc(k:Ek)(s:Fsp)(an:List (Nat×LA))(fn:Func)(hf:Tryz.prog.funcs[s.fid]?=some fn:=by kernel_rfl)(a:∀x,ald k.1 an fn s.ps s.rs x=s.fn x:=by (intro x;kernel_rfl))(hc:callable Tryz.prog s.fid=true:=by kernel_rfl):Ek:=k.n (s:=s) (nnd k an fn hf a) hc
def Ek.ane(k:Ek)(s:Fsp)(an:List (Nat×LA))(fn:Func)(hf:Tryz.prog.funcs[s.fid]?=some fn:=by kernel_rfl)(a:∀x,alf k.1 an fn s.ps s.rs s.ex s.sh x=s.fn x:=by (intro x;kernel_rfl))(hc:callable Tryz.prog s.fid=true:=by kernel_rfl):Ek:=k.b (s:=s) (bnd k an fn hf a) hc
def Ek.anf(k:Ek)(s:Fsp)(an:List (Nat×LA))(fn:Func)(hf:Tryz.prog.funcs[s.fid]?=some fn:=by kernel_rfl)(a:∀x,alc k.1 an fn s.ps s.rs x=s.fn x:=by (intro x;kernel_rfl))(hc:callable Tryz.prog s.fid=true:=by kernel_rfl):Ek:=k.s (s:=s) (ssd k an fn hf a) hc
theorem _root_.Go.Abs.Sound.ang{P:Program}{s:Fsp}(h:∀x,s.fn x=none:=by (intro x;rfl)):Sound P s:=λw S args x y q=>by rw[h]at q;cases q
end
end Go.Proofs.YtjbajpfonnnfoaaGreatDoor
/- The frame of every law's proof: closed facts of this translation. -/
namespace Go.Proofs.YtjbajpfonnnfoaaGreatDoor
open Go.Abs Go.Proofs Go.RowKit
theorem jG:xA Tryz.prog tt=true:=by kernel_rfl
theorem akH:ownKnob Tryz.prog.godebug=none:=by kernel_rfl
theorem abj:laidOutB Tryz.prog=true:=by kernel_rfl
end Go.Proofs.YtjbajpfonnnfoaaGreatDoor
