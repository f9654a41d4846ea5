import Derived.Test.YtngjomkjlonfpaaGreatDoorWalkV
import Derived.ArgAppend
import Derived.Maps.AppendAt
import Derived.Deep.DeepAppendRoom
set_option linter.unusedSimpArgs false
set_option linter.unusedVariables false
/- The closures that the walk over the names of an expression is handed. -/
namespace Go.Proofs.YtngjomkjlonfpaaGreatDoor
open Go.Abs Go.Proofs Go.RowKit
def Zn(ob fb tb:Nat)(_:World)(c:Nat):Prop:=c=ob\/c=fb\/c=tb
def D9(x y:Str)(σ:List Ev):Bool:=σ.any fun p=>p.1==x&&p.2.contains y
structure O5(x y:Str)(ob fb tb:Nat)(σ:List Ev)(w:World):Prop where
 o:∃T,w.heap[ob]?=some (.cells #[.bool (D9 x y σ)] T (0,0))
 f:∃T,w.heap[fb]?=some (.cells #[.string ⟨x.toArray⟩] T (0,0))
 t:∃T,w.heap[tb]?=some (.cells #[.string ⟨y.toArray⟩] T (0,0))
 am:qQ<=ob/\qQ<=fb/\qQ<=tb
set_option maxHeartbeats 4000000 in
set_option maxRecDepth 100000 in
theorem amg(x y:Str)(ob fb tb:Nat)(h1:ob≠fb)(h2:ob≠tb):Clo 148 #[.pointer (some ⟨ob,0,none⟩),.pointer (some ⟨fb,0,none⟩),.pointer (some ⟨tb,0,none⟩)] (O5 x y ob fb tb) (Zn ob fb tb) where
 enters:=enters_of Tryz.func148 (by kernel_rfl) rfl
 keep:=fun w w' σ h l z=>by
  refine⟨⟨?_,?_,?_,h.am⟩,fun c d=>d⟩
  ·obtain⟨T,e⟩:=h.o;exact⟨T,(l ob (.inl rfl)).trans e⟩
  ·obtain⟨T,e⟩:=h.f;exact⟨T,(l fb (.inr (.inl rfl))).trans e⟩
  ·obtain⟨T,e⟩:=h.t;exact⟨T,(l tb (.inr (.inr rfl))).trans e⟩
 lt:=fun w σ c h d=>by
  rcases d with rfl | rfl | rfl
  ·obtain⟨T,e⟩:=h.o;exact⟨h.am.1,(aR.1 e).1⟩
  ·obtain⟨T,e⟩:=h.f;exact⟨h.am.2.1,(aR.1 e).1⟩
  ·obtain⟨T,e⟩:=h.t;exact⟨h.am.2.2,(aR.1 e).1⟩
 call:=fun w σ S name bound vb E i K m n F=>by
  obtain⟨A,j⟩:=i.o;obtain⟨G,q⟩:=i.f;obtain⟨H,r⟩:=i.t;have s:=cell_of_one j;have L:=cell_of_one q;have M:=cell_of_one r;have B:=free_of_one j;have g:=(aR.1 j).1;have hcall:=GI bound y S vb m w E n (fun b o z=>(F b o z).1) w (Below.refl _ _);have hcap:D9 x y (σ++[(name,bound)])=(D9 x y σ||(name==x&&decide (0<=posOf y 0 bound))):=by
   unfold D9;rw[List.any_append];have:bound.contains y=decide (0<=posOf y 0 bound):=by
    by_cases C:0<=posOf y 0 bound
    ·have:=(not_congr (qI y bound 0)).1 (by omega);simp[C];simpa using this
    ·have:=(qI y bound 0).1 (by omega);simp[C];simpa using this
   simp only[List.any_cons,List.any_nil,Bool.or_false,this]
  generalize I:D9 x y σ=u at s j hcap;have fin:∀(w':World) (b:Bool),b=D9 x y (σ++[(name,bound)])->Below w.heap.size w w'->O5 x y ob fb tb (σ++[(name,bound)]) (w'.setCell ⟨ob,0,none⟩ (.bool b))/\eG (Zn ob fb tb) w (w'.setCell ⟨ob,0,none⟩ (.bool b)):=by
   intro w' b J a;subst J;have e1':w'.heap[ob]?=some (.cells #[.bool u] A (0,0)):=(a.block ob g).trans j;have e2':=(a.block fb (aR.1 q).1).trans q;have e3':=(a.block tb (aR.1 r).1).trans r;refine⟨⟨⟨A,one_setCell e1'⟩,⟨G,?_⟩,⟨H,?_⟩,i.am⟩,a.os,a.tape,a.output,?_,fun c d k=>?_,fun c d=>.inl d⟩
   ·rw[Below.heap_setCell _ _ _ _ (Ne.symm h1)];exact e2'
   ·rw[Below.heap_setCell _ _ _ _ (Ne.symm h2)];exact e3'
   ·have:=a.size;simp[World.setCell];omega
   ·rw[Below.heap_setCell _ _ _ _ (fun h=>k (.inl h))];exact a.block c d
  have HF:Hid ((∀(w':World) (b:Bool),b=D9 x y (σ++[(name,bound)])->Below w.heap.size w w'->O5 x y ob fb tb (σ++[(name,bound)]) (w'.setCell ⟨ob,0,none⟩ (.bool b))/\eG (Zn ob fb tb) w (w'.setCell ⟨ob,0,none⟩ (.bool b)))/\D9 x y (σ++[(name,bound)])=(u||(name==x&&decide (0<=posOf y 0 bound)))):=⟨fin,hcap⟩;clear fin hcap i;show Calls _ _ #[.string ⟨name.toArray⟩,vb,.pointer (some ⟨ob,0,none⟩),.pointer (some ⟨fb,0,none⟩),.pointer (some ⟨tb,0,none⟩)] _ _
  cases u with
  | true=>
   go_enter Tryz.func148,Tryz.ntmps148
   go_wp2
   refine bodyPost_end (results_none rfl _ _ _) rfl ?_;exact⟨rfl,HF.out.1 w true (by rw[HF.out.2];rfl) (Below.refl _ _)⟩
  | false=>
   by_cases k:name=x
   ·subst k;go_enter Tryz.func148,Tryz.ntmps148
    go_wp2_with (go_at_call 103;refine hcall.mono ?_;rintro e D ⟨rfl,a⟩;have c1':=(a.cell (p:=⟨ob,0,none⟩) g).trans s;have f1':=(a.frozen (p:=⟨ob,0,none⟩) g).trans B;have HB:Hid (Below w.heap.size w D):=a;clear a s B)
    refine bodyPost_end (results_none rfl _ _ _) rfl ?_;exact⟨rfl,HF.out.1 D _ (by rw[HF.out.2];simp) HB.out⟩
   ·go_enter Tryz.func148,Tryz.ntmps148
    have v:(name==x)=false:=by simpa using k
    go_wp2
    refine bodyPost_end (results_none rfl _ _ _) rfl ?_;exact⟨rfl,HF.out.1 w false (by rw[HF.out.2,v];rfl) (Below.refl _ _)⟩
theorem apN(w:World)(e a b c d:Obj):Below w.heap.size w (((((w.alloc e).alloc a).alloc b).alloc c).alloc d)/\(((((w.alloc e).alloc a).alloc b).alloc c).alloc d).heap.size=w.heap.size+5 /\
  (((((w.alloc e).alloc a).alloc b).alloc c).alloc d).heap[w.heap.size+1]?=some a/\(((((w.alloc e).alloc a).alloc b).alloc c).alloc d).heap[w.heap.size+1+1]?=some b /\
  (((((w.alloc e).alloc a).alloc b).alloc c).alloc d).heap[w.heap.size+1+1+1]?=some c/\(((((w.alloc e).alloc a).alloc b).alloc c).alloc d).heap[w.heap.size+1+1+1+1]?=some d:=by
 refine⟨⟨rfl,rfl,rfl,?_,fun k f=>?_⟩,?_,?_,?_,?_,?_⟩
 ·show _<=(((((w.heap.push e).push a).push b).push c).push d).size
  simp;omega
 ·show (((((w.heap.push e).push a).push b).push c).push d)[k]?=_
  simp only[Array.getElem?_push,Array.size_push];rw[if_neg (by omega),if_neg (by omega),if_neg (by omega),if_neg (by omega),if_neg (by omega)]
 ·show (((((w.heap.push e).push a).push b).push c).push d).size=_
  simp
 ·show (((((w.heap.push e).push a).push b).push c).push d)[w.heap.size+1]?=_
  rw[Array.getElem?_push,if_neg (by simp only[Array.size_push];omega),Array.getElem?_push,if_neg (by simp only[Array.size_push];omega),Array.getElem?_push,if_neg (by simp only[Array.size_push];omega),Array.getElem?_push,if_pos (by simp only[Array.size_push])]
 ·show (((((w.heap.push e).push a).push b).push c).push d)[w.heap.size+1+1]?=_
  rw[Array.getElem?_push,if_neg (by simp only[Array.size_push];omega),Array.getElem?_push,if_neg (by simp only[Array.size_push];omega),Array.getElem?_push,if_pos (by simp only[Array.size_push])]
 ·show (((((w.heap.push e).push a).push b).push c).push d)[w.heap.size+1+1+1]?=_
  rw[Array.getElem?_push,if_neg (by simp only[Array.size_push];omega),Array.getElem?_push,if_pos (by simp only[Array.size_push])]
 ·show (((((w.heap.push e).push a).push b).push c).push d)[w.heap.size+1+1+1+1]?=_
  rw[Array.getElem?_push,if_pos (by simp only[Array.size_push])]
theorem TP(e:af)(x y:Str)(es:List Ev)(w:World)(S:Nat->Nat->Prop)(va:Value)(h:ku (siz e+1) e []=some es)(u:es.length<=34359738368)(s:amb w)(g:Rep w S (.list (.base .expr) e.args) va)(i:∀b o,S b o->b<w.heap.size)(j:Obj)(l m p d:TypeId) :
  Calls Tryz.prog 141 #[.pointer (some ⟨w.heap.size+1+1+1+1,0,none⟩),.agg #[.int .i64 e.kind,.int .i64 e.n,.string ⟨e.text.toArray⟩,va],.slice none 0 0]
   (((((w.alloc j).alloc (.cells #[.string ⟨x.toArray⟩] l (0,0))).alloc (.cells #[.string ⟨y.toArray⟩] m (0,0))).alloc (.cells #[.bool false] p (0,0))).alloc (.cells #[.func (.func 148) #[] #[.pointer (some ⟨w.heap.size+1+1+1,0,none⟩),.pointer (some ⟨w.heap.size+1,0,none⟩),.pointer (some ⟨w.heap.size+1+1,0,none⟩)],.nilFunc] d (0,0)))
   fun r w'=>r=.returned (.tuple #[])/\w'.cell? ⟨w.heap.size+1+1+1,0,none⟩=some (.bool (D9 x y es))/\Below w.heap.size w w':=by
 obtain⟨f,v,z,A,B,C⟩:=apN w j (.cells #[.string ⟨x.toArray⟩] l (0,0)) (.cells #[.string ⟨y.toArray⟩] m (0,0)) (.cells #[.bool false] p (0,0)) (.cells #[.func (.func 148) #[] #[.pointer (some ⟨w.heap.size+1+1+1,0,none⟩),.pointer (some ⟨w.heap.size+1,0,none⟩),.pointer (some ⟨w.heap.size+1+1,0,none⟩)],.nilFunc] d (0,0));generalize (((((w.alloc j).alloc (.cells #[.string ⟨x.toArray⟩] l (0,0))).alloc (.cells #[.string ⟨y.toArray⟩] m (0,0))).alloc (.cells #[.bool false] p (0,0))).alloc (.cells #[.func (.func 148) #[] #[.pointer (some ⟨w.heap.size+1+1+1,0,none⟩),.pointer (some ⟨w.heap.size+1,0,none⟩),.pointer (some ⟨w.heap.size+1+1,0,none⟩)],.nilFunc] d (0,0)))=W at *;have D:=s.size;have E:O5 x y (w.heap.size+1+1+1) (w.heap.size+1) (w.heap.size+1+1) [] W:=⟨⟨_,B⟩,⟨_,z⟩,⟨_,A⟩,by omega,by omega,by omega⟩;have t:∀b,b<w.heap.size->¬Zn (w.heap.size+1+1+1) (w.heap.size+1) (w.heap.size+1+1) W b:=by
  rintro b H (h | h | h)<;>omega
 refine ((FX (amg x y (w.heap.size+1+1+1) (w.heap.size+1) (w.heap.size+1+1) (by omega) (by omega)) (siz e+1)) e [] es [] W S va (.slice none 0 0) (w.heap.size+1+1+1+1) d h (amb.keep s f.size fun k q=>f.block k (aE q D)) E (by simpa using u) C (by rintro (h | h | h)<;>omega)
  (g.move fun b o a=>⟨a,f.cell (i b o a)⟩) (.nil _) (fun b o a=>⟨by have:=i b o a;omega,t b (i b o a)⟩)).mono ?_
 rintro r w' ⟨rfl,F,c⟩;obtain⟨T,G⟩:=F.o;refine⟨rfl,cell_of_one G,f.trans ⟨c.os,c.tape,c.output,c.size,fun k q=>c.block k (by omega) (t k q)⟩⟩
set_option maxHeartbeats 4000000 in
set_option maxRecDepth 100000 in
theorem VG(e:af)(x y:Str)(es:List Ev)(w:World)(S:Nat->Nat->Prop)(vp:Option Addr)(vn vc:Nat)(h:ku (siz e+1) e []=some es)(g:es.length<=34359738368)(d:amb w)(a:Rep w S (.list (.base .expr) e.args) (.slice vp vn vc))(i:∀b o,S b o->b<w.heap.size) :
  Calls Tryz.prog 112 #[.agg #[.int .i64 e.kind,.int .i64 e.n,.string ⟨e.text.toArray⟩,.slice vp vn vc],.string ⟨x.toArray⟩,.string ⟨y.toArray⟩] w fun r w'=>r=.returned (.bool (D9 x y es))/\Below w.heap.size w w':=by
 have c:=TP e x y es w S (.slice vp vn vc) h g d a i;clear h d a;go_enter Tryz.func112,Tryz.ntmps112
 go_wp2_with (go_at_call 141;refine (c _ _ _ _ _).mono ?_;rintro r j ⟨rfl,k,f⟩;have HB:Hid (Below w.heap.size w j):=f;clear f)
 go_ret
 exact⟨rfl,HB.out⟩
theorem alJ:(Tryz.prog.info? 9).map (fun i=>(i.zero,i.size,i.bytes))=some (some (.string ⟨#[]⟩),1,16):=by kernel_rfl
def jd(σ:List Ev):List Value:=σ.map fun p=>.string ⟨p.1.toArray⟩
structure akA(B ob:Nat)(σ:List Ev)(w:World)(v:Value):Prop where
 cell:∃T,w.heap[ob]?=some (.cells #[v] T (0,0))
 own:w.ownsRow B 9 1 v σ.length (jd σ)
 ne:v≠.slice none 0 0
 no:v.ownBlock≠some ob
def Uh(B ob:Nat)(σ:List Ev)(w:World):Prop:=(qQ<=ob/\qQ<=B)/\∃v,akA B ob σ w v
def O0(ob:Nat)(w:World)(c:Nat):Prop:=c=ob\/∃v T,w.heap[ob]?=some (.cells #[v] T (0,0))/\v.ownBlock=some c
theorem kQ{ob:Nat}{w:World}{v:Value}{T:TypeId}(h:w.heap[ob]?=some (.cells #[v] T (0,0)))(c:Nat):O0 ob w c↔c=ob\/v.ownBlock=some c:=by
 constructor
 ·rintro (h1 | ⟨v',T',h1,h2⟩)
  ·exact .inl h1
  ·rw[h]at h1;simp only[zD,Obj.cells.injEq,Array.mk.injEq,List.cons.injEq,and_true]at h1;exact .inr (h1.1▸h2)
 ·rintro (h1 | h1)
  ·exact .inl h1
  ·exact .inr ⟨v,T,h,h1⟩
set_option maxHeartbeats 4000000 in
set_option maxRecDepth 100000 in
theorem ajR(B ob:Nat):Clo 140 #[.pointer (some ⟨ob,0,none⟩)] (Uh B ob) (O0 ob) where
 enters:=enters_of Tryz.func140 (by kernel_rfl) rfl
 keep:=fun w w' σ h o hs=>by
  obtain⟨s,v,⟨T,f⟩,p,i,G⟩:=h;have t:=(o ob (.inl rfl)).trans f;refine⟨⟨s,v,⟨T,t⟩,⟨p.1,?_⟩,i,G⟩,fun c hh=>(kQ f c).2 ((kQ t c).1 hh)⟩;rcases p.2 with h1 | ⟨g,cap,cur,hv,F,hh,r⟩
  ·exact .inl h1
  ·exact .inr ⟨g,cap,cur,hv,F,(o g ((kQ f g).2 (.inr (by rw[hv];rfl)))).trans hh,r⟩
 lt:=fun w σ c h f=>by
  obtain⟨s,v,⟨T,hcell⟩,p,_,_⟩:=h;have H:=(aR.1 hcell).1;rcases (kQ hcell c).1 f with rfl | h1
  ·exact⟨s.1,H⟩
  ·rcases p.2 with ⟨h2,_⟩ | ⟨g,cap,cur,hv,F,hh,r⟩
   ·rw[h2]at h1;cases h1
   ·rw[hv]at h1;simp only[Value.ownBlock,zD]at h1;subst h1;exact⟨Nat.le_trans s.2 F,(aR.1 hh).1⟩
 call:=fun w σ S name bound vb s hG hl hbl y W=>by
  obtain⟨I,v,⟨T,f⟩,hown,hvne,m⟩:=hG;have n:=(aR.1 f).1;have Y:=cell_of_one f;have Z:=free_of_one f;obtain⟨i0,hi,hz,z,J⟩:=info_parts alJ;have K:jd (σ++[(name,bound)])=jd σ++[.string ⟨name.toArray⟩]:=by simp[jd]
  have fin:∀(a:World) (v':Value),v'≠.slice none 0 0->(∀c,v'.ownBlock=some c->v.ownBlock=some c\/w.heap.size<=c)->a.ownsRow B 9 1 v' (σ.length+1) (jd σ++[.string ⟨name.toArray⟩])->a.os=w.os->a.tape=w.tape->a.output=w.output->w.heap.size<=a.heap.size ->
    (∀k,k<w.heap.size->v.ownBlock≠some k->a.heap[k]?=w.heap[k]?)->Uh B ob (σ++[(name,bound)]) (a.setCell ⟨ob,0,none⟩ v')/\eG (O0 ob) w (a.setCell ⟨ob,0,none⟩ v'):=by
   intro a v' L hb p h1 h2 h3 h4 h5;have l:v'.ownBlock≠some ob:=by
    intro h;rcases hb ob h with h | h
    ·exact m h
    ·omega
   have M:a.heap[ob]?=some (.cells #[v] T (0,0)):=(h5 ob n m).trans f;have A:(a.setCell ⟨ob,0,none⟩ v').heap[ob]?=some (.cells #[v'] T (0,0)):=by simpa using one_setCell M
   refine⟨⟨I,v',⟨⟨T,A⟩,?_,L,l⟩⟩,h1,h2,h3,?_,fun c N hn=>?_,fun c hh=>?_⟩
   ·rw[K,a7];exact ownsRow_setCell_other p l _
   ·simp[World.setCell];omega
   ·rw[Below.heap_setCell _ _ _ _ (fun h=>hn (.inl h))];exact h5 c N fun h=>hn ((kQ f c).2 (.inr h))
   ·rcases (kQ A c).1 hh with h | h
    ·exact .inl (.inl h)
    ·exact (hb c h).imp (fun h=>(kQ f c).2 (.inr h)) id
  show Calls _ _ #[.string ⟨name.toArray⟩,vb,.pointer (some ⟨ob,0,none⟩)] _ _
  have HF:Hid _:=fin;have HO:=Hid (w.ownsRow B 9 1 v σ.length (jd σ));clear fin;rcases hown.2 with ⟨hv,hn0⟩ | ⟨g,cap,cur,hv,F,hh,hnc,hcm,C,D⟩
  ·exact absurd hv hvne
  ·subst hv;have hgl:g<w.heap.size:=(aR.1 hh).1;have O:g≠ob:=fun h=>m (by rw[<- h];rfl)
   have HW:Hid (w.ownsRow B 9 1 (.slice (some ⟨g,0,none⟩) σ.length cap) σ.length (jd σ)):=hown;by_cases hr:σ.length+1<=cap
   ·clear y W hown hh C D;go_enter Tryz.func140,Tryz.ntmps140
    go_wp2_with (at_builtin;refine wpList_append_own_spare _ rfl _ _ 83 rfl B 9 i0 1 Tryz.underlying83 hi z g σ.length cap (jd σ) rfl (HW.out.alloc _) ⟨w.heap.size,0,none⟩ 1 1 [.string ⟨name.toArray⟩] rfl rfl (cell_one_new _ _ _) (fun x E=>by simp at E;subst E;rfl) hr ?_;intro a hown' hgrow
                 have d:a.heap[ob]?=some (.cells #[.slice (some ⟨g,0,none⟩) σ.length cap] T (0,0)):=by rw[hgrow.block ob (by simp;omega) (fun h=>O (a6 h).symm),Below.heap_alloc _ _ _ n];exact f
                 have P:=cell_of_one d
                 have Q:=free_of_one d
                 have X:Hid (a.ownsRow B 9 1 (.slice (some ⟨g,0,none⟩) (σ.length+1) cap) (σ.length+1) (jd σ++[.string ⟨name.toArray⟩])/\(w.alloc (.cells #[.string ⟨name.toArray⟩] 9)).grownBy a (some g)):=⟨hown',hgrow⟩
                 clear hown' hgrow d Y Z)
    refine bodyPost_end (results_none rfl _ _ _) rfl ?_;obtain⟨q,e⟩:=X.out;exact⟨rfl,HF.out a _ (by simp) (fun c h=>.inl h) q e.os e.tape e.output (Nat.le_trans (by simp) e.size) fun k o i=>(e.block k (by simp;omega) (fun h=>i h.symm)).trans (Below.heap_alloc w _ k o)⟩
   ·have hcells:=(HW.out.alloc (.cells #[.string ⟨name.toArray⟩] 9)).cells (g:=g) rfl;have R:σ.length+1<=maxLen:=by simp only[maxLen];omega
    have HC:Hid (∀j u,(jd σ)[j]?=some u->(w.alloc (.cells #[.string ⟨name.toArray⟩] 9)).cell? ((⟨g,0,none⟩:Addr).add j)=some u):=hcells;clear y W hown hh C D hcells;go_enter Tryz.func140,Tryz.ntmps140
    go_wp2_with (at_builtin;refine wpList_append_grows _ rfl _ _ 83 rfl 9 i0 _ 1 16 Tryz.underlying83 hi hz z J rfl (by decide) (some ⟨g,0,none⟩) σ.length cap (jd σ) rfl (fun h=>by cases h) (by simp[jd]) (fun b h=>by cases h;exact HC.out) ⟨w.heap.size,0,none⟩ 1 1 [.string ⟨name.toArray⟩] rfl rfl (cell_one_new _ _ _) (fun x E=>by simp at E;subst E;rfl) (by omega) R (by omega) ?_;intro v3 a hown' hgrow
                 have d:a.heap[ob]?=some (.cells #[.slice (some ⟨g,0,none⟩) σ.length cap] T (0,0)):=by rw[hgrow.block ob (by simp;omega) (fun h=>by cases h),Below.heap_alloc _ _ _ n];exact f
                 obtain⟨q,⟨_,q0⟩ | ⟨U,cap3,cur3,rfl,e,V⟩⟩:=hown'
                 ·omega
                 have P:=cell_of_one d
                 have Q:=free_of_one d
                 have X:Hid (a.ownsRow B 9 1 (.slice (some ⟨U,0,none⟩) (σ.length+1) cap3) (σ.length+1) (jd σ++[.string ⟨name.toArray⟩])/\(w.alloc (.cells #[.string ⟨name.toArray⟩] 9)).grownBy a none/\w.heap.size<=U):=⟨⟨q,.inr ⟨U,cap3,cur3,rfl,by simp at e;omega,V⟩⟩,hgrow,by simp at e;omega⟩
                 clear q e V hgrow d Y Z)
    refine bodyPost_end (results_none rfl _ _ _) rfl ?_;obtain⟨q,e,V⟩:=X.out;exact⟨rfl,HF.out a _ (by simp) (fun c h=>.inr (by simp only[Value.ownBlock,zD]at h;omega)) q e.os e.tape e.output (Nat.le_trans (by simp) e.size) fun k o i=>(e.block k (by simp;omega) (fun h=>by cases h)).trans (Below.heap_alloc w _ k o)⟩
theorem apO(w:World)(d a b c:Obj):Below w.heap.size w ((((w.alloc d).alloc a).alloc b).alloc c)/\((((w.alloc d).alloc a).alloc b).alloc c).heap.size=w.heap.size+4 /\
  ((((w.alloc d).alloc a).alloc b).alloc c).heap[w.heap.size+1]?=some a/\((((w.alloc d).alloc a).alloc b).alloc c).heap[w.heap.size+1+1]?=some b /\
  ((((w.alloc d).alloc a).alloc b).alloc c).heap[w.heap.size+1+1+1]?=some c:=by
 refine⟨⟨rfl,rfl,rfl,?_,fun k e=>?_⟩,?_,?_,?_,?_⟩
 ·show _<=((((w.heap.push d).push a).push b).push c).size
  simp;omega
 ·show ((((w.heap.push d).push a).push b).push c)[k]?=_
  rw[Array.getElem?_push,if_neg (by simp only[Array.size_push];omega),Array.getElem?_push,if_neg (by simp only[Array.size_push];omega),Array.getElem?_push,if_neg (by simp only[Array.size_push];omega),Array.getElem?_push,if_neg (by omega)]
 ·show ((((w.heap.push d).push a).push b).push c).size=_
  simp
 ·show ((((w.heap.push d).push a).push b).push c)[w.heap.size+1]?=_
  rw[Array.getElem?_push,if_neg (by simp only[Array.size_push];omega),Array.getElem?_push,if_neg (by simp only[Array.size_push];omega),Array.getElem?_push,if_pos (by simp only[Array.size_push])]
 ·show ((((w.heap.push d).push a).push b).push c)[w.heap.size+1+1]?=_
  rw[Array.getElem?_push,if_neg (by simp only[Array.size_push];omega),Array.getElem?_push,if_pos (by simp only[Array.size_push])]
 ·show ((((w.heap.push d).push a).push b).push c)[w.heap.size+1+1+1]?=_
  rw[Array.getElem?_push,if_pos (by simp only[Array.size_push])]
theorem ag2{w:World}{B ob:Nat}{σ:List Ev}{v:Value}(h:akA B ob σ w v):∃g,g<w.heap.size/\Rep w (fun b _=>b=g) (.list (.base .str) (σ.map (·.1))) v:=by
 obtain⟨_,⟨hlen,h1 | ⟨g,cap,cur,rfl,t,hh,f,o,q,k⟩⟩,l,_⟩:=h
 ·exact absurd h1.1 l
 ·refine⟨g,(aR.1 hh).1,?_⟩;have m:(σ.map (·.1)).length=σ.length:=by simp
  rw[<- m];refine .list (.base .str) (σ.map (·.1)) g 0 cap (fun i _=>((jd σ)[i]?).getD undef) (by rw[m];exact f) (fun i x j d c a=>?_) (fun i x j d c a=>?_)
  ·cases j with
   | succ j=>simp[Ty.cells,Base.cells]at a
   | zero=>
    have hi:i<σ.length:=by have:=(zC.1 c).1;rwa [m]at this
    have e:0+(i*(Ty.base .str).size+0)=i:=by show 0+(i*1+0)=i;omega
    rw[e];refine⟨?_,rfl⟩;have r:w.cell? ⟨g,i,none⟩=cur[i]?:=by simp[World.cell?,hh]
    rw[r];have n:cur.toList[i]?=(jd σ)[i]?:=by
     rw[<- k,List.getElem?_take,if_pos (by omega)]
    rw[<- Array.getElem?_toList,n];have:i<(jd σ).length:=by simpa [jd] using hi
    rw[zF this];rfl
  ·cases j with
   | succ j=>simp[Ty.cells,Base.cells]at a
   | zero=>
    simp only[Ty.cells,Base.cells,List.getElem?_cons_zero,zD]at a;subst a;have n:(jd σ)[i]?=some (.string ⟨x.toArray⟩):=by
     rw[List.getElem?_map]at c;obtain⟨p,s,rfl⟩:=Option.map_eq_some_iff.1 c;simp[jd,s]
    simp only[n,Option.getD_some];exact Rep.str ⟨List.toArray x⟩
theorem aeB(e:af)(es:List Ev)(ys:List Str)(w:World)(S:Nat->Nat->Prop)(va:Value)(h:ku (siz e+1) e []=some es)(L:es.length<=34359738368)(u:qM (es.map (·.1))=some ys)(x:amb w)(y:Rep w S (.list (.base .expr) e.args) va)(z:∀b o,S b o->b<w.heap.size)(A:Obj)(B m:TypeId) :
  Calls Tryz.prog 141 #[.pointer (some ⟨w.heap.size+1+1+1,0,none⟩),.agg #[.int .i64 e.kind,.int .i64 e.n,.string ⟨e.text.toArray⟩,va],.slice none 0 0]
   ((((w.alloc A).alloc (.cells #[] 9 (0,0))).alloc (.cells #[.slice (some ⟨w.heap.size+1,0,none⟩) 0 0] B (0,0))).alloc (.cells #[.func (.func 140) #[] #[.pointer (some ⟨w.heap.size+1+1,0,none⟩)],.nilFunc] m (0,0)))
   fun r w'=>r=.returned (.tuple #[])/\∃v,w'.cell? ⟨w.heap.size+1+1,0,none⟩=some v/\Calls Tryz.prog 142 #[v] w' fun d C=>∃q,d=.returned q/\Below w.heap.size w C/\Ec w.heap.size C S true [⟨false,.list (.base .str)⟩] ys q:=by
 obtain⟨s,M,N,d,O⟩:=apO w A (.cells #[] 9 (0,0)) (.cells #[.slice (some ⟨w.heap.size+1,0,none⟩) 0 0] B (0,0)) (.cells #[.func (.func 140) #[] #[.pointer (some ⟨w.heap.size+1+1,0,none⟩)],.nilFunc] m (0,0));generalize ((((w.alloc A).alloc (.cells #[] 9 (0,0))).alloc (.cells #[.slice (some ⟨w.heap.size+1,0,none⟩) 0 0] B (0,0))).alloc (.cells #[.func (.func 140) #[] #[.pointer (some ⟨w.heap.size+1+1,0,none⟩)],.nilFunc] m (0,0)))=W at *;have I:=x.size;have P:Uh (w.heap.size+1) (w.heap.size+1+1) [] W:=⟨⟨by omega,by omega⟩,_,⟨_,d⟩,⟨rfl,.inr ⟨w.heap.size+1,0,#[],rfl,az _,N,az _,Nat.zero_le _,rfl,rfl⟩⟩,by simp,by simp[Value.ownBlock]⟩;have D:∀b,O0 (w.heap.size+1+1) W b->w.heap.size<b/\b<w.heap.size+3:=by
  intro b E;rcases (kQ d b).1 E with h | h
  ·omega
  ·simp only[Value.ownBlock,zD]at h;omega
 refine ((FX (ajR (w.heap.size+1) (w.heap.size+1+1)) (siz e+1)) e [] es [] W S va (.slice none 0 0) (w.heap.size+1+1+1) m h (amb.keep x s.size fun k t=>s.block k (aE t I)) P (by simpa using L) O (fun hh=>by have:=D _ hh;omega)
  (y.move fun b o f=>⟨f,s.cell (z b o f)⟩) (.nil _) (fun b o f=>⟨by have:=z b o f;omega,fun hh=>by have:=D _ hh;have:=z b o f;omega⟩)).mono ?_
 rintro r w' ⟨rfl,Q,j⟩;have a:Below w.heap.size w w':=s.trans ⟨j.os,j.tape,j.output,j.size,fun k t=>j.block k (by omega) (fun hh=>by have:=D _ hh;omega)⟩;obtain⟨_,v,l⟩:=Q;obtain⟨T,hcell⟩:=l.cell;obtain⟨g,F,hrep⟩:=ag2 l;refine⟨rfl,v,cell_of_one hcell,?_⟩;have G:amb w':=amb.keep x a.size fun k t=>a.block k (aE t I)
 refine (yN w' (fun b _=>b=g) [v] (es.map fun p:Ev=>p.1) ys u G ⟨hrep,trivial⟩ (fun b o E=>E▸F)).mono ?_;rintro d C ⟨q,rfl,H,us,R,fps,U,J,V⟩;exact⟨q,rfl,a.trans (H.mono a.size),us,R,fps,U,fun i c K=>⟨Nat.le_trans a.size (J i c K).1,(J i c K).2⟩,V⟩
set_option maxHeartbeats 4000000 in
set_option maxRecDepth 100000 in
theorem ahv(e:af)(es:List Ev)(ys:List Str)(w:World)(S:Nat->Nat->Prop)(vp:Option Addr)(vn vc:Nat)(h:ku (siz e+1) e []=some es)(i:es.length<=34359738368)(c:qM (es.map (·.1))=some ys)(f:amb w)(a:Rep w S (.list (.base .expr) e.args) (.slice vp vn vc))(j:∀b o,S b o->b<w.heap.size) :
  Calls Tryz.prog 104 #[.agg #[.int .i64 e.kind,.int .i64 e.n,.string ⟨e.text.toArray⟩,.slice vp vn vc]] w fun r w'=>∃v,r=.returned v/\Below w.heap.size w w'/\Ec w.heap.size w' S true [⟨false,.list (.base .str)⟩] ys v:=by
 have d:=aeB e es ys w S (.slice vp vn vc) h i c f a j;clear h f a;go_enter Tryz.func104,Tryz.ntmps104
 go_wp2_with (first
  | (go_at_call 141;refine (d _ _ _).mono ?_;rintro r l ⟨rfl,v,k0,k⟩)
  | (go_at_call 142;refine k.mono ?_;rintro m p ⟨q,rfl,g⟩;have HP:Hid _:=g;clear g))
 go_ret
 exact⟨_,rfl,HP.out⟩
theorem abN{w:World}{S:Nat->Nat->Prop}{e:af}{u:Value}(h:ShR (fun _ d u=>Rep w S d u) 0 ⟨true,.base .expr⟩ e u):∃vp vn vc,u=.agg #[.int .i64 e.kind,.int .i64 e.n,.string ⟨e.text.toArray⟩,.slice vp vn vc]/\Rep w S (.list (.base .expr) e.args) (.slice vp vn vc):=by
 obtain⟨vs,rfl,a⟩:=h;have a:bn (fun _ d u=>Rep w S d u) 0 [.int .i64 e.kind,.int .i64 e.n,.str e.text,.list (.base .expr) e.args] vs:=a;rcases vs with _ | ⟨v0,_ | ⟨c,_ | ⟨f,_ | ⟨v3,_ | ⟨g,r⟩⟩⟩⟩⟩
 ·exact a.elim
 ·exact a.2.elim
 ·exact a.2.2.elim
 ·exact a.2.2.2.elim
 ·obtain⟨vp,vn,vc,rfl⟩:=yC a.2.2.2.1;have b:=wU a.1;have h1:=wU a.2.1;have h2:=mX a.2.2.1;subst b;subst h1;subst h2;exact⟨vp,vn,vc,rfl,a.2.2.2.1⟩
 ·exact a.2.2.2.2.elim
theorem LG:Sound Tryz.prog YZ:=by
 intro w S args x y h c a d;rcases args with _ | ⟨u,_ | ⟨f,r⟩⟩
 ·exact a.elim
 ·obtain⟨vp,vn,vc,rfl,b⟩:=abN (e:=x) a;have h:oM x=some y:=h;unfold oM at h;obtain⟨es,h1,h⟩:=zB.1 h;obtain⟨_,h2,h⟩:=zB.1 h;exact ahv x es y w S vp vn vc h1 (jE h2) h c b d
 ·exact a.elim
theorem Jt:Sound Tryz.prog Vm:=by
 intro w S args x y h f a g;rcases args with _ | ⟨u,_ | ⟨i,_ | ⟨j,_ | ⟨m,r⟩⟩⟩⟩
 ·exact a.elim
 ·exact a.2.elim
 ·exact a.2.2.elim
 ·obtain⟨vp,vn,vc,rfl,b⟩:=abN (e:=x.1) a.1;have c:=mX (show Rep w S (.str x.2.1) i from a.2.1.1);have d:=mX (show Rep w S (.str x.2.2) j from a.2.2.1);subst c;subst d;have h:iQ x.1 x.2.1 x.2.2=some y:=h;unfold iQ at h;obtain⟨es,h1,h⟩:=zB.1 h;obtain⟨_,h2,h⟩:=zB.1 h;have k:y=D9 x.2.1 x.2.2 es:=(a6 h).symm;refine (VG x.1 x.2.1 x.2.2 es w S vp vn vc h1 (jE h2) f b g).mono ?_;rintro e w' ⟨rfl,l⟩;exact⟨_,rfl,l,by rw[k];exact QD _⟩
 ·exact a.2.2.elim
end Go.Proofs.YtngjomkjlonfpaaGreatDoor
