import Derived.Test.YtapgeemjgckgaaaGreatDoorWalkV
import Derived.ArgAppend
import Derived.Maps.AppendAt
import Derived.Deep.DeepAppendRoom
set_option linter.unusedSimpArgs false
set_option linter.unusedVariables false
/- The closures that the walk over the names of an expression is handed. -/
namespace Go.Proofs.YtapgeemjgckgaaaGreatDoor
open Go.Abs Go.Proofs Go.RowKit
def YZ(ob fb tb:Nat)(_:World)(c:Nat):Prop:=c=ob\/c=fb\/c=tb
def Du(x y:Str)(σ:List Ev):Bool:=σ.any fun p=>p.1==x&&p.2.contains y
structure Ot(x y:Str)(ob fb tb:Nat)(σ:List Ev)(w:World):Prop where
 o:∃T,w.heap[ob]?=some (.cells #[.bool (Du x y σ)] T (0,0))
 f:∃T,w.heap[fb]?=some (.cells #[.string ⟨x.toArray⟩] T (0,0))
 t:∃T,w.heap[tb]?=some (.cells #[.string ⟨y.toArray⟩] T (0,0))
 am:pO<=ob/\pO<=fb/\pO<=tb
set_option maxHeartbeats 4000000 in
set_option maxRecDepth 100000 in
theorem alx(x y:Str)(ob fb tb:Nat)(E:ob≠fb)(F:ob≠tb):Clo 180 #[.pointer (some ⟨ob,0,none⟩),.pointer (some ⟨fb,0,none⟩),.pointer (some ⟨tb,0,none⟩)] (Ot x y ob fb tb) (YZ ob fb tb) where
 enters:=enters_of Tryz.func180 (by kernel_rfl) rfl
 keep:=fun w w' σ h l z=>by
  refine⟨⟨?_,?_,?_,h.am⟩,fun c d=>d⟩
  ·obtain⟨T,e⟩:=h.o;exact⟨T,(l ob (.inl rfl)).trans e⟩
  ·obtain⟨T,e⟩:=h.f;exact⟨T,(l fb (.inr (.inl rfl))).trans e⟩
  ·obtain⟨T,e⟩:=h.t;exact⟨T,(l tb (.inr (.inr rfl))).trans e⟩
 lt:=fun w σ c h d=>by
  rcases d with rfl | rfl | rfl
  ·obtain⟨T,e⟩:=h.o;exact⟨h.am.1,(aM.1 e).1⟩
  ·obtain⟨T,e⟩:=h.f;exact⟨h.am.2.1,(aM.1 e).1⟩
  ·obtain⟨T,e⟩:=h.t;exact⟨h.am.2.2,(aM.1 e).1⟩
 call:=fun w σ S name bound vb G i M m n H=>by
  obtain⟨A,j⟩:=i.o;obtain⟨I,q⟩:=i.f;obtain⟨J,r⟩:=i.t;have s:=cell_of_one j;have N:=cell_of_one q;have O:=cell_of_one r;have B:=free_of_one j;have g:=(aM.1 j).1;have hcall:=GI bound y S vb m w G n (fun b o z=>(H b o z).1) w (Below.refl _ _);have hcap:Du x y (σ++[(name,bound)])=(Du x y σ||(name==x&&decide (0<=posOf y 0 bound))):=by
   unfold Du;rw[List.any_append];have:bound.contains y=decide (0<=posOf y 0 bound):=by
    by_cases C:0<=posOf y 0 bound
    ·have:=(not_congr (sV y bound 0)).1 (by omega);simp[C];simpa using this
    ·have:=(sV y bound 0).1 (by omega);simp[C];simpa using this
   simp only[List.any_cons,List.any_nil,Bool.or_false,this]
  generalize K:Du x y σ=u at s j hcap;have fin:∀(w':World) (b:Bool),b=Du x y (σ++[(name,bound)])->Below w.heap.size w w'->Ot x y ob fb tb (σ++[(name,bound)]) (w'.setCell ⟨ob,0,none⟩ (.bool b))/\dS (YZ ob fb tb) w (w'.setCell ⟨ob,0,none⟩ (.bool b)):=by
   intro w' b L a;subst L;have e1':w'.heap[ob]?=some (.cells #[.bool u] A (0,0)):=(a.block ob g).trans j;have e2':=(a.block fb (aM.1 q).1).trans q;have e3':=(a.block tb (aM.1 r).1).trans r;refine⟨⟨⟨A,one_setCell e1'⟩,⟨I,?_⟩,⟨J,?_⟩,i.am⟩,a.os,a.tape,a.output,?_,fun c d k=>?_,fun c d=>.inl d⟩
   ·rw[Below.heap_setCell _ _ _ _ (Ne.symm E)];exact e2'
   ·rw[Below.heap_setCell _ _ _ _ (Ne.symm F)];exact e3'
   ·have:=a.size;simp[World.setCell];omega
   ·rw[Below.heap_setCell _ _ _ _ (fun h=>k (.inl h))];exact a.block c d
  have HF:Hid ((∀(w':World) (b:Bool),b=Du x y (σ++[(name,bound)])->Below w.heap.size w w'->Ot x y ob fb tb (σ++[(name,bound)]) (w'.setCell ⟨ob,0,none⟩ (.bool b))/\dS (YZ ob fb tb) w (w'.setCell ⟨ob,0,none⟩ (.bool b)))/\Du x y (σ++[(name,bound)])=(u||(name==x&&decide (0<=posOf y 0 bound)))):=⟨fin,hcap⟩;clear fin hcap i;show Calls _ _ #[.string ⟨name.toArray⟩,vb,.pointer (some ⟨ob,0,none⟩),.pointer (some ⟨fb,0,none⟩),.pointer (some ⟨tb,0,none⟩)] _ _
  cases u with
  | true=>
   go_enter Tryz.func180,Tryz.ntmps180
   go_wp2
   refine bodyPost_end (results_none rfl _ _ _) rfl ?_;exact⟨rfl,HF.out.1 w true (by rw[HF.out.2];rfl) (Below.refl _ _)⟩
  | false=>
   by_cases k:name=x
   ·subst k;go_enter Tryz.func180,Tryz.ntmps180
    go_wp2_with (go_at_call 128;refine hcall.mono ?_;rintro e D ⟨rfl,a⟩;have c1':=(a.cell (p:=⟨ob,0,none⟩) g).trans s;have f1':=(a.frozen (p:=⟨ob,0,none⟩) g).trans B;have HB:Hid (Below w.heap.size w D):=a;clear a s B)
    refine bodyPost_end (results_none rfl _ _ _) rfl ?_;exact⟨rfl,HF.out.1 D _ (by rw[HF.out.2];simp) HB.out⟩
   ·go_enter Tryz.func180,Tryz.ntmps180
    have v:(name==x)=false:=by simpa using k
    go_wp2
    refine bodyPost_end (results_none rfl _ _ _) rfl ?_;exact⟨rfl,HF.out.1 w false (by rw[HF.out.2,v];rfl) (Below.refl _ _)⟩
theorem ao7(w:World)(o0 a b c d:Obj):Below w.heap.size w (((((w.alloc o0).alloc a).alloc b).alloc c).alloc d)/\(((((w.alloc o0).alloc a).alloc b).alloc c).alloc d).heap.size=w.heap.size+5 /\
  (((((w.alloc o0).alloc a).alloc b).alloc c).alloc d).heap[w.heap.size+1]?=some a/\(((((w.alloc o0).alloc a).alloc b).alloc c).alloc d).heap[w.heap.size+1+1]?=some b /\
  (((((w.alloc o0).alloc a).alloc b).alloc c).alloc d).heap[w.heap.size+1+1+1]?=some c/\(((((w.alloc o0).alloc a).alloc b).alloc c).alloc d).heap[w.heap.size+1+1+1+1]?=some d:=by
 refine⟨⟨rfl,rfl,rfl,?_,fun k e=>?_⟩,?_,?_,?_,?_,?_⟩
 ·show _<=(((((w.heap.push o0).push a).push b).push c).push d).size
  simp;omega
 ·show (((((w.heap.push o0).push a).push b).push c).push d)[k]?=_
  simp only[Array.getElem?_push,Array.size_push];rw[if_neg (by omega),if_neg (by omega),if_neg (by omega),if_neg (by omega),if_neg (by omega)]
 ·show (((((w.heap.push o0).push a).push b).push c).push d).size=_
  simp
 ·show (((((w.heap.push o0).push a).push b).push c).push d)[w.heap.size+1]?=_
  rw[Array.getElem?_push,if_neg (by simp only[Array.size_push];omega),Array.getElem?_push,if_neg (by simp only[Array.size_push];omega),Array.getElem?_push,if_neg (by simp only[Array.size_push];omega),Array.getElem?_push,if_pos (by simp only[Array.size_push])]
 ·show (((((w.heap.push o0).push a).push b).push c).push d)[w.heap.size+1+1]?=_
  rw[Array.getElem?_push,if_neg (by simp only[Array.size_push];omega),Array.getElem?_push,if_neg (by simp only[Array.size_push];omega),Array.getElem?_push,if_pos (by simp only[Array.size_push])]
 ·show (((((w.heap.push o0).push a).push b).push c).push d)[w.heap.size+1+1+1]?=_
  rw[Array.getElem?_push,if_neg (by simp only[Array.size_push];omega),Array.getElem?_push,if_pos (by simp only[Array.size_push])]
 ·show (((((w.heap.push o0).push a).push b).push c).push d)[w.heap.size+1+1+1+1]?=_
  rw[Array.getElem?_push,if_pos (by simp only[Array.size_push])]
theorem SE(e:af)(x y:Str)(es:List Ev)(w:World)(S:Nat->Nat->Prop)(va:Value)(h:jG (siz e+1) e []=some es)(t:es.length<=34359738368)(q:amb w)(g:Rep w S (.list (.base .expr) e.args) va)(i:∀b o,S b o->b<w.heap.size)(o0:Obj)(j l m d:TypeId) :
  Calls Tryz.prog 181 #[.pointer (some ⟨w.heap.size+1+1+1+1,0,none⟩),.agg #[.int .i64 e.kind,.int .i64 e.n,.string ⟨e.text.toArray⟩,va],.slice none 0 0]
   (((((w.alloc o0).alloc (.cells #[.string ⟨x.toArray⟩] j (0,0))).alloc (.cells #[.string ⟨y.toArray⟩] l (0,0))).alloc (.cells #[.bool false] m (0,0))).alloc (.cells #[.func (.func 180) #[] #[.pointer (some ⟨w.heap.size+1+1+1,0,none⟩),.pointer (some ⟨w.heap.size+1,0,none⟩),.pointer (some ⟨w.heap.size+1+1,0,none⟩)],.nilFunc] d (0,0)))
   fun r w'=>r=.returned (.tuple #[])/\w'.cell? ⟨w.heap.size+1+1+1,0,none⟩=some (.bool (Du x y es))/\Below w.heap.size w w':=by
 obtain⟨f,u,v,z,A,B⟩:=ao7 w o0 (.cells #[.string ⟨x.toArray⟩] j (0,0)) (.cells #[.string ⟨y.toArray⟩] l (0,0)) (.cells #[.bool false] m (0,0)) (.cells #[.func (.func 180) #[] #[.pointer (some ⟨w.heap.size+1+1+1,0,none⟩),.pointer (some ⟨w.heap.size+1,0,none⟩),.pointer (some ⟨w.heap.size+1+1,0,none⟩)],.nilFunc] d (0,0));generalize (((((w.alloc o0).alloc (.cells #[.string ⟨x.toArray⟩] j (0,0))).alloc (.cells #[.string ⟨y.toArray⟩] l (0,0))).alloc (.cells #[.bool false] m (0,0))).alloc (.cells #[.func (.func 180) #[] #[.pointer (some ⟨w.heap.size+1+1+1,0,none⟩),.pointer (some ⟨w.heap.size+1,0,none⟩),.pointer (some ⟨w.heap.size+1+1,0,none⟩)],.nilFunc] d (0,0)))=W at *;have C:=q.size;have D:Ot x y (w.heap.size+1+1+1) (w.heap.size+1) (w.heap.size+1+1) [] W:=⟨⟨_,A⟩,⟨_,v⟩,⟨_,z⟩,by omega,by omega,by omega⟩;have s:∀b,b<w.heap.size->¬YZ (w.heap.size+1+1+1) (w.heap.size+1) (w.heap.size+1+1) W b:=by
  rintro b G (h | h | h)<;>omega
 refine ((FV (alx x y (w.heap.size+1+1+1) (w.heap.size+1) (w.heap.size+1+1) (by omega) (by omega)) (siz e+1)) e [] es [] W S va (.slice none 0 0) (w.heap.size+1+1+1+1) d h (amb.keep q f.size fun k p=>f.block k (aD p C)) D (by simpa using t) B (by rintro (h | h | h)<;>omega)
  (g.move fun b o a=>⟨a,f.cell (i b o a)⟩) (.nil _) (fun b o a=>⟨by have:=i b o a;omega,s b (i b o a)⟩)).mono ?_
 rintro r w' ⟨rfl,E,c⟩;obtain⟨T,F⟩:=E.o;refine⟨rfl,cell_of_one F,f.trans ⟨c.os,c.tape,c.output,c.size,fun k p=>c.block k (by omega) (s k p)⟩⟩
set_option maxHeartbeats 4000000 in
set_option maxRecDepth 100000 in
theorem U3(e:af)(x y:Str)(es:List Ev)(w:World)(S:Nat->Nat->Prop)(vp:Option Addr)(vn vc:Nat)(h:jG (siz e+1) e []=some es)(g:es.length<=34359738368)(d:amb w)(a:Rep w S (.list (.base .expr) e.args) (.slice vp vn vc))(i:∀b o,S b o->b<w.heap.size) :
  Calls Tryz.prog 130 #[.agg #[.int .i64 e.kind,.int .i64 e.n,.string ⟨e.text.toArray⟩,.slice vp vn vc],.string ⟨x.toArray⟩,.string ⟨y.toArray⟩] w fun r w'=>r=.returned (.bool (Du x y es))/\Below w.heap.size w w':=by
 have c:=SE e x y es w S (.slice vp vn vc) h g d a i;clear h d a;go_enter Tryz.func130,Tryz.ntmps130
 go_wp2_with (go_at_call 181;refine (c _ _ _ _ _).mono ?_;rintro r j ⟨rfl,k,f⟩;have HB:Hid (Below w.heap.size w j):=f;clear f)
 go_ret
 exact⟨rfl,HB.out⟩
theorem ak6:(Tryz.prog.info? 9).map (fun i=>(i.zero,i.size,i.bytes))=some (some (.string ⟨#[]⟩),1,16):=by kernel_rfl
def iK(σ:List Ev):List Value:=σ.map fun p=>.string ⟨p.1.toArray⟩
structure ako(B ob:Nat)(σ:List Ev)(w:World)(v:Value):Prop where
 cell:∃T,w.heap[ob]?=some (.cells #[v] T (0,0))
 own:w.ownsRow B 9 1 v σ.length (iK σ)
 ne:v≠.slice none 0 0
 no:v.ownBlock≠some ob
def Td(B ob:Nat)(σ:List Ev)(w:World):Prop:=(pO<=ob/\pO<=B)/\∃v,ako B ob σ w v
def Og(ob:Nat)(w:World)(c:Nat):Prop:=c=ob\/∃v T,w.heap[ob]?=some (.cells #[v] T (0,0))/\v.ownBlock=some c
theorem kD{ob:Nat}{w:World}{v:Value}{T:TypeId}(h:w.heap[ob]?=some (.cells #[v] T (0,0)))(c:Nat):Og ob w c↔c=ob\/v.ownBlock=some c:=by
 constructor
 ·rintro (a | ⟨v',T',a,b⟩)
  ·exact .inl a
  ·rw[h]at a;simp only[zD,Obj.cells.injEq,Array.mk.injEq,List.cons.injEq,and_true]at a;exact .inr (a.1▸b)
 ·rintro (a | a)
  ·exact .inl a
  ·exact .inr ⟨v,T,h,a⟩
set_option maxHeartbeats 4000000 in
set_option maxRecDepth 100000 in
theorem ajF(B ob:Nat):Clo 213 #[.pointer (some ⟨ob,0,none⟩)] (Td B ob) (Og ob) where
 enters:=enters_of Tryz.func213 (by kernel_rfl) rfl
 keep:=fun w w' σ h p hs=>by
  obtain⟨t,v,⟨T,f⟩,q,i,H⟩:=h;have y:=(p ob (.inl rfl)).trans f;refine⟨⟨t,v,⟨T,y⟩,⟨q.1,?_⟩,i,H⟩,fun c hh=>(kD f c).2 ((kD y c).1 hh)⟩;rcases q.2 with l | ⟨g,cap,cur,hv,G,hh,r⟩
  ·exact .inl l
  ·exact .inr ⟨g,cap,cur,hv,G,(p g ((kD f g).2 (.inr (by rw[hv];rfl)))).trans hh,r⟩
 lt:=fun w σ c h f=>by
  obtain⟨t,v,⟨T,hcell⟩,q,_,_⟩:=h;have I:=(aM.1 hcell).1;rcases (kD hcell c).1 f with rfl | l
  ·exact⟨t.1,I⟩
  ·rcases q.2 with ⟨J,_⟩ | ⟨g,cap,cur,hv,G,hh,r⟩
   ·rw[J]at l;cases l
   ·rw[hv]at l;simp only[Value.ownBlock,zD]at l;subst l;exact⟨Nat.le_trans t.2 G,(aM.1 hh).1⟩
 call:=fun w σ S name bound vb t hG hl hbl z Z=>by
  obtain⟨K,v,⟨T,f⟩,hown,hvne,n⟩:=hG;have o:=(aM.1 f).1;have c0:=cell_of_one f;have f0:=free_of_one f;obtain⟨i0,hi,hz,A,L⟩:=info_parts ak6;have M:iK (σ++[(name,bound)])=iK σ++[.string ⟨name.toArray⟩]:=by simp[iK]
  have fin:∀(a:World) (v':Value),v'≠.slice none 0 0->(∀c,v'.ownBlock=some c->v.ownBlock=some c\/w.heap.size<=c)->a.ownsRow B 9 1 v' (σ.length+1) (iK σ++[.string ⟨name.toArray⟩])->a.os=w.os->a.tape=w.tape->a.output=w.output->w.heap.size<=a.heap.size ->
    (∀k,k<w.heap.size->v.ownBlock≠some k->a.heap[k]?=w.heap[k]?)->Td B ob (σ++[(name,bound)]) (a.setCell ⟨ob,0,none⟩ v')/\dS (Og ob) w (a.setCell ⟨ob,0,none⟩ v'):=by
   intro a v' N hb q l J h3 h4 h5;have m:v'.ownBlock≠some ob:=by
    intro h;rcases hb ob h with h | h
    ·exact n h
    ·omega
   have O:a.heap[ob]?=some (.cells #[v] T (0,0)):=(h5 ob o n).trans f;have C:(a.setCell ⟨ob,0,none⟩ v').heap[ob]?=some (.cells #[v'] T (0,0)):=by simpa using one_setCell O
   refine⟨⟨K,v',⟨⟨T,C⟩,?_,N,m⟩⟩,l,J,h3,?_,fun c P hn=>?_,fun c hh=>?_⟩
   ·rw[M,a6];exact ownsRow_setCell_other q m _
   ·simp[World.setCell];omega
   ·rw[Below.heap_setCell _ _ _ _ (fun h=>hn (.inl h))];exact h5 c P fun h=>hn ((kD f c).2 (.inr h))
   ·rcases (kD C c).1 hh with h | h
    ·exact .inl (.inl h)
    ·exact (hb c h).imp (fun h=>(kD f c).2 (.inr h)) id
  show Calls _ _ #[.string ⟨name.toArray⟩,vb,.pointer (some ⟨ob,0,none⟩)] _ _
  have HF:Hid _:=fin;have HO:=Hid (w.ownsRow B 9 1 v σ.length (iK σ));clear fin;rcases hown.2 with ⟨hv,hn0⟩ | ⟨g,cap,cur,hv,G,hh,hnc,hcm,D,E⟩
  ·exact absurd hv hvne
  ·subst hv;have hgl:g<w.heap.size:=(aM.1 hh).1;have Q:g≠ob:=fun h=>n (by rw[<- h];rfl)
   have HW:Hid (w.ownsRow B 9 1 (.slice (some ⟨g,0,none⟩) σ.length cap) σ.length (iK σ)):=hown;by_cases hr:σ.length+1<=cap
   ·clear z Z hown hh D E;go_enter Tryz.func213,Tryz.ntmps213
    go_wp2_with (at_builtin;refine wpList_append_own_spare _ rfl _ _ 60 rfl B 9 i0 1 Tryz.underlying60 hi A g σ.length cap (iK σ) rfl (HW.out.alloc _) ⟨w.heap.size,0,none⟩ 1 1 [.string ⟨name.toArray⟩] rfl rfl (cell_one_new _ _ _) (fun x F=>by simp at F;subst F;rfl) hr ?_;intro a hown' hgrow
                 have d:a.heap[ob]?=some (.cells #[.slice (some ⟨g,0,none⟩) σ.length cap] T (0,0)):=by rw[hgrow.block ob (by simp;omega) (fun h=>Q (aR h).symm),Below.heap_alloc _ _ _ o];exact f
                 have R:=cell_of_one d
                 have U:=free_of_one d
                 have X:Hid (a.ownsRow B 9 1 (.slice (some ⟨g,0,none⟩) (σ.length+1) cap) (σ.length+1) (iK σ++[.string ⟨name.toArray⟩])/\(w.alloc (.cells #[.string ⟨name.toArray⟩] 9)).grownBy a (some g)):=⟨hown',hgrow⟩
                 clear hown' hgrow d c0 f0)
    refine bodyPost_end (results_none rfl _ _ _) rfl ?_;obtain⟨s,e⟩:=X.out;exact⟨rfl,HF.out a _ (by simp) (fun c h=>.inl h) s e.os e.tape e.output (Nat.le_trans (by simp) e.size) fun k p i=>(e.block k (by simp;omega) (fun h=>i h.symm)).trans (Below.heap_alloc w _ k p)⟩
   ·have hcells:=(HW.out.alloc (.cells #[.string ⟨name.toArray⟩] 9)).cells (g:=g) rfl;have V:σ.length+1<=maxLen:=by simp only[maxLen];omega
    have HC:Hid (∀j u,(iK σ)[j]?=some u->(w.alloc (.cells #[.string ⟨name.toArray⟩] 9)).cell? ((⟨g,0,none⟩:Addr).add j)=some u):=hcells;clear z Z hown hh D E hcells;go_enter Tryz.func213,Tryz.ntmps213
    go_wp2_with (at_builtin;refine wpList_append_grows _ rfl _ _ 60 rfl 9 i0 _ 1 16 Tryz.underlying60 hi hz A L rfl (by decide) (some ⟨g,0,none⟩) σ.length cap (iK σ) rfl (fun h=>by cases h) (by simp[iK]) (fun b h=>by cases h;exact HC.out) ⟨w.heap.size,0,none⟩ 1 1 [.string ⟨name.toArray⟩] rfl rfl (cell_one_new _ _ _) (fun x F=>by simp at F;subst F;rfl) (by omega) V (by omega) ?_;intro v3 a hown' hgrow
                 have d:a.heap[ob]?=some (.cells #[.slice (some ⟨g,0,none⟩) σ.length cap] T (0,0)):=by rw[hgrow.block ob (by simp;omega) (fun h=>by cases h),Below.heap_alloc _ _ _ o];exact f
                 obtain⟨s,⟨_,q0⟩ | ⟨W,cap3,cur3,rfl,e,Y⟩⟩:=hown'
                 ·omega
                 have R:=cell_of_one d
                 have U:=free_of_one d
                 have X:Hid (a.ownsRow B 9 1 (.slice (some ⟨W,0,none⟩) (σ.length+1) cap3) (σ.length+1) (iK σ++[.string ⟨name.toArray⟩])/\(w.alloc (.cells #[.string ⟨name.toArray⟩] 9)).grownBy a none/\w.heap.size<=W):=⟨⟨s,.inr ⟨W,cap3,cur3,rfl,by simp at e;omega,Y⟩⟩,hgrow,by simp at e;omega⟩
                 clear s e Y hgrow d c0 f0)
    refine bodyPost_end (results_none rfl _ _ _) rfl ?_;obtain⟨s,e,Y⟩:=X.out;exact⟨rfl,HF.out a _ (by simp) (fun c h=>.inr (by simp only[Value.ownBlock,zD]at h;omega)) s e.os e.tape e.output (Nat.le_trans (by simp) e.size) fun k p i=>(e.block k (by simp;omega) (fun h=>by cases h)).trans (Below.heap_alloc w _ k p)⟩
theorem ao8(w:World)(o0 a b c:Obj):Below w.heap.size w ((((w.alloc o0).alloc a).alloc b).alloc c)/\((((w.alloc o0).alloc a).alloc b).alloc c).heap.size=w.heap.size+4 /\
  ((((w.alloc o0).alloc a).alloc b).alloc c).heap[w.heap.size+1]?=some a/\((((w.alloc o0).alloc a).alloc b).alloc c).heap[w.heap.size+1+1]?=some b /\
  ((((w.alloc o0).alloc a).alloc b).alloc c).heap[w.heap.size+1+1+1]?=some c:=by
 refine⟨⟨rfl,rfl,rfl,?_,fun k d=>?_⟩,?_,?_,?_,?_⟩
 ·show _<=((((w.heap.push o0).push a).push b).push c).size
  simp;omega
 ·show ((((w.heap.push o0).push a).push b).push c)[k]?=_
  rw[Array.getElem?_push,if_neg (by simp only[Array.size_push];omega),Array.getElem?_push,if_neg (by simp only[Array.size_push];omega),Array.getElem?_push,if_neg (by simp only[Array.size_push];omega),Array.getElem?_push,if_neg (by omega)]
 ·show ((((w.heap.push o0).push a).push b).push c).size=_
  simp
 ·show ((((w.heap.push o0).push a).push b).push c)[w.heap.size+1]?=_
  rw[Array.getElem?_push,if_neg (by simp only[Array.size_push];omega),Array.getElem?_push,if_neg (by simp only[Array.size_push];omega),Array.getElem?_push,if_pos (by simp only[Array.size_push])]
 ·show ((((w.heap.push o0).push a).push b).push c)[w.heap.size+1+1]?=_
  rw[Array.getElem?_push,if_neg (by simp only[Array.size_push];omega),Array.getElem?_push,if_pos (by simp only[Array.size_push])]
 ·show ((((w.heap.push o0).push a).push b).push c)[w.heap.size+1+1+1]?=_
  rw[Array.getElem?_push,if_pos (by simp only[Array.size_push])]
theorem agD{w:World}{B ob:Nat}{σ:List Ev}{v:Value}(h:ako B ob σ w v):∃g,g<w.heap.size/\Rep w (fun b _=>b=g) (.list (.base .str) (σ.map (·.1))) v:=by
 obtain⟨_,⟨hlen,n | ⟨g,cap,cur,rfl,t,hh,c,o,q,f⟩⟩,k,_⟩:=h
 ·exact absurd n.1 k
 ·refine⟨g,(aM.1 hh).1,?_⟩;have l:(σ.map (·.1)).length=σ.length:=by simp
  rw[<- l];refine .list (.base .str) (σ.map (·.1)) g 0 cap (fun i _=>((iK σ)[i]?).getD undef) (by rw[l];exact c) (fun i x j d a hd=>?_) (fun i x j d a hd=>?_)
  ·cases j with
   | succ j=>simp[Ty.cells,Base.cells]at hd
   | zero=>
    have hi:i<σ.length:=by have:=(zC.1 a).1;rwa [l]at this
    have e:0+(i*(Ty.base .str).size+0)=i:=by show 0+(i*1+0)=i;omega
    rw[e];refine⟨?_,rfl⟩;have r:w.cell? ⟨g,i,none⟩=cur[i]?:=by simp[World.cell?,hh]
    rw[r];have m:cur.toList[i]?=(iK σ)[i]?:=by
     rw[<- f,List.getElem?_take,if_pos (by omega)]
    rw[<- Array.getElem?_toList,m];have:i<(iK σ).length:=by simpa [iK] using hi
    rw[zF this];rfl
  ·cases j with
   | succ j=>simp[Ty.cells,Base.cells]at hd
   | zero=>
    simp only[Ty.cells,Base.cells,List.getElem?_cons_zero,zD]at hd;subst hd;have m:(iK σ)[i]?=some (.string ⟨x.toArray⟩):=by
     rw[List.getElem?_map]at a;obtain⟨p,s,rfl⟩:=Option.map_eq_some_iff.1 a;simp[iK,s]
    simp only[m,Option.getD_some];exact Rep.str ⟨List.toArray x⟩
theorem adX(e:af)(es:List Ev)(ys:List Str)(w:World)(S:Nat->Nat->Prop)(va:Value)(h:jG (siz e+1) e []=some es)(K:es.length<=34359738368)(u:pJ (es.map (·.1))=some ys)(x:amb w)(y:Rep w S (.list (.base .expr) e.args) va)(z:∀b o,S b o->b<w.heap.size)(o0:Obj)(A m:TypeId) :
  Calls Tryz.prog 181 #[.pointer (some ⟨w.heap.size+1+1+1,0,none⟩),.agg #[.int .i64 e.kind,.int .i64 e.n,.string ⟨e.text.toArray⟩,va],.slice none 0 0]
   ((((w.alloc o0).alloc (.cells #[] 9 (0,0))).alloc (.cells #[.slice (some ⟨w.heap.size+1,0,none⟩) 0 0] A (0,0))).alloc (.cells #[.func (.func 213) #[] #[.pointer (some ⟨w.heap.size+1+1,0,none⟩)],.nilFunc] m (0,0)))
   fun r w'=>r=.returned (.tuple #[])/\∃v,w'.cell? ⟨w.heap.size+1+1,0,none⟩=some v/\Calls Tryz.prog 214 #[v] w' fun d B=>∃q,d=.returned q/\Below w.heap.size w B/\Dv w.heap.size B S true [⟨false,.list (.base .str)⟩] ys q:=by
 obtain⟨s,L,M,d,N⟩:=ao8 w o0 (.cells #[] 9 (0,0)) (.cells #[.slice (some ⟨w.heap.size+1,0,none⟩) 0 0] A (0,0)) (.cells #[.func (.func 213) #[] #[.pointer (some ⟨w.heap.size+1+1,0,none⟩)],.nilFunc] m (0,0));generalize ((((w.alloc o0).alloc (.cells #[] 9 (0,0))).alloc (.cells #[.slice (some ⟨w.heap.size+1,0,none⟩) 0 0] A (0,0))).alloc (.cells #[.func (.func 213) #[] #[.pointer (some ⟨w.heap.size+1+1,0,none⟩)],.nilFunc] m (0,0)))=W at *;have H:=x.size;have O:Td (w.heap.size+1) (w.heap.size+1+1) [] W:=⟨⟨by omega,by omega⟩,_,⟨_,d⟩,⟨rfl,.inr ⟨w.heap.size+1,0,#[],rfl,aw _,M,aw _,Nat.zero_le _,rfl,rfl⟩⟩,by simp,by simp[Value.ownBlock]⟩;have C:∀b,Og (w.heap.size+1+1) W b->w.heap.size<b/\b<w.heap.size+3:=by
  intro b D;rcases (kD d b).1 D with h | h
  ·omega
  ·simp only[Value.ownBlock,zD]at h;omega
 refine ((FV (ajF (w.heap.size+1) (w.heap.size+1+1)) (siz e+1)) e [] es [] W S va (.slice none 0 0) (w.heap.size+1+1+1) m h (amb.keep x s.size fun k t=>s.block k (aD t H)) O (by simpa using K) N (fun hh=>by have:=C _ hh;omega)
  (y.move fun b o f=>⟨f,s.cell (z b o f)⟩) (.nil _) (fun b o f=>⟨by have:=z b o f;omega,fun hh=>by have:=C _ hh;have:=z b o f;omega⟩)).mono ?_
 rintro r w' ⟨rfl,P,j⟩;have a:Below w.heap.size w w':=s.trans ⟨j.os,j.tape,j.output,j.size,fun k t=>j.block k (by omega) (fun hh=>by have:=C _ hh;omega)⟩;obtain⟨_,v,l⟩:=P;obtain⟨T,hcell⟩:=l.cell;obtain⟨g,E,hrep⟩:=agD l;refine⟨rfl,v,cell_of_one hcell,?_⟩;have F:amb w':=amb.keep x a.size fun k t=>a.block k (aD t H)
 refine (yx w' (fun b _=>b=g) [v] (es.map fun p:Ev=>p.1) ys u F ⟨hrep,trivial⟩ (fun b o D=>D▸E)).mono ?_;rintro d B ⟨q,rfl,G,us,Q,fps,R,I,U⟩;exact⟨q,rfl,a.trans (G.mono a.size),us,Q,fps,R,fun i c J=>⟨Nat.le_trans a.size (I i c J).1,(I i c J).2⟩,U⟩
set_option maxHeartbeats 4000000 in
set_option maxRecDepth 100000 in
theorem ag4(e:af)(es:List Ev)(ys:List Str)(w:World)(S:Nat->Nat->Prop)(vp:Option Addr)(vn vc:Nat)(h:jG (siz e+1) e []=some es)(i:es.length<=34359738368)(c:pJ (es.map (·.1))=some ys)(f:amb w)(a:Rep w S (.list (.base .expr) e.args) (.slice vp vn vc))(j:∀b o,S b o->b<w.heap.size) :
  Calls Tryz.prog 179 #[.agg #[.int .i64 e.kind,.int .i64 e.n,.string ⟨e.text.toArray⟩,.slice vp vn vc]] w fun r w'=>∃v,r=.returned v/\Below w.heap.size w w'/\Dv w.heap.size w' S true [⟨false,.list (.base .str)⟩] ys v:=by
 have d:=adX e es ys w S (.slice vp vn vc) h i c f a j;clear h f a;go_enter Tryz.func179,Tryz.ntmps179
 go_wp2_with (first
  | (go_at_call 181;refine (d _ _ _).mono ?_;rintro r l ⟨rfl,v,k0,k⟩)
  | (go_at_call 214;refine k.mono ?_;rintro m p ⟨q,rfl,g⟩;have HP:Hid _:=g;clear g))
 go_ret
 exact⟨_,rfl,HP.out⟩
theorem abm{w:World}{S:Nat->Nat->Prop}{e:af}{u:Value}(h:ShR (fun _ d u=>Rep w S d u) 0 ⟨true,.base .expr⟩ e u):∃vp vn vc,u=.agg #[.int .i64 e.kind,.int .i64 e.n,.string ⟨e.text.toArray⟩,.slice vp vn vc]/\Rep w S (.list (.base .expr) e.args) (.slice vp vn vc):=by
 obtain⟨vs,rfl,a⟩:=h;have a:aW (fun _ d u=>Rep w S d u) 0 [.int .i64 e.kind,.int .i64 e.n,.str e.text,.list (.base .expr) e.args] vs:=a;rcases vs with _ | ⟨v0,_ | ⟨g,_ | ⟨i,_ | ⟨j,_ | ⟨k,r⟩⟩⟩⟩⟩
 ·exact a.elim
 ·exact a.2.elim
 ·exact a.2.2.elim
 ·exact a.2.2.2.elim
 ·obtain⟨vp,vn,vc,rfl⟩:=xQ a.2.2.2.1;have b:=vV a.1;have c:=vV a.2.1;have f:=lY a.2.2.1;subst b;subst c;subst f;exact⟨vp,vn,vc,rfl,a.2.2.2.1⟩
 ·exact a.2.2.2.2.elim
theorem KP:Sound Tryz.prog Yq:=by
 intro w S args x y h c a d;rcases args with _ | ⟨u,_ | ⟨i,r⟩⟩
 ·exact a.elim
 ·obtain⟨vp,vn,vc,rfl,b⟩:=abm (e:=x) a;have h:pK x=some y:=h;unfold pK at h;obtain⟨es,f,h⟩:=zB.1 h;obtain⟨_,g,h⟩:=zB.1 h;exact ag4 x es y w S vp vn vc f (jb g) h c b d
 ·exact a.elim
theorem Jb:Sound Tryz.prog UD:=by
 intro w S args x y h f a g;rcases args with _ | ⟨u,_ | ⟨i,_ | ⟨j,_ | ⟨o,r⟩⟩⟩⟩
 ·exact a.elim
 ·exact a.2.elim
 ·exact a.2.2.elim
 ·obtain⟨vp,vn,vc,rfl,b⟩:=abm (e:=x.1) a.1;have c:=lY (show Rep w S (.str x.2.1) i from a.2.1.1);have d:=lY (show Rep w S (.str x.2.2) j from a.2.2.1);subst c;subst d;have h:jv x.1 x.2.1 x.2.2=some y:=h;unfold jv at h;obtain⟨es,k,h⟩:=zB.1 h;obtain⟨_,l,h⟩:=zB.1 h;have m:y=Du x.2.1 x.2.2 es:=(aR h).symm;refine (U3 x.1 x.2.1 x.2.2 es w S vp vn vc k (jb l) f b g).mono ?_;rintro e w' ⟨rfl,n⟩;exact⟨_,rfl,n,by rw[m];exact P9 _⟩
 ·exact a.2.2.elim
end Go.Proofs.YtapgeemjgckgaaaGreatDoor
