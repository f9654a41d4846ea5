import Derived.Test.YtkebfkahdmddpaaGreatDoorWalkV
import Derived.ArgAppend
import Derived.Maps.AppendAt
import Derived.Deep.DeepAppendRoom
set_option linter.unusedSimpArgs false
set_option linter.unusedVariables false
/- The closures that the walk over the names of an expression is handed. -/
namespace Go.Proofs.YtkebfkahdmddpaaGreatDoor
open Go.Abs Go.Proofs Go.RowKit
def Vp(ob fb tb:Nat)(_:World)(c:Nat):Prop:=c=ob\/c=fb\/c=tb
def AZ(x y:Str)(σ:List Ev):Bool:=σ.any fun p=>p.1==x&&p.2.contains y
structure KX(x y:Str)(ob fb tb:Nat)(σ:List Ev)(w:World):Prop where
 o:∃T,w.heap[ob]?=some (.cells #[.bool (AZ x y σ)] T (0,0))
 f:∃T,w.heap[fb]?=some (.cells #[.string ⟨x.toArray⟩] T (0,0))
 t:∃T,w.heap[tb]?=some (.cells #[.string ⟨y.toArray⟩] T (0,0))
 am:pM<=ob/\pM<=fb/\pM<=tb
set_option maxHeartbeats 4000000 in
set_option maxRecDepth 100000 in
theorem agF(x y:Str)(ob fb tb:Nat)(E:ob≠fb)(F:ob≠tb):Clo 77 #[.pointer (some ⟨ob,0,none⟩),.pointer (some ⟨fb,0,none⟩),.pointer (some ⟨tb,0,none⟩)] (KX x y ob fb tb) (Vp ob fb tb) where
 enters:=enters_of Tryz.func77 (by kernel_rfl) rfl
 keep:=fun w w' σ h l z=>by
  refine⟨⟨?_,?_,?_,h.am⟩,fun c d=>d⟩
  ·obtain⟨T,e⟩:=h.o;exact⟨T,(l ob (.inl rfl)).trans e⟩
  ·obtain⟨T,e⟩:=h.f;exact⟨T,(l fb (.inr (.inl rfl))).trans e⟩
  ·obtain⟨T,e⟩:=h.t;exact⟨T,(l tb (.inr (.inr rfl))).trans e⟩
 lt:=fun w σ c h d=>by
  rcases d with rfl | rfl | rfl
  ·obtain⟨T,e⟩:=h.o;exact⟨h.am.1,(aR.1 e).1⟩
  ·obtain⟨T,e⟩:=h.f;exact⟨h.am.2.1,(aR.1 e).1⟩
  ·obtain⟨T,e⟩:=h.t;exact⟨h.am.2.2,(aR.1 e).1⟩
 call:=fun w σ S name bound vb G i M m n H=>by
  obtain⟨A,j⟩:=i.o;obtain⟨I,q⟩:=i.f;obtain⟨J,r⟩:=i.t;have s:=cell_of_one j;have N:=cell_of_one q;have O:=cell_of_one r;have B:=free_of_one j;have g:=(aR.1 j).1;have hcall:=D9 bound y S vb m w G n (fun b o z=>(H b o z).1) w (Below.refl _ _);have hcap:AZ x y (σ++[(name,bound)])=(AZ x y σ||(name==x&&decide (0<=posOf y 0 bound))):=by
   unfold AZ;rw[List.any_append];have:bound.contains y=decide (0<=posOf y 0 bound):=by
    by_cases C:0<=posOf y 0 bound
    ·have:=(not_congr (pq y bound 0)).1 (by omega);simp[C];simpa using this
    ·have:=(pq y bound 0).1 (by omega);simp[C];simpa using this
   simp only[List.any_cons,List.any_nil,Bool.or_false,this]
  generalize K:AZ x y σ=u at s j hcap;have fin:∀(w':World) (b:Bool),b=AZ x y (σ++[(name,bound)])->Below w.heap.size w w'->KX x y ob fb tb (σ++[(name,bound)]) (w'.setCell ⟨ob,0,none⟩ (.bool b))/\dN (Vp ob fb tb) w (w'.setCell ⟨ob,0,none⟩ (.bool b)):=by
   intro w' b L a;subst L;have e1':w'.heap[ob]?=some (.cells #[.bool u] A (0,0)):=(a.block ob g).trans j;have e2':=(a.block fb (aR.1 q).1).trans q;have e3':=(a.block tb (aR.1 r).1).trans r;refine⟨⟨⟨A,one_setCell e1'⟩,⟨I,?_⟩,⟨J,?_⟩,i.am⟩,a.os,a.tape,a.output,?_,fun c d k=>?_,fun c d=>.inl d⟩
   ·rw[Below.heap_setCell _ _ _ _ (Ne.symm E)];exact e2'
   ·rw[Below.heap_setCell _ _ _ _ (Ne.symm F)];exact e3'
   ·have:=a.size;simp[World.setCell];omega
   ·rw[Below.heap_setCell _ _ _ _ (fun h=>k (.inl h))];exact a.block c d
  have HF:Hid ((∀(w':World) (b:Bool),b=AZ x y (σ++[(name,bound)])->Below w.heap.size w w'->KX x y ob fb tb (σ++[(name,bound)]) (w'.setCell ⟨ob,0,none⟩ (.bool b))/\dN (Vp ob fb tb) w (w'.setCell ⟨ob,0,none⟩ (.bool b)))/\AZ x y (σ++[(name,bound)])=(u||(name==x&&decide (0<=posOf y 0 bound)))):=⟨fin,hcap⟩;clear fin hcap i;show Calls _ _ #[.string ⟨name.toArray⟩,vb,.pointer (some ⟨ob,0,none⟩),.pointer (some ⟨fb,0,none⟩),.pointer (some ⟨tb,0,none⟩)] _ _
  cases u with
  | true=>
   go_enter Tryz.func77,Tryz.ntmps77
   go_wp2
   refine bodyPost_end (results_none rfl _ _ _) rfl ?_;exact⟨rfl,HF.out.1 w true (by rw[HF.out.2];rfl) (Below.refl _ _)⟩
  | false=>
   by_cases k:name=x
   ·subst k;go_enter Tryz.func77,Tryz.ntmps77
    go_wp2_with (go_at_call 48;refine hcall.mono ?_;rintro e D ⟨rfl,a⟩;have c1':=(a.cell (p:=⟨ob,0,none⟩) g).trans s;have f1':=(a.frozen (p:=⟨ob,0,none⟩) g).trans B;have HB:Hid (Below w.heap.size w D):=a;clear a s B)
    refine bodyPost_end (results_none rfl _ _ _) rfl ?_;exact⟨rfl,HF.out.1 D _ (by rw[HF.out.2];simp) HB.out⟩
   ·go_enter Tryz.func77,Tryz.ntmps77
    have v:(name==x)=false:=by simpa using k
    go_wp2
    refine bodyPost_end (results_none rfl _ _ _) rfl ?_;exact⟨rfl,HF.out.1 w false (by rw[HF.out.2,v];rfl) (Below.refl _ _)⟩
theorem ai4(w:World)(o0 a b c d:Obj):Below w.heap.size w (((((w.alloc o0).alloc a).alloc b).alloc c).alloc d)/\(((((w.alloc o0).alloc a).alloc b).alloc c).alloc d).heap.size=w.heap.size+5 /\
  (((((w.alloc o0).alloc a).alloc b).alloc c).alloc d).heap[w.heap.size+1]?=some a/\(((((w.alloc o0).alloc a).alloc b).alloc c).alloc d).heap[w.heap.size+1+1]?=some b /\
  (((((w.alloc o0).alloc a).alloc b).alloc c).alloc d).heap[w.heap.size+1+1+1]?=some c/\(((((w.alloc o0).alloc a).alloc b).alloc c).alloc d).heap[w.heap.size+1+1+1+1]?=some d:=by
 refine⟨⟨rfl,rfl,rfl,?_,fun k e=>?_⟩,?_,?_,?_,?_,?_⟩
 ·show _<=(((((w.heap.push o0).push a).push b).push c).push d).size
  simp;omega
 ·show (((((w.heap.push o0).push a).push b).push c).push d)[k]?=_
  simp only[Array.getElem?_push,Array.size_push];rw[if_neg (by omega),if_neg (by omega),if_neg (by omega),if_neg (by omega),if_neg (by omega)]
 ·show (((((w.heap.push o0).push a).push b).push c).push d).size=_
  simp
 ·show (((((w.heap.push o0).push a).push b).push c).push d)[w.heap.size+1]?=_
  rw[Array.getElem?_push,if_neg (by simp only[Array.size_push];omega),Array.getElem?_push,if_neg (by simp only[Array.size_push];omega),Array.getElem?_push,if_neg (by simp only[Array.size_push];omega),Array.getElem?_push,if_pos (by simp only[Array.size_push])]
 ·show (((((w.heap.push o0).push a).push b).push c).push d)[w.heap.size+1+1]?=_
  rw[Array.getElem?_push,if_neg (by simp only[Array.size_push];omega),Array.getElem?_push,if_neg (by simp only[Array.size_push];omega),Array.getElem?_push,if_pos (by simp only[Array.size_push])]
 ·show (((((w.heap.push o0).push a).push b).push c).push d)[w.heap.size+1+1+1]?=_
  rw[Array.getElem?_push,if_neg (by simp only[Array.size_push];omega),Array.getElem?_push,if_pos (by simp only[Array.size_push])]
 ·show (((((w.heap.push o0).push a).push b).push c).push d)[w.heap.size+1+1+1+1]?=_
  rw[Array.getElem?_push,if_pos (by simp only[Array.size_push])]
theorem OY(e:af)(x y:Str)(es:List Ev)(w:World)(S:Nat->Nat->Prop)(va:Value)(h:jC (siz e+1) e []=some es)(t:es.length<=34359738368)(q:amb w)(g:Rep w S (.list (.base .expr) e.args) va)(i:∀b o,S b o->b<w.heap.size)(o0:Obj)(j l m d:TypeId) :
  Calls Tryz.prog 78 #[.pointer (some ⟨w.heap.size+1+1+1+1,0,none⟩),.agg #[.int .i64 e.kind,.int .i64 e.n,.string ⟨e.text.toArray⟩,va],.slice none 0 0]
   (((((w.alloc o0).alloc (.cells #[.string ⟨x.toArray⟩] j (0,0))).alloc (.cells #[.string ⟨y.toArray⟩] l (0,0))).alloc (.cells #[.bool false] m (0,0))).alloc (.cells #[.func (.func 77) #[] #[.pointer (some ⟨w.heap.size+1+1+1,0,none⟩),.pointer (some ⟨w.heap.size+1,0,none⟩),.pointer (some ⟨w.heap.size+1+1,0,none⟩)],.nilFunc] d (0,0)))
   fun r w'=>r=.returned (.tuple #[])/\w'.cell? ⟨w.heap.size+1+1+1,0,none⟩=some (.bool (AZ x y es))/\Below w.heap.size w w':=by
 obtain⟨f,u,v,z,A,B⟩:=ai4 w o0 (.cells #[.string ⟨x.toArray⟩] j (0,0)) (.cells #[.string ⟨y.toArray⟩] l (0,0)) (.cells #[.bool false] m (0,0)) (.cells #[.func (.func 77) #[] #[.pointer (some ⟨w.heap.size+1+1+1,0,none⟩),.pointer (some ⟨w.heap.size+1,0,none⟩),.pointer (some ⟨w.heap.size+1+1,0,none⟩)],.nilFunc] d (0,0));generalize (((((w.alloc o0).alloc (.cells #[.string ⟨x.toArray⟩] j (0,0))).alloc (.cells #[.string ⟨y.toArray⟩] l (0,0))).alloc (.cells #[.bool false] m (0,0))).alloc (.cells #[.func (.func 77) #[] #[.pointer (some ⟨w.heap.size+1+1+1,0,none⟩),.pointer (some ⟨w.heap.size+1,0,none⟩),.pointer (some ⟨w.heap.size+1+1,0,none⟩)],.nilFunc] d (0,0)))=W at *;have C:=q.size;have D:KX x y (w.heap.size+1+1+1) (w.heap.size+1) (w.heap.size+1+1) [] W:=⟨⟨_,A⟩,⟨_,v⟩,⟨_,z⟩,by omega,by omega,by omega⟩;have s:∀b,b<w.heap.size->¬Vp (w.heap.size+1+1+1) (w.heap.size+1) (w.heap.size+1+1) W b:=by
  rintro b G (h | h | h)<;>omega
 refine ((Dv (agF x y (w.heap.size+1+1+1) (w.heap.size+1) (w.heap.size+1+1) (by omega) (by omega)) (siz e+1)) e [] es [] W S va (.slice none 0 0) (w.heap.size+1+1+1+1) d h (amb.keep q f.size fun k p=>f.block k (aE p C)) D (by simpa using t) B (by rintro (h | h | h)<;>omega)
  (g.move fun b o a=>⟨a,f.cell (i b o a)⟩) (.nil _) (fun b o a=>⟨by have:=i b o a;omega,s b (i b o a)⟩)).mono ?_
 rintro r w' ⟨rfl,E,c⟩;obtain⟨T,F⟩:=E.o;refine⟨rfl,cell_of_one F,f.trans ⟨c.os,c.tape,c.output,c.size,fun k p=>c.block k (by omega) (s k p)⟩⟩
set_option maxHeartbeats 4000000 in
set_option maxRecDepth 100000 in
theorem QJ(e:af)(x y:Str)(es:List Ev)(w:World)(S:Nat->Nat->Prop)(vp:Option Addr)(vn vc:Nat)(h:jC (siz e+1) e []=some es)(g:es.length<=34359738368)(d:amb w)(a:Rep w S (.list (.base .expr) e.args) (.slice vp vn vc))(i:∀b o,S b o->b<w.heap.size) :
  Calls Tryz.prog 50 #[.agg #[.int .i64 e.kind,.int .i64 e.n,.string ⟨e.text.toArray⟩,.slice vp vn vc],.string ⟨x.toArray⟩,.string ⟨y.toArray⟩] w fun r w'=>r=.returned (.bool (AZ x y es))/\Below w.heap.size w w':=by
 have c:=OY e x y es w S (.slice vp vn vc) h g d a i;clear h d a;go_enter Tryz.func50,Tryz.ntmps50
 go_wp2_with (go_at_call 78;refine (c _ _ _ _ _).mono ?_;rintro r j ⟨rfl,k,f⟩;have HB:Hid (Below w.heap.size w j):=f;clear f)
 go_ret
 exact⟨rfl,HB.out⟩
theorem agi:(Tryz.prog.info? 9).map (fun i=>(i.zero,i.size,i.bytes))=some (some (.string ⟨#[]⟩),1,16):=by kernel_rfl
def iy(σ:List Ev):List Value:=σ.map fun p=>.string ⟨p.1.toArray⟩
structure afm(B ob:Nat)(σ:List Ev)(w:World)(v:Value):Prop where
 cell:∃T,w.heap[ob]?=some (.cells #[v] T (0,0))
 own:w.ownsRow B 9 1 v σ.length (iy σ)
 ne:v≠.slice none 0 0
 no:v.ownBlock≠some ob
def Pe(B ob:Nat)(σ:List Ev)(w:World):Prop:=(pM<=ob/\pM<=B)/\∃v,afm B ob σ w v
def KQ(ob:Nat)(w:World)(c:Nat):Prop:=c=ob\/∃v T,w.heap[ob]?=some (.cells #[v] T (0,0))/\v.ownBlock=some c
theorem jU{ob:Nat}{w:World}{v:Value}{T:TypeId}(h:w.heap[ob]?=some (.cells #[v] T (0,0)))(c:Nat):KQ ob w c↔c=ob\/v.ownBlock=some c:=by
 constructor
 ·rintro (a | ⟨v',T',a,b⟩)
  ·exact .inl a
  ·rw[h]at a;simp only[zD,Obj.cells.injEq,Array.mk.injEq,List.cons.injEq,and_true]at a;exact .inr (a.1▸b)
 ·rintro (a | a)
  ·exact .inl a
  ·exact .inr ⟨v,T,h,a⟩
set_option maxHeartbeats 4000000 in
set_option maxRecDepth 100000 in
theorem aeL(B ob:Nat):Clo 115 #[.pointer (some ⟨ob,0,none⟩)] (Pe B ob) (KQ ob) where
 enters:=enters_of Tryz.func115 (by kernel_rfl) rfl
 keep:=fun w w' σ h p hs=>by
  obtain⟨t,v,⟨T,f⟩,q,i,H⟩:=h;have y:=(p ob (.inl rfl)).trans f;refine⟨⟨t,v,⟨T,y⟩,⟨q.1,?_⟩,i,H⟩,fun c hh=>(jU f c).2 ((jU y c).1 hh)⟩;rcases q.2 with l | ⟨g,cap,cur,hv,G,hh,r⟩
  ·exact .inl l
  ·exact .inr ⟨g,cap,cur,hv,G,(p g ((jU f g).2 (.inr (by rw[hv];rfl)))).trans hh,r⟩
 lt:=fun w σ c h f=>by
  obtain⟨t,v,⟨T,hcell⟩,q,_,_⟩:=h;have I:=(aR.1 hcell).1;rcases (jU hcell c).1 f with rfl | l
  ·exact⟨t.1,I⟩
  ·rcases q.2 with ⟨J,_⟩ | ⟨g,cap,cur,hv,G,hh,r⟩
   ·rw[J]at l;cases l
   ·rw[hv]at l;simp only[Value.ownBlock,zD]at l;subst l;exact⟨Nat.le_trans t.2 G,(aR.1 hh).1⟩
 call:=fun w σ S name bound vb t hG hl hbl z Z=>by
  obtain⟨K,v,⟨T,f⟩,hown,hvne,n⟩:=hG;have o:=(aR.1 f).1;have c0:=cell_of_one f;have f0:=free_of_one f;obtain⟨i0,hi,hz,A,L⟩:=info_parts agi;have M:iy (σ++[(name,bound)])=iy σ++[.string ⟨name.toArray⟩]:=by simp[iy]
  have fin:∀(a:World) (v':Value),v'≠.slice none 0 0->(∀c,v'.ownBlock=some c->v.ownBlock=some c\/w.heap.size<=c)->a.ownsRow B 9 1 v' (σ.length+1) (iy σ++[.string ⟨name.toArray⟩])->a.os=w.os->a.tape=w.tape->a.output=w.output->w.heap.size<=a.heap.size ->
    (∀k,k<w.heap.size->v.ownBlock≠some k->a.heap[k]?=w.heap[k]?)->Pe B ob (σ++[(name,bound)]) (a.setCell ⟨ob,0,none⟩ v')/\dN (KQ ob) w (a.setCell ⟨ob,0,none⟩ v'):=by
   intro a v' N hb q l J h3 h4 h5;have m:v'.ownBlock≠some ob:=by
    intro h;rcases hb ob h with h | h
    ·exact n h
    ·omega
   have O:a.heap[ob]?=some (.cells #[v] T (0,0)):=(h5 ob o n).trans f;have C:(a.setCell ⟨ob,0,none⟩ v').heap[ob]?=some (.cells #[v'] T (0,0)):=by simpa using one_setCell O
   refine⟨⟨K,v',⟨⟨T,C⟩,?_,N,m⟩⟩,l,J,h3,?_,fun c P hn=>?_,fun c hh=>?_⟩
   ·rw[M,a7];exact ownsRow_setCell_other q m _
   ·simp[World.setCell];omega
   ·rw[Below.heap_setCell _ _ _ _ (fun h=>hn (.inl h))];exact h5 c P fun h=>hn ((jU f c).2 (.inr h))
   ·rcases (jU C c).1 hh with h | h
    ·exact .inl (.inl h)
    ·exact (hb c h).imp (fun h=>(jU f c).2 (.inr h)) id
  show Calls _ _ #[.string ⟨name.toArray⟩,vb,.pointer (some ⟨ob,0,none⟩)] _ _
  have HF:Hid _:=fin;have HO:=Hid (w.ownsRow B 9 1 v σ.length (iy σ));clear fin;rcases hown.2 with ⟨hv,hn0⟩ | ⟨g,cap,cur,hv,G,hh,hnc,hcm,D,E⟩
  ·exact absurd hv hvne
  ·subst hv;have hgl:g<w.heap.size:=(aR.1 hh).1;have Q:g≠ob:=fun h=>n (by rw[<- h];rfl)
   have HW:Hid (w.ownsRow B 9 1 (.slice (some ⟨g,0,none⟩) σ.length cap) σ.length (iy σ)):=hown;by_cases hr:σ.length+1<=cap
   ·clear z Z hown hh D E;go_enter Tryz.func115,Tryz.ntmps115
    go_wp2_with (at_builtin;refine wpList_append_own_spare _ rfl _ _ 33 rfl B 9 i0 1 Tryz.underlying33 hi A g σ.length cap (iy σ) rfl (HW.out.alloc _) ⟨w.heap.size,0,none⟩ 1 1 [.string ⟨name.toArray⟩] rfl rfl (cell_one_new _ _ _) (fun x F=>by simp at F;subst F;rfl) hr ?_;intro a hown' hgrow
                 have d:a.heap[ob]?=some (.cells #[.slice (some ⟨g,0,none⟩) σ.length cap] T (0,0)):=by rw[hgrow.block ob (by simp;omega) (fun h=>Q (a6 h).symm),Below.heap_alloc _ _ _ o];exact f
                 have R:=cell_of_one d
                 have U:=free_of_one d
                 have X:Hid (a.ownsRow B 9 1 (.slice (some ⟨g,0,none⟩) (σ.length+1) cap) (σ.length+1) (iy σ++[.string ⟨name.toArray⟩])/\(w.alloc (.cells #[.string ⟨name.toArray⟩] 9)).grownBy a (some g)):=⟨hown',hgrow⟩
                 clear hown' hgrow d c0 f0)
    refine bodyPost_end (results_none rfl _ _ _) rfl ?_;obtain⟨s,e⟩:=X.out;exact⟨rfl,HF.out a _ (by simp) (fun c h=>.inl h) s e.os e.tape e.output (Nat.le_trans (by simp) e.size) fun k p i=>(e.block k (by simp;omega) (fun h=>i h.symm)).trans (Below.heap_alloc w _ k p)⟩
   ·have hcells:=(HW.out.alloc (.cells #[.string ⟨name.toArray⟩] 9)).cells (g:=g) rfl;have V:σ.length+1<=maxLen:=by simp only[maxLen];omega
    have HC:Hid (∀j u,(iy σ)[j]?=some u->(w.alloc (.cells #[.string ⟨name.toArray⟩] 9)).cell? ((⟨g,0,none⟩:Addr).add j)=some u):=hcells;clear z Z hown hh D E hcells;go_enter Tryz.func115,Tryz.ntmps115
    go_wp2_with (at_builtin;refine wpList_append_grows _ rfl _ _ 33 rfl 9 i0 _ 1 16 Tryz.underlying33 hi hz A L rfl (by decide) (some ⟨g,0,none⟩) σ.length cap (iy σ) rfl (fun h=>by cases h) (by simp[iy]) (fun b h=>by cases h;exact HC.out) ⟨w.heap.size,0,none⟩ 1 1 [.string ⟨name.toArray⟩] rfl rfl (cell_one_new _ _ _) (fun x F=>by simp at F;subst F;rfl) (by omega) V (by omega) ?_;intro v3 a hown' hgrow
                 have d:a.heap[ob]?=some (.cells #[.slice (some ⟨g,0,none⟩) σ.length cap] T (0,0)):=by rw[hgrow.block ob (by simp;omega) (fun h=>by cases h),Below.heap_alloc _ _ _ o];exact f
                 obtain⟨s,⟨_,q0⟩ | ⟨W,cap3,cur3,rfl,e,Y⟩⟩:=hown'
                 ·omega
                 have R:=cell_of_one d
                 have U:=free_of_one d
                 have X:Hid (a.ownsRow B 9 1 (.slice (some ⟨W,0,none⟩) (σ.length+1) cap3) (σ.length+1) (iy σ++[.string ⟨name.toArray⟩])/\(w.alloc (.cells #[.string ⟨name.toArray⟩] 9)).grownBy a none/\w.heap.size<=W):=⟨⟨s,.inr ⟨W,cap3,cur3,rfl,by simp at e;omega,Y⟩⟩,hgrow,by simp at e;omega⟩
                 clear s e Y hgrow d c0 f0)
    refine bodyPost_end (results_none rfl _ _ _) rfl ?_;obtain⟨s,e,Y⟩:=X.out;exact⟨rfl,HF.out a _ (by simp) (fun c h=>.inr (by simp only[Value.ownBlock,zD]at h;omega)) s e.os e.tape e.output (Nat.le_trans (by simp) e.size) fun k p i=>(e.block k (by simp;omega) (fun h=>by cases h)).trans (Below.heap_alloc w _ k p)⟩
theorem ai5(w:World)(o0 a b c:Obj):Below w.heap.size w ((((w.alloc o0).alloc a).alloc b).alloc c)/\((((w.alloc o0).alloc a).alloc b).alloc c).heap.size=w.heap.size+4 /\
  ((((w.alloc o0).alloc a).alloc b).alloc c).heap[w.heap.size+1]?=some a/\((((w.alloc o0).alloc a).alloc b).alloc c).heap[w.heap.size+1+1]?=some b /\
  ((((w.alloc o0).alloc a).alloc b).alloc c).heap[w.heap.size+1+1+1]?=some c:=by
 refine⟨⟨rfl,rfl,rfl,?_,fun k d=>?_⟩,?_,?_,?_,?_⟩
 ·show _<=((((w.heap.push o0).push a).push b).push c).size
  simp;omega
 ·show ((((w.heap.push o0).push a).push b).push c)[k]?=_
  rw[Array.getElem?_push,if_neg (by simp only[Array.size_push];omega),Array.getElem?_push,if_neg (by simp only[Array.size_push];omega),Array.getElem?_push,if_neg (by simp only[Array.size_push];omega),Array.getElem?_push,if_neg (by omega)]
 ·show ((((w.heap.push o0).push a).push b).push c).size=_
  simp
 ·show ((((w.heap.push o0).push a).push b).push c)[w.heap.size+1]?=_
  rw[Array.getElem?_push,if_neg (by simp only[Array.size_push];omega),Array.getElem?_push,if_neg (by simp only[Array.size_push];omega),Array.getElem?_push,if_pos (by simp only[Array.size_push])]
 ·show ((((w.heap.push o0).push a).push b).push c)[w.heap.size+1+1]?=_
  rw[Array.getElem?_push,if_neg (by simp only[Array.size_push];omega),Array.getElem?_push,if_pos (by simp only[Array.size_push])]
 ·show ((((w.heap.push o0).push a).push b).push c)[w.heap.size+1+1+1]?=_
  rw[Array.getElem?_push,if_pos (by simp only[Array.size_push])]
theorem abY{w:World}{B ob:Nat}{σ:List Ev}{v:Value}(h:afm B ob σ w v):∃g,g<w.heap.size/\Rep w (fun b _=>b=g) (.list (.base .str) (σ.map (·.1))) v:=by
 obtain⟨_,⟨hlen,o | ⟨g,cap,cur,rfl,u,hh,f,q,r,k⟩⟩,l,_⟩:=h
 ·exact absurd o.1 l
 ·refine⟨g,(aR.1 hh).1,?_⟩;have m:(σ.map (·.1)).length=σ.length:=by simp
  rw[<- m];refine .list (.base .str) (σ.map (·.1)) g 0 cap (fun i _=>((iy σ)[i]?).getD undef) (by rw[m];exact f) (fun i x j d c a=>?_) (fun i x j d c a=>?_)
  ·cases j with
   | succ j=>simp[Ty.cells,Base.cells]at a
   | zero=>
    have hi:i<σ.length:=by have:=(zC.1 c).1;rwa [m]at this
    have e:0+(i*(Ty.base .str).size+0)=i:=by show 0+(i*1+0)=i;omega
    rw[e];refine⟨?_,rfl⟩;have s:w.cell? ⟨g,i,none⟩=cur[i]?:=by simp[World.cell?,hh]
    rw[s];have n:cur.toList[i]?=(iy σ)[i]?:=by
     rw[<- k,List.getElem?_take,if_pos (by omega)]
    rw[<- Array.getElem?_toList,n];have:i<(iy σ).length:=by simpa [iy] using hi
    rw[zF this];rfl
  ·cases j with
   | succ j=>simp[Ty.cells,Base.cells]at a
   | zero=>
    simp only[Ty.cells,Base.cells,List.getElem?_cons_zero,zD]at a;subst a;have n:(iy σ)[i]?=some (.string ⟨x.toArray⟩):=by
     rw[List.getElem?_map]at c;obtain⟨p,t,rfl⟩:=Option.map_eq_some_iff.1 c;simp[iy,t]
    simp only[n,Option.getD_some];exact Rep.str ⟨List.toArray x⟩
theorem ZK(e:af)(es:List Ev)(ys:List Str)(w:World)(S:Nat->Nat->Prop)(va:Value)(h:jC (siz e+1) e []=some es)(K:es.length<=34359738368)(u:pG (es.map (·.1))=some ys)(x:amb w)(y:Rep w S (.list (.base .expr) e.args) va)(z:∀b o,S b o->b<w.heap.size)(o0:Obj)(A m:TypeId) :
  Calls Tryz.prog 78 #[.pointer (some ⟨w.heap.size+1+1+1,0,none⟩),.agg #[.int .i64 e.kind,.int .i64 e.n,.string ⟨e.text.toArray⟩,va],.slice none 0 0]
   ((((w.alloc o0).alloc (.cells #[] 9 (0,0))).alloc (.cells #[.slice (some ⟨w.heap.size+1,0,none⟩) 0 0] A (0,0))).alloc (.cells #[.func (.func 115) #[] #[.pointer (some ⟨w.heap.size+1+1,0,none⟩)],.nilFunc] m (0,0)))
   fun r w'=>r=.returned (.tuple #[])/\∃v,w'.cell? ⟨w.heap.size+1+1,0,none⟩=some v/\Calls Tryz.prog 116 #[v] w' fun d B=>∃q,d=.returned q/\Below w.heap.size w B/\Ba w.heap.size B S true [⟨false,.list (.base .str)⟩] ys q:=by
 obtain⟨s,L,M,d,N⟩:=ai5 w o0 (.cells #[] 9 (0,0)) (.cells #[.slice (some ⟨w.heap.size+1,0,none⟩) 0 0] A (0,0)) (.cells #[.func (.func 115) #[] #[.pointer (some ⟨w.heap.size+1+1,0,none⟩)],.nilFunc] m (0,0));generalize ((((w.alloc o0).alloc (.cells #[] 9 (0,0))).alloc (.cells #[.slice (some ⟨w.heap.size+1,0,none⟩) 0 0] A (0,0))).alloc (.cells #[.func (.func 115) #[] #[.pointer (some ⟨w.heap.size+1+1,0,none⟩)],.nilFunc] m (0,0)))=W at *;have H:=x.size;have O:Pe (w.heap.size+1) (w.heap.size+1+1) [] W:=⟨⟨by omega,by omega⟩,_,⟨_,d⟩,⟨rfl,.inr ⟨w.heap.size+1,0,#[],rfl,az _,M,az _,Nat.zero_le _,rfl,rfl⟩⟩,by simp,by simp[Value.ownBlock]⟩;have C:∀b,KQ (w.heap.size+1+1) W b->w.heap.size<b/\b<w.heap.size+3:=by
  intro b D;rcases (jU d b).1 D with h | h
  ·omega
  ·simp only[Value.ownBlock,zD]at h;omega
 refine ((Dv (aeL (w.heap.size+1) (w.heap.size+1+1)) (siz e+1)) e [] es [] W S va (.slice none 0 0) (w.heap.size+1+1+1) m h (amb.keep x s.size fun k t=>s.block k (aE t H)) O (by simpa using K) N (fun hh=>by have:=C _ hh;omega)
  (y.move fun b o f=>⟨f,s.cell (z b o f)⟩) (.nil _) (fun b o f=>⟨by have:=z b o f;omega,fun hh=>by have:=C _ hh;have:=z b o f;omega⟩)).mono ?_
 rintro r w' ⟨rfl,P,j⟩;have a:Below w.heap.size w w':=s.trans ⟨j.os,j.tape,j.output,j.size,fun k t=>j.block k (by omega) (fun hh=>by have:=C _ hh;omega)⟩;obtain⟨_,v,l⟩:=P;obtain⟨T,hcell⟩:=l.cell;obtain⟨g,E,hrep⟩:=abY l;refine⟨rfl,v,cell_of_one hcell,?_⟩;have F:amb w':=amb.keep x a.size fun k t=>a.block k (aE t H)
 refine (wC w' (fun b _=>b=g) [v] (es.map fun p:Ev=>p.1) ys u F ⟨hrep,trivial⟩ (fun b o D=>D▸E)).mono ?_;rintro d B ⟨q,rfl,G,us,Q,fps,R,I,U⟩;exact⟨q,rfl,a.trans (G.mono a.size),us,Q,fps,R,fun i c J=>⟨Nat.le_trans a.size (I i c J).1,(I i c J).2⟩,U⟩
set_option maxHeartbeats 4000000 in
set_option maxRecDepth 100000 in
theorem acu(e:af)(es:List Ev)(ys:List Str)(w:World)(S:Nat->Nat->Prop)(vp:Option Addr)(vn vc:Nat)(h:jC (siz e+1) e []=some es)(i:es.length<=34359738368)(c:pG (es.map (·.1))=some ys)(f:amb w)(a:Rep w S (.list (.base .expr) e.args) (.slice vp vn vc))(j:∀b o,S b o->b<w.heap.size) :
  Calls Tryz.prog 76 #[.agg #[.int .i64 e.kind,.int .i64 e.n,.string ⟨e.text.toArray⟩,.slice vp vn vc]] w fun r w'=>∃v,r=.returned v/\Below w.heap.size w w'/\Ba w.heap.size w' S true [⟨false,.list (.base .str)⟩] ys v:=by
 have d:=ZK e es ys w S (.slice vp vn vc) h i c f a j;clear h f a;go_enter Tryz.func76,Tryz.ntmps76
 go_wp2_with (first
  | (go_at_call 78;refine (d _ _ _).mono ?_;rintro r l ⟨rfl,v,k0,k⟩)
  | (go_at_call 116;refine k.mono ?_;rintro m p ⟨q,rfl,g⟩;have HP:Hid _:=g;clear g))
 go_ret
 exact⟨_,rfl,HP.out⟩
theorem XJ{w:World}{S:Nat->Nat->Prop}{e:af}{u:Value}(h:ShR (fun _ d u=>Rep w S d u) 0 ⟨true,.base .expr⟩ e u):∃vp vn vc,u=.agg #[.int .i64 e.kind,.int .i64 e.n,.string ⟨e.text.toArray⟩,.slice vp vn vc]/\Rep w S (.list (.base .expr) e.args) (.slice vp vn vc):=by
 obtain⟨vs,rfl,a⟩:=h;have a:aW (fun _ d u=>Rep w S d u) 0 [.int .i64 e.kind,.int .i64 e.n,.str e.text,.list (.base .expr) e.args] vs:=a;rcases vs with _ | ⟨v0,_ | ⟨g,_ | ⟨i,_ | ⟨v3,_ | ⟨j,r⟩⟩⟩⟩⟩
 ·exact a.elim
 ·exact a.2.elim
 ·exact a.2.2.elim
 ·exact a.2.2.2.elim
 ·obtain⟨vp,vn,vc,rfl⟩:=vS a.2.2.2.1;have b:=uD a.1;have c:=uD a.2.1;have f:=lJ a.2.2.1;subst b;subst c;subst f;exact⟨vp,vn,vc,rfl,a.2.2.2.1⟩
 ·exact a.2.2.2.2.elim
theorem Iy:Sound Tryz.prog U9:=by
 intro w S args x y h c a d;rcases args with _ | ⟨u,_ | ⟨i,r⟩⟩
 ·exact a.elim
 ·obtain⟨vp,vn,vc,rfl,b⟩:=XJ (e:=x) a;have h:pI x=some y:=h;unfold pI at h;obtain⟨es,f,h⟩:=zB.1 h;obtain⟨_,g,h⟩:=zB.1 h;exact acu x es y w S vp vn vc f (iP g) h c b d
 ·exact a.elim
theorem Gg:Sound Tryz.prog Qr:=by
 intro w S args x y h f a g;rcases args with _ | ⟨u,_ | ⟨i,_ | ⟨j,_ | ⟨o,r⟩⟩⟩⟩
 ·exact a.elim
 ·exact a.2.elim
 ·exact a.2.2.elim
 ·obtain⟨vp,vn,vc,rfl,b⟩:=XJ (e:=x.1) a.1;have c:=lJ (show Rep w S (.str x.2.1) i from a.2.1.1);have d:=lJ (show Rep w S (.str x.2.2) j from a.2.2.1);subst c;subst d;have h:jk x.1 x.2.1 x.2.2=some y:=h;unfold jk at h;obtain⟨es,k,h⟩:=zB.1 h;obtain⟨_,l,h⟩:=zB.1 h;have m:y=AZ x.2.1 x.2.2 es:=(a6 h).symm;refine (QJ x.1 x.2.1 x.2.2 es w S vp vn vc k (iP l) f b g).mono ?_;rintro e w' ⟨rfl,n⟩;exact⟨_,rfl,n,by rw[m];exact Na _⟩
 ·exact a.2.2.elim
end Go.Proofs.YtkebfkahdmddpaaGreatDoor
