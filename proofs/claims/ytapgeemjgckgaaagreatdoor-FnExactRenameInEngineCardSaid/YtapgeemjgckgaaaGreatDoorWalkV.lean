import Derived.Test.YtapgeemjgckgaaaGreatDoorDen3
import Derived.Test.YtapgeemjgckgaaaGreatDoorKept
import Derived.Test.YtapgeemjgckgaaaGreatDoorRen1
import Derived.Test.YtapgeemjgckgaaaGreatDoorRenV1
import Derived.StillTailTactics
import Derived.Deep.LoopGhost
set_option linter.unusedSimpArgs false
set_option linter.unusedVariables false
/- The walk over the names of an expression: visit, and the two closures that it is handed. -/
namespace Go.Proofs.YtapgeemjgckgaaaGreatDoor
open Go.Abs Go.Proofs Go.RowKit
structure dS(hid:World->Nat->Prop)(w w':World):Prop where
 os:w'.os=w.os
 tape:w'.tape=w.tape
 output:w'.output=w.output
 size:w.heap.size<=w'.heap.size
 block:∀c,c<w.heap.size->¬hid w c->w'.heap[c]?=w.heap[c]?
 hids:∀c,hid w' c->hid w c\/w.heap.size<=c
theorem dS.trans{d:World->Nat->Prop}{a b c:World}(h:dS d a b)(k:dS d b c):dS d a c:=
 ⟨k.os.trans h.os,k.tape.trans h.tape,k.output.trans h.output,Nat.le_trans h.size k.size,fun i hi f=>by
  rw[k.block i (aD hi h.size) fun g=>(h.hids i g).elim f fun e=>by omega,h.block i hi f],fun i hi=>(k.hids i hi).elim (h.hids i) fun e=>.inr (Nat.le_trans h.size e)⟩
abbrev Ev:=Str×List Str
structure Clo(g:Nat)(caps:Array Value)(Good:List Ev->World->Prop)(hid:World->Nat->Prop):Prop where
 enters:∀args w,(callFunc g args).run Tryz.prog w=.ok (.enter g args) w
 call:∀(w:World) (σ:List Ev) (S:Nat->Nat->Prop) (name:Str) (bound:List Str) (vb:Value),amb w->Good σ w->σ.length<34359738368->bound.length<=34359738368->Rep w S (.list (.base .str) bound) vb->(∀b o,S b o->b<w.heap.size/\¬hid w b) ->
  Calls Tryz.prog g (#[.string ⟨name.toArray⟩,vb]++caps) w fun e w'=>e=.returned (.tuple #[])/\Good (σ++[(name,bound)]) w'/\dS hid w w'
 keep:∀(w w':World) (σ:List Ev),Good σ w->(∀c,hid w c->w'.heap[c]?=w.heap[c]?)->w.heap.size<=w'.heap.size->Good σ w'/\∀c,hid w' c->hid w c
 lt:∀(w:World) (σ:List Ev) (c:Nat),Good σ w->hid w c->pO<=c/\c<w.heap.size
def jW(e:af)(va:Value):Array Value:=#[.int .i64 e.kind,.int .i64 e.n,.string ⟨e.text.toArray⟩,va]
theorem Clo.below{g:Nat}{caps:Array Value}{Good:List Ev->World->Prop}{b:World->Nat->Prop}(C:Clo g caps Good b){w w':World}{σ:List Ev}(h:Good σ w)(a:Below w.heap.size w w'):Good σ w'/\dS b w w':=by
 have:=C.keep w w' σ h (fun c d=>a.block c (C.lt w σ c h d).2) a.size;exact⟨this.1,a.os,a.tape,a.output,a.size,fun c d _=>a.block c d,fun c d=>.inl (this.2 c d)⟩
theorem Clo.go{g:Nat}{caps:Array Value}{Good:List Ev->World->Prop}{a:World->Nat->Prop}(C:Clo g caps Good a){w:World}{σ:List Ev}{S:Nat->Nat->Prop}{name:Str}{bound:List Str}{vb:Value}(l:amb w)(n:Good σ w)(p:σ.length<34359738368)(h:bound.length<=34359738368)
  (i:Rep w S (.list (.base .str) bound) vb) (f:∀b o,S b o->b<w.heap.size/\¬a w b) (j:World) (d:Below w.heap.size w j) :
  Calls Tryz.prog g (#[.string ⟨name.toArray⟩,vb]++caps) j fun e w'=>e=.returned (.tuple #[])/\Good (σ++[(name,bound)]) w'/\dS a w w':=by
 obtain⟨r,m⟩:=C.below n d;refine (C.call j σ S name bound vb (amb.keep l d.size fun k s=>d.block k (aD s l.size)) r p h (i.move fun b o c=>⟨c,d.cell (f b o c).1⟩) (fun b o c=>⟨aD (f b o c).1 d.size,fun hh=>?_⟩)).mono ?_
 ·rcases m.hids b hh with q | q
  ·exact (f b o c).2 q
  ·have:=(f b o c).1;omega
 ·rintro e w' ⟨rfl,t,u⟩;exact⟨rfl,t,m.trans u⟩
def Visits(g:Nat)(caps:Array Value)(Good:List Ev->World->Prop)(a:World->Nat->Prop)(rec:af->List Str->Option (List Ev)):Prop:=
 ∀(e:af) (bound:List Str) (es σ:List Ev) (w:World) (S:Nat->Nat->Prop) (va vb:Value) (wb:Nat) (T:TypeId),rec e bound=some es->amb w->Good σ w->σ.length+es.length<=34359738368 ->
  w.heap[wb]?=some (.cells #[.func (.func g) #[] caps,.nilFunc] T (0,0))->¬a w wb->Rep w S (.list (.base .expr) e.args) va->Rep w S (.list (.base .str) bound) vb->(∀b o,S b o->b<w.heap.size/\¬a w b) ->
  Calls Tryz.prog 181 #[.pointer (some ⟨wb,0,none⟩),.agg (jW e va),vb] w fun r w'=>r=.returned (.tuple #[])/\Good (σ++es) w'/\dS a w w'
theorem GI(bound:List Str)(s:Str)(S:Nat->Nat->Prop)(vb:Value)(h:bound.length<=34359738368)(w:World)(l:amb w)(i:Rep w S (.list (.base .str) bound) vb)(m:∀b o,S b o->b<w.heap.size)(c:World)(f:Below w.heap.size w c) :
  Calls Tryz.prog 128 #[vb,.string ⟨s.toArray⟩] c fun e w'=>e=.returned (.int .i64 (posOf s 0 bound))/\Below c.heap.size c w':=by
 have a:=CZ c S [vb,.string ⟨s.toArray⟩] (bound,s) (posOf s 0 bound) (wB bound s h) (amb.keep l f.size fun k p=>f.block k (aD p l.size))
  ⟨⟨i.move fun b o a=>⟨a,f.cell (m b o a)⟩,trivial⟩,⟨Rep.str ⟨s.toArray⟩,trivial⟩⟩ (fun b o a=>aD (m b o a) f.size)
 refine a.mono ?_;rintro e w' ⟨v,rfl,q,us,rfl,fps,g,_⟩;refine⟨?_,q⟩;rcases us with _ | ⟨u,_ | ⟨x,r⟩⟩
 ·exact g.elim
 ·have:=g.1;generalize hd:D.int .i64 (posOf s 0 bound)=d at this;have t:Ow w' (fun _ _=>False) true d u (fps 0):=hd▸g.1;cases t with
  | int k n=>cases hd;rfl
  | bool=>cases hd
  | str=>cases hd
  | nil=>cases hd
  | ro d v fp j=>cases j
  | list=>cases hd
 ·exact g.elim
set_option maxHeartbeats 4000000 in
set_option maxRecDepth 100000 in
theorem ab5{g:Nat}{caps:Array Value}{Good:List Ev->World->Prop}{a:World->Nat->Prop}(C:Clo g caps Good a)(e:af)(bound:List Str)(σ:List Ev)(w:World)(S:Nat->Nat->Prop)(va vb:Value)(wb:Nat)(T:TypeId)
  (A:e.kind=3) (f:bound.contains e.text=false) (i:amb w) (k:Good σ w) (B:σ.length+1<=34359738368) (h:bound.length<=34359738368) (c:w.heap[wb]?=some (.cells #[.func (.func g) #[] caps,.nilFunc] T (0,0))) (v:¬a w wb)
  (d:Rep w S (.list (.base .str) bound) vb) (n:∀b o,S b o->b<w.heap.size/\¬a w b) :
  Calls Tryz.prog 181 #[.pointer (some ⟨wb,0,none⟩),.agg (jW e va),vb] w fun r w'=>r=.returned (.tuple #[])/\Good (σ++[(e.text,bound)]) w'/\dS a w w':=by
 unfold jW;have q:w.cell? ⟨wb,0,none⟩=some (.func (.func g) #[] caps):=by simp[World.cell?,c]
 have l:wb<w.heap.size:=(aM.1 c).1;have D:posOf e.text 0 bound<0:=(sV _ _ _).2 f;have hcall:=GI bound e.text S vb h w i d (fun b o x=>(n b o x).1);have y:∀W:World,(binOp BinOp.neq 203 (.func (.func g) #[] caps) .nilFunc).run Tryz.prog W=.ok (.bool true) W:=fun W=>by kernel_rfl
 have HX:Hid (amb w/\Good σ w/\Rep w S (.list (.base .str) bound) vb/\w.heap[wb]?=some (.cells #[.func (.func g) #[] caps,.nilFunc] T (0,0))):=⟨i,k,d,c⟩;have en:=C.enters;have m:=C.go (name:=e.text) i k (by omega) h d n;clear i k d c f;go_enter Tryz.func181,Tryz.ntmps181
 go_wp2_with (go_at_call 128;refine (hcall _ ((Below.refl _ _).alloc (aw _) _)).mono ?_;rintro E s ⟨rfl,j⟩;have HB:Hid (Below _ _ s):=j;have F:=(j.cell (p:=⟨wb,0,none⟩) (by simp;omega)).trans (World.cell?_of_block (Below.heap_alloc w _ wb l) |>.trans q);have G:=j.cell (p:=⟨w.heap.size,2,none⟩) (by simp);clear j q)
 go_still_tail 7,(by kernel_rfl)
 change wpList _ _ _ _ _ s.drew;go_wp2_with (go_at_fn g;refine (m _ (((Below.refl _ _).alloc (aw _) _).trans (HB.out.mono (by simp))).drew).mono ?_;rintro H t ⟨rfl,u⟩;have z:Hid (Good (σ++[(e.text,bound)]) t/\dS a w t):=u;clear u)
 refine bodyPost_ret (results_none rfl _ _ _) rfl ?_;exact⟨rfl,z.out⟩
theorem Visits.go{g:Nat}{caps:Array Value}{Good:List Ev->World->Prop}{a:World->Nat->Prop}(C:Clo g caps Good a){rec:af->List Str->Option (List Ev)}(IH:Visits g caps Good a rec){e:af}{bound:List Str}{es σ:List Ev}{w:World}{S:Nat->Nat->Prop}{va vb:Value}{wb:Nat}{T:TypeId}
  (h:rec e bound=some es) (u:amb w) (x:Good σ w) (y:σ.length+es.length<=34359738368) (i:w.heap[wb]?=some (.cells #[.func (.func g) #[] caps,.nilFunc] T (0,0))) (q:¬a w wb) (s:Rep w S (.list (.base .expr) e.args) va)
  (t:Rep w S (.list (.base .str) bound) vb) (j:∀b o,S b o->b<w.heap.size/\¬a w b) (m:World) (f:Below w.heap.size w m) :
  Calls Tryz.prog 181 #[.pointer (some ⟨wb,0,none⟩),.agg #[.int .i64 e.kind,.int .i64 e.n,.string ⟨e.text.toArray⟩,va],vb] m fun r w'=>r=.returned (.tuple #[])/\Good (σ++es) w'/\dS a w w':=by
 obtain⟨z,v⟩:=C.below x f;have l:wb<w.heap.size:=(aM.1 i).1;have p:∀c,c<w.heap.size->¬a w c->¬a m c:=fun c F p hh=>(v.hids c hh).elim p fun A=>by omega
 refine (IH e bound es σ m S va vb wb T h (amb.keep u f.size fun k B=>f.block k (aD B u.size)) z y (by rw[f.block wb l];exact i) (p wb l q)
  (s.move fun b o d=>⟨d,f.cell (j b o d).1⟩) (t.move fun b o d=>⟨d,f.cell (j b o d).1⟩) (fun b o d=>⟨aD (j b o d).1 f.size,p b (j b o d).1 (j b o d).2⟩)).mono ?_
 rintro r w' ⟨rfl,D,E⟩;exact⟨rfl,D,v.trans E⟩
theorem Visits.go2{g:Nat}{caps:Array Value}{Good:List Ev->World->Prop}{a:World->Nat->Prop}(C:Clo g caps Good a){rec:af->List Str->Option (List Ev)}(IH:Visits g caps Good a rec){e:af}{bound:List Str}{es σ:List Ev}{w:World}{S:Nat->Nat->Prop}{va:Value}{wb:Nat}{T:TypeId}
  (h:rec e bound=some es) (A:amb w) (q:Good σ w) (B:σ.length+es.length<=34359738368) (j:w.heap[wb]?=some (.cells #[.func (.func g) #[] caps,.nilFunc] T (0,0))) (s:¬a w wb) (t:Rep w S (.list (.base .expr) e.args) va)
  (u:∀b o,S b o->b<w.heap.size/\¬a w b) (f:World) (i:Below w.heap.size w f) (v:Nat->Nat->Prop) (vb:Value) (x:Rep f v (.list (.base .str) bound) vb) (l:∀b o,v b o->(b<w.heap.size->¬a w b)/\b<f.heap.size) :
  Calls Tryz.prog 181 #[.pointer (some ⟨wb,0,none⟩),.agg #[.int .i64 e.kind,.int .i64 e.n,.string ⟨e.text.toArray⟩,va],vb] f fun r w'=>r=.returned (.tuple #[])/\Good (σ++es) w'/\dS a w w':=by
 obtain⟨D,E⟩:=C.below q i;have y:wb<w.heap.size:=(aM.1 j).1;have m:∀c,a f c->c<w.heap.size/\a w c:=fun c z=>by
  have:=(C.keep w f σ q (fun c z=>i.block c (C.lt w σ c q z).2) i.size).2 c z;exact⟨(C.lt w σ c q this).2,this⟩
 have p:∀c,(c<w.heap.size->¬a w c)->¬a f c:=fun c p hh=>p (m c hh).1 (m c hh).2
 refine (IH e bound es σ f (fun b o=>S b o\/v b o) va vb wb T h (amb.keep A i.size fun k F=>i.block k (aD F A.size)) D B (by rw[i.block wb y];exact j) (p wb fun _=>s)
  (t.move fun b o d=>⟨.inl d,i.cell (u b o d).1⟩) (x.move fun b o d=>⟨.inr d,rfl⟩) (fun b o d=>d.elim (fun d=>⟨aD (u b o d).1 i.size,p b fun _=>(u b o d).2⟩) fun d=>⟨(l b o d).2,p b (l b o d).1⟩)).mono ?_
 rintro r w' ⟨rfl,G,H⟩;exact⟨rfl,G,E.trans H⟩
theorem dS.cell{a:World->Nat->Prop}{w w':World}(h:dS a w w'){b o:Nat}(c:b<w.heap.size)(d:¬a w b):w'.cell? ⟨b,o,none⟩=w.cell? ⟨b,o,none⟩:=World.cell?_of_block (w:=w) (h.block b c d)
theorem dS.not{a:World->Nat->Prop}{w w':World}(h:dS a w w'){b:Nat}(c:b<w.heap.size)(d:¬a w b):b<w'.heap.size/\¬a w' b:=⟨aD c h.size,fun hh=>(h.hids b hh).elim d fun e=>by omega⟩
theorem dS.amb{g:Nat}{caps:Array Value}{Good:List Ev->World->Prop}{a:World->Nat->Prop}(C:Clo g caps Good a){w w':World}{σ:List Ev}(c:Good σ w)(h:dS a w w')(b:amb w):amb w':=
 Go.Abs.amb.keep b h.size fun k d=>h.block k (aD d b.size) fun hh=>by have:=(C.lt w σ k c hh).1;omega
theorem xQ{w:World}{S:Nat->Nat->Prop}{t:Ty}{xs:List t.den}{v:Value}(h:Rep w S (.list t xs) v):∃p n c,v=.slice p n c:=by
 generalize hd:D.list t xs=d at h;cases h with
 | int=>cases hd
 | bool=>cases hd
 | str=>cases hd
 | nil=>exact⟨_,_,_,rfl⟩
 | emp=>exact⟨_,_,_,rfl⟩
 | list=>exact⟨_,_,_,rfl⟩
structure wQ(rec:af->List Str->Option (List Ev))(Good:List Ev->World->Prop)(hid:World->Nat->Prop)(binds:Bool)(x:Str)(bound:List Str)(args:List af)(σ es:List Ev)(w1:World)(j k:Nat)(wr:World):Prop where
 le:j+k=args.length
 keep:dS hid w1 wr
 evs:∃es1 rest,es=es1++rest/\dO rec binds x bound j (args.drop j)=some rest/\Good (σ++es1) wr
set_option maxHeartbeats 8000000 in
set_option maxRecDepth 100000 in
theorem Zd{g:Nat}{caps:Array Value}{Good:List Ev->World->Prop}{a:World->Nat->Prop}(C:Clo g caps Good a){rec:af->List Str->Option (List Ev)}(IH:Visits g caps Good a rec)
  (e:af) (bound:List Str) (es σ:List Ev) (w:World) (S:Nat->Nat->Prop) (ap:Option Addr) (ab ao cap:Nat) (N:e.args≠[]->ap=some ⟨ab,ao,none⟩) (vb:Value) (wb:Nat) (T:TypeId)
  (hk3:¬e.kind=3) (hk7:¬e.kind=7) (hk9:¬e.kind=9) (l:dO rec false e.text bound 0 e.args=some es) (U:amb w) (V:Good σ w) (W:σ.length+es.length<=34359738368) (hal:e.args.length<=34359738368)
  (p:w.heap[wb]?=some (.cells #[.func (.func g) #[] caps,.nilFunc] T (0,0))) (A:¬a w wb)
  (hcap:e.args.length<=cap) (B:∀(i:Nat) (x:af),e.args[i]?=some x->∃va,w.cell? ⟨ab,ao+i*4,none⟩=some (.int .i64 x.kind)/\w.cell? ⟨ab,ao+i*4+1,none⟩=some (.int .i64 x.n)/\w.cell? ⟨ab,ao+i*4+2,none⟩=some (.string ⟨x.text.toArray⟩)/\w.cell? ⟨ab,ao+i*4+3,none⟩=some va/\Rep w S (.list (.base .expr) x.args) va/\ab<w.heap.size/\¬a w ab)
  (D:Rep w S (.list (.base .str) bound) vb) (J:∀b o,S b o->b<w.heap.size/\¬a w b) :
  Calls Tryz.prog 181 #[.pointer (some ⟨wb,0,none⟩),.agg (jW e (.slice ap e.args.length cap)),vb] w fun r w'=>r=.returned (.tuple #[])/\Good (σ++es) w'/\dS a w w':=by
 unfold jW;have c0:w.cell? ⟨wb,1,none⟩=some .nilFunc:=by simp[World.cell?,p]
 have E:wb<w.heap.size:=(aM.1 p).1;have HX:Hid (amb w/\Good σ w/\Rep w S (.list (.base .str) bound) vb/\w.heap[wb]?=some (.cells #[.func (.func g) #[] caps,.nilFunc] T (0,0))):=⟨U,V,D,p⟩;have HV:Hid (∀(i:Nat) (x:af),e.args[i]?=some x->∃va,w.cell? ⟨ab,ao+i*4,none⟩=some (.int .i64 x.kind)/\w.cell? ⟨ab,ao+i*4+1,none⟩=some (.int .i64 x.n)/\w.cell? ⟨ab,ao+i*4+2,none⟩=some (.string ⟨x.text.toArray⟩)/\w.cell? ⟨ab,ao+i*4+3,none⟩=some va/\Rep w S (.list (.base .expr) x.args) va/\ab<w.heap.size/\¬a w ab):=B;have HE:Hid (dO rec false e.text bound 0 e.args=some es):=l;clear U V D p B l;go_enter Tryz.func181,Tryz.ntmps181
 go_wp2
 generalize F:w.alloc (.cells #[.int .i64 e.kind,.int .i64 e.n,.string ⟨e.text.toArray⟩,.slice ap e.args.length cap] 107)=s;have q:Below w.heap.size w s:=F▸(Below.refl _ _).alloc (aw _) _;have HK:Hid (dS a w s/\Good σ s):=⟨(C.below HX.out.2.1 q).2,(C.below HX.out.2.1 q).1⟩;have hw1s:w.heap.size<=s.heap.size:=q.size;clear q F;go_loopg [59] e.args.length (fun k i wr=>∃j:Nat,i=.int .i64 j/\wQ rec Good a false e.text bound e.args σ es s j k wr)
 case atStart=>
  exact⟨0,rfl,by omega,⟨rfl,rfl,rfl,aw _,fun _ _ _=>rfl,fun c hc=>.inl hc⟩,[],es,rfl,HE.out,by rw[List.append_nil];exact HK.out.2⟩
 case round=>
  obtain⟨j,rfl,O⟩:=hrel
  by_cases K:j<e.args.length
  ·have G:=N (fun h=>by rw[h]at K;simp at K);subst G;obtain⟨H,hkeep,m,rest,l,d,hGr⟩:=O;have f:dS a w wr:=HK.out.1.trans hkeep;obtain⟨va,f0,f1,f2,f3,t,P,hnab⟩:=HV.out j e.args[j] (zF K);rw[<- f.cell P hnab]at f0 f1 f2 f3;obtain⟨vp,vn,vc,rfl⟩:=xQ t;rw[List.drop_eq_getElem_cons K]at d;simp only[dO,Bool.false_and,aE,if_false]at d;obtain⟨u,X,d⟩:=zB.1 d;obtain⟨v,hv,d⟩:=zB.1 d;have hrest:rest=u++v:=(aR d).symm;have I:(σ++m).length+u.length<=34359738368:=by rw[l,hrest]at W;simp only[a6]at W ⊢;omega
   have y:∀b o,S b o->S b o/\wr.cell? ⟨b,o,none⟩=w.cell? ⟨b,o,none⟩:=fun b o z=>⟨z,f.cell (J b o z).1 (J b o z).2⟩
   have Q:=Visits.go C IH X (f.amb C HX.out.2.1 HX.out.1) hGr I (by rw[f.block wb E A];exact HX.out.2.2.2) (f.not E A).2 (t.move y) (HX.out.2.2.1.move y) (fun b o z=>f.not (J b o z).1 (J b o z).2);have HR:Hid (j+gk=e.args.length/\dS a s wr/\es=m++(u++v)/\dO rec false e.text bound (j+1) (e.args.drop (j+1))=some v):=⟨H,hkeep,hrest▸l,hv⟩;clear H hkeep l d hGr f X hv t hrest y I;go_wp2_with (go_at_call 181;refine (Q _ ((Below.refl _ _).alloc (aw _) _)).mono ?_;rintro r Y ⟨rfl,Z⟩;have H4:Hid (Good (σ++m++u) Y/\dS a wr Y):=Z;clear Z)
   go_roundg (gk-1)
   case measure=>have:=HR.out.1;omega
   case rel=>
    obtain⟨q1,R,L,M⟩:=HR.out
    refine⟨j+1,rfl,by omega,R.trans H4.out.2,m++u,v,by rw[L,a7],M,?_⟩
    rw[<- a7]
    exact H4.out.1
  ·have HR:Hid (wQ rec Good a false e.text bound e.args σ es s j gk wr):=O;clear O;go_wp2
   refine bodyPost_end (results_none rfl _ _ _) rfl ?_;obtain⟨q1,R,m,rest,L,M,q5⟩:=HR.out;have hr:rest=[]:=by
    rw[List.drop_eq_nil_of_le (by omega)]at M;exact (aR M).symm
   subst hr;rw[List.append_nil]at L;subst L;exact⟨rfl,q5,HK.out.1.trans R⟩
def aem(e:af)(bound:List Str):St:=(({ tmps:=List.replicate 82 .undef,boxes:=List.replicate 82 none,owns:=List.replicate 82 [] }:St).iR 2 (.v (.one (.d (.list (.base .str) bound))))).iR 4 (.elt (.base .expr) e 0)
theorem abS{w:World}{S:Nat->Nat->Prop}{e:af}{bound:List Str}{va vb:Value}{tb:Nat}(g:Rep w S (.list (.base .str) bound) vb)(i:Rep w S (.list (.base .expr) e.args) va)(p:∀b o,S b o->b<w.heap.size)(k:tb<w.heap.size)
  (q:w.cell? ⟨tb,0,none⟩=some (.int .i64 e.kind)) (r:w.cell? ⟨tb,1,none⟩=some (.int .i64 e.n)) (s:w.cell? ⟨tb,2,none⟩=some (.string ⟨e.text.toArray⟩)) (t:w.cell? ⟨tb,3,none⟩=some va)
  (a:Act) (hd:a.defers=[]) (u:a.tmps.size=82) (x:a.tmps.getD 2 undef=vb) (y:a.tmps.getD 4 undef=.pointer (some ⟨tb,0,none⟩)) :
  ∃G,Inv ⟨w,fun b o=>S b o\/b=tb,fun _=>False,none⟩ G (aem e bound) a w:=by
 obtain⟨G,l,m⟩:=ahu (w:=w) (S0:=fun b o=>S b o\/b=tb) (fun b o h=>h.elim (p b o) fun h=>h▸k) hd;rw[u]at m;have f:∀b o,S b o->G.S b o/\w.cell? ⟨b,o,none⟩=w.cell? ⟨b,o,none⟩:=fun b o h=>⟨by rw[l];exact .inl h,rfl⟩
 refine⟨G,(m.JP 2 (av:=.v (.one (.d (.list (.base .str) bound)))) ?_).JP 4 ?_⟩
 ·rw[x];exact g.move f
 ·rw[y];refine⟨tb,0,rfl,fun j=>match j with | 0=>.int .i64 e.kind | 1=>.int .i64 e.n | 2=>.string ⟨e.text.toArray⟩ | _=>va,fun j d c=>?_⟩;have hSt:∀o,G.S tb o:=fun o=>by rw[l];exact .inr rfl
  rw[Nat.zero_add];match j,c with
  | 0,c=>cases c;exact⟨q,hSt _,.int _ _⟩
  | 1,c=>cases c;exact⟨r,hSt _,.int _ _⟩
  | 2,c=>cases c;exact⟨s,hSt _,.str ⟨e.text.toArray⟩⟩
  | 3,c=>cases c;exact⟨t,hSt _,i.move f⟩
set_option maxHeartbeats 8000000 in
set_option maxRecDepth 100000 in
theorem afs{g:Nat}{caps:Array Value}{Good:List Ev->World->Prop}{d:World->Nat->Prop}(C:Clo g caps Good d){rec:af->List Str->Option (List Ev)}(IH:Visits g caps Good d rec)
  (e:af) (bound:List Str) (es σ:List Ev) (w:World) (S:Nat->Nat->Prop) (ap:Option Addr) (ab ao cap:Nat) (hap:e.args≠[]->ap=some ⟨ab,ao,none⟩) (vb:Value) (wb:Nat) (T:TypeId)
  (hk:e.kind=7) (hbl:bound.length<=34359738368) (P:Rep w S (.list (.base .expr) e.args) (.slice ap e.args.length cap)) (s:dO rec true e.text bound 0 e.args=some es) (ha:amb w) (hG:Good σ w) (hl:σ.length+es.length<=34359738368) (hal:e.args.length<=34359738368)
  (H:w.heap[wb]?=some (.cells #[.func (.func g) #[] caps,.nilFunc] T (0,0))) (I:¬d w wb)
  (hcap:e.args.length<=cap) (hvs:∀(i:Nat) (x:af),e.args[i]?=some x->∃va,w.cell? ⟨ab,ao+i*4,none⟩=some (.int .i64 x.kind)/\w.cell? ⟨ab,ao+i*4+1,none⟩=some (.int .i64 x.n)/\w.cell? ⟨ab,ao+i*4+2,none⟩=some (.string ⟨x.text.toArray⟩)/\w.cell? ⟨ab,ao+i*4+3,none⟩=some va/\Rep w S (.list (.base .expr) x.args) va/\ab<w.heap.size/\¬d w ab)
  (hrb:Rep w S (.list (.base .str) bound) vb) (A:∀b o,S b o->b<w.heap.size/\¬d w b) :
  Calls Tryz.prog 181 #[.pointer (some ⟨wb,0,none⟩),.agg (jW e (.slice ap e.args.length cap)),vb] w fun r w'=>r=.returned (.tuple #[])/\Good (σ++es) w'/\dS d w w':=by
 unfold jW;rw[hk];have c0:w.cell? ⟨wb,1,none⟩=some .nilFunc:=by simp[World.cell?,H]
 have J:wb<w.heap.size:=(aM.1 H).1;have hfn:∀W:World,(binOp BinOp.neq 204 .nilFunc .nilFunc).run Tryz.prog W=.ok (.bool false) W:=fun W=>by kernel_rfl
 have HA:Hid (Rep w S (.list (.base .expr) e.args) (.slice ap e.args.length cap)):=P;have HX:Hid (amb w/\Good σ w/\Rep w S (.list (.base .str) bound) vb/\w.heap[wb]?=some (.cells #[.func (.func g) #[] caps,.nilFunc] T (0,0))):=⟨ha,hG,hrb,H⟩;have HV:Hid (∀(i:Nat) (x:af),e.args[i]?=some x->∃va,w.cell? ⟨ab,ao+i*4,none⟩=some (.int .i64 x.kind)/\w.cell? ⟨ab,ao+i*4+1,none⟩=some (.int .i64 x.n)/\w.cell? ⟨ab,ao+i*4+2,none⟩=some (.string ⟨x.text.toArray⟩)/\w.cell? ⟨ab,ao+i*4+3,none⟩=some va/\Rep w S (.list (.base .expr) x.args) va/\ab<w.heap.size/\¬d w ab):=hvs;have HE:Hid (dO rec true e.text bound 0 e.args=some es):=s;clear ha hG hrb H hvs s P;go_enter Tryz.func181,Tryz.ntmps181
 go_wp2
 generalize K:w.alloc (.cells #[.int .i64 7,.int .i64 e.n,.string ⟨e.text.toArray⟩,.slice ap e.args.length cap] 107)=t;have HD:Hid (t.cell? ⟨w.heap.size,0,none⟩=some (.int .i64 e.kind)/\t.cell? ⟨w.heap.size,1,none⟩=some (.int .i64 e.n)/\t.cell? ⟨w.heap.size,2,none⟩=some (.string ⟨e.text.toArray⟩)/\t.cell? ⟨w.heap.size,3,none⟩=some (.slice ap e.args.length cap)/\w.heap.size<t.heap.size/\¬d t w.heap.size):=by
  have hrow:t.heap[w.heap.size]?=some (.cells #[.int .i64 7,.int .i64 e.n,.string ⟨e.text.toArray⟩,.slice ap e.args.length cap] 107 (0,0)):=by
   rw[<- K];show (w.heap.push _)[w.heap.size]?=_
   rw[Array.getElem?_push_size]
  have hB0:Below w.heap.size w t:=K▸(Below.refl _ _).alloc (aw _) _;refine⟨by rw[hk];simp[World.cell?,hrow],by simp[World.cell?,hrow],by simp[World.cell?,hrow],by simp[World.cell?,hrow],(aM.1 hrow).1,fun hh=>?_⟩;have:=(C.keep w t σ HX.out.2.1 (fun c hc=>hB0.block c (C.lt w σ c HX.out.2.1 hc).2) hB0.size).2 _ hh;have:=(C.lt w σ _ HX.out.2.1 this).2;omega
 have L:Below w.heap.size w t:=K▸(Below.refl _ _).alloc (aw _) _;have HK:Hid (dS d w t/\Good σ t):=⟨(C.below HX.out.2.1 L).2,(C.below HX.out.2.1 L).1⟩;have hw1s:w.heap.size<=t.heap.size:=L.size;clear L K;go_loopg [59] e.args.length (fun k i wr=>∃j:Nat,i=.int .i64 j/\wQ rec Good d true e.text bound e.args σ es t j k wr)
 case atStart=>
  exact⟨0,rfl,by omega,⟨rfl,rfl,rfl,aw _,fun _ _ _=>rfl,fun c hc=>.inl hc⟩,[],es,rfl,HE.out,by rw[List.append_nil];exact HK.out.2⟩
 case round=>
  obtain⟨j,rfl,hR⟩:=hrel
  by_cases hj:j<e.args.length
  ·have hap':=hap (fun h=>by rw[h]at hj;simp at hj);subst hap';obtain⟨M,hkeep,m,rest,s,f,hGr⟩:=hR;have a:dS d w wr:=HK.out.1.trans hkeep;obtain⟨va,f0,f1,f2,f3,D,hab,hnab⟩:=HV.out j e.args[j] (zF hj);rw[<- a.cell hab hnab]at f0 f1 f2 f3;obtain⟨vp,vn,vc,rfl⟩:=xQ D;rw[List.drop_eq_getElem_cons hj]at f;by_cases hj0:j=0
   ·subst hj0;simp only[dO,Bool.true_and,Nat.lt_irrefl,decide_false,aE,if_false]at f;obtain⟨u,U,f⟩:=zB.1 f;obtain⟨v,hv,f⟩:=zB.1 f;have hrest:rest=u++v:=(aR f).symm;have F:(σ++m).length+u.length<=34359738368:=by rw[s,hrest]at hl;simp only[a6]at hl ⊢;omega
    have q:∀b o,S b o->S b o/\wr.cell? ⟨b,o,none⟩=w.cell? ⟨b,o,none⟩:=fun b o l=>⟨l,a.cell (A b o l).1 (A b o l).2⟩
    have N:=Visits.go C IH U (a.amb C HX.out.2.1 HX.out.1) hGr F (by rw[a.block wb J I];exact HX.out.2.2.2) (a.not J I).2 (D.move q) (HX.out.2.2.1.move q) (fun b o l=>a.not (A b o l).1 (A b o l).2);have HR:Hid (0+gk=e.args.length/\dS d t wr/\es=m++(u++v)/\dO rec true e.text bound (0+1) (e.args.drop (0+1))=some v):=⟨M,hkeep,hrest▸s,hv⟩;clear M hkeep s f hGr a U hv D hrest q F;simp only[Nat.zero_mul,Nat.add_zero]at f0 f1 f2 f3;go_wp2_with (go_at_call 181;refine (N _ ((Below.refl _ _).alloc (aw _) _)).mono ?_;rintro r w4 ⟨rfl,h4⟩;have H4:Hid (Good (σ++m++u) w4/\dS d wr w4):=h4;clear h4)
    go_roundg (gk-1)
    case measure=>have:=HR.out.1;omega
    case rel=>
     obtain⟨q1,q2,Y,Z⟩:=HR.out
     refine⟨0+1,rfl,by omega,q2.trans H4.out.2,m++u,v,by rw[Y,a7],Z,?_⟩
     rw[<- a7]
     exact H4.out.1
   ·have hj1:(0:Int)<(j:Int):=by omega
    have hd1:decide (0<j)=true:=by simp;omega
    simp only[dO,Bool.true_and,hd1,if_true]at f;obtain⟨u,U,f⟩:=zB.1 f;obtain⟨_,hgd,U⟩:=zB.1 U;obtain⟨v,hv,f⟩:=zB.1 f;have hrest:rest=u++v:=(aR f).symm;have F:(σ++m).length+u.length<=34359738368:=by rw[s,hrest]at hl;simp only[a6]at hl ⊢;omega
    have q:∀b o,S b o->S b o/\wr.cell? ⟨b,o,none⟩=w.cell? ⟨b,o,none⟩:=fun b o l=>⟨l,a.cell (A b o l).1 (A b o l).2⟩
    have N:=Visits.go2 C IH U (a.amb C HX.out.2.1 HX.out.1) hGr F (by rw[a.block wb J I];exact HX.out.2.2.2) (a.not J I).2 (D.move q) (fun b o l=>a.not (A b o l).1 (A b o l).2);have HR:Hid (j+gk=e.args.length/\dS d t wr/\es=m++(u++v)/\dO rec true e.text bound (j+1) (e.args.drop (j+1))=some v/\Good (σ++m) wr/\dS d w wr):=⟨M,hkeep,hrest▸s,hv,hGr,a⟩;clear M hkeep s f hGr a U hv D hrest q F hd1;go_wp2
    generalize hw12:wr.alloc (.cells #[.int .i64 e.args[j].kind,.int .i64 e.args[j].n,.string ⟨e.args[j].text.toArray⟩,.slice vp vn vc] 107)=z;have hB12:Below wr.heap.size wr z:=hw12▸(Below.refl _ _).alloc (aw _) _;have hrow:z.heap[wr.heap.size]?=some (.cells #[.int .i64 e.args[j].kind,.int .i64 e.args[j].n,.string ⟨e.args[j].text.toArray⟩,.slice vp vn vc] 107 (0,0)):=by
     rw[<- hw12];show (wr.heap.push _)[wr.heap.size]?=_
     rw[Array.getElem?_push_size]
    have hrl:wr.heap.size<z.heap.size:=(aM.1 hrow).1;have O:dS d t wr:=HR.out.2.1;have a:dS d w wr:=HR.out.2.2.2.2.2;have V:w.heap.size<wr.heap.size:=aD HD.out.2.2.2.2.1 O.size;have G:∀o,z.cell? ⟨w.heap.size,o,none⟩=t.cell? ⟨w.heap.size,o,none⟩:=fun o=>(hB12.cell (p:=⟨w.heap.size,o,none⟩) V).trans (O.cell HD.out.2.2.2.2.1 HD.out.2.2.2.2.2)
    have q:∀b o,S b o->S b o/\z.cell? ⟨b,o,none⟩=w.cell? ⟨b,o,none⟩:=fun b o l=>⟨l,(hB12.cell (p:=⟨b,o,none⟩) (a.not (A b o l).1 (A b o l).2).1).trans (a.cell (A b o l).1 (A b o l).2)⟩
    have ha12:amb z:=amb.keep (a.amb C HX.out.2.1 HX.out.1) hB12.size fun k hk=>hB12.block k (aD hk (a.amb C HX.out.2.1 HX.out.1).size)
    refine VU (w0:=⟨z,fun b o=>S b o\/b=w.heap.size,fun _=>False,none⟩) (E:={ tt:=tt,fs:=[] }) (k:=WW 9) (r:=bound++[e.text]) (S:=aem e bound) (ds:=[70,71,72,73,74,75,76,9]) ((gq.nil ahG).at (nG.none ha12)) uw (by kernel_rfl) ?hv ?hi ?_
    case hv=>
     refine (show _=(gd (([]:List Str).length+bound.length)).bind (fun _=>(gd ((([]:List Str)++bound).length+[e.text].length)).bind fun _=>some ((([]:List Str)++bound)++[e.text])) by kernel_rfl).trans ?_
     have hgd':=jb hgd
     have g1:gd (([]:List Str).length+bound.length)=some ():=by unfold gd;simp;omega
     have g2:gd ((([]:List Str)++bound).length+[e.text].length)=some ():=by unfold gd;simp;omega
     rw[g1,g2];rfl
    case hi=>
     exact abS (HX.out.2.2.1.move q) (HA.out.move q) (fun b o l=>aD (a.not (A b o l).1 (A b o l).2).1 hB12.size) (aD V hB12.size) (by rw[G];exact HD.out.1) (by rw[G];exact HD.out.2.1) (by rw[G];exact HD.out.2.2.1) (by rw[G];exact HD.out.2.2.2.1) _ rfl rfl rfl rfl
    intro S' a' B G' hk' hI hkept;obtain⟨hB13,S2,Q,X⟩:=O1 hI hk' (by rw[hkept.1];exact (by decide:9<82));have hs3:∀b o,S2 b o->(b<wr.heap.size->¬d wr b)/\b<B.heap.size:=fun b o l=>⟨fun hlt hh=>by
     rcases (X b o l).1 with (h | h) | h
     ·exact (a.not (A b o h).1 (A b o h).2).2 hh
     ·exact (O.not HD.out.2.2.2.2.1 HD.out.2.2.2.2.2).2 (h▸hh)
     ·have:=hB12.size;omega,(X b o l).2⟩
    have hr13:∀o,B.cell? ⟨wr.heap.size,o,none⟩=z.cell? ⟨wr.heap.size,o,none⟩:=fun o=>hB13.cell (p:=⟨wr.heap.size,o,none⟩) hrl
    have k0:B.cell? ⟨wr.heap.size,0,none⟩=some (.int .i64 e.args[j].kind):=by rw[hr13];simp[World.cell?,hrow]
    have k1:B.cell? ⟨wr.heap.size,1,none⟩=some (.int .i64 e.args[j].n):=by rw[hr13];simp[World.cell?,hrow]
    have k2:B.cell? ⟨wr.heap.size,2,none⟩=some (.string ⟨e.args[j].text.toArray⟩):=by rw[hr13];simp[World.cell?,hrow]
    have k3:B.cell? ⟨wr.heap.size,3,none⟩=some (.slice vp vn vc):=by rw[hr13];simp[World.cell?,hrow]
    have R:=N B (hB12.trans (hB13.mono hB12.size)) S2 _ Q hs3;have y:a'=⟨#[Value.pointer (some ⟨wb,0,none⟩),Value.agg #[Value.int IntKind.i64 7,Value.int IntKind.i64 e.n,Value.string ⟨e.text.toArray⟩,Value.slice (some ⟨ab,ao,none⟩) e.args.length cap],vb,undef,Value.pointer (some ⟨w.heap.size,0,none⟩),undef,Value.bool true,Value.int IntKind.i64 (j:Int),Value.pointer (some ⟨wr.heap.size,0,none⟩),a'.tmps.getD 9 undef,Value.pointer (some ⟨w.heap.size,0,none⟩),Value.int IntKind.i64 7,Value.bool false,Value.bool false,undef,undef,undef,undef,undef,Value.bool false,undef,undef,undef,undef,undef,undef,undef,undef,undef,undef,undef,undef,undef,Value.pointer (some ⟨w.heap.size,0,none⟩),Value.int IntKind.i64 7,Value.bool true,Value.bool true,undef,undef,undef,Value.bool true,Value.bool true,Value.bool true,Value.pointer (some ⟨wb,0,none⟩),Value.pointer (some ⟨wb,0,none⟩),Value.pointer (some ⟨wb,1,none⟩),Value.nilFunc,Value.bool false,Value.bool false,undef,undef,undef,undef,undef,undef,undef,Value.pointer (some ⟨w.heap.size,3,none⟩),Value.slice (some ⟨ab,ao,none⟩) e.args.length cap,Value.int IntKind.i64 (e.args.length:Int),Value.int IntKind.i64 (j:Int),Value.bool true,Value.int IntKind.i64 (j:Int),Value.pointer (some ⟨ab,ao+j*4,none⟩),Value.agg #[Value.int IntKind.i64 e.args[j].kind,Value.int IntKind.i64 e.args[j].n,Value.string ⟨e.args[j].text.toArray⟩,Value.slice vp vn vc],vb,Value.bool true,Value.bool true,Value.int IntKind.i64 (j:Int),Value.bool true,Value.bool true,a'.tmps.getD 70 undef,a'.tmps.getD 71 undef,a'.tmps.getD 72 undef,a'.tmps.getD 73 undef,a'.tmps.getD 74 undef,a'.tmps.getD 75 undef,a'.tmps.getD 76 undef,u77,u78,u79,u80,u81],[]⟩:=(hkept.eq hI.nodef).trans (by kernel_rfl);generalize a'.tmps.getD 9 undef=vb2 at R y;generalize a'.tmps.getD 70 undef=x70 at y;generalize a'.tmps.getD 71 undef=x71 at y;generalize a'.tmps.getD 72 undef=x72 at y;generalize a'.tmps.getD 73 undef=x73 at y;generalize a'.tmps.getD 74 undef=x74 at y;generalize a'.tmps.getD 75 undef=x75 at y;generalize a'.tmps.getD 76 undef=x76 at y;clear hr13 hs3 X Q hB13 hI hkept hk' N ha12 q G V a O hrl hrow hB12 hw12 f0 f1 f2 f3;subst y;simp only[Exit.then];go_wp2_with (go_at_call 181;refine R.mono ?_;rintro r w4 ⟨rfl,h4⟩;have H4:Hid (Good (σ++m++u) w4/\dS d wr w4):=h4;clear h4)
    go_roundg (gk-1)
    case measure=>have:=HR.out.1;omega
    case rel=>
     obtain⟨q1,q2,Y,Z,_⟩:=HR.out
     refine⟨j+1,rfl,by omega,q2.trans H4.out.2,m++u,v,by rw[Y,a7],Z,?_⟩
     rw[<- a7]
     exact H4.out.1
  ·have HR:Hid (wQ rec Good d true e.text bound e.args σ es t j gk wr):=hR;clear hR;go_wp2
   refine bodyPost_end (results_none rfl _ _ _) rfl ?_;obtain⟨q1,q2,m,rest,Y,Z,q5⟩:=HR.out;have hr:rest=[]:=by
    rw[List.drop_eq_nil_of_le (by omega)]at Z;exact (aR Z).symm
   subst hr;rw[List.append_nil]at Y;subst Y;exact⟨rfl,q5,HK.out.1.trans q2⟩
set_option maxHeartbeats 8000000 in
set_option maxRecDepth 100000 in
theorem aft{g:Nat}{caps:Array Value}{Good:List Ev->World->Prop}{d:World->Nat->Prop}(C:Clo g caps Good d){rec:af->List Str->Option (List Ev)}(IH:Visits g caps Good d rec)
  (e:af) (bound:List Str) (es σ:List Ev) (w:World) (S:Nat->Nat->Prop) (ap:Option Addr) (ab ao cap:Nat) (hap:e.args≠[]->ap=some ⟨ab,ao,none⟩) (vb:Value) (wb:Nat) (T:TypeId)
  (hk:e.kind=9) (hbl:bound.length<=34359738368) (P:Rep w S (.list (.base .expr) e.args) (.slice ap e.args.length cap)) (s:dO rec true e.text bound 0 e.args=some es) (ha:amb w) (hG:Good σ w) (hl:σ.length+es.length<=34359738368) (hal:e.args.length<=34359738368)
  (H:w.heap[wb]?=some (.cells #[.func (.func g) #[] caps,.nilFunc] T (0,0))) (I:¬d w wb)
  (hcap:e.args.length<=cap) (hvs:∀(i:Nat) (x:af),e.args[i]?=some x->∃va,w.cell? ⟨ab,ao+i*4,none⟩=some (.int .i64 x.kind)/\w.cell? ⟨ab,ao+i*4+1,none⟩=some (.int .i64 x.n)/\w.cell? ⟨ab,ao+i*4+2,none⟩=some (.string ⟨x.text.toArray⟩)/\w.cell? ⟨ab,ao+i*4+3,none⟩=some va/\Rep w S (.list (.base .expr) x.args) va/\ab<w.heap.size/\¬d w ab)
  (hrb:Rep w S (.list (.base .str) bound) vb) (A:∀b o,S b o->b<w.heap.size/\¬d w b) :
  Calls Tryz.prog 181 #[.pointer (some ⟨wb,0,none⟩),.agg (jW e (.slice ap e.args.length cap)),vb] w fun r w'=>r=.returned (.tuple #[])/\Good (σ++es) w'/\dS d w w':=by
 unfold jW;rw[hk];have c0:w.cell? ⟨wb,1,none⟩=some .nilFunc:=by simp[World.cell?,H]
 have J:wb<w.heap.size:=(aM.1 H).1;have hfn:∀W:World,(binOp BinOp.neq 204 .nilFunc .nilFunc).run Tryz.prog W=.ok (.bool false) W:=fun W=>by kernel_rfl
 have HA:Hid (Rep w S (.list (.base .expr) e.args) (.slice ap e.args.length cap)):=P;have HX:Hid (amb w/\Good σ w/\Rep w S (.list (.base .str) bound) vb/\w.heap[wb]?=some (.cells #[.func (.func g) #[] caps,.nilFunc] T (0,0))):=⟨ha,hG,hrb,H⟩;have HV:Hid (∀(i:Nat) (x:af),e.args[i]?=some x->∃va,w.cell? ⟨ab,ao+i*4,none⟩=some (.int .i64 x.kind)/\w.cell? ⟨ab,ao+i*4+1,none⟩=some (.int .i64 x.n)/\w.cell? ⟨ab,ao+i*4+2,none⟩=some (.string ⟨x.text.toArray⟩)/\w.cell? ⟨ab,ao+i*4+3,none⟩=some va/\Rep w S (.list (.base .expr) x.args) va/\ab<w.heap.size/\¬d w ab):=hvs;have HE:Hid (dO rec true e.text bound 0 e.args=some es):=s;clear ha hG hrb H hvs s P;go_enter Tryz.func181,Tryz.ntmps181
 go_wp2
 generalize K:w.alloc (.cells #[.int .i64 9,.int .i64 e.n,.string ⟨e.text.toArray⟩,.slice ap e.args.length cap] 107)=t;have HD:Hid (t.cell? ⟨w.heap.size,0,none⟩=some (.int .i64 e.kind)/\t.cell? ⟨w.heap.size,1,none⟩=some (.int .i64 e.n)/\t.cell? ⟨w.heap.size,2,none⟩=some (.string ⟨e.text.toArray⟩)/\t.cell? ⟨w.heap.size,3,none⟩=some (.slice ap e.args.length cap)/\w.heap.size<t.heap.size/\¬d t w.heap.size):=by
  have hrow:t.heap[w.heap.size]?=some (.cells #[.int .i64 9,.int .i64 e.n,.string ⟨e.text.toArray⟩,.slice ap e.args.length cap] 107 (0,0)):=by
   rw[<- K];show (w.heap.push _)[w.heap.size]?=_
   rw[Array.getElem?_push_size]
  have hB0:Below w.heap.size w t:=K▸(Below.refl _ _).alloc (aw _) _;refine⟨by rw[hk];simp[World.cell?,hrow],by simp[World.cell?,hrow],by simp[World.cell?,hrow],by simp[World.cell?,hrow],(aM.1 hrow).1,fun hh=>?_⟩;have:=(C.keep w t σ HX.out.2.1 (fun c hc=>hB0.block c (C.lt w σ c HX.out.2.1 hc).2) hB0.size).2 _ hh;have:=(C.lt w σ _ HX.out.2.1 this).2;omega
 have L:Below w.heap.size w t:=K▸(Below.refl _ _).alloc (aw _) _;have HK:Hid (dS d w t/\Good σ t):=⟨(C.below HX.out.2.1 L).2,(C.below HX.out.2.1 L).1⟩;have hw1s:w.heap.size<=t.heap.size:=L.size;clear L K;go_loopg [59] e.args.length (fun k i wr=>∃j:Nat,i=.int .i64 j/\wQ rec Good d true e.text bound e.args σ es t j k wr)
 case atStart=>
  exact⟨0,rfl,by omega,⟨rfl,rfl,rfl,aw _,fun _ _ _=>rfl,fun c hc=>.inl hc⟩,[],es,rfl,HE.out,by rw[List.append_nil];exact HK.out.2⟩
 case round=>
  obtain⟨j,rfl,hR⟩:=hrel
  by_cases hj:j<e.args.length
  ·have hap':=hap (fun h=>by rw[h]at hj;simp at hj);subst hap';obtain⟨M,hkeep,m,rest,s,f,hGr⟩:=hR;have a:dS d w wr:=HK.out.1.trans hkeep;obtain⟨va,f0,f1,f2,f3,D,hab,hnab⟩:=HV.out j e.args[j] (zF hj);rw[<- a.cell hab hnab]at f0 f1 f2 f3;obtain⟨vp,vn,vc,rfl⟩:=xQ D;rw[List.drop_eq_getElem_cons hj]at f;by_cases hj0:j=0
   ·subst hj0;simp only[dO,Bool.true_and,Nat.lt_irrefl,decide_false,aE,if_false]at f;obtain⟨u,U,f⟩:=zB.1 f;obtain⟨v,hv,f⟩:=zB.1 f;have hrest:rest=u++v:=(aR f).symm;have F:(σ++m).length+u.length<=34359738368:=by rw[s,hrest]at hl;simp only[a6]at hl ⊢;omega
    have q:∀b o,S b o->S b o/\wr.cell? ⟨b,o,none⟩=w.cell? ⟨b,o,none⟩:=fun b o l=>⟨l,a.cell (A b o l).1 (A b o l).2⟩
    have N:=Visits.go C IH U (a.amb C HX.out.2.1 HX.out.1) hGr F (by rw[a.block wb J I];exact HX.out.2.2.2) (a.not J I).2 (D.move q) (HX.out.2.2.1.move q) (fun b o l=>a.not (A b o l).1 (A b o l).2);have HR:Hid (0+gk=e.args.length/\dS d t wr/\es=m++(u++v)/\dO rec true e.text bound (0+1) (e.args.drop (0+1))=some v):=⟨M,hkeep,hrest▸s,hv⟩;clear M hkeep s f hGr a U hv D hrest q F;simp only[Nat.zero_mul,Nat.add_zero]at f0 f1 f2 f3;go_wp2_with (go_at_call 181;refine (N _ ((Below.refl _ _).alloc (aw _) _)).mono ?_;rintro r w4 ⟨rfl,h4⟩;have H4:Hid (Good (σ++m++u) w4/\dS d wr w4):=h4;clear h4)
    go_roundg (gk-1)
    case measure=>have:=HR.out.1;omega
    case rel=>
     obtain⟨q1,q2,Y,Z⟩:=HR.out
     refine⟨0+1,rfl,by omega,q2.trans H4.out.2,m++u,v,by rw[Y,a7],Z,?_⟩
     rw[<- a7]
     exact H4.out.1
   ·have hj1:(0:Int)<(j:Int):=by omega
    have hd1:decide (0<j)=true:=by simp;omega
    simp only[dO,Bool.true_and,hd1,if_true]at f;obtain⟨u,U,f⟩:=zB.1 f;obtain⟨_,hgd,U⟩:=zB.1 U;obtain⟨v,hv,f⟩:=zB.1 f;have hrest:rest=u++v:=(aR f).symm;have F:(σ++m).length+u.length<=34359738368:=by rw[s,hrest]at hl;simp only[a6]at hl ⊢;omega
    have q:∀b o,S b o->S b o/\wr.cell? ⟨b,o,none⟩=w.cell? ⟨b,o,none⟩:=fun b o l=>⟨l,a.cell (A b o l).1 (A b o l).2⟩
    have N:=Visits.go2 C IH U (a.amb C HX.out.2.1 HX.out.1) hGr F (by rw[a.block wb J I];exact HX.out.2.2.2) (a.not J I).2 (D.move q) (fun b o l=>a.not (A b o l).1 (A b o l).2);have HR:Hid (j+gk=e.args.length/\dS d t wr/\es=m++(u++v)/\dO rec true e.text bound (j+1) (e.args.drop (j+1))=some v/\Good (σ++m) wr/\dS d w wr):=⟨M,hkeep,hrest▸s,hv,hGr,a⟩;clear M hkeep s f hGr a U hv D hrest q F hd1;go_wp2
    generalize hw12:wr.alloc (.cells #[.int .i64 e.args[j].kind,.int .i64 e.args[j].n,.string ⟨e.args[j].text.toArray⟩,.slice vp vn vc] 107)=z;have hB12:Below wr.heap.size wr z:=hw12▸(Below.refl _ _).alloc (aw _) _;have hrow:z.heap[wr.heap.size]?=some (.cells #[.int .i64 e.args[j].kind,.int .i64 e.args[j].n,.string ⟨e.args[j].text.toArray⟩,.slice vp vn vc] 107 (0,0)):=by
     rw[<- hw12];show (wr.heap.push _)[wr.heap.size]?=_
     rw[Array.getElem?_push_size]
    have hrl:wr.heap.size<z.heap.size:=(aM.1 hrow).1;have O:dS d t wr:=HR.out.2.1;have a:dS d w wr:=HR.out.2.2.2.2.2;have V:w.heap.size<wr.heap.size:=aD HD.out.2.2.2.2.1 O.size;have G:∀o,z.cell? ⟨w.heap.size,o,none⟩=t.cell? ⟨w.heap.size,o,none⟩:=fun o=>(hB12.cell (p:=⟨w.heap.size,o,none⟩) V).trans (O.cell HD.out.2.2.2.2.1 HD.out.2.2.2.2.2)
    have q:∀b o,S b o->S b o/\z.cell? ⟨b,o,none⟩=w.cell? ⟨b,o,none⟩:=fun b o l=>⟨l,(hB12.cell (p:=⟨b,o,none⟩) (a.not (A b o l).1 (A b o l).2).1).trans (a.cell (A b o l).1 (A b o l).2)⟩
    have ha12:amb z:=amb.keep (a.amb C HX.out.2.1 HX.out.1) hB12.size fun k hk=>hB12.block k (aD hk (a.amb C HX.out.2.1 HX.out.1).size)
    refine VU (w0:=⟨z,fun b o=>S b o\/b=w.heap.size,fun _=>False,none⟩) (E:={ tt:=tt,fs:=[] }) (k:=WW 9) (r:=bound++[e.text]) (S:=aem e bound) (ds:=[70,71,72,73,74,75,76,9]) ((gq.nil ahG).at (nG.none ha12)) uw (by kernel_rfl) ?hv ?hi ?_
    case hv=>
     refine (show _=(gd (([]:List Str).length+bound.length)).bind (fun _=>(gd ((([]:List Str)++bound).length+[e.text].length)).bind fun _=>some ((([]:List Str)++bound)++[e.text])) by kernel_rfl).trans ?_
     have hgd':=jb hgd
     have g1:gd (([]:List Str).length+bound.length)=some ():=by unfold gd;simp;omega
     have g2:gd ((([]:List Str)++bound).length+[e.text].length)=some ():=by unfold gd;simp;omega
     rw[g1,g2];rfl
    case hi=>
     exact abS (HX.out.2.2.1.move q) (HA.out.move q) (fun b o l=>aD (a.not (A b o l).1 (A b o l).2).1 hB12.size) (aD V hB12.size) (by rw[G];exact HD.out.1) (by rw[G];exact HD.out.2.1) (by rw[G];exact HD.out.2.2.1) (by rw[G];exact HD.out.2.2.2.1) _ rfl rfl rfl rfl
    intro S' a' B G' hk' hI hkept;obtain⟨hB13,S2,Q,X⟩:=O1 hI hk' (by rw[hkept.1];exact (by decide:9<82));have hs3:∀b o,S2 b o->(b<wr.heap.size->¬d wr b)/\b<B.heap.size:=fun b o l=>⟨fun hlt hh=>by
     rcases (X b o l).1 with (h | h) | h
     ·exact (a.not (A b o h).1 (A b o h).2).2 hh
     ·exact (O.not HD.out.2.2.2.2.1 HD.out.2.2.2.2.2).2 (h▸hh)
     ·have:=hB12.size;omega,(X b o l).2⟩
    have hr13:∀o,B.cell? ⟨wr.heap.size,o,none⟩=z.cell? ⟨wr.heap.size,o,none⟩:=fun o=>hB13.cell (p:=⟨wr.heap.size,o,none⟩) hrl
    have k0:B.cell? ⟨wr.heap.size,0,none⟩=some (.int .i64 e.args[j].kind):=by rw[hr13];simp[World.cell?,hrow]
    have k1:B.cell? ⟨wr.heap.size,1,none⟩=some (.int .i64 e.args[j].n):=by rw[hr13];simp[World.cell?,hrow]
    have k2:B.cell? ⟨wr.heap.size,2,none⟩=some (.string ⟨e.args[j].text.toArray⟩):=by rw[hr13];simp[World.cell?,hrow]
    have k3:B.cell? ⟨wr.heap.size,3,none⟩=some (.slice vp vn vc):=by rw[hr13];simp[World.cell?,hrow]
    have R:=N B (hB12.trans (hB13.mono hB12.size)) S2 _ Q hs3;have y:a'=⟨#[Value.pointer (some ⟨wb,0,none⟩),Value.agg #[Value.int IntKind.i64 9,Value.int IntKind.i64 e.n,Value.string ⟨e.text.toArray⟩,Value.slice (some ⟨ab,ao,none⟩) e.args.length cap],vb,undef,Value.pointer (some ⟨w.heap.size,0,none⟩),undef,Value.bool true,Value.int IntKind.i64 (j:Int),Value.pointer (some ⟨wr.heap.size,0,none⟩),a'.tmps.getD 9 undef,Value.pointer (some ⟨w.heap.size,0,none⟩),Value.int IntKind.i64 9,Value.bool false,Value.bool false,undef,undef,undef,undef,undef,Value.bool false,undef,undef,undef,undef,undef,undef,undef,undef,undef,undef,undef,undef,undef,Value.pointer (some ⟨w.heap.size,0,none⟩),Value.int IntKind.i64 9,Value.bool false,Value.bool false,Value.pointer (some ⟨w.heap.size,0,none⟩),Value.int IntKind.i64 9,Value.bool true,Value.bool true,Value.bool true,Value.bool true,Value.pointer (some ⟨wb,0,none⟩),Value.pointer (some ⟨wb,0,none⟩),Value.pointer (some ⟨wb,1,none⟩),Value.nilFunc,Value.bool false,Value.bool false,undef,undef,undef,undef,undef,undef,undef,Value.pointer (some ⟨w.heap.size,3,none⟩),Value.slice (some ⟨ab,ao,none⟩) e.args.length cap,Value.int IntKind.i64 (e.args.length:Int),Value.int IntKind.i64 (j:Int),Value.bool true,Value.int IntKind.i64 (j:Int),Value.pointer (some ⟨ab,ao+j*4,none⟩),Value.agg #[Value.int IntKind.i64 e.args[j].kind,Value.int IntKind.i64 e.args[j].n,Value.string ⟨e.args[j].text.toArray⟩,Value.slice vp vn vc],vb,Value.bool true,Value.bool true,Value.int IntKind.i64 (j:Int),Value.bool true,Value.bool true,a'.tmps.getD 70 undef,a'.tmps.getD 71 undef,a'.tmps.getD 72 undef,a'.tmps.getD 73 undef,a'.tmps.getD 74 undef,a'.tmps.getD 75 undef,a'.tmps.getD 76 undef,u77,u78,u79,u80,u81],[]⟩:=(hkept.eq hI.nodef).trans (by kernel_rfl);generalize a'.tmps.getD 9 undef=vb2 at R y;generalize a'.tmps.getD 70 undef=x70 at y;generalize a'.tmps.getD 71 undef=x71 at y;generalize a'.tmps.getD 72 undef=x72 at y;generalize a'.tmps.getD 73 undef=x73 at y;generalize a'.tmps.getD 74 undef=x74 at y;generalize a'.tmps.getD 75 undef=x75 at y;generalize a'.tmps.getD 76 undef=x76 at y;clear hr13 hs3 X Q hB13 hI hkept hk' N ha12 q G V a O hrl hrow hB12 hw12 f0 f1 f2 f3;subst y;simp only[Exit.then];go_wp2_with (go_at_call 181;refine R.mono ?_;rintro r w4 ⟨rfl,h4⟩;have H4:Hid (Good (σ++m++u) w4/\dS d wr w4):=h4;clear h4)
    go_roundg (gk-1)
    case measure=>have:=HR.out.1;omega
    case rel=>
     obtain⟨q1,q2,Y,Z,_⟩:=HR.out
     refine⟨j+1,rfl,by omega,q2.trans H4.out.2,m++u,v,by rw[Y,a7],Z,?_⟩
     rw[<- a7]
     exact H4.out.1
  ·have HR:Hid (wQ rec Good d true e.text bound e.args σ es t j gk wr):=hR;clear hR;go_wp2
   refine bodyPost_end (results_none rfl _ _ _) rfl ?_;obtain⟨q1,q2,m,rest,Y,Z,q5⟩:=HR.out;have hr:rest=[]:=by
    rw[List.drop_eq_nil_of_le (by omega)]at Z;exact (aR Z).symm
   subst hr;rw[List.append_nil]at Y;subst Y;exact⟨rfl,q5,HK.out.1.trans q2⟩
set_option maxHeartbeats 8000000 in
set_option maxRecDepth 100000 in
theorem Ze{g:Nat}{caps:Array Value}{Good:List Ev->World->Prop}{a:World->Nat->Prop}(C:Clo g caps Good a){rec:af->List Str->Option (List Ev)}(IH:Visits g caps Good a rec)
  (e:af) (bound:List Str) (es σ:List Ev) (w:World) (S:Nat->Nat->Prop) (ap:Option Addr) (ab ao cap:Nat) (P:e.args≠[]->ap=some ⟨ab,ao,none⟩) (vb:Value) (wb:Nat) (T:TypeId)
  (hk:e.kind=3) (z:bound.contains e.text=true) (Q:bound.length<=34359738368) (l:dO rec false e.text bound 0 e.args=some es) (R:amb w) (Y:Good σ w) (Z:σ.length+es.length<=34359738368) (hal:e.args.length<=34359738368)
  (q:w.heap[wb]?=some (.cells #[.func (.func g) #[] caps,.nilFunc] T (0,0))) (E:¬a w wb)
  (hcap:e.args.length<=cap) (F:∀(i:Nat) (x:af),e.args[i]?=some x->∃va,w.cell? ⟨ab,ao+i*4,none⟩=some (.int .i64 x.kind)/\w.cell? ⟨ab,ao+i*4+1,none⟩=some (.int .i64 x.n)/\w.cell? ⟨ab,ao+i*4+2,none⟩=some (.string ⟨x.text.toArray⟩)/\w.cell? ⟨ab,ao+i*4+3,none⟩=some va/\Rep w S (.list (.base .expr) x.args) va/\ab<w.heap.size/\¬a w ab)
  (A:Rep w S (.list (.base .str) bound) vb) (G:∀b o,S b o->b<w.heap.size/\¬a w b) :
  Calls Tryz.prog 181 #[.pointer (some ⟨wb,0,none⟩),.agg (jW e (.slice ap e.args.length cap)),vb] w fun r w'=>r=.returned (.tuple #[])/\Good (σ++es) w'/\dS a w w':=by
 unfold jW;have c0:w.cell? ⟨wb,1,none⟩=some .nilFunc:=by simp[World.cell?,q]
 have H:wb<w.heap.size:=(aM.1 q).1;have HX:Hid (amb w/\Good σ w/\Rep w S (.list (.base .str) bound) vb/\w.heap[wb]?=some (.cells #[.func (.func g) #[] caps,.nilFunc] T (0,0))):=⟨R,Y,A,q⟩;have HV:Hid (∀(i:Nat) (x:af),e.args[i]?=some x->∃va,w.cell? ⟨ab,ao+i*4,none⟩=some (.int .i64 x.kind)/\w.cell? ⟨ab,ao+i*4+1,none⟩=some (.int .i64 x.n)/\w.cell? ⟨ab,ao+i*4+2,none⟩=some (.string ⟨x.text.toArray⟩)/\w.cell? ⟨ab,ao+i*4+3,none⟩=some va/\Rep w S (.list (.base .expr) x.args) va/\ab<w.heap.size/\¬a w ab):=F;have hn:¬posOf e.text 0 bound<0:=fun h=>by rw[(sV _ _ _).1 h]at z;cases z
 have hcall:=GI bound e.text S vb Q w R A (fun b o t=>(G b o t).1);have HE:Hid (dO rec false e.text bound 0 e.args=some es):=l;clear R Y A q F l z;go_enter Tryz.func181,Tryz.ntmps181
 go_wp2_with (go_at_call 128;refine (hcall _ ((Below.refl _ _).alloc (aw _) _)).mono ?_;rintro e2 y ⟨rfl,L⟩;have HB:Hid (Below _ _ y):=L;have d0:=L.cell (p:=⟨w.heap.size,0,none⟩) (by simp);have d3:=L.cell (p:=⟨w.heap.size,3,none⟩) (by simp);clear L c0 hcall)
 have s:Below w.heap.size w y:=((Below.refl _ _).alloc (aw _) _).trans (HB.out.mono (by simp));have HK:Hid (dS a w y/\Good σ y):=⟨(C.below HX.out.2.1 s).2,(C.below HX.out.2.1 s).1⟩;have hw1s:w.heap.size<=y.heap.size:=s.size;clear s HB d0 d3;go_loopg [59] e.args.length (fun k i wr=>∃j:Nat,i=.int .i64 j/\wQ rec Good a false e.text bound e.args σ es y j k wr)
 case atStart=>
  exact⟨0,rfl,by omega,⟨rfl,rfl,rfl,aw _,fun _ _ _=>rfl,fun c hc=>.inl hc⟩,[],es,rfl,HE.out,by rw[List.append_nil];exact HK.out.2⟩
 case round=>
  obtain⟨j,rfl,U⟩:=hrel
  by_cases M:j<e.args.length
  ·have I:=P (fun h=>by rw[h]at M;simp at M);subst I;obtain⟨J,hkeep,m,rest,l,d,hGr⟩:=U;have f:dS a w wr:=HK.out.1.trans hkeep;obtain⟨va,f0,f1,f2,f3,B,V,hnab⟩:=HV.out j e.args[j] (zF M);rw[<- f.cell V hnab]at f0 f1 f2 f3;obtain⟨vp,vn,vc,rfl⟩:=xQ B;rw[List.drop_eq_getElem_cons M]at d;simp only[dO,Bool.false_and,aE,if_false]at d;obtain⟨u,hu,d⟩:=zB.1 d;obtain⟨v,hv,d⟩:=zB.1 d;have hrest:rest=u++v:=(aR d).symm;have K:(σ++m).length+u.length<=34359738368:=by rw[l,hrest]at Z;simp only[a6]at Z ⊢;omega
   have D:∀b o,S b o->S b o/\wr.cell? ⟨b,o,none⟩=w.cell? ⟨b,o,none⟩:=fun b o t=>⟨t,f.cell (G b o t).1 (G b o t).2⟩
   have W:=Visits.go C IH hu (f.amb C HX.out.2.1 HX.out.1) hGr K (by rw[f.block wb H E];exact HX.out.2.2.2) (f.not H E).2 (B.move D) (HX.out.2.2.1.move D) (fun b o t=>f.not (G b o t).1 (G b o t).2);have HR:Hid (j+gk=e.args.length/\dS a y wr/\es=m++(u++v)/\dO rec false e.text bound (j+1) (e.args.drop (j+1))=some v):=⟨J,hkeep,hrest▸l,hv⟩;clear J hkeep l d hGr f hu hv B hrest D K;go_wp2_with (go_at_call 181;refine (W _ ((Below.refl _ _).alloc (aw _) _)).mono ?_;rintro r w4 ⟨rfl,h4⟩;have H4:Hid (Good (σ++m++u) w4/\dS a wr w4):=h4;clear h4)
   go_roundg (gk-1)
   case measure=>have:=HR.out.1;omega
   case rel=>
    obtain⟨q1,X,N,O⟩:=HR.out
    refine⟨j+1,rfl,by omega,X.trans H4.out.2,m++u,v,by rw[N,a7],O,?_⟩
    rw[<- a7]
    exact H4.out.1
  ·have HR:Hid (wQ rec Good a false e.text bound e.args σ es y j gk wr):=U;clear U;go_wp2
   refine bodyPost_end (results_none rfl _ _ _) rfl ?_;obtain⟨q1,X,m,rest,N,O,q5⟩:=HR.out;have hr:rest=[]:=by
    rw[List.drop_eq_nil_of_le (by omega)]at O;exact (aR O).symm
   subst hr;rw[List.append_nil]at N;subst N;exact⟨rfl,q5,HK.out.1.trans X⟩
theorem FV{g:Nat}{caps:Array Value}{Good:List Ev->World->Prop}{v:World->Nat->Prop}(C:Clo g caps Good v):∀n,Visits g caps Good v (jG n)
 | 0=>fun e bound es σ w S va vb wb T h=>by cases h
 | n+1=>by
  intro e bound es σ w S va vb wb T h A B E j k m l y;have IH:=FV C n;unfold jG at h;obtain⟨_,P,h⟩:=zB.1 h;obtain⟨_,Q,h⟩:=zB.1 h;have o:=jb P;have p:=jb Q;split at h
  ·rename_i G;have:=(aR h).symm;subst this;exact ab5 C e bound σ w S va vb wb T G.1 G.2 A B (by simpa using E) o j k l y
  ·rename_i G;obtain⟨ap,ab,ao,cap,L,q,hcap,r⟩:∃(ap:Option Addr) (ab ao cap:Nat),va=.slice ap e.args.length cap/\(e.args≠[]->ap=some ⟨ab,ao,none⟩)/\e.args.length<=cap/\∀(i:Nat) (x:af),e.args[i]?=some x->∃va,w.cell? ⟨ab,ao+i*4,none⟩=some (.int .i64 x.kind)/\w.cell? ⟨ab,ao+i*4+1,none⟩=some (.int .i64 x.n)/\w.cell? ⟨ab,ao+i*4+2,none⟩=some (.string ⟨x.text.toArray⟩)/\w.cell? ⟨ab,ao+i*4+3,none⟩=some va/\Rep w S (.list (.base .expr) x.args) va/\ab<w.heap.size/\¬v w ab:=by
    generalize hd:D.list (.base .expr) e.args=d at m;cases m with
    | int=>cases hd
    | bool=>cases hd
    | str=>cases hd
    | nil t=>
     injection hd with F c;subst F;have c:e.args=[]:=eq_of_heq c;exact⟨none,0,0,0,by rw[c];rfl,fun h=>absurd c h,by rw[c];exact aw _,fun i x f=>by rw[c]at f;simp at f⟩
    | emp t a cap=>
     injection hd with F c;subst F;have c:e.args=[]:=eq_of_heq c;exact⟨some a,0,0,cap,by rw[c];rfl,fun h=>absurd c h,by rw[c];exact Nat.zero_le _,fun i x f=>by rw[c]at f;simp at f⟩
    | list t xs b off cap vs hcap s u=>
     injection hd with F c;subst F;have c:e.args=xs:=eq_of_heq c;subst c;refine⟨some ⟨b,off,none⟩,b,off,cap,rfl,fun _=>rfl,hcap,fun i x f=>?_⟩;have H:=s i x 0 (.int .i64 x.kind) f rfl;have N:=s i x 1 (.int .i64 x.n) f rfl;have O:=s i x 2 (.str x.text) f rfl;have R:=s i x 3 (.list (.base .expr) x.args) f rfl;have U:=vV (u i x 0 (.int .i64 x.kind) f rfl);have V:=vV (u i x 1 (.int .i64 x.n) f rfl);have W:=lY (u i x 2 (.str x.text) f rfl);rw[U]at H;rw[V]at N;rw[W]at O;exact⟨vs i 3,H.1,N.1,O.1,R.1,u i x 3 _ f rfl,(y _ _ H.2).1,(y _ _ H.2).2⟩
   subst L;by_cases I:e.kind=3
   ·have M:bound.contains e.text=true:=by
     cases hh:bound.contains e.text with
     | true=>rfl
     | false=>exact absurd ⟨I,hh⟩ G
    have z:(decide (e.kind=7)||decide (e.kind=9))=false:=by rw[I];rfl
    rw[z]at h;exact Ze C IH e bound es σ w S ap ab ao cap q vb wb T I M o h A B E p j k hcap r l y
   by_cases J:e.kind=7
   ·have z:(decide (e.kind=7)||decide (e.kind=9))=true:=by rw[J];rfl
    rw[z]at h;exact afs C IH e bound es σ w S ap ab ao cap q vb wb T J o m h A B E p j k hcap r l y
   by_cases K:e.kind=9
   ·have z:(decide (e.kind=7)||decide (e.kind=9))=true:=by rw[K];rfl
    rw[z]at h;exact aft C IH e bound es σ w S ap ab ao cap q vb wb T K o m h A B E p j k hcap r l y
   have z:(decide (e.kind=7)||decide (e.kind=9))=false:=by simp[J,K]
   rw[z]at h;exact Zd C IH e bound es σ w S ap ab ao cap q vb wb T I J K h A B E p j k hcap r l y
end Go.Proofs.YtapgeemjgckgaaaGreatDoor
