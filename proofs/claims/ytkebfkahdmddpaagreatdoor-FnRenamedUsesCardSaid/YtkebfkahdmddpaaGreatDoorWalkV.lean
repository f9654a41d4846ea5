import Derived.Test.YtkebfkahdmddpaaGreatDoorDen1
import Derived.Test.YtkebfkahdmddpaaGreatDoorKept
import Derived.Test.YtkebfkahdmddpaaGreatDoorPlain1
import Derived.Test.YtkebfkahdmddpaaGreatDoorBat3
import Derived.StillTailTactics
import Derived.Deep.LoopGhost
set_option linter.unusedSimpArgs false
set_option linter.unusedVariables false
/- The walk over the names of an expression: visit, and the two closures that it is handed. -/
namespace Go.Proofs.YtkebfkahdmddpaaGreatDoor
open Go.Abs Go.Proofs Go.RowKit
structure dN(hid:World->Nat->Prop)(w w':World):Prop where
 os:w'.os=w.os
 tape:w'.tape=w.tape
 output:w'.output=w.output
 size:w.heap.size<=w'.heap.size
 block:∀c,c<w.heap.size->¬hid w c->w'.heap[c]?=w.heap[c]?
 hids:∀c,hid w' c->hid w c\/w.heap.size<=c
theorem dN.trans{d:World->Nat->Prop}{a b c:World}(h:dN d a b)(k:dN d b c):dN d a c:=
 ⟨k.os.trans h.os,k.tape.trans h.tape,k.output.trans h.output,Nat.le_trans h.size k.size,fun i hi f=>by
  rw[k.block i (aE hi h.size) fun g=>(h.hids i g).elim f fun e=>by omega,h.block i hi f],fun i hi=>(k.hids i hi).elim (h.hids i) fun e=>.inr (Nat.le_trans h.size e)⟩
abbrev Ev:=Str×List Str
structure Clo(g:Nat)(caps:Array Value)(Good:List Ev->World->Prop)(hid:World->Nat->Prop):Prop where
 enters:∀args w,(callFunc g args).run Tryz.prog w=.ok (.enter g args) w
 call:∀(w:World) (σ:List Ev) (S:Nat->Nat->Prop) (name:Str) (bound:List Str) (vb:Value),amb w->Good σ w->σ.length<34359738368->bound.length<=34359738368->Rep w S (.list (.base .str) bound) vb->(∀b o,S b o->b<w.heap.size/\¬hid w b) ->
  Calls Tryz.prog g (#[.string ⟨name.toArray⟩,vb]++caps) w fun e w'=>e=.returned (.tuple #[])/\Good (σ++[(name,bound)]) w'/\dN hid w w'
 keep:∀(w w':World) (σ:List Ev),Good σ w->(∀c,hid w c->w'.heap[c]?=w.heap[c]?)->w.heap.size<=w'.heap.size->Good σ w'/\∀c,hid w' c->hid w c
 lt:∀(w:World) (σ:List Ev) (c:Nat),Good σ w->hid w c->pM<=c/\c<w.heap.size
def jQ(e:af)(va:Value):Array Value:=#[.int .i64 e.kind,.int .i64 e.n,.string ⟨e.text.toArray⟩,va]
theorem Clo.below{g:Nat}{caps:Array Value}{Good:List Ev->World->Prop}{b:World->Nat->Prop}(C:Clo g caps Good b){w w':World}{σ:List Ev}(h:Good σ w)(a:Below w.heap.size w w'):Good σ w'/\dN b w w':=by
 have:=C.keep w w' σ h (fun c d=>a.block c (C.lt w σ c h d).2) a.size;exact⟨this.1,a.os,a.tape,a.output,a.size,fun c d _=>a.block c d,fun c d=>.inl (this.2 c d)⟩
theorem Clo.go{g:Nat}{caps:Array Value}{Good:List Ev->World->Prop}{a:World->Nat->Prop}(C:Clo g caps Good a){w:World}{σ:List Ev}{S:Nat->Nat->Prop}{name:Str}{bound:List Str}{vb:Value}(l:amb w)(n:Good σ w)(p:σ.length<34359738368)(h:bound.length<=34359738368)
  (i:Rep w S (.list (.base .str) bound) vb) (f:∀b o,S b o->b<w.heap.size/\¬a w b) (j:World) (d:Below w.heap.size w j) :
  Calls Tryz.prog g (#[.string ⟨name.toArray⟩,vb]++caps) j fun e w'=>e=.returned (.tuple #[])/\Good (σ++[(name,bound)]) w'/\dN a w w':=by
 obtain⟨r,m⟩:=C.below n d;refine (C.call j σ S name bound vb (amb.keep l d.size fun k s=>d.block k (aE s l.size)) r p h (i.move fun b o c=>⟨c,d.cell (f b o c).1⟩) (fun b o c=>⟨aE (f b o c).1 d.size,fun hh=>?_⟩)).mono ?_
 ·rcases m.hids b hh with q | q
  ·exact (f b o c).2 q
  ·have:=(f b o c).1;omega
 ·rintro e w' ⟨rfl,t,u⟩;exact⟨rfl,t,m.trans u⟩
def Visits(g:Nat)(caps:Array Value)(Good:List Ev->World->Prop)(a:World->Nat->Prop)(rec:af->List Str->Option (List Ev)):Prop:=
 ∀(e:af) (bound:List Str) (es σ:List Ev) (w:World) (S:Nat->Nat->Prop) (va vb:Value) (wb:Nat) (T:TypeId),rec e bound=some es->amb w->Good σ w->σ.length+es.length<=34359738368 ->
  w.heap[wb]?=some (.cells #[.func (.func g) #[] caps,.nilFunc] T (0,0))->¬a w wb->Rep w S (.list (.base .expr) e.args) va->Rep w S (.list (.base .str) bound) vb->(∀b o,S b o->b<w.heap.size/\¬a w b) ->
  Calls Tryz.prog 78 #[.pointer (some ⟨wb,0,none⟩),.agg (jQ e va),vb] w fun r w'=>r=.returned (.tuple #[])/\Good (σ++es) w'/\dN a w w'
theorem D9(bound:List Str)(s:Str)(S:Nat->Nat->Prop)(vb:Value)(i:bound.length<=34359738368)(w:World)(m:amb w)(j:Rep w S (.list (.base .str) bound) vb)(p:∀b o,S b o->b<w.heap.size)(f:World)(g:Below w.heap.size w f) :
  Calls Tryz.prog 48 #[vb,.string ⟨s.toArray⟩] f fun e w'=>e=.returned (.int .i64 (posOf s 0 bound))/\Below f.heap.size f w':=by
 have a:=Ap f S [vb,.string ⟨s.toArray⟩] (bound,s) (posOf s 0 bound) (uK bound s i) (amb.keep m g.size fun k q=>g.block k (aE q m.size))
  ⟨⟨j.move fun b o a=>⟨a,g.cell (p b o a)⟩,trivial⟩,⟨Rep.str ⟨s.toArray⟩,trivial⟩⟩ (fun b o a=>aE (p b o a) g.size)
 refine a.mono ?_;rintro e w' ⟨v,rfl,t,us,rfl,fps,h,_⟩;refine⟨?_,t⟩;rcases us with _ | ⟨u,_ | ⟨y,r⟩⟩
 ·exact h.elim
 ·have:=h.1;generalize c:D.int .i64 (posOf s 0 bound)=d at this;have x:Ow w' (fun _ _=>False) true d u (fps 0):=c▸h.1;cases x with
  | int k n=>cases c;rfl
  | bool=>cases c
  | str=>cases c
  | nil=>cases c
  | ro d v fp l=>cases l
  | list=>cases c
 ·exact h.elim
set_option maxHeartbeats 4000000 in
set_option maxRecDepth 100000 in
theorem Yk{g:Nat}{caps:Array Value}{Good:List Ev->World->Prop}{a:World->Nat->Prop}(C:Clo g caps Good a)(e:af)(bound:List Str)(σ:List Ev)(w:World)(S:Nat->Nat->Prop)(va vb:Value)(wb:Nat)(T:TypeId)
  (A:e.kind=3) (f:bound.contains e.text=false) (i:amb w) (k:Good σ w) (B:σ.length+1<=34359738368) (h:bound.length<=34359738368) (c:w.heap[wb]?=some (.cells #[.func (.func g) #[] caps,.nilFunc] T (0,0))) (v:¬a w wb)
  (d:Rep w S (.list (.base .str) bound) vb) (n:∀b o,S b o->b<w.heap.size/\¬a w b) :
  Calls Tryz.prog 78 #[.pointer (some ⟨wb,0,none⟩),.agg (jQ e va),vb] w fun r w'=>r=.returned (.tuple #[])/\Good (σ++[(e.text,bound)]) w'/\dN a w w':=by
 unfold jQ;have q:w.cell? ⟨wb,0,none⟩=some (.func (.func g) #[] caps):=by simp[World.cell?,c]
 have l:wb<w.heap.size:=(aR.1 c).1;have D:posOf e.text 0 bound<0:=(pq _ _ _).2 f;have hcall:=D9 bound e.text S vb h w i d (fun b o x=>(n b o x).1);have y:∀W:World,(binOp BinOp.neq 97 (.func (.func g) #[] caps) .nilFunc).run Tryz.prog W=.ok (.bool true) W:=fun W=>by kernel_rfl
 have HX:Hid (amb w/\Good σ w/\Rep w S (.list (.base .str) bound) vb/\w.heap[wb]?=some (.cells #[.func (.func g) #[] caps,.nilFunc] T (0,0))):=⟨i,k,d,c⟩;have en:=C.enters;have m:=C.go (name:=e.text) i k (by omega) h d n;clear i k d c f;go_enter Tryz.func78,Tryz.ntmps78
 go_wp2_with (go_at_call 48;refine (hcall _ ((Below.refl _ _).alloc (az _) _)).mono ?_;rintro E s ⟨rfl,j⟩;have HB:Hid (Below _ _ s):=j;have F:=(j.cell (p:=⟨wb,0,none⟩) (by simp;omega)).trans (World.cell?_of_block (Below.heap_alloc w _ wb l) |>.trans q);have G:=j.cell (p:=⟨w.heap.size,2,none⟩) (by simp);clear j q)
 go_still_tail 7,(by kernel_rfl)
 change wpList _ _ _ _ _ s.drew;go_wp2_with (go_at_fn g;refine (m _ (((Below.refl _ _).alloc (az _) _).trans (HB.out.mono (by simp))).drew).mono ?_;rintro H t ⟨rfl,u⟩;have z:Hid (Good (σ++[(e.text,bound)]) t/\dN a w t):=u;clear u)
 refine bodyPost_ret (results_none rfl _ _ _) rfl ?_;exact⟨rfl,z.out⟩
theorem Visits.go{g:Nat}{caps:Array Value}{Good:List Ev->World->Prop}{a:World->Nat->Prop}(C:Clo g caps Good a){rec:af->List Str->Option (List Ev)}(IH:Visits g caps Good a rec){e:af}{bound:List Str}{es σ:List Ev}{w:World}{S:Nat->Nat->Prop}{va vb:Value}{wb:Nat}{T:TypeId}
  (h:rec e bound=some es) (u:amb w) (x:Good σ w) (y:σ.length+es.length<=34359738368) (i:w.heap[wb]?=some (.cells #[.func (.func g) #[] caps,.nilFunc] T (0,0))) (q:¬a w wb) (s:Rep w S (.list (.base .expr) e.args) va)
  (t:Rep w S (.list (.base .str) bound) vb) (j:∀b o,S b o->b<w.heap.size/\¬a w b) (m:World) (f:Below w.heap.size w m) :
  Calls Tryz.prog 78 #[.pointer (some ⟨wb,0,none⟩),.agg #[.int .i64 e.kind,.int .i64 e.n,.string ⟨e.text.toArray⟩,va],vb] m fun r w'=>r=.returned (.tuple #[])/\Good (σ++es) w'/\dN a w w':=by
 obtain⟨z,v⟩:=C.below x f;have l:wb<w.heap.size:=(aR.1 i).1;have p:∀c,c<w.heap.size->¬a w c->¬a m c:=fun c F p hh=>(v.hids c hh).elim p fun A=>by omega
 refine (IH e bound es σ m S va vb wb T h (amb.keep u f.size fun k B=>f.block k (aE B u.size)) z y (by rw[f.block wb l];exact i) (p wb l q)
  (s.move fun b o d=>⟨d,f.cell (j b o d).1⟩) (t.move fun b o d=>⟨d,f.cell (j b o d).1⟩) (fun b o d=>⟨aE (j b o d).1 f.size,p b (j b o d).1 (j b o d).2⟩)).mono ?_
 rintro r w' ⟨rfl,D,E⟩;exact⟨rfl,D,v.trans E⟩
theorem Visits.go2{g:Nat}{caps:Array Value}{Good:List Ev->World->Prop}{a:World->Nat->Prop}(C:Clo g caps Good a){rec:af->List Str->Option (List Ev)}(IH:Visits g caps Good a rec){e:af}{bound:List Str}{es σ:List Ev}{w:World}{S:Nat->Nat->Prop}{va:Value}{wb:Nat}{T:TypeId}
  (h:rec e bound=some es) (A:amb w) (q:Good σ w) (B:σ.length+es.length<=34359738368) (j:w.heap[wb]?=some (.cells #[.func (.func g) #[] caps,.nilFunc] T (0,0))) (s:¬a w wb) (t:Rep w S (.list (.base .expr) e.args) va)
  (u:∀b o,S b o->b<w.heap.size/\¬a w b) (f:World) (i:Below w.heap.size w f) (v:Nat->Nat->Prop) (vb:Value) (x:Rep f v (.list (.base .str) bound) vb) (l:∀b o,v b o->(b<w.heap.size->¬a w b)/\b<f.heap.size) :
  Calls Tryz.prog 78 #[.pointer (some ⟨wb,0,none⟩),.agg #[.int .i64 e.kind,.int .i64 e.n,.string ⟨e.text.toArray⟩,va],vb] f fun r w'=>r=.returned (.tuple #[])/\Good (σ++es) w'/\dN a w w':=by
 obtain⟨D,E⟩:=C.below q i;have y:wb<w.heap.size:=(aR.1 j).1;have m:∀c,a f c->c<w.heap.size/\a w c:=fun c z=>by
  have:=(C.keep w f σ q (fun c z=>i.block c (C.lt w σ c q z).2) i.size).2 c z;exact⟨(C.lt w σ c q this).2,this⟩
 have p:∀c,(c<w.heap.size->¬a w c)->¬a f c:=fun c p hh=>p (m c hh).1 (m c hh).2
 refine (IH e bound es σ f (fun b o=>S b o\/v b o) va vb wb T h (amb.keep A i.size fun k F=>i.block k (aE F A.size)) D B (by rw[i.block wb y];exact j) (p wb fun _=>s)
  (t.move fun b o d=>⟨.inl d,i.cell (u b o d).1⟩) (x.move fun b o d=>⟨.inr d,rfl⟩) (fun b o d=>d.elim (fun d=>⟨aE (u b o d).1 i.size,p b fun _=>(u b o d).2⟩) fun d=>⟨(l b o d).2,p b (l b o d).1⟩)).mono ?_
 rintro r w' ⟨rfl,G,H⟩;exact⟨rfl,G,E.trans H⟩
theorem dN.cell{a:World->Nat->Prop}{w w':World}(h:dN a w w'){b o:Nat}(c:b<w.heap.size)(d:¬a w b):w'.cell? ⟨b,o,none⟩=w.cell? ⟨b,o,none⟩:=World.cell?_of_block (w:=w) (h.block b c d)
theorem dN.not{a:World->Nat->Prop}{w w':World}(h:dN a w w'){b:Nat}(c:b<w.heap.size)(d:¬a w b):b<w'.heap.size/\¬a w' b:=⟨aE c h.size,fun hh=>(h.hids b hh).elim d fun e=>by omega⟩
theorem dN.amb{g:Nat}{caps:Array Value}{Good:List Ev->World->Prop}{a:World->Nat->Prop}(C:Clo g caps Good a){w w':World}{σ:List Ev}(c:Good σ w)(h:dN a w w')(b:amb w):amb w':=
 Go.Abs.amb.keep b h.size fun k d=>h.block k (aE d b.size) fun hh=>by have:=(C.lt w σ k c hh).1;omega
theorem vS{w:World}{S:Nat->Nat->Prop}{t:Ty}{xs:List t.den}{v:Value}(h:Rep w S (.list t xs) v):∃p n c,v=.slice p n c:=by
 generalize a:D.list t xs=d at h;cases h with
 | int=>cases a
 | bool=>cases a
 | str=>cases a
 | nil=>exact⟨_,_,_,rfl⟩
 | emp=>exact⟨_,_,_,rfl⟩
 | list=>exact⟨_,_,_,rfl⟩
structure uP(rec:af->List Str->Option (List Ev))(Good:List Ev->World->Prop)(hid:World->Nat->Prop)(binds:Bool)(x:Str)(bound:List Str)(args:List af)(σ es:List Ev)(w1:World)(j k:Nat)(wr:World):Prop where
 le:j+k=args.length
 keep:dN hid w1 wr
 evs:∃es1 rest,es=es1++rest/\dH rec binds x bound j (args.drop j)=some rest/\Good (σ++es1) wr
set_option maxHeartbeats 8000000 in
set_option maxRecDepth 100000 in
theorem Vw{g:Nat}{caps:Array Value}{Good:List Ev->World->Prop}{a:World->Nat->Prop}(C:Clo g caps Good a){rec:af->List Str->Option (List Ev)}(IH:Visits g caps Good a rec)
  (e:af) (bound:List Str) (es σ:List Ev) (w:World) (S:Nat->Nat->Prop) (ap:Option Addr) (ab ao cap:Nat) (N:e.args≠[]->ap=some ⟨ab,ao,none⟩) (vb:Value) (wb:Nat) (T:TypeId)
  (hk3:¬e.kind=3) (hk7:¬e.kind=7) (hk9:¬e.kind=9) (l:dH rec false e.text bound 0 e.args=some es) (U:amb w) (V:Good σ w) (W:σ.length+es.length<=34359738368) (hal:e.args.length<=34359738368)
  (p:w.heap[wb]?=some (.cells #[.func (.func g) #[] caps,.nilFunc] T (0,0))) (A:¬a w wb)
  (hcap:e.args.length<=cap) (B:∀(i:Nat) (x:af),e.args[i]?=some x->∃va,w.cell? ⟨ab,ao+i*4,none⟩=some (.int .i64 x.kind)/\w.cell? ⟨ab,ao+i*4+1,none⟩=some (.int .i64 x.n)/\w.cell? ⟨ab,ao+i*4+2,none⟩=some (.string ⟨x.text.toArray⟩)/\w.cell? ⟨ab,ao+i*4+3,none⟩=some va/\Rep w S (.list (.base .expr) x.args) va/\ab<w.heap.size/\¬a w ab)
  (D:Rep w S (.list (.base .str) bound) vb) (J:∀b o,S b o->b<w.heap.size/\¬a w b) :
  Calls Tryz.prog 78 #[.pointer (some ⟨wb,0,none⟩),.agg (jQ e (.slice ap e.args.length cap)),vb] w fun r w'=>r=.returned (.tuple #[])/\Good (σ++es) w'/\dN a w w':=by
 unfold jQ;have c0:w.cell? ⟨wb,1,none⟩=some .nilFunc:=by simp[World.cell?,p]
 have E:wb<w.heap.size:=(aR.1 p).1;have HX:Hid (amb w/\Good σ w/\Rep w S (.list (.base .str) bound) vb/\w.heap[wb]?=some (.cells #[.func (.func g) #[] caps,.nilFunc] T (0,0))):=⟨U,V,D,p⟩;have HV:Hid (∀(i:Nat) (x:af),e.args[i]?=some x->∃va,w.cell? ⟨ab,ao+i*4,none⟩=some (.int .i64 x.kind)/\w.cell? ⟨ab,ao+i*4+1,none⟩=some (.int .i64 x.n)/\w.cell? ⟨ab,ao+i*4+2,none⟩=some (.string ⟨x.text.toArray⟩)/\w.cell? ⟨ab,ao+i*4+3,none⟩=some va/\Rep w S (.list (.base .expr) x.args) va/\ab<w.heap.size/\¬a w ab):=B;have HE:Hid (dH rec false e.text bound 0 e.args=some es):=l;clear U V D p B l;go_enter Tryz.func78,Tryz.ntmps78
 go_wp2
 generalize F:w.alloc (.cells #[.int .i64 e.kind,.int .i64 e.n,.string ⟨e.text.toArray⟩,.slice ap e.args.length cap] 37)=s;have q:Below w.heap.size w s:=F▸(Below.refl _ _).alloc (az _) _;have HK:Hid (dN a w s/\Good σ s):=⟨(C.below HX.out.2.1 q).2,(C.below HX.out.2.1 q).1⟩;have hw1s:w.heap.size<=s.heap.size:=q.size;clear q F;go_loopg [59] e.args.length (fun k i wr=>∃j:Nat,i=.int .i64 j/\uP rec Good a false e.text bound e.args σ es s j k wr)
 case atStart=>
  exact⟨0,rfl,by omega,⟨rfl,rfl,rfl,az _,fun _ _ _=>rfl,fun c hc=>.inl hc⟩,[],es,rfl,HE.out,by rw[List.append_nil];exact HK.out.2⟩
 case round=>
  obtain⟨j,rfl,O⟩:=hrel
  by_cases K:j<e.args.length
  ·have G:=N (fun h=>by rw[h]at K;simp at K);subst G;obtain⟨H,hkeep,m,rest,l,d,hGr⟩:=O;have f:dN a w wr:=HK.out.1.trans hkeep;obtain⟨va,f0,f1,f2,f3,t,P,hnab⟩:=HV.out j e.args[j] (zF K);rw[<- f.cell P hnab]at f0 f1 f2 f3;obtain⟨vp,vn,vc,rfl⟩:=vS t;rw[List.drop_eq_getElem_cons K]at d;simp only[dH,Bool.false_and,aL,if_false]at d;obtain⟨u,X,d⟩:=zB.1 d;obtain⟨v,hv,d⟩:=zB.1 d;have hrest:rest=u++v:=(a6 d).symm;have I:(σ++m).length+u.length<=34359738368:=by rw[l,hrest]at W;simp only[a7]at W ⊢;omega
   have y:∀b o,S b o->S b o/\wr.cell? ⟨b,o,none⟩=w.cell? ⟨b,o,none⟩:=fun b o z=>⟨z,f.cell (J b o z).1 (J b o z).2⟩
   have Q:=Visits.go C IH X (f.amb C HX.out.2.1 HX.out.1) hGr I (by rw[f.block wb E A];exact HX.out.2.2.2) (f.not E A).2 (t.move y) (HX.out.2.2.1.move y) (fun b o z=>f.not (J b o z).1 (J b o z).2);have HR:Hid (j+gk=e.args.length/\dN a s wr/\es=m++(u++v)/\dH rec false e.text bound (j+1) (e.args.drop (j+1))=some v):=⟨H,hkeep,hrest▸l,hv⟩;clear H hkeep l d hGr f X hv t hrest y I;go_wp2_with (go_at_call 78;refine (Q _ ((Below.refl _ _).alloc (az _) _)).mono ?_;rintro r Y ⟨rfl,Z⟩;have H4:Hid (Good (σ++m++u) Y/\dN a wr Y):=Z;clear Z)
   go_roundg (gk-1)
   case measure=>have:=HR.out.1;omega
   case rel=>
    obtain⟨q1,R,L,M⟩:=HR.out
    refine⟨j+1,rfl,by omega,R.trans H4.out.2,m++u,v,by rw[L,a8],M,?_⟩
    rw[<- a8]
    exact H4.out.1
  ·have HR:Hid (uP rec Good a false e.text bound e.args σ es s j gk wr):=O;clear O;go_wp2
   refine bodyPost_end (results_none rfl _ _ _) rfl ?_;obtain⟨q1,R,m,rest,L,M,q5⟩:=HR.out;have hr:rest=[]:=by
    rw[List.drop_eq_nil_of_le (by omega)]at M;exact (a6 M).symm
   subst hr;rw[List.append_nil]at L;subst L;exact⟨rfl,q5,HK.out.1.trans R⟩
def ZQ(e:af)(bound:List Str):St:=(({ tmps:=List.replicate 82 .undef,boxes:=List.replicate 82 none,owns:=List.replicate 82 [] }:St).iY 2 (.v (.one (.d (.list (.base .str) bound))))).iY 4 (.elt (.base .expr) e 0)
theorem X7{w:World}{S:Nat->Nat->Prop}{e:af}{bound:List Str}{va vb:Value}{tb:Nat}(g:Rep w S (.list (.base .str) bound) vb)(i:Rep w S (.list (.base .expr) e.args) va)(p:∀b o,S b o->b<w.heap.size)(k:tb<w.heap.size)
  (q:w.cell? ⟨tb,0,none⟩=some (.int .i64 e.kind)) (r:w.cell? ⟨tb,1,none⟩=some (.int .i64 e.n)) (s:w.cell? ⟨tb,2,none⟩=some (.string ⟨e.text.toArray⟩)) (t:w.cell? ⟨tb,3,none⟩=some va)
  (a:Act) (u:a.defers=[]) (x:a.tmps.size=82) (y:a.tmps.getD 2 undef=vb) (z:a.tmps.getD 4 undef=.pointer (some ⟨tb,0,none⟩)) :
  ∃G,Inv ⟨w,fun b o=>S b o\/b=tb,fun _=>False,none⟩ G (ZQ e bound) a w:=by
 obtain⟨G,l,m⟩:=acK (w:=w) (S0:=fun b o=>S b o\/b=tb) (fun b o h=>h.elim (p b o) fun h=>h▸k) u;rw[x]at m;have f:∀b o,S b o->G.S b o/\w.cell? ⟨b,o,none⟩=w.cell? ⟨b,o,none⟩:=fun b o h=>⟨by rw[l];exact .inl h,rfl⟩
 refine⟨G,(m.Hg 2 (av:=.v (.one (.d (.list (.base .str) bound)))) ?_).Hg 4 ?_⟩
 ·rw[y];exact g.move f
 ·rw[z];refine⟨tb,0,rfl,fun j=>match j with | 0=>.int .i64 e.kind | 1=>.int .i64 e.n | 2=>.string ⟨e.text.toArray⟩ | _=>va,fun j d c=>?_⟩;have hSt:∀o,G.S tb o:=fun o=>by rw[l];exact .inr rfl
  rw[Nat.zero_add];match j,c with
  | 0,c=>cases c;exact⟨q,hSt _,.int _ _⟩
  | 1,c=>cases c;exact⟨r,hSt _,.int _ _⟩
  | 2,c=>cases c;exact⟨s,hSt _,.str ⟨e.text.toArray⟩⟩
  | 3,c=>cases c;exact⟨t,hSt _,i.move f⟩
set_option maxHeartbeats 8000000 in
set_option maxRecDepth 100000 in
theorem aa6{g:Nat}{caps:Array Value}{Good:List Ev->World->Prop}{d:World->Nat->Prop}(C:Clo g caps Good d){rec:af->List Str->Option (List Ev)}(IH:Visits g caps Good d rec)
  (e:af) (bound:List Str) (es σ:List Ev) (w:World) (S:Nat->Nat->Prop) (ap:Option Addr) (ab ao cap:Nat) (hap:e.args≠[]->ap=some ⟨ab,ao,none⟩) (vb:Value) (wb:Nat) (T:TypeId)
  (hk:e.kind=7) (hbl:bound.length<=34359738368) (P:Rep w S (.list (.base .expr) e.args) (.slice ap e.args.length cap)) (s:dH rec true e.text bound 0 e.args=some es) (ha:amb w) (hG:Good σ w) (hl:σ.length+es.length<=34359738368) (hal:e.args.length<=34359738368)
  (H:w.heap[wb]?=some (.cells #[.func (.func g) #[] caps,.nilFunc] T (0,0))) (I:¬d w wb)
  (hcap:e.args.length<=cap) (hvs:∀(i:Nat) (x:af),e.args[i]?=some x->∃va,w.cell? ⟨ab,ao+i*4,none⟩=some (.int .i64 x.kind)/\w.cell? ⟨ab,ao+i*4+1,none⟩=some (.int .i64 x.n)/\w.cell? ⟨ab,ao+i*4+2,none⟩=some (.string ⟨x.text.toArray⟩)/\w.cell? ⟨ab,ao+i*4+3,none⟩=some va/\Rep w S (.list (.base .expr) x.args) va/\ab<w.heap.size/\¬d w ab)
  (hrb:Rep w S (.list (.base .str) bound) vb) (A:∀b o,S b o->b<w.heap.size/\¬d w b) :
  Calls Tryz.prog 78 #[.pointer (some ⟨wb,0,none⟩),.agg (jQ e (.slice ap e.args.length cap)),vb] w fun r w'=>r=.returned (.tuple #[])/\Good (σ++es) w'/\dN d w w':=by
 unfold jQ;rw[hk];have c0:w.cell? ⟨wb,1,none⟩=some .nilFunc:=by simp[World.cell?,H]
 have J:wb<w.heap.size:=(aR.1 H).1;have hfn:∀W:World,(binOp BinOp.neq 98 .nilFunc .nilFunc).run Tryz.prog W=.ok (.bool false) W:=fun W=>by kernel_rfl
 have HA:Hid (Rep w S (.list (.base .expr) e.args) (.slice ap e.args.length cap)):=P;have HX:Hid (amb w/\Good σ w/\Rep w S (.list (.base .str) bound) vb/\w.heap[wb]?=some (.cells #[.func (.func g) #[] caps,.nilFunc] T (0,0))):=⟨ha,hG,hrb,H⟩;have HV:Hid (∀(i:Nat) (x:af),e.args[i]?=some x->∃va,w.cell? ⟨ab,ao+i*4,none⟩=some (.int .i64 x.kind)/\w.cell? ⟨ab,ao+i*4+1,none⟩=some (.int .i64 x.n)/\w.cell? ⟨ab,ao+i*4+2,none⟩=some (.string ⟨x.text.toArray⟩)/\w.cell? ⟨ab,ao+i*4+3,none⟩=some va/\Rep w S (.list (.base .expr) x.args) va/\ab<w.heap.size/\¬d w ab):=hvs;have HE:Hid (dH rec true e.text bound 0 e.args=some es):=s;clear ha hG hrb H hvs s P;go_enter Tryz.func78,Tryz.ntmps78
 go_wp2
 generalize K:w.alloc (.cells #[.int .i64 7,.int .i64 e.n,.string ⟨e.text.toArray⟩,.slice ap e.args.length cap] 37)=t;have HD:Hid (t.cell? ⟨w.heap.size,0,none⟩=some (.int .i64 e.kind)/\t.cell? ⟨w.heap.size,1,none⟩=some (.int .i64 e.n)/\t.cell? ⟨w.heap.size,2,none⟩=some (.string ⟨e.text.toArray⟩)/\t.cell? ⟨w.heap.size,3,none⟩=some (.slice ap e.args.length cap)/\w.heap.size<t.heap.size/\¬d t w.heap.size):=by
  have hrow:t.heap[w.heap.size]?=some (.cells #[.int .i64 7,.int .i64 e.n,.string ⟨e.text.toArray⟩,.slice ap e.args.length cap] 37 (0,0)):=by
   rw[<- K];show (w.heap.push _)[w.heap.size]?=_
   rw[Array.getElem?_push_size]
  have hB0:Below w.heap.size w t:=K▸(Below.refl _ _).alloc (az _) _;refine⟨by rw[hk];simp[World.cell?,hrow],by simp[World.cell?,hrow],by simp[World.cell?,hrow],by simp[World.cell?,hrow],(aR.1 hrow).1,fun hh=>?_⟩;have:=(C.keep w t σ HX.out.2.1 (fun c hc=>hB0.block c (C.lt w σ c HX.out.2.1 hc).2) hB0.size).2 _ hh;have:=(C.lt w σ _ HX.out.2.1 this).2;omega
 have L:Below w.heap.size w t:=K▸(Below.refl _ _).alloc (az _) _;have HK:Hid (dN d w t/\Good σ t):=⟨(C.below HX.out.2.1 L).2,(C.below HX.out.2.1 L).1⟩;have hw1s:w.heap.size<=t.heap.size:=L.size;clear L K;go_loopg [59] e.args.length (fun k i wr=>∃j:Nat,i=.int .i64 j/\uP rec Good d true e.text bound e.args σ es t j k wr)
 case atStart=>
  exact⟨0,rfl,by omega,⟨rfl,rfl,rfl,az _,fun _ _ _=>rfl,fun c hc=>.inl hc⟩,[],es,rfl,HE.out,by rw[List.append_nil];exact HK.out.2⟩
 case round=>
  obtain⟨j,rfl,hR⟩:=hrel
  by_cases hj:j<e.args.length
  ·have hap':=hap (fun h=>by rw[h]at hj;simp at hj);subst hap';obtain⟨M,hkeep,m,rest,s,f,hGr⟩:=hR;have a:dN d w wr:=HK.out.1.trans hkeep;obtain⟨va,f0,f1,f2,f3,D,hab,hnab⟩:=HV.out j e.args[j] (zF hj);rw[<- a.cell hab hnab]at f0 f1 f2 f3;obtain⟨vp,vn,vc,rfl⟩:=vS D;rw[List.drop_eq_getElem_cons hj]at f;by_cases hj0:j=0
   ·subst hj0;simp only[dH,Bool.true_and,Nat.lt_irrefl,decide_false,aL,if_false]at f;obtain⟨u,U,f⟩:=zB.1 f;obtain⟨v,hv,f⟩:=zB.1 f;have hrest:rest=u++v:=(a6 f).symm;have F:(σ++m).length+u.length<=34359738368:=by rw[s,hrest]at hl;simp only[a7]at hl ⊢;omega
    have q:∀b o,S b o->S b o/\wr.cell? ⟨b,o,none⟩=w.cell? ⟨b,o,none⟩:=fun b o l=>⟨l,a.cell (A b o l).1 (A b o l).2⟩
    have N:=Visits.go C IH U (a.amb C HX.out.2.1 HX.out.1) hGr F (by rw[a.block wb J I];exact HX.out.2.2.2) (a.not J I).2 (D.move q) (HX.out.2.2.1.move q) (fun b o l=>a.not (A b o l).1 (A b o l).2);have HR:Hid (0+gk=e.args.length/\dN d t wr/\es=m++(u++v)/\dH rec true e.text bound (0+1) (e.args.drop (0+1))=some v):=⟨M,hkeep,hrest▸s,hv⟩;clear M hkeep s f hGr a U hv D hrest q F;simp only[Nat.zero_mul,Nat.add_zero]at f0 f1 f2 f3;go_wp2_with (go_at_call 78;refine (N _ ((Below.refl _ _).alloc (az _) _)).mono ?_;rintro r w4 ⟨rfl,h4⟩;have H4:Hid (Good (σ++m++u) w4/\dN d wr w4):=h4;clear h4)
    go_roundg (gk-1)
    case measure=>have:=HR.out.1;omega
    case rel=>
     obtain⟨q1,q2,Y,Z⟩:=HR.out
     refine⟨0+1,rfl,by omega,q2.trans H4.out.2,m++u,v,by rw[Y,a8],Z,?_⟩
     rw[<- a8]
     exact H4.out.1
   ·have hj1:(0:Int)<(j:Int):=by omega
    have hd1:decide (0<j)=true:=by simp;omega
    simp only[dH,Bool.true_and,hd1,if_true]at f;obtain⟨u,U,f⟩:=zB.1 f;obtain⟨_,hgd,U⟩:=zB.1 U;obtain⟨v,hv,f⟩:=zB.1 f;have hrest:rest=u++v:=(a6 f).symm;have F:(σ++m).length+u.length<=34359738368:=by rw[s,hrest]at hl;simp only[a7]at hl ⊢;omega
    have q:∀b o,S b o->S b o/\wr.cell? ⟨b,o,none⟩=w.cell? ⟨b,o,none⟩:=fun b o l=>⟨l,a.cell (A b o l).1 (A b o l).2⟩
    have N:=Visits.go2 C IH U (a.amb C HX.out.2.1 HX.out.1) hGr F (by rw[a.block wb J I];exact HX.out.2.2.2) (a.not J I).2 (D.move q) (fun b o l=>a.not (A b o l).1 (A b o l).2);have HR:Hid (j+gk=e.args.length/\dN d t wr/\es=m++(u++v)/\dH rec true e.text bound (j+1) (e.args.drop (j+1))=some v/\Good (σ++m) wr/\dN d w wr):=⟨M,hkeep,hrest▸s,hv,hGr,a⟩;clear M hkeep s f hGr a U hv D hrest q F hd1;go_wp2
    generalize hw12:wr.alloc (.cells #[.int .i64 e.args[j].kind,.int .i64 e.args[j].n,.string ⟨e.args[j].text.toArray⟩,.slice vp vn vc] 37)=z;have hB12:Below wr.heap.size wr z:=hw12▸(Below.refl _ _).alloc (az _) _;have hrow:z.heap[wr.heap.size]?=some (.cells #[.int .i64 e.args[j].kind,.int .i64 e.args[j].n,.string ⟨e.args[j].text.toArray⟩,.slice vp vn vc] 37 (0,0)):=by
     rw[<- hw12];show (wr.heap.push _)[wr.heap.size]?=_
     rw[Array.getElem?_push_size]
    have hrl:wr.heap.size<z.heap.size:=(aR.1 hrow).1;have O:dN d t wr:=HR.out.2.1;have a:dN d w wr:=HR.out.2.2.2.2.2;have V:w.heap.size<wr.heap.size:=aE HD.out.2.2.2.2.1 O.size;have G:∀o,z.cell? ⟨w.heap.size,o,none⟩=t.cell? ⟨w.heap.size,o,none⟩:=fun o=>(hB12.cell (p:=⟨w.heap.size,o,none⟩) V).trans (O.cell HD.out.2.2.2.2.1 HD.out.2.2.2.2.2)
    have q:∀b o,S b o->S b o/\z.cell? ⟨b,o,none⟩=w.cell? ⟨b,o,none⟩:=fun b o l=>⟨l,(hB12.cell (p:=⟨b,o,none⟩) (a.not (A b o l).1 (A b o l).2).1).trans (a.cell (A b o l).1 (A b o l).2)⟩
    have ha12:amb z:=amb.keep (a.amb C HX.out.2.1 HX.out.1) hB12.size fun k hk=>hB12.block k (aE hk (a.amb C HX.out.2.1 HX.out.1).size)
    refine Sz (w0:=⟨z,fun b o=>S b o\/b=w.heap.size,fun _=>False,none⟩) (E:={ tt:=tt,fs:=[] }) (k:=TN 9) (r:=bound++[e.text]) (S:=ZQ e bound) (ds:=[70,71,72,73,74,75,76,9]) ((iM.nil acZ).at (mX.none ha12)) qB (by kernel_rfl) ?hv ?hi ?_
    case hv=>
     refine (show _=(gd (([]:List Str).length+bound.length)).bind (fun _=>(gd ((([]:List Str)++bound).length+[e.text].length)).bind fun _=>some ((([]:List Str)++bound)++[e.text])) by kernel_rfl).trans ?_
     have hgd':=iP hgd
     have g1:gd (([]:List Str).length+bound.length)=some ():=by unfold gd;simp;omega
     have g2:gd ((([]:List Str)++bound).length+[e.text].length)=some ():=by unfold gd;simp;omega
     rw[g1,g2];rfl
    case hi=>
     exact X7 (HX.out.2.2.1.move q) (HA.out.move q) (fun b o l=>aE (a.not (A b o l).1 (A b o l).2).1 hB12.size) (aE V hB12.size) (by rw[G];exact HD.out.1) (by rw[G];exact HD.out.2.1) (by rw[G];exact HD.out.2.2.1) (by rw[G];exact HD.out.2.2.2.1) _ rfl rfl rfl rfl
    intro S' a' B G' hk' hI hkept;obtain⟨hB13,S2,Q,X⟩:=LC hI hk' (by rw[hkept.1];exact (by decide:9<82));have hs3:∀b o,S2 b o->(b<wr.heap.size->¬d wr b)/\b<B.heap.size:=fun b o l=>⟨fun hlt hh=>by
     rcases (X b o l).1 with (h | h) | h
     ·exact (a.not (A b o h).1 (A b o h).2).2 hh
     ·exact (O.not HD.out.2.2.2.2.1 HD.out.2.2.2.2.2).2 (h▸hh)
     ·have:=hB12.size;omega,(X b o l).2⟩
    have hr13:∀o,B.cell? ⟨wr.heap.size,o,none⟩=z.cell? ⟨wr.heap.size,o,none⟩:=fun o=>hB13.cell (p:=⟨wr.heap.size,o,none⟩) hrl
    have k0:B.cell? ⟨wr.heap.size,0,none⟩=some (.int .i64 e.args[j].kind):=by rw[hr13];simp[World.cell?,hrow]
    have k1:B.cell? ⟨wr.heap.size,1,none⟩=some (.int .i64 e.args[j].n):=by rw[hr13];simp[World.cell?,hrow]
    have k2:B.cell? ⟨wr.heap.size,2,none⟩=some (.string ⟨e.args[j].text.toArray⟩):=by rw[hr13];simp[World.cell?,hrow]
    have k3:B.cell? ⟨wr.heap.size,3,none⟩=some (.slice vp vn vc):=by rw[hr13];simp[World.cell?,hrow]
    have R:=N B (hB12.trans (hB13.mono hB12.size)) S2 _ Q hs3;have y:a'=⟨#[Value.pointer (some ⟨wb,0,none⟩),Value.agg #[Value.int IntKind.i64 7,Value.int IntKind.i64 e.n,Value.string ⟨e.text.toArray⟩,Value.slice (some ⟨ab,ao,none⟩) e.args.length cap],vb,undef,Value.pointer (some ⟨w.heap.size,0,none⟩),undef,Value.bool true,Value.int IntKind.i64 (j:Int),Value.pointer (some ⟨wr.heap.size,0,none⟩),a'.tmps.getD 9 undef,Value.pointer (some ⟨w.heap.size,0,none⟩),Value.int IntKind.i64 7,Value.bool false,Value.bool false,undef,undef,undef,undef,undef,Value.bool false,undef,undef,undef,undef,undef,undef,undef,undef,undef,undef,undef,undef,undef,Value.pointer (some ⟨w.heap.size,0,none⟩),Value.int IntKind.i64 7,Value.bool true,Value.bool true,undef,undef,undef,Value.bool true,Value.bool true,Value.bool true,Value.pointer (some ⟨wb,0,none⟩),Value.pointer (some ⟨wb,0,none⟩),Value.pointer (some ⟨wb,1,none⟩),Value.nilFunc,Value.bool false,Value.bool false,undef,undef,undef,undef,undef,undef,undef,Value.pointer (some ⟨w.heap.size,3,none⟩),Value.slice (some ⟨ab,ao,none⟩) e.args.length cap,Value.int IntKind.i64 (e.args.length:Int),Value.int IntKind.i64 (j:Int),Value.bool true,Value.int IntKind.i64 (j:Int),Value.pointer (some ⟨ab,ao+j*4,none⟩),Value.agg #[Value.int IntKind.i64 e.args[j].kind,Value.int IntKind.i64 e.args[j].n,Value.string ⟨e.args[j].text.toArray⟩,Value.slice vp vn vc],vb,Value.bool true,Value.bool true,Value.int IntKind.i64 (j:Int),Value.bool true,Value.bool true,a'.tmps.getD 70 undef,a'.tmps.getD 71 undef,a'.tmps.getD 72 undef,a'.tmps.getD 73 undef,a'.tmps.getD 74 undef,a'.tmps.getD 75 undef,a'.tmps.getD 76 undef,u77,u78,u79,u80,u81],[]⟩:=(hkept.eq hI.nodef).trans (by kernel_rfl);generalize a'.tmps.getD 9 undef=vb2 at R y;generalize a'.tmps.getD 70 undef=x70 at y;generalize a'.tmps.getD 71 undef=x71 at y;generalize a'.tmps.getD 72 undef=x72 at y;generalize a'.tmps.getD 73 undef=x73 at y;generalize a'.tmps.getD 74 undef=x74 at y;generalize a'.tmps.getD 75 undef=x75 at y;generalize a'.tmps.getD 76 undef=x76 at y;clear hr13 hs3 X Q hB13 hI hkept hk' N ha12 q G V a O hrl hrow hB12 hw12 f0 f1 f2 f3;subst y;simp only[Exit.then];go_wp2_with (go_at_call 78;refine R.mono ?_;rintro r w4 ⟨rfl,h4⟩;have H4:Hid (Good (σ++m++u) w4/\dN d wr w4):=h4;clear h4)
    go_roundg (gk-1)
    case measure=>have:=HR.out.1;omega
    case rel=>
     obtain⟨q1,q2,Y,Z,_⟩:=HR.out
     refine⟨j+1,rfl,by omega,q2.trans H4.out.2,m++u,v,by rw[Y,a8],Z,?_⟩
     rw[<- a8]
     exact H4.out.1
  ·have HR:Hid (uP rec Good d true e.text bound e.args σ es t j gk wr):=hR;clear hR;go_wp2
   refine bodyPost_end (results_none rfl _ _ _) rfl ?_;obtain⟨q1,q2,m,rest,Y,Z,q5⟩:=HR.out;have hr:rest=[]:=by
    rw[List.drop_eq_nil_of_le (by omega)]at Z;exact (a6 Z).symm
   subst hr;rw[List.append_nil]at Y;subst Y;exact⟨rfl,q5,HK.out.1.trans q2⟩
set_option maxHeartbeats 8000000 in
set_option maxRecDepth 100000 in
theorem aa7{g:Nat}{caps:Array Value}{Good:List Ev->World->Prop}{d:World->Nat->Prop}(C:Clo g caps Good d){rec:af->List Str->Option (List Ev)}(IH:Visits g caps Good d rec)
  (e:af) (bound:List Str) (es σ:List Ev) (w:World) (S:Nat->Nat->Prop) (ap:Option Addr) (ab ao cap:Nat) (hap:e.args≠[]->ap=some ⟨ab,ao,none⟩) (vb:Value) (wb:Nat) (T:TypeId)
  (hk:e.kind=9) (hbl:bound.length<=34359738368) (P:Rep w S (.list (.base .expr) e.args) (.slice ap e.args.length cap)) (s:dH rec true e.text bound 0 e.args=some es) (ha:amb w) (hG:Good σ w) (hl:σ.length+es.length<=34359738368) (hal:e.args.length<=34359738368)
  (H:w.heap[wb]?=some (.cells #[.func (.func g) #[] caps,.nilFunc] T (0,0))) (I:¬d w wb)
  (hcap:e.args.length<=cap) (hvs:∀(i:Nat) (x:af),e.args[i]?=some x->∃va,w.cell? ⟨ab,ao+i*4,none⟩=some (.int .i64 x.kind)/\w.cell? ⟨ab,ao+i*4+1,none⟩=some (.int .i64 x.n)/\w.cell? ⟨ab,ao+i*4+2,none⟩=some (.string ⟨x.text.toArray⟩)/\w.cell? ⟨ab,ao+i*4+3,none⟩=some va/\Rep w S (.list (.base .expr) x.args) va/\ab<w.heap.size/\¬d w ab)
  (hrb:Rep w S (.list (.base .str) bound) vb) (A:∀b o,S b o->b<w.heap.size/\¬d w b) :
  Calls Tryz.prog 78 #[.pointer (some ⟨wb,0,none⟩),.agg (jQ e (.slice ap e.args.length cap)),vb] w fun r w'=>r=.returned (.tuple #[])/\Good (σ++es) w'/\dN d w w':=by
 unfold jQ;rw[hk];have c0:w.cell? ⟨wb,1,none⟩=some .nilFunc:=by simp[World.cell?,H]
 have J:wb<w.heap.size:=(aR.1 H).1;have hfn:∀W:World,(binOp BinOp.neq 98 .nilFunc .nilFunc).run Tryz.prog W=.ok (.bool false) W:=fun W=>by kernel_rfl
 have HA:Hid (Rep w S (.list (.base .expr) e.args) (.slice ap e.args.length cap)):=P;have HX:Hid (amb w/\Good σ w/\Rep w S (.list (.base .str) bound) vb/\w.heap[wb]?=some (.cells #[.func (.func g) #[] caps,.nilFunc] T (0,0))):=⟨ha,hG,hrb,H⟩;have HV:Hid (∀(i:Nat) (x:af),e.args[i]?=some x->∃va,w.cell? ⟨ab,ao+i*4,none⟩=some (.int .i64 x.kind)/\w.cell? ⟨ab,ao+i*4+1,none⟩=some (.int .i64 x.n)/\w.cell? ⟨ab,ao+i*4+2,none⟩=some (.string ⟨x.text.toArray⟩)/\w.cell? ⟨ab,ao+i*4+3,none⟩=some va/\Rep w S (.list (.base .expr) x.args) va/\ab<w.heap.size/\¬d w ab):=hvs;have HE:Hid (dH rec true e.text bound 0 e.args=some es):=s;clear ha hG hrb H hvs s P;go_enter Tryz.func78,Tryz.ntmps78
 go_wp2
 generalize K:w.alloc (.cells #[.int .i64 9,.int .i64 e.n,.string ⟨e.text.toArray⟩,.slice ap e.args.length cap] 37)=t;have HD:Hid (t.cell? ⟨w.heap.size,0,none⟩=some (.int .i64 e.kind)/\t.cell? ⟨w.heap.size,1,none⟩=some (.int .i64 e.n)/\t.cell? ⟨w.heap.size,2,none⟩=some (.string ⟨e.text.toArray⟩)/\t.cell? ⟨w.heap.size,3,none⟩=some (.slice ap e.args.length cap)/\w.heap.size<t.heap.size/\¬d t w.heap.size):=by
  have hrow:t.heap[w.heap.size]?=some (.cells #[.int .i64 9,.int .i64 e.n,.string ⟨e.text.toArray⟩,.slice ap e.args.length cap] 37 (0,0)):=by
   rw[<- K];show (w.heap.push _)[w.heap.size]?=_
   rw[Array.getElem?_push_size]
  have hB0:Below w.heap.size w t:=K▸(Below.refl _ _).alloc (az _) _;refine⟨by rw[hk];simp[World.cell?,hrow],by simp[World.cell?,hrow],by simp[World.cell?,hrow],by simp[World.cell?,hrow],(aR.1 hrow).1,fun hh=>?_⟩;have:=(C.keep w t σ HX.out.2.1 (fun c hc=>hB0.block c (C.lt w σ c HX.out.2.1 hc).2) hB0.size).2 _ hh;have:=(C.lt w σ _ HX.out.2.1 this).2;omega
 have L:Below w.heap.size w t:=K▸(Below.refl _ _).alloc (az _) _;have HK:Hid (dN d w t/\Good σ t):=⟨(C.below HX.out.2.1 L).2,(C.below HX.out.2.1 L).1⟩;have hw1s:w.heap.size<=t.heap.size:=L.size;clear L K;go_loopg [59] e.args.length (fun k i wr=>∃j:Nat,i=.int .i64 j/\uP rec Good d true e.text bound e.args σ es t j k wr)
 case atStart=>
  exact⟨0,rfl,by omega,⟨rfl,rfl,rfl,az _,fun _ _ _=>rfl,fun c hc=>.inl hc⟩,[],es,rfl,HE.out,by rw[List.append_nil];exact HK.out.2⟩
 case round=>
  obtain⟨j,rfl,hR⟩:=hrel
  by_cases hj:j<e.args.length
  ·have hap':=hap (fun h=>by rw[h]at hj;simp at hj);subst hap';obtain⟨M,hkeep,m,rest,s,f,hGr⟩:=hR;have a:dN d w wr:=HK.out.1.trans hkeep;obtain⟨va,f0,f1,f2,f3,D,hab,hnab⟩:=HV.out j e.args[j] (zF hj);rw[<- a.cell hab hnab]at f0 f1 f2 f3;obtain⟨vp,vn,vc,rfl⟩:=vS D;rw[List.drop_eq_getElem_cons hj]at f;by_cases hj0:j=0
   ·subst hj0;simp only[dH,Bool.true_and,Nat.lt_irrefl,decide_false,aL,if_false]at f;obtain⟨u,U,f⟩:=zB.1 f;obtain⟨v,hv,f⟩:=zB.1 f;have hrest:rest=u++v:=(a6 f).symm;have F:(σ++m).length+u.length<=34359738368:=by rw[s,hrest]at hl;simp only[a7]at hl ⊢;omega
    have q:∀b o,S b o->S b o/\wr.cell? ⟨b,o,none⟩=w.cell? ⟨b,o,none⟩:=fun b o l=>⟨l,a.cell (A b o l).1 (A b o l).2⟩
    have N:=Visits.go C IH U (a.amb C HX.out.2.1 HX.out.1) hGr F (by rw[a.block wb J I];exact HX.out.2.2.2) (a.not J I).2 (D.move q) (HX.out.2.2.1.move q) (fun b o l=>a.not (A b o l).1 (A b o l).2);have HR:Hid (0+gk=e.args.length/\dN d t wr/\es=m++(u++v)/\dH rec true e.text bound (0+1) (e.args.drop (0+1))=some v):=⟨M,hkeep,hrest▸s,hv⟩;clear M hkeep s f hGr a U hv D hrest q F;simp only[Nat.zero_mul,Nat.add_zero]at f0 f1 f2 f3;go_wp2_with (go_at_call 78;refine (N _ ((Below.refl _ _).alloc (az _) _)).mono ?_;rintro r w4 ⟨rfl,h4⟩;have H4:Hid (Good (σ++m++u) w4/\dN d wr w4):=h4;clear h4)
    go_roundg (gk-1)
    case measure=>have:=HR.out.1;omega
    case rel=>
     obtain⟨q1,q2,Y,Z⟩:=HR.out
     refine⟨0+1,rfl,by omega,q2.trans H4.out.2,m++u,v,by rw[Y,a8],Z,?_⟩
     rw[<- a8]
     exact H4.out.1
   ·have hj1:(0:Int)<(j:Int):=by omega
    have hd1:decide (0<j)=true:=by simp;omega
    simp only[dH,Bool.true_and,hd1,if_true]at f;obtain⟨u,U,f⟩:=zB.1 f;obtain⟨_,hgd,U⟩:=zB.1 U;obtain⟨v,hv,f⟩:=zB.1 f;have hrest:rest=u++v:=(a6 f).symm;have F:(σ++m).length+u.length<=34359738368:=by rw[s,hrest]at hl;simp only[a7]at hl ⊢;omega
    have q:∀b o,S b o->S b o/\wr.cell? ⟨b,o,none⟩=w.cell? ⟨b,o,none⟩:=fun b o l=>⟨l,a.cell (A b o l).1 (A b o l).2⟩
    have N:=Visits.go2 C IH U (a.amb C HX.out.2.1 HX.out.1) hGr F (by rw[a.block wb J I];exact HX.out.2.2.2) (a.not J I).2 (D.move q) (fun b o l=>a.not (A b o l).1 (A b o l).2);have HR:Hid (j+gk=e.args.length/\dN d t wr/\es=m++(u++v)/\dH rec true e.text bound (j+1) (e.args.drop (j+1))=some v/\Good (σ++m) wr/\dN d w wr):=⟨M,hkeep,hrest▸s,hv,hGr,a⟩;clear M hkeep s f hGr a U hv D hrest q F hd1;go_wp2
    generalize hw12:wr.alloc (.cells #[.int .i64 e.args[j].kind,.int .i64 e.args[j].n,.string ⟨e.args[j].text.toArray⟩,.slice vp vn vc] 37)=z;have hB12:Below wr.heap.size wr z:=hw12▸(Below.refl _ _).alloc (az _) _;have hrow:z.heap[wr.heap.size]?=some (.cells #[.int .i64 e.args[j].kind,.int .i64 e.args[j].n,.string ⟨e.args[j].text.toArray⟩,.slice vp vn vc] 37 (0,0)):=by
     rw[<- hw12];show (wr.heap.push _)[wr.heap.size]?=_
     rw[Array.getElem?_push_size]
    have hrl:wr.heap.size<z.heap.size:=(aR.1 hrow).1;have O:dN d t wr:=HR.out.2.1;have a:dN d w wr:=HR.out.2.2.2.2.2;have V:w.heap.size<wr.heap.size:=aE HD.out.2.2.2.2.1 O.size;have G:∀o,z.cell? ⟨w.heap.size,o,none⟩=t.cell? ⟨w.heap.size,o,none⟩:=fun o=>(hB12.cell (p:=⟨w.heap.size,o,none⟩) V).trans (O.cell HD.out.2.2.2.2.1 HD.out.2.2.2.2.2)
    have q:∀b o,S b o->S b o/\z.cell? ⟨b,o,none⟩=w.cell? ⟨b,o,none⟩:=fun b o l=>⟨l,(hB12.cell (p:=⟨b,o,none⟩) (a.not (A b o l).1 (A b o l).2).1).trans (a.cell (A b o l).1 (A b o l).2)⟩
    have ha12:amb z:=amb.keep (a.amb C HX.out.2.1 HX.out.1) hB12.size fun k hk=>hB12.block k (aE hk (a.amb C HX.out.2.1 HX.out.1).size)
    refine Sz (w0:=⟨z,fun b o=>S b o\/b=w.heap.size,fun _=>False,none⟩) (E:={ tt:=tt,fs:=[] }) (k:=TN 9) (r:=bound++[e.text]) (S:=ZQ e bound) (ds:=[70,71,72,73,74,75,76,9]) ((iM.nil acZ).at (mX.none ha12)) qB (by kernel_rfl) ?hv ?hi ?_
    case hv=>
     refine (show _=(gd (([]:List Str).length+bound.length)).bind (fun _=>(gd ((([]:List Str)++bound).length+[e.text].length)).bind fun _=>some ((([]:List Str)++bound)++[e.text])) by kernel_rfl).trans ?_
     have hgd':=iP hgd
     have g1:gd (([]:List Str).length+bound.length)=some ():=by unfold gd;simp;omega
     have g2:gd ((([]:List Str)++bound).length+[e.text].length)=some ():=by unfold gd;simp;omega
     rw[g1,g2];rfl
    case hi=>
     exact X7 (HX.out.2.2.1.move q) (HA.out.move q) (fun b o l=>aE (a.not (A b o l).1 (A b o l).2).1 hB12.size) (aE V hB12.size) (by rw[G];exact HD.out.1) (by rw[G];exact HD.out.2.1) (by rw[G];exact HD.out.2.2.1) (by rw[G];exact HD.out.2.2.2.1) _ rfl rfl rfl rfl
    intro S' a' B G' hk' hI hkept;obtain⟨hB13,S2,Q,X⟩:=LC hI hk' (by rw[hkept.1];exact (by decide:9<82));have hs3:∀b o,S2 b o->(b<wr.heap.size->¬d wr b)/\b<B.heap.size:=fun b o l=>⟨fun hlt hh=>by
     rcases (X b o l).1 with (h | h) | h
     ·exact (a.not (A b o h).1 (A b o h).2).2 hh
     ·exact (O.not HD.out.2.2.2.2.1 HD.out.2.2.2.2.2).2 (h▸hh)
     ·have:=hB12.size;omega,(X b o l).2⟩
    have hr13:∀o,B.cell? ⟨wr.heap.size,o,none⟩=z.cell? ⟨wr.heap.size,o,none⟩:=fun o=>hB13.cell (p:=⟨wr.heap.size,o,none⟩) hrl
    have k0:B.cell? ⟨wr.heap.size,0,none⟩=some (.int .i64 e.args[j].kind):=by rw[hr13];simp[World.cell?,hrow]
    have k1:B.cell? ⟨wr.heap.size,1,none⟩=some (.int .i64 e.args[j].n):=by rw[hr13];simp[World.cell?,hrow]
    have k2:B.cell? ⟨wr.heap.size,2,none⟩=some (.string ⟨e.args[j].text.toArray⟩):=by rw[hr13];simp[World.cell?,hrow]
    have k3:B.cell? ⟨wr.heap.size,3,none⟩=some (.slice vp vn vc):=by rw[hr13];simp[World.cell?,hrow]
    have R:=N B (hB12.trans (hB13.mono hB12.size)) S2 _ Q hs3;have y:a'=⟨#[Value.pointer (some ⟨wb,0,none⟩),Value.agg #[Value.int IntKind.i64 9,Value.int IntKind.i64 e.n,Value.string ⟨e.text.toArray⟩,Value.slice (some ⟨ab,ao,none⟩) e.args.length cap],vb,undef,Value.pointer (some ⟨w.heap.size,0,none⟩),undef,Value.bool true,Value.int IntKind.i64 (j:Int),Value.pointer (some ⟨wr.heap.size,0,none⟩),a'.tmps.getD 9 undef,Value.pointer (some ⟨w.heap.size,0,none⟩),Value.int IntKind.i64 9,Value.bool false,Value.bool false,undef,undef,undef,undef,undef,Value.bool false,undef,undef,undef,undef,undef,undef,undef,undef,undef,undef,undef,undef,undef,Value.pointer (some ⟨w.heap.size,0,none⟩),Value.int IntKind.i64 9,Value.bool false,Value.bool false,Value.pointer (some ⟨w.heap.size,0,none⟩),Value.int IntKind.i64 9,Value.bool true,Value.bool true,Value.bool true,Value.bool true,Value.pointer (some ⟨wb,0,none⟩),Value.pointer (some ⟨wb,0,none⟩),Value.pointer (some ⟨wb,1,none⟩),Value.nilFunc,Value.bool false,Value.bool false,undef,undef,undef,undef,undef,undef,undef,Value.pointer (some ⟨w.heap.size,3,none⟩),Value.slice (some ⟨ab,ao,none⟩) e.args.length cap,Value.int IntKind.i64 (e.args.length:Int),Value.int IntKind.i64 (j:Int),Value.bool true,Value.int IntKind.i64 (j:Int),Value.pointer (some ⟨ab,ao+j*4,none⟩),Value.agg #[Value.int IntKind.i64 e.args[j].kind,Value.int IntKind.i64 e.args[j].n,Value.string ⟨e.args[j].text.toArray⟩,Value.slice vp vn vc],vb,Value.bool true,Value.bool true,Value.int IntKind.i64 (j:Int),Value.bool true,Value.bool true,a'.tmps.getD 70 undef,a'.tmps.getD 71 undef,a'.tmps.getD 72 undef,a'.tmps.getD 73 undef,a'.tmps.getD 74 undef,a'.tmps.getD 75 undef,a'.tmps.getD 76 undef,u77,u78,u79,u80,u81],[]⟩:=(hkept.eq hI.nodef).trans (by kernel_rfl);generalize a'.tmps.getD 9 undef=vb2 at R y;generalize a'.tmps.getD 70 undef=x70 at y;generalize a'.tmps.getD 71 undef=x71 at y;generalize a'.tmps.getD 72 undef=x72 at y;generalize a'.tmps.getD 73 undef=x73 at y;generalize a'.tmps.getD 74 undef=x74 at y;generalize a'.tmps.getD 75 undef=x75 at y;generalize a'.tmps.getD 76 undef=x76 at y;clear hr13 hs3 X Q hB13 hI hkept hk' N ha12 q G V a O hrl hrow hB12 hw12 f0 f1 f2 f3;subst y;simp only[Exit.then];go_wp2_with (go_at_call 78;refine R.mono ?_;rintro r w4 ⟨rfl,h4⟩;have H4:Hid (Good (σ++m++u) w4/\dN d wr w4):=h4;clear h4)
    go_roundg (gk-1)
    case measure=>have:=HR.out.1;omega
    case rel=>
     obtain⟨q1,q2,Y,Z,_⟩:=HR.out
     refine⟨j+1,rfl,by omega,q2.trans H4.out.2,m++u,v,by rw[Y,a8],Z,?_⟩
     rw[<- a8]
     exact H4.out.1
  ·have HR:Hid (uP rec Good d true e.text bound e.args σ es t j gk wr):=hR;clear hR;go_wp2
   refine bodyPost_end (results_none rfl _ _ _) rfl ?_;obtain⟨q1,q2,m,rest,Y,Z,q5⟩:=HR.out;have hr:rest=[]:=by
    rw[List.drop_eq_nil_of_le (by omega)]at Z;exact (a6 Z).symm
   subst hr;rw[List.append_nil]at Y;subst Y;exact⟨rfl,q5,HK.out.1.trans q2⟩
set_option maxHeartbeats 8000000 in
set_option maxRecDepth 100000 in
theorem Vx{g:Nat}{caps:Array Value}{Good:List Ev->World->Prop}{a:World->Nat->Prop}(C:Clo g caps Good a){rec:af->List Str->Option (List Ev)}(IH:Visits g caps Good a rec)
  (e:af) (bound:List Str) (es σ:List Ev) (w:World) (S:Nat->Nat->Prop) (ap:Option Addr) (ab ao cap:Nat) (P:e.args≠[]->ap=some ⟨ab,ao,none⟩) (vb:Value) (wb:Nat) (T:TypeId)
  (hk:e.kind=3) (z:bound.contains e.text=true) (Q:bound.length<=34359738368) (l:dH rec false e.text bound 0 e.args=some es) (R:amb w) (Y:Good σ w) (Z:σ.length+es.length<=34359738368) (hal:e.args.length<=34359738368)
  (q:w.heap[wb]?=some (.cells #[.func (.func g) #[] caps,.nilFunc] T (0,0))) (E:¬a w wb)
  (hcap:e.args.length<=cap) (F:∀(i:Nat) (x:af),e.args[i]?=some x->∃va,w.cell? ⟨ab,ao+i*4,none⟩=some (.int .i64 x.kind)/\w.cell? ⟨ab,ao+i*4+1,none⟩=some (.int .i64 x.n)/\w.cell? ⟨ab,ao+i*4+2,none⟩=some (.string ⟨x.text.toArray⟩)/\w.cell? ⟨ab,ao+i*4+3,none⟩=some va/\Rep w S (.list (.base .expr) x.args) va/\ab<w.heap.size/\¬a w ab)
  (A:Rep w S (.list (.base .str) bound) vb) (G:∀b o,S b o->b<w.heap.size/\¬a w b) :
  Calls Tryz.prog 78 #[.pointer (some ⟨wb,0,none⟩),.agg (jQ e (.slice ap e.args.length cap)),vb] w fun r w'=>r=.returned (.tuple #[])/\Good (σ++es) w'/\dN a w w':=by
 unfold jQ;have c0:w.cell? ⟨wb,1,none⟩=some .nilFunc:=by simp[World.cell?,q]
 have H:wb<w.heap.size:=(aR.1 q).1;have HX:Hid (amb w/\Good σ w/\Rep w S (.list (.base .str) bound) vb/\w.heap[wb]?=some (.cells #[.func (.func g) #[] caps,.nilFunc] T (0,0))):=⟨R,Y,A,q⟩;have HV:Hid (∀(i:Nat) (x:af),e.args[i]?=some x->∃va,w.cell? ⟨ab,ao+i*4,none⟩=some (.int .i64 x.kind)/\w.cell? ⟨ab,ao+i*4+1,none⟩=some (.int .i64 x.n)/\w.cell? ⟨ab,ao+i*4+2,none⟩=some (.string ⟨x.text.toArray⟩)/\w.cell? ⟨ab,ao+i*4+3,none⟩=some va/\Rep w S (.list (.base .expr) x.args) va/\ab<w.heap.size/\¬a w ab):=F;have hn:¬posOf e.text 0 bound<0:=fun h=>by rw[(pq _ _ _).1 h]at z;cases z
 have hcall:=D9 bound e.text S vb Q w R A (fun b o t=>(G b o t).1);have HE:Hid (dH rec false e.text bound 0 e.args=some es):=l;clear R Y A q F l z;go_enter Tryz.func78,Tryz.ntmps78
 go_wp2_with (go_at_call 48;refine (hcall _ ((Below.refl _ _).alloc (az _) _)).mono ?_;rintro e2 y ⟨rfl,L⟩;have HB:Hid (Below _ _ y):=L;have d0:=L.cell (p:=⟨w.heap.size,0,none⟩) (by simp);have d3:=L.cell (p:=⟨w.heap.size,3,none⟩) (by simp);clear L c0 hcall)
 have s:Below w.heap.size w y:=((Below.refl _ _).alloc (az _) _).trans (HB.out.mono (by simp));have HK:Hid (dN a w y/\Good σ y):=⟨(C.below HX.out.2.1 s).2,(C.below HX.out.2.1 s).1⟩;have hw1s:w.heap.size<=y.heap.size:=s.size;clear s HB d0 d3;go_loopg [59] e.args.length (fun k i wr=>∃j:Nat,i=.int .i64 j/\uP rec Good a false e.text bound e.args σ es y j k wr)
 case atStart=>
  exact⟨0,rfl,by omega,⟨rfl,rfl,rfl,az _,fun _ _ _=>rfl,fun c hc=>.inl hc⟩,[],es,rfl,HE.out,by rw[List.append_nil];exact HK.out.2⟩
 case round=>
  obtain⟨j,rfl,U⟩:=hrel
  by_cases M:j<e.args.length
  ·have I:=P (fun h=>by rw[h]at M;simp at M);subst I;obtain⟨J,hkeep,m,rest,l,d,hGr⟩:=U;have f:dN a w wr:=HK.out.1.trans hkeep;obtain⟨va,f0,f1,f2,f3,B,V,hnab⟩:=HV.out j e.args[j] (zF M);rw[<- f.cell V hnab]at f0 f1 f2 f3;obtain⟨vp,vn,vc,rfl⟩:=vS B;rw[List.drop_eq_getElem_cons M]at d;simp only[dH,Bool.false_and,aL,if_false]at d;obtain⟨u,hu,d⟩:=zB.1 d;obtain⟨v,hv,d⟩:=zB.1 d;have hrest:rest=u++v:=(a6 d).symm;have K:(σ++m).length+u.length<=34359738368:=by rw[l,hrest]at Z;simp only[a7]at Z ⊢;omega
   have D:∀b o,S b o->S b o/\wr.cell? ⟨b,o,none⟩=w.cell? ⟨b,o,none⟩:=fun b o t=>⟨t,f.cell (G b o t).1 (G b o t).2⟩
   have W:=Visits.go C IH hu (f.amb C HX.out.2.1 HX.out.1) hGr K (by rw[f.block wb H E];exact HX.out.2.2.2) (f.not H E).2 (B.move D) (HX.out.2.2.1.move D) (fun b o t=>f.not (G b o t).1 (G b o t).2);have HR:Hid (j+gk=e.args.length/\dN a y wr/\es=m++(u++v)/\dH rec false e.text bound (j+1) (e.args.drop (j+1))=some v):=⟨J,hkeep,hrest▸l,hv⟩;clear J hkeep l d hGr f hu hv B hrest D K;go_wp2_with (go_at_call 78;refine (W _ ((Below.refl _ _).alloc (az _) _)).mono ?_;rintro r w4 ⟨rfl,h4⟩;have H4:Hid (Good (σ++m++u) w4/\dN a wr w4):=h4;clear h4)
   go_roundg (gk-1)
   case measure=>have:=HR.out.1;omega
   case rel=>
    obtain⟨q1,X,N,O⟩:=HR.out
    refine⟨j+1,rfl,by omega,X.trans H4.out.2,m++u,v,by rw[N,a8],O,?_⟩
    rw[<- a8]
    exact H4.out.1
  ·have HR:Hid (uP rec Good a false e.text bound e.args σ es y j gk wr):=U;clear U;go_wp2
   refine bodyPost_end (results_none rfl _ _ _) rfl ?_;obtain⟨q1,X,m,rest,N,O,q5⟩:=HR.out;have hr:rest=[]:=by
    rw[List.drop_eq_nil_of_le (by omega)]at O;exact (a6 O).symm
   subst hr;rw[List.append_nil]at N;subst N;exact⟨rfl,q5,HK.out.1.trans X⟩
theorem Dv{g:Nat}{caps:Array Value}{Good:List Ev->World->Prop}{v:World->Nat->Prop}(C:Clo g caps Good v):∀n,Visits g caps Good v (jC n)
 | 0=>fun e bound es σ w S va vb wb T h=>by cases h
 | n+1=>by
  intro e bound es σ w S va vb wb T h B E F j k m l y;have IH:=Dv C n;unfold jC at h;obtain⟨_,Q,h⟩:=zB.1 h;obtain⟨_,R,h⟩:=zB.1 h;have o:=iP Q;have p:=iP R;split at h
  ·rename_i H;have:=(a6 h).symm;subst this;exact Yk C e bound σ w S va vb wb T H.1 H.2 B E (by simpa using F) o j k l y
  ·rename_i H;obtain⟨ap,ab,ao,cap,M,q,hcap,r⟩:∃(ap:Option Addr) (ab ao cap:Nat),va=.slice ap e.args.length cap/\(e.args≠[]->ap=some ⟨ab,ao,none⟩)/\e.args.length<=cap/\∀(i:Nat) (x:af),e.args[i]?=some x->∃va,w.cell? ⟨ab,ao+i*4,none⟩=some (.int .i64 x.kind)/\w.cell? ⟨ab,ao+i*4+1,none⟩=some (.int .i64 x.n)/\w.cell? ⟨ab,ao+i*4+2,none⟩=some (.string ⟨x.text.toArray⟩)/\w.cell? ⟨ab,ao+i*4+3,none⟩=some va/\Rep w S (.list (.base .expr) x.args) va/\ab<w.heap.size/\¬v w ab:=by
    generalize A:D.list (.base .expr) e.args=d at m;cases m with
    | int=>cases A
    | bool=>cases A
    | str=>cases A
    | nil t=>
     injection A with G c;subst G;have c:e.args=[]:=eq_of_heq c;exact⟨none,0,0,0,by rw[c];rfl,fun h=>absurd c h,by rw[c];exact az _,fun i x f=>by rw[c]at f;simp at f⟩
    | emp t a cap=>
     injection A with G c;subst G;have c:e.args=[]:=eq_of_heq c;exact⟨some a,0,0,cap,by rw[c];rfl,fun h=>absurd c h,by rw[c];exact Nat.zero_le _,fun i x f=>by rw[c]at f;simp at f⟩
    | list t xs b off cap vs hcap s u=>
     injection A with G c;subst G;have c:e.args=xs:=eq_of_heq c;subst c;refine⟨some ⟨b,off,none⟩,b,off,cap,rfl,fun _=>rfl,hcap,fun i x f=>?_⟩;have I:=s i x 0 (.int .i64 x.kind) f rfl;have O:=s i x 1 (.int .i64 x.n) f rfl;have P:=s i x 2 (.str x.text) f rfl;have U:=s i x 3 (.list (.base .expr) x.args) f rfl;have V:=uD (u i x 0 (.int .i64 x.kind) f rfl);have W:=uD (u i x 1 (.int .i64 x.n) f rfl);have X:=lJ (u i x 2 (.str x.text) f rfl);rw[V]at I;rw[W]at O;rw[X]at P;exact⟨vs i 3,I.1,O.1,P.1,U.1,u i x 3 _ f rfl,(y _ _ I.2).1,(y _ _ I.2).2⟩
   subst M;by_cases J:e.kind=3
   ·have N:bound.contains e.text=true:=by
     cases hh:bound.contains e.text with
     | true=>rfl
     | false=>exact absurd ⟨J,hh⟩ H
    have z:(decide (e.kind=7)||decide (e.kind=9))=false:=by rw[J];rfl
    rw[z]at h;exact Vx C IH e bound es σ w S ap ab ao cap q vb wb T J N o h B E F p j k hcap r l y
   by_cases K:e.kind=7
   ·have z:(decide (e.kind=7)||decide (e.kind=9))=true:=by rw[K];rfl
    rw[z]at h;exact aa6 C IH e bound es σ w S ap ab ao cap q vb wb T K o m h B E F p j k hcap r l y
   by_cases L:e.kind=9
   ·have z:(decide (e.kind=7)||decide (e.kind=9))=true:=by rw[L];rfl
    rw[z]at h;exact aa7 C IH e bound es σ w S ap ab ao cap q vb wb T L o m h B E F p j k hcap r l y
   have z:(decide (e.kind=7)||decide (e.kind=9))=false:=by simp[K,L]
   rw[z]at h;exact Vw C IH e bound es σ w S ap ab ao cap q vb wb T J K L h B E F p j k hcap r l y
end Go.Proofs.YtkebfkahdmddpaaGreatDoor
