import Derived.Test.YtjbajpfonnnfoaaGreatDoorDen5
import Derived.Test.YtjbajpfonnnfoaaGreatDoorKept
import Derived.Test.YtjbajpfonnnfoaaGreatDoorPlain1
import Derived.Test.YtjbajpfonnnfoaaGreatDoorRenX
import Derived.StillTailTactics
import Derived.Deep.LoopGhost
set_option linter.unusedSimpArgs false
set_option linter.unusedVariables false
/- The walk over the names of an expression: visit, and the two closures that it is handed. -/
namespace Go.Proofs.YtjbajpfonnnfoaaGreatDoor
open Go.Abs Go.Proofs Go.RowKit
structure eu(hid:World->Nat->Prop)(w w':World):Prop where
 os:w'.os=w.os
 tape:w'.tape=w.tape
 output:w'.output=w.output
 size:w.heap.size<=w'.heap.size
 block:∀c,c<w.heap.size->¬hid w c->w'.heap[c]?=w.heap[c]?
 hids:∀c,hid w' c->hid w c\/w.heap.size<=c
theorem eu.trans{d:World->Nat->Prop}{a b c:World}(h:eu d a b)(k:eu d b c):eu d a c:=
 ⟨k.os.trans h.os,k.tape.trans h.tape,k.output.trans h.output,amq h.size k.size,λi hi f=>by
  rw[k.block i (aL hi h.size) λg=>(h.hids i g).elim f λe=>by omega,h.block i hi f],λi hi=>(k.hids i hi).elim (h.hids i) λe=>.inr (amq h.size e)⟩
abbrev Ev:=Str×List Str
structure Clo(g:Nat)(caps:Array Value)(Good:List Ev->World->Prop)(hid:World->Nat->Prop):Prop where
 enters:∀args w,(callFunc g args).run Tryz.prog w=.ok (.enter g args) w
 call:∀(w:World) (σ:List Ev) (S:Nat->Nat->Prop) (name:Str) (bound:List Str) (vb:Value),amb w->Good σ w->σ.length<34359738368->bound.length<=34359738368->Rep w S (.list (.base .str) bound) vb->(∀b o,S b o->b<w.heap.size/\¬hid w b) ->
  Calls Tryz.prog g (#[.string ⟨name.toArray⟩,vb]++caps) w λe w'=>e=.returned (.tuple #[])/\Good (σ++[(name,bound)]) w'/\eu hid w w'
 keep:∀(w w':World) (σ:List Ev),Good σ w->(∀c,hid w c->w'.heap[c]?=w.heap[c]?)->w.heap.size<=w'.heap.size->Good σ w'/\∀c,hid w' c->hid w c
 lt:∀(w:World) (σ:List Ev) (c:Nat),Good σ w->hid w c->nT<=c/\c<w.heap.size
def jo(e:ak)(va:Value):Array Value:=#[.int .i64 e.kind,.int .i64 e.n,.string ⟨e.text.toArray⟩,va]
theorem Clo.below{g:Nat}{caps:Array Value}{Good:List Ev->World->Prop}{b:World->Nat->Prop}(C:Clo g caps Good b){w w':World}{σ:List Ev}(h:Good σ w)(a:Below w.heap.size w w'):Good σ w'/\eu b w w':=by
 have:=C.keep w w' σ h (λc hc=>a.block c (C.lt w σ c h hc).2) a.size;exact⟨this.1,a.os,a.tape,a.output,a.size,λc hc _=>a.block c hc,λc hc=>.inl (this.2 c hc)⟩
theorem Clo.go{g:Nat}{caps:Array Value}{Good:List Ev->World->Prop}{a:World->Nat->Prop}(C:Clo g caps Good a){w:World}{σ:List Ev}{S:Nat->Nat->Prop}{name:Str}{bound:List Str}{vb:Value}(j:amb w)(m:Good σ w)(n:σ.length<34359738368)(h:bound.length<=34359738368)
  (i:Rep w S (.list (.base .str) bound) vb) (f:∀b o,S b o->b<w.heap.size/\¬a w b) (w2:World) (d:Below w.heap.size w w2) :
  Calls Tryz.prog g (#[.string ⟨name.toArray⟩,vb]++caps) w2 λe w'=>e=.returned (.tuple #[])/\Good (σ++[(name,bound)]) w'/\eu a w w':=by
 obtain⟨p,l⟩:=C.below m d;refine (C.call w2 σ S name bound vb (amb.keep j d.size λk hk=>d.block k (aL hk j.size)) p n h (i.move λb o c=>⟨c,d.cell (f b o c).1⟩) (λb o c=>⟨aL (f b o c).1 d.size,λhh=>?_⟩)).mono ?_
 ·rcases l.hids b hh with q | q
  ·exact (f b o c).2 q
  ·have:=(f b o c).1;omega
 ·rintro e w' ⟨rfl,r,s⟩;exact⟨rfl,r,l.trans s⟩
def Visits(g:Nat)(caps:Array Value)(Good:List Ev->World->Prop)(a:World->Nat->Prop)(rec:ak->List Str->Option (List Ev)):Prop:=
 ∀(e:ak) (bound:List Str) (es σ:List Ev) (w:World) (S:Nat->Nat->Prop) (va vb:Value) (wb:Nat) (T:TypeId),rec e bound=some es->amb w->Good σ w->σ.length+es.length<=34359738368 ->
  w.heap[wb]?=some (.cells #[.func (.func g) #[] caps,.nilFunc] T (0,0))->¬a w wb->Rep w S (.list (.base .expr) e.args) va->Rep w S (.list (.base .str) bound) vb->(∀b o,S b o->b<w.heap.size/\¬a w b) ->
  Calls Tryz.prog 109 #[.pointer (some ⟨wb,0,none⟩),.agg (jo e va),vb] w λr w'=>r=.returned (.tuple #[])/\Good (σ++es) w'/\eu a w w'
theorem Eg(bound:List Str)(s:Str)(S:Nat->Nat->Prop)(vb:Value)(h:bound.length<=34359738368)(w:World)(l:amb w)(i:Rep w S (.list (.base .str) bound) vb)(m:∀b o,S b o->b<w.heap.size)(w1:World)(f:Below w.heap.size w w1) :
  Calls Tryz.prog 108 #[vb,.string ⟨s.toArray⟩] w1 λe w'=>e=.returned (.int .i64 (posOf s 0 bound))/\Below w1.heap.size w1 w':=by
 have a:=AZ w1 S [vb,.string ⟨s.toArray⟩] (bound,s) (posOf s 0 bound) (uH bound s h) (amb.keep l f.size λk hk=>f.block k (aL hk l.size))
  ⟨⟨i.move λb o a=>⟨a,f.cell (m b o a)⟩,trivial⟩,⟨Rep.str ⟨s.toArray⟩,trivial⟩⟩ (λb o a=>aL (m b o a) f.size)
 refine a.mono ?_;rintro e w' ⟨v,rfl,p,us,rfl,fps,g,_⟩;refine⟨?_,p⟩;rcases us with _ | ⟨u,_ | ⟨t,r⟩⟩
 ·exact g.elim
 ·have:=g.1;generalize c:D.int .i64 (posOf s 0 bound)=d at this;have q:Ow w' (λ_ _=>False) true d u (fps 0):=c▸g.1;cases q with
  | int k n=>cases c;rfl
  | bool=>cases c
  | str=>cases c
  | nil=>cases c
  | ro d v fp j=>cases j
  | list=>cases c
 ·exact g.elim
set_option maxHeartbeats 4000000 in
set_option maxRecDepth 100000 in
theorem YK{g:Nat}{caps:Array Value}{Good:List Ev->World->Prop}{a:World->Nat->Prop}(C:Clo g caps Good a)(e:ak)(bound:List Str)(σ:List Ev)(w:World)(S:Nat->Nat->Prop)(va vb:Value)(wb:Nat)(T:TypeId)
  (hk:e.kind=3) (f:bound.contains e.text=false) (i:amb w) (k:Good σ w) (x:σ.length+1<=34359738368) (h:bound.length<=34359738368) (c:w.heap[wb]?=some (.cells #[.func (.func g) #[] caps,.nilFunc] T (0,0))) (s:¬a w wb)
  (d:Rep w S (.list (.base .str) bound) vb) (n:∀b o,S b o->b<w.heap.size/\¬a w b) :
  Calls Tryz.prog 109 #[.pointer (some ⟨wb,0,none⟩),.agg (jo e va),vb] w λr w'=>r=.returned (.tuple #[])/\Good (σ++[(e.text,bound)]) w'/\eu a w w':=by
 unfold jo;have c0:w.cell? ⟨wb,0,none⟩=some (.func (.func g) #[] caps):=by simp[World.cell?,c]
 have l:wb<w.heap.size:=(a6.1 c).1;have y:posOf e.text 0 bound<0:=(qV _ _ _).2 f;have hcall:=Eg bound e.text S vb h w i d (λb o t=>(n b o t).1);have u:∀W:World,(binOp BinOp.neq 135 (.func (.func g) #[] caps) .nilFunc).run Tryz.prog W=.ok (.bool true) W:=λW=>by kernel_rfl
 have HX:Hid (amb w/\Good σ w/\Rep w S (.list (.base .str) bound) vb/\w.heap[wb]?=some (.cells #[.func (.func g) #[] caps,.nilFunc] T (0,0))):=⟨i,k,d,c⟩;have en:=C.enters;have m:=C.go (name:=e.text) i k (by omega) h d n;clear i k d c f;go_enter Tryz.func109,Tryz.ntmps109
 go_wp2_with (go_at_call 108;refine (hcall _ ((Below.refl _ _).alloc (aD _) _)).mono ?_;rintro z w2 ⟨rfl,j⟩;have HB:Hid (Below _ _ w2):=j;have c2:=(j.cell (p:=⟨wb,0,none⟩) (by simp;omega)).trans (World.cell?_of_block (Below.heap_alloc w _ wb l) |>.trans c0);have A:=j.cell (p:=⟨w.heap.size,2,none⟩) (by simp);clear j c0)
 go_still_tail 7,(by kernel_rfl)
 change wpList _ _ _ _ _ w2.drew;go_wp2_with (go_at_fn g;refine (m _ (((Below.refl _ _).alloc (aD _) _).trans (HB.out.mono (by simp))).drew).mono ?_;rintro B w3 ⟨rfl,q⟩;have v:Hid (Good (σ++[(e.text,bound)]) w3/\eu a w w3):=q;clear q)
 refine bodyPost_ret (results_none rfl _ _ _) rfl ?_;exact⟨rfl,v.out⟩
theorem Visits.go{g:Nat}{caps:Array Value}{Good:List Ev->World->Prop}{a:World->Nat->Prop}(C:Clo g caps Good a){rec:ak->List Str->Option (List Ev)}(IH:Visits g caps Good a rec){e:ak}{bound:List Str}{es σ:List Ev}{w:World}{S:Nat->Nat->Prop}{va vb:Value}{wb:Nat}{T:TypeId}
  (h:rec e bound=some es) (t:amb w) (v:Good σ w) (x:σ.length+es.length<=34359738368) (i:w.heap[wb]?=some (.cells #[.func (.func g) #[] caps,.nilFunc] T (0,0))) (p:¬a w wb) (q:Rep w S (.list (.base .expr) e.args) va)
  (s:Rep w S (.list (.base .str) bound) vb) (j:∀b o,S b o->b<w.heap.size/\¬a w b) (w2:World) (f:Below w.heap.size w w2) :
  Calls Tryz.prog 109 #[.pointer (some ⟨wb,0,none⟩),.agg #[.int .i64 e.kind,.int .i64 e.n,.string ⟨e.text.toArray⟩,va],vb] w2 λr w'=>r=.returned (.tuple #[])/\Good (σ++es) w'/\eu a w w':=by
 obtain⟨y,u⟩:=C.below v f;have l:wb<w.heap.size:=(a6.1 i).1;have m:∀c,c<w.heap.size->¬a w c->¬a w2 c:=λc hc m hh=>(u.hids c hh).elim m λz=>by omega
 refine (IH e bound es σ w2 S va vb wb T h (amb.keep t f.size λk hk=>f.block k (aL hk t.size)) y x (by rw[f.block wb l];exact i) (m wb l p)
  (q.move λb o d=>⟨d,f.cell (j b o d).1⟩) (s.move λb o d=>⟨d,f.cell (j b o d).1⟩) (λb o d=>⟨aL (j b o d).1 f.size,m b (j b o d).1 (j b o d).2⟩)).mono ?_
 rintro r w' ⟨rfl,A,B⟩;exact⟨rfl,A,u.trans B⟩
theorem Visits.go2{g:Nat}{caps:Array Value}{Good:List Ev->World->Prop}{a:World->Nat->Prop}(C:Clo g caps Good a){rec:ak->List Str->Option (List Ev)}(IH:Visits g caps Good a rec){e:ak}{bound:List Str}{es σ:List Ev}{w:World}{S:Nat->Nat->Prop}{va:Value}{wb:Nat}{T:TypeId}
  (h:rec e bound=some es) (y:amb w) (p:Good σ w) (z:σ.length+es.length<=34359738368) (i:w.heap[wb]?=some (.cells #[.func (.func g) #[] caps,.nilFunc] T (0,0))) (q:¬a w wb) (s:Rep w S (.list (.base .expr) e.args) va)
  (t:∀b o,S b o->b<w.heap.size/\¬a w b) (w2:World) (f:Below w.heap.size w w2) (u:Nat->Nat->Prop) (vb:Value) (v:Rep w2 u (.list (.base .str) bound) vb) (j:∀b o,u b o->(b<w.heap.size->¬a w b)/\b<w2.heap.size) :
  Calls Tryz.prog 109 #[.pointer (some ⟨wb,0,none⟩),.agg #[.int .i64 e.kind,.int .i64 e.n,.string ⟨e.text.toArray⟩,va],vb] w2 λr w'=>r=.returned (.tuple #[])/\Good (σ++es) w'/\eu a w w':=by
 obtain⟨A,B⟩:=C.below p f;have x:wb<w.heap.size:=(a6.1 i).1;have l:∀c,a w2 c->c<w.heap.size/\a w c:=λc hc=>by
  have:=(C.keep w w2 σ p (λc hc=>f.block c (C.lt w σ c p hc).2) f.size).2 c hc;exact⟨(C.lt w σ c p this).2,this⟩
 have m:∀c,(c<w.heap.size->¬a w c)->¬a w2 c:=λc m hh=>m (l c hh).1 (l c hh).2
 refine (IH e bound es σ w2 (λb o=>S b o\/u b o) va vb wb T h (amb.keep y f.size λk hk=>f.block k (aL hk y.size)) A z (by rw[f.block wb x];exact i) (m wb λ_=>q)
  (s.move λb o d=>⟨.inl d,f.cell (t b o d).1⟩) (v.move λb o d=>⟨.inr d,rfl⟩) (λb o d=>d.elim (λd=>⟨aL (t b o d).1 f.size,m b λ_=>(t b o d).2⟩) λd=>⟨(j b o d).2,m b (j b o d).1⟩)).mono ?_
 rintro r w' ⟨rfl,D,E⟩;exact⟨rfl,D,B.trans E⟩
theorem eu.cell{a:World->Nat->Prop}{w w':World}(h:eu a w w'){b o:Nat}(c:b<w.heap.size)(d:¬a w b):w'.cell? ⟨b,o,none⟩=w.cell? ⟨b,o,none⟩:=World.cell?_of_block (w:=w) (h.block b c d)
theorem eu.not{a:World->Nat->Prop}{w w':World}(h:eu a w w'){b:Nat}(c:b<w.heap.size)(d:¬a w b):b<w'.heap.size/\¬a w' b:=⟨aL c h.size,λhh=>(h.hids b hh).elim d λe=>by omega⟩
theorem eu.amb{g:Nat}{caps:Array Value}{Good:List Ev->World->Prop}{a:World->Nat->Prop}(C:Clo g caps Good a){w w':World}{σ:List Ev}(c:Good σ w)(h:eu a w w')(b:amb w):amb w':=
 Go.Abs.amb.keep b h.size λk hk=>h.block k (aL hk b.size) λhh=>by have:=(C.lt w σ k c hh).1;omega
theorem wG{w:World}{S:Nat->Nat->Prop}{t:Ty}{xs:List t.den}{v:Value}(h:Rep w S (.list t xs) v):∃p n c,v=.slice p n c:=by
 generalize a:D.list t xs=d at h;cases h with
 | int=>cases a
 | bool=>cases a
 | str=>cases a
 | nil=>exact⟨_,_,_,rfl⟩
 | emp=>exact⟨_,_,_,rfl⟩
 | list=>exact⟨_,_,_,rfl⟩
structure uP(rec:ak->List Str->Option (List Ev))(Good:List Ev->World->Prop)(hid:World->Nat->Prop)(binds:Bool)(x:Str)(bound:List Str)(args:List ak)(σ es:List Ev)(w1:World)(j k:Nat)(wr:World):Prop where
 le:j+k=args.length
 keep:eu hid w1 wr
 evs:∃es1 rest,es=es1++rest/\dV rec binds x bound j (args.drop j)=some rest/\Good (σ++es1) wr
set_option maxHeartbeats 8000000 in
set_option maxRecDepth 100000 in
theorem V4{g:Nat}{caps:Array Value}{Good:List Ev->World->Prop}{a:World->Nat->Prop}(C:Clo g caps Good a){rec:ak->List Str->Option (List Ev)}(IH:Visits g caps Good a rec)
  (e:ak) (bound:List Str) (es σ:List Ev) (w:World) (S:Nat->Nat->Prop) (ap:Option Addr) (ab ao cap:Nat) (M:e.args≠[]->ap=some ⟨ab,ao,none⟩) (vb:Value) (wb:Nat) (T:TypeId)
  (hk3:¬e.kind=3) (hk7:¬e.kind=7) (hk9:¬e.kind=9) (l:dV rec false e.text bound 0 e.args=some es) (R:amb w) (U:Good σ w) (V:σ.length+es.length<=34359738368) (hal:e.args.length<=34359738368)
  (p:w.heap[wb]?=some (.cells #[.func (.func g) #[] caps,.nilFunc] T (0,0))) (z:¬a w wb)
  (hcap:e.args.length<=cap) (A:∀(i:Nat) (x:ak),e.args[i]?=some x->∃va,w.cell? ⟨ab,ao+i*4,none⟩=some (.int .i64 x.kind)/\w.cell? ⟨ab,ao+i*4+1,none⟩=some (.int .i64 x.n)/\w.cell? ⟨ab,ao+i*4+2,none⟩=some (.string ⟨x.text.toArray⟩)/\w.cell? ⟨ab,ao+i*4+3,none⟩=some va/\Rep w S (.list (.base .expr) x.args) va/\ab<w.heap.size/\¬a w ab)
  (B:Rep w S (.list (.base .str) bound) vb) (I:∀b o,S b o->b<w.heap.size/\¬a w b) :
  Calls Tryz.prog 109 #[.pointer (some ⟨wb,0,none⟩),.agg (jo e (.slice ap e.args.length cap)),vb] w λr w'=>r=.returned (.tuple #[])/\Good (σ++es) w'/\eu a w w':=by
 unfold jo;have c0:w.cell? ⟨wb,1,none⟩=some .nilFunc:=by simp[World.cell?,p]
 have D:wb<w.heap.size:=(a6.1 p).1;have HX:Hid (amb w/\Good σ w/\Rep w S (.list (.base .str) bound) vb/\w.heap[wb]?=some (.cells #[.func (.func g) #[] caps,.nilFunc] T (0,0))):=⟨R,U,B,p⟩;have HV:Hid (∀(i:Nat) (x:ak),e.args[i]?=some x->∃va,w.cell? ⟨ab,ao+i*4,none⟩=some (.int .i64 x.kind)/\w.cell? ⟨ab,ao+i*4+1,none⟩=some (.int .i64 x.n)/\w.cell? ⟨ab,ao+i*4+2,none⟩=some (.string ⟨x.text.toArray⟩)/\w.cell? ⟨ab,ao+i*4+3,none⟩=some va/\Rep w S (.list (.base .expr) x.args) va/\ab<w.heap.size/\¬a w ab):=A;have HE:Hid (dV rec false e.text bound 0 e.args=some es):=l;clear R U B p A l;go_enter Tryz.func109,Tryz.ntmps109
 go_wp2
 generalize E:w.alloc (.cells #[.int .i64 e.kind,.int .i64 e.n,.string ⟨e.text.toArray⟩,.slice ap e.args.length cap] 26)=w1;have q:Below w.heap.size w w1:=E▸(Below.refl _ _).alloc (aD _) _;have HK:Hid (eu a w w1/\Good σ w1):=⟨(C.below HX.out.2.1 q).2,(C.below HX.out.2.1 q).1⟩;have hw1s:w.heap.size<=w1.heap.size:=q.size;clear q E;go_loopg [59] e.args.length (λk i wr=>∃j:Nat,i=.int .i64 j/\uP rec Good a false e.text bound e.args σ es w1 j k wr)
 case atStart=>
  exact⟨0,rfl,by omega,⟨rfl,rfl,rfl,aD _,λ_ _ _=>rfl,λc hc=>.inl hc⟩,[],es,rfl,HE.out,by rw[amA];exact HK.out.2⟩
 case round=>
  obtain⟨j,rfl,N⟩:=hrel
  by_cases J:j<e.args.length
  ·have F:=M (λh=>by rw[h]at J;simp at J);subst F;obtain⟨G,hkeep,m,rest,l,d,hGr⟩:=N;have f:eu a w wr:=HK.out.1.trans hkeep;obtain⟨va,f0,f1,f2,f3,s,O,hnab⟩:=HV.out j e.args[j] (zF J);rw[<- f.cell O hnab]at f0 f1 f2 f3;obtain⟨vp,vn,vc,rfl⟩:=wG s;rw[amg J]at d;simp only[dV,Bool.false_and,aM,if_false]at d;obtain⟨u,W,d⟩:=zB.1 d;obtain⟨v,hv,d⟩:=zB.1 d;have hrest:rest=u++v:=(a7 d).symm;have H:(σ++m).length+u.length<=34359738368:=by rw[l,hrest]at V;simp only[a8]at V ⊢;omega
   have t:∀b o,S b o->S b o/\wr.cell? ⟨b,o,none⟩=w.cell? ⟨b,o,none⟩:=λb o y=>⟨y,f.cell (I b o y).1 (I b o y).2⟩
   have P:=Visits.go C IH W (f.amb C HX.out.2.1 HX.out.1) hGr H (by rw[f.block wb D z];exact HX.out.2.2.2) (f.not D z).2 (s.move t) (HX.out.2.2.1.move t) (λb o y=>f.not (I b o y).1 (I b o y).2);have HR:Hid (j+gk=e.args.length/\eu a w1 wr/\es=m++(u++v)/\dV rec false e.text bound (j+1) (e.args.drop (j+1))=some v):=⟨G,hkeep,hrest▸l,hv⟩;clear G hkeep l d hGr f W hv s hrest t H;go_wp2_with (go_at_call 109;refine (P _ ((Below.refl _ _).alloc (aD _) _)).mono ?_;rintro r X ⟨rfl,Y⟩;have Z:Hid (Good (σ++m++u) X/\eu a wr X):=Y;clear Y)
   go_roundg (gk-1)
   case measure=>have:=HR.out.1;omega
   case rel=>
    obtain⟨q1,Q,K,L⟩:=HR.out
    refine⟨j+1,rfl,by omega,Q.trans Z.out.2,m++u,v,by rw[K,ba],L,?_⟩
    rw[<- ba]
    exact Z.out.1
  ·have HR:Hid (uP rec Good a false e.text bound e.args σ es w1 j gk wr):=N;clear N;go_wp2
   refine bodyPost_end (results_none rfl _ _ _) rfl ?_;obtain⟨q1,Q,m,rest,K,L,q5⟩:=HR.out;have hr:rest=[]:=by
    rw[List.drop_eq_nil_of_le (by omega)]at L;exact (a7 L).symm
   subst hr;rw[amA]at K;subst K;exact⟨rfl,q5,HK.out.1.trans Q⟩
def aat(e:ak)(bound:List Str):St:=(({ tmps:=List.replicate 82 .undef,boxes:=List.replicate 82 none,owns:=List.replicate 82 [] }:St).jh 2 (.v (.one (.d (.list (.base .str) bound))))).jh 4 (.elt (.base .expr) e 0)
theorem Yu{w:World}{S:Nat->Nat->Prop}{e:ak}{bound:List Str}{va vb:Value}{tb:Nat}(g:Rep w S (.list (.base .str) bound) vb)(i:Rep w S (.list (.base .expr) e.args) va)(p:∀b o,S b o->b<w.heap.size)(k:tb<w.heap.size)
  (q:w.cell? ⟨tb,0,none⟩=some (.int .i64 e.kind)) (r:w.cell? ⟨tb,1,none⟩=some (.int .i64 e.n)) (s:w.cell? ⟨tb,2,none⟩=some (.string ⟨e.text.toArray⟩)) (t:w.cell? ⟨tb,3,none⟩=some va)
  (a:Act) (u:a.defers=[]) (x:a.tmps.size=82) (y:a.tmps.getD 2 undef=vb) (z:a.tmps.getD 4 undef=.pointer (some ⟨tb,0,none⟩)) :
  ∃G,Inv ⟨w,λb o=>S b o\/b=tb,λ_=>False,none⟩ G (aat e bound) a w:=by
 obtain⟨G,l,m⟩:=adq (w:=w) (S0:=λb o=>S b o\/b=tb) (λb o h=>h.elim (p b o) λh=>h▸k) u;rw[x]at m;have f:∀b o,S b o->G.S b o/\w.cell? ⟨b,o,none⟩=w.cell? ⟨b,o,none⟩:=λb o h=>⟨by rw[l];exact .inl h,rfl⟩
 refine⟨G,(m.L8 2 (av:=.v (.one (.d (.list (.base .str) bound)))) ?_).L8 4 ?_⟩
 ·rw[y];exact g.move f
 ·rw[z];refine⟨tb,0,rfl,λj=>match j with | 0=>.int .i64 e.kind | 1=>.int .i64 e.n | 2=>.string ⟨e.text.toArray⟩ | _=>va,λj d c=>?_⟩;have hSt:∀o,G.S tb o:=λo=>by rw[l];exact .inr rfl
  rw[amw];match j,c with
  | 0,c=>cases c;exact⟨q,hSt _,.int _ _⟩
  | 1,c=>cases c;exact⟨r,hSt _,.int _ _⟩
  | 2,c=>cases c;exact⟨s,hSt _,.str ⟨e.text.toArray⟩⟩
  | 3,c=>cases c;exact⟨t,hSt _,i.move f⟩
set_option maxHeartbeats 8000000 in
set_option maxRecDepth 100000 in
theorem abN{g:Nat}{caps:Array Value}{Good:List Ev->World->Prop}{d:World->Nat->Prop}(C:Clo g caps Good d){rec:ak->List Str->Option (List Ev)}(IH:Visits g caps Good d rec)
  (e:ak) (bound:List Str) (es σ:List Ev) (w:World) (S:Nat->Nat->Prop) (ap:Option Addr) (ab ao cap:Nat) (hap:e.args≠[]->ap=some ⟨ab,ao,none⟩) (vb:Value) (wb:Nat) (T:TypeId)
  (hk:e.kind=7) (hbl:bound.length<=34359738368) (O:Rep w S (.list (.base .expr) e.args) (.slice ap e.args.length cap)) (s:dV rec true e.text bound 0 e.args=some es) (ha:amb w) (hG:Good σ w) (hl:σ.length+es.length<=34359738368) (hal:e.args.length<=34359738368)
  (G:w.heap[wb]?=some (.cells #[.func (.func g) #[] caps,.nilFunc] T (0,0))) (H:¬d w wb)
  (hcap:e.args.length<=cap) (Z:∀(i:Nat) (x:ak),e.args[i]?=some x->∃va,w.cell? ⟨ab,ao+i*4,none⟩=some (.int .i64 x.kind)/\w.cell? ⟨ab,ao+i*4+1,none⟩=some (.int .i64 x.n)/\w.cell? ⟨ab,ao+i*4+2,none⟩=some (.string ⟨x.text.toArray⟩)/\w.cell? ⟨ab,ao+i*4+3,none⟩=some va/\Rep w S (.list (.base .expr) x.args) va/\ab<w.heap.size/\¬d w ab)
  (hrb:Rep w S (.list (.base .str) bound) vb) (z:∀b o,S b o->b<w.heap.size/\¬d w b) :
  Calls Tryz.prog 109 #[.pointer (some ⟨wb,0,none⟩),.agg (jo e (.slice ap e.args.length cap)),vb] w λr w'=>r=.returned (.tuple #[])/\Good (σ++es) w'/\eu d w w':=by
 unfold jo;rw[hk];have c0:w.cell? ⟨wb,1,none⟩=some .nilFunc:=by simp[World.cell?,G]
 have I:wb<w.heap.size:=(a6.1 G).1;have hfn:∀W:World,(binOp BinOp.neq 136 .nilFunc .nilFunc).run Tryz.prog W=.ok (.bool false) W:=λW=>by kernel_rfl
 have HA:Hid (Rep w S (.list (.base .expr) e.args) (.slice ap e.args.length cap)):=O;have HX:Hid (amb w/\Good σ w/\Rep w S (.list (.base .str) bound) vb/\w.heap[wb]?=some (.cells #[.func (.func g) #[] caps,.nilFunc] T (0,0))):=⟨ha,hG,hrb,G⟩;have HV:Hid (∀(i:Nat) (x:ak),e.args[i]?=some x->∃va,w.cell? ⟨ab,ao+i*4,none⟩=some (.int .i64 x.kind)/\w.cell? ⟨ab,ao+i*4+1,none⟩=some (.int .i64 x.n)/\w.cell? ⟨ab,ao+i*4+2,none⟩=some (.string ⟨x.text.toArray⟩)/\w.cell? ⟨ab,ao+i*4+3,none⟩=some va/\Rep w S (.list (.base .expr) x.args) va/\ab<w.heap.size/\¬d w ab):=Z;have HE:Hid (dV rec true e.text bound 0 e.args=some es):=s;clear ha hG hrb G Z s O;go_enter Tryz.func109,Tryz.ntmps109
 go_wp2
 generalize J:w.alloc (.cells #[.int .i64 7,.int .i64 e.n,.string ⟨e.text.toArray⟩,.slice ap e.args.length cap] 26)=w1;have HD:Hid (w1.cell? ⟨w.heap.size,0,none⟩=some (.int .i64 e.kind)/\w1.cell? ⟨w.heap.size,1,none⟩=some (.int .i64 e.n)/\w1.cell? ⟨w.heap.size,2,none⟩=some (.string ⟨e.text.toArray⟩)/\w1.cell? ⟨w.heap.size,3,none⟩=some (.slice ap e.args.length cap)/\w.heap.size<w1.heap.size/\¬d w1 w.heap.size):=by
  have hrow:w1.heap[w.heap.size]?=some (.cells #[.int .i64 7,.int .i64 e.n,.string ⟨e.text.toArray⟩,.slice ap e.args.length cap] 26 (0,0)):=by
   rw[<- J];show (w.heap.push _)[w.heap.size]?=_
   rw[Array.getElem?_push_size]
  have hB0:Below w.heap.size w w1:=J▸(Below.refl _ _).alloc (aD _) _;refine⟨by rw[hk];simp[World.cell?,hrow],by simp[World.cell?,hrow],by simp[World.cell?,hrow],by simp[World.cell?,hrow],(a6.1 hrow).1,λhh=>?_⟩;have:=(C.keep w w1 σ HX.out.2.1 (λc hc=>hB0.block c (C.lt w σ c HX.out.2.1 hc).2) hB0.size).2 _ hh;have:=(C.lt w σ _ HX.out.2.1 this).2;omega
 have K:Below w.heap.size w w1:=J▸(Below.refl _ _).alloc (aD _) _;have HK:Hid (eu d w w1/\Good σ w1):=⟨(C.below HX.out.2.1 K).2,(C.below HX.out.2.1 K).1⟩;have hw1s:w.heap.size<=w1.heap.size:=K.size;clear K J;go_loopg [59] e.args.length (λk i wr=>∃j:Nat,i=.int .i64 j/\uP rec Good d true e.text bound e.args σ es w1 j k wr)
 case atStart=>
  exact⟨0,rfl,by omega,⟨rfl,rfl,rfl,aD _,λ_ _ _=>rfl,λc hc=>.inl hc⟩,[],es,rfl,HE.out,by rw[amA];exact HK.out.2⟩
 case round=>
  obtain⟨j,rfl,hR⟩:=hrel
  by_cases hj:j<e.args.length
  ·have hap':=hap (λh=>by rw[h]at hj;simp at hj);subst hap';obtain⟨L,hkeep,m,rest,s,f,hGr⟩:=hR;have a:eu d w wr:=HK.out.1.trans hkeep;obtain⟨va,f0,f1,f2,f3,B,hab,hnab⟩:=HV.out j e.args[j] (zF hj);rw[<- a.cell hab hnab]at f0 f1 f2 f3;obtain⟨vp,vn,vc,rfl⟩:=wG B;rw[amg hj]at f;by_cases hj0:j=0
   ·subst hj0;simp only[dV,amy,Nat.lt_irrefl,decide_false,aM,if_false]at f;obtain⟨u,R,f⟩:=zB.1 f;obtain⟨v,hv,f⟩:=zB.1 f;have hrest:rest=u++v:=(a7 f).symm;have D:(σ++m).length+u.length<=34359738368:=by rw[s,hrest]at hl;simp only[a8]at hl ⊢;omega
    have q:∀b o,S b o->S b o/\wr.cell? ⟨b,o,none⟩=w.cell? ⟨b,o,none⟩:=λb o l=>⟨l,a.cell (z b o l).1 (z b o l).2⟩
    have M:=Visits.go C IH R (a.amb C HX.out.2.1 HX.out.1) hGr D (by rw[a.block wb I H];exact HX.out.2.2.2) (a.not I H).2 (B.move q) (HX.out.2.2.1.move q) (λb o l=>a.not (z b o l).1 (z b o l).2);have HR:Hid (0+gk=e.args.length/\eu d w1 wr/\es=m++(u++v)/\dV rec true e.text bound (0+1) (e.args.drop (0+1))=some v):=⟨L,hkeep,hrest▸s,hv⟩;clear L hkeep s f hGr a R hv B hrest q D;simp only[Nat.zero_mul,Nat.add_zero]at f0 f1 f2 f3;go_wp2_with (go_at_call 109;refine (M _ ((Below.refl _ _).alloc (aD _) _)).mono ?_;rintro r w4 ⟨rfl,h4⟩;have H4:Hid (Good (σ++m++u) w4/\eu d wr w4):=h4;clear h4)
    go_roundg (gk-1)
    case measure=>have:=HR.out.1;omega
    case rel=>
     obtain⟨q1,q2,X,Y⟩:=HR.out
     refine⟨0+1,rfl,by omega,q2.trans H4.out.2,m++u,v,by rw[X,ba],Y,?_⟩
     rw[<- ba]
     exact H4.out.1
   ·have hj1:(0:Int)<(j:Int):=by omega
    have hd1:decide (0<j)=true:=by simp;omega
    simp only[dV,amy,hd1,if_true]at f;obtain⟨u,R,f⟩:=zB.1 f;obtain⟨_,hgd,R⟩:=zB.1 R;obtain⟨v,hv,f⟩:=zB.1 f;have hrest:rest=u++v:=(a7 f).symm;have D:(σ++m).length+u.length<=34359738368:=by rw[s,hrest]at hl;simp only[a8]at hl ⊢;omega
    have q:∀b o,S b o->S b o/\wr.cell? ⟨b,o,none⟩=w.cell? ⟨b,o,none⟩:=λb o l=>⟨l,a.cell (z b o l).1 (z b o l).2⟩
    have M:=Visits.go2 C IH R (a.amb C HX.out.2.1 HX.out.1) hGr D (by rw[a.block wb I H];exact HX.out.2.2.2) (a.not I H).2 (B.move q) (λb o l=>a.not (z b o l).1 (z b o l).2);have HR:Hid (j+gk=e.args.length/\eu d w1 wr/\es=m++(u++v)/\dV rec true e.text bound (j+1) (e.args.drop (j+1))=some v/\Good (σ++m) wr/\eu d w wr):=⟨L,hkeep,hrest▸s,hv,hGr,a⟩;clear L hkeep s f hGr a R hv B hrest q D hd1;go_wp2
    generalize hw12:wr.alloc (.cells #[.int .i64 e.args[j].kind,.int .i64 e.args[j].n,.string ⟨e.args[j].text.toArray⟩,.slice vp vn vc] 26)=y;have hB12:Below wr.heap.size wr y:=hw12▸(Below.refl _ _).alloc (aD _) _;have hrow:y.heap[wr.heap.size]?=some (.cells #[.int .i64 e.args[j].kind,.int .i64 e.args[j].n,.string ⟨e.args[j].text.toArray⟩,.slice vp vn vc] 26 (0,0)):=by
     rw[<- hw12];show (wr.heap.push _)[wr.heap.size]?=_
     rw[Array.getElem?_push_size]
    have hrl:wr.heap.size<y.heap.size:=(a6.1 hrow).1;have N:eu d w1 wr:=HR.out.2.1;have a:eu d w wr:=HR.out.2.2.2.2.2;have U:w.heap.size<wr.heap.size:=aL HD.out.2.2.2.2.1 N.size;have F:∀o,y.cell? ⟨w.heap.size,o,none⟩=w1.cell? ⟨w.heap.size,o,none⟩:=λo=>(hB12.cell (p:=⟨w.heap.size,o,none⟩) U).trans (N.cell HD.out.2.2.2.2.1 HD.out.2.2.2.2.2)
    have q:∀b o,S b o->S b o/\y.cell? ⟨b,o,none⟩=w.cell? ⟨b,o,none⟩:=λb o l=>⟨l,(hB12.cell (p:=⟨b,o,none⟩) (a.not (z b o l).1 (z b o l).2).1).trans (a.cell (z b o l).1 (z b o l).2)⟩
    have ha12:amb y:=amb.keep (a.amb C HX.out.2.1 HX.out.1) hB12.size λk hk=>hB12.block k (aL hk (a.amb C HX.out.2.1 HX.out.1).size)
    refine SS (w0:=⟨y,λb o=>S b o\/b=w.heap.size,λ_=>False,none⟩) (E:={ tt:=tt,fs:=[] }) (k:=TR 9) (r:=bound++[e.text]) (S:=aat e bound) (ds:=[70,71,72,73,74,75,76,9]) ((jd.nil adN).at (lq.none ha12) (λh=>by cases h)) rY (by kernel_rfl) ?hv ?hi ?_
    case hv=>
     refine (show _=(gd (([]:List Str).length+bound.length)).bind (λ_=>(gd ((([]:List Str)++bound).length+[e.text].length)).bind λ_=>some ((([]:List Str)++bound)++[e.text])) by kernel_rfl).trans ?_
     have hgd':=lW hgd
     have g1:gd (([]:List Str).length+bound.length)=some ():=by unfold gd;simp;omega
     have g2:gd ((([]:List Str)++bound).length+[e.text].length)=some ():=by unfold gd;simp;omega
     rw[g1,g2];rfl
    case hi=>
     exact Yu (HX.out.2.2.1.move q) (HA.out.move q) (λb o l=>aL (a.not (z b o l).1 (z b o l).2).1 hB12.size) (aL U hB12.size) (by rw[F];exact HD.out.1) (by rw[F];exact HD.out.2.1) (by rw[F];exact HD.out.2.2.1) (by rw[F];exact HD.out.2.2.2.1) _ rfl rfl rfl rfl
    intro S' a' A G' hk' hI hkept;obtain⟨hB13,S2,P,V⟩:=LV hI hk' (by rw[hkept.1];exact (by decide:9<82));have hs3:∀b o,S2 b o->(b<wr.heap.size->¬d wr b)/\b<A.heap.size:=λb o l=>⟨λhlt hh=>by
     rcases (V b o l).1 with (h | h) | h
     ·exact (a.not (z b o h).1 (z b o h).2).2 hh
     ·exact (N.not HD.out.2.2.2.2.1 HD.out.2.2.2.2.2).2 (h▸hh)
     ·have:=hB12.size;omega,(V b o l).2⟩
    have hr13:∀o,A.cell? ⟨wr.heap.size,o,none⟩=y.cell? ⟨wr.heap.size,o,none⟩:=λo=>hB13.cell (p:=⟨wr.heap.size,o,none⟩) hrl
    have k0:A.cell? ⟨wr.heap.size,0,none⟩=some (.int .i64 e.args[j].kind):=by rw[hr13];simp[World.cell?,hrow]
    have k1:A.cell? ⟨wr.heap.size,1,none⟩=some (.int .i64 e.args[j].n):=by rw[hr13];simp[World.cell?,hrow]
    have k2:A.cell? ⟨wr.heap.size,2,none⟩=some (.string ⟨e.args[j].text.toArray⟩):=by rw[hr13];simp[World.cell?,hrow]
    have k3:A.cell? ⟨wr.heap.size,3,none⟩=some (.slice vp vn vc):=by rw[hr13];simp[World.cell?,hrow]
    have Q:=M A (hB12.trans (hB13.mono hB12.size)) S2 _ P hs3;have t:a'=⟨#[Value.pointer (some ⟨wb,0,none⟩),Value.agg #[Value.int IntKind.i64 7,Value.int IntKind.i64 e.n,Value.string ⟨e.text.toArray⟩,Value.slice (some ⟨ab,ao,none⟩) e.args.length cap],vb,undef,Value.pointer (some ⟨w.heap.size,0,none⟩),undef,Value.bool true,Value.int IntKind.i64 (j:Int),Value.pointer (some ⟨wr.heap.size,0,none⟩),a'.tmps.getD 9 undef,Value.pointer (some ⟨w.heap.size,0,none⟩),Value.int IntKind.i64 7,Value.bool false,Value.bool false,undef,undef,undef,undef,undef,Value.bool false,undef,undef,undef,undef,undef,undef,undef,undef,undef,undef,undef,undef,undef,Value.pointer (some ⟨w.heap.size,0,none⟩),Value.int IntKind.i64 7,Value.bool true,Value.bool true,undef,undef,undef,Value.bool true,Value.bool true,Value.bool true,Value.pointer (some ⟨wb,0,none⟩),Value.pointer (some ⟨wb,0,none⟩),Value.pointer (some ⟨wb,1,none⟩),Value.nilFunc,Value.bool false,Value.bool false,undef,undef,undef,undef,undef,undef,undef,Value.pointer (some ⟨w.heap.size,3,none⟩),Value.slice (some ⟨ab,ao,none⟩) e.args.length cap,Value.int IntKind.i64 (e.args.length:Int),Value.int IntKind.i64 (j:Int),Value.bool true,Value.int IntKind.i64 (j:Int),Value.pointer (some ⟨ab,ao+j*4,none⟩),Value.agg #[Value.int IntKind.i64 e.args[j].kind,Value.int IntKind.i64 e.args[j].n,Value.string ⟨e.args[j].text.toArray⟩,Value.slice vp vn vc],vb,Value.bool true,Value.bool true,Value.int IntKind.i64 (j:Int),Value.bool true,Value.bool true,a'.tmps.getD 70 undef,a'.tmps.getD 71 undef,a'.tmps.getD 72 undef,a'.tmps.getD 73 undef,a'.tmps.getD 74 undef,a'.tmps.getD 75 undef,a'.tmps.getD 76 undef,u77,u78,u79,u80,u81],[]⟩:=(hkept.eq hI.nodef).trans (by kernel_rfl);generalize a'.tmps.getD 9 undef=vb2 at Q t;generalize a'.tmps.getD 70 undef=x70 at t;generalize a'.tmps.getD 71 undef=x71 at t;generalize a'.tmps.getD 72 undef=x72 at t;generalize a'.tmps.getD 73 undef=x73 at t;generalize a'.tmps.getD 74 undef=x74 at t;generalize a'.tmps.getD 75 undef=x75 at t;generalize a'.tmps.getD 76 undef=x76 at t;clear hr13 hs3 V P hB13 hI hkept hk' M ha12 q F U a N hrl hrow hB12 hw12 f0 f1 f2 f3;subst t;simp only[Exit.then];go_wp2_with (go_at_call 109;refine Q.mono ?_;rintro r w4 ⟨rfl,h4⟩;have H4:Hid (Good (σ++m++u) w4/\eu d wr w4):=h4;clear h4)
    go_roundg (gk-1)
    case measure=>have:=HR.out.1;omega
    case rel=>
     obtain⟨q1,q2,X,Y,_⟩:=HR.out
     refine⟨j+1,rfl,by omega,q2.trans H4.out.2,m++u,v,by rw[X,ba],Y,?_⟩
     rw[<- ba]
     exact H4.out.1
  ·have HR:Hid (uP rec Good d true e.text bound e.args σ es w1 j gk wr):=hR;clear hR;go_wp2
   refine bodyPost_end (results_none rfl _ _ _) rfl ?_;obtain⟨q1,q2,m,rest,X,Y,q5⟩:=HR.out;have hr:rest=[]:=by
    rw[List.drop_eq_nil_of_le (by omega)]at Y;exact (a7 Y).symm
   subst hr;rw[amA]at X;subst X;exact⟨rfl,q5,HK.out.1.trans q2⟩
set_option maxHeartbeats 8000000 in
set_option maxRecDepth 100000 in
theorem abO{g:Nat}{caps:Array Value}{Good:List Ev->World->Prop}{d:World->Nat->Prop}(C:Clo g caps Good d){rec:ak->List Str->Option (List Ev)}(IH:Visits g caps Good d rec)
  (e:ak) (bound:List Str) (es σ:List Ev) (w:World) (S:Nat->Nat->Prop) (ap:Option Addr) (ab ao cap:Nat) (hap:e.args≠[]->ap=some ⟨ab,ao,none⟩) (vb:Value) (wb:Nat) (T:TypeId)
  (hk:e.kind=9) (hbl:bound.length<=34359738368) (O:Rep w S (.list (.base .expr) e.args) (.slice ap e.args.length cap)) (s:dV rec true e.text bound 0 e.args=some es) (ha:amb w) (hG:Good σ w) (hl:σ.length+es.length<=34359738368) (hal:e.args.length<=34359738368)
  (G:w.heap[wb]?=some (.cells #[.func (.func g) #[] caps,.nilFunc] T (0,0))) (H:¬d w wb)
  (hcap:e.args.length<=cap) (Z:∀(i:Nat) (x:ak),e.args[i]?=some x->∃va,w.cell? ⟨ab,ao+i*4,none⟩=some (.int .i64 x.kind)/\w.cell? ⟨ab,ao+i*4+1,none⟩=some (.int .i64 x.n)/\w.cell? ⟨ab,ao+i*4+2,none⟩=some (.string ⟨x.text.toArray⟩)/\w.cell? ⟨ab,ao+i*4+3,none⟩=some va/\Rep w S (.list (.base .expr) x.args) va/\ab<w.heap.size/\¬d w ab)
  (hrb:Rep w S (.list (.base .str) bound) vb) (z:∀b o,S b o->b<w.heap.size/\¬d w b) :
  Calls Tryz.prog 109 #[.pointer (some ⟨wb,0,none⟩),.agg (jo e (.slice ap e.args.length cap)),vb] w λr w'=>r=.returned (.tuple #[])/\Good (σ++es) w'/\eu d w w':=by
 unfold jo;rw[hk];have c0:w.cell? ⟨wb,1,none⟩=some .nilFunc:=by simp[World.cell?,G]
 have I:wb<w.heap.size:=(a6.1 G).1;have hfn:∀W:World,(binOp BinOp.neq 136 .nilFunc .nilFunc).run Tryz.prog W=.ok (.bool false) W:=λW=>by kernel_rfl
 have HA:Hid (Rep w S (.list (.base .expr) e.args) (.slice ap e.args.length cap)):=O;have HX:Hid (amb w/\Good σ w/\Rep w S (.list (.base .str) bound) vb/\w.heap[wb]?=some (.cells #[.func (.func g) #[] caps,.nilFunc] T (0,0))):=⟨ha,hG,hrb,G⟩;have HV:Hid (∀(i:Nat) (x:ak),e.args[i]?=some x->∃va,w.cell? ⟨ab,ao+i*4,none⟩=some (.int .i64 x.kind)/\w.cell? ⟨ab,ao+i*4+1,none⟩=some (.int .i64 x.n)/\w.cell? ⟨ab,ao+i*4+2,none⟩=some (.string ⟨x.text.toArray⟩)/\w.cell? ⟨ab,ao+i*4+3,none⟩=some va/\Rep w S (.list (.base .expr) x.args) va/\ab<w.heap.size/\¬d w ab):=Z;have HE:Hid (dV rec true e.text bound 0 e.args=some es):=s;clear ha hG hrb G Z s O;go_enter Tryz.func109,Tryz.ntmps109
 go_wp2
 generalize J:w.alloc (.cells #[.int .i64 9,.int .i64 e.n,.string ⟨e.text.toArray⟩,.slice ap e.args.length cap] 26)=w1;have HD:Hid (w1.cell? ⟨w.heap.size,0,none⟩=some (.int .i64 e.kind)/\w1.cell? ⟨w.heap.size,1,none⟩=some (.int .i64 e.n)/\w1.cell? ⟨w.heap.size,2,none⟩=some (.string ⟨e.text.toArray⟩)/\w1.cell? ⟨w.heap.size,3,none⟩=some (.slice ap e.args.length cap)/\w.heap.size<w1.heap.size/\¬d w1 w.heap.size):=by
  have hrow:w1.heap[w.heap.size]?=some (.cells #[.int .i64 9,.int .i64 e.n,.string ⟨e.text.toArray⟩,.slice ap e.args.length cap] 26 (0,0)):=by
   rw[<- J];show (w.heap.push _)[w.heap.size]?=_
   rw[Array.getElem?_push_size]
  have hB0:Below w.heap.size w w1:=J▸(Below.refl _ _).alloc (aD _) _;refine⟨by rw[hk];simp[World.cell?,hrow],by simp[World.cell?,hrow],by simp[World.cell?,hrow],by simp[World.cell?,hrow],(a6.1 hrow).1,λhh=>?_⟩;have:=(C.keep w w1 σ HX.out.2.1 (λc hc=>hB0.block c (C.lt w σ c HX.out.2.1 hc).2) hB0.size).2 _ hh;have:=(C.lt w σ _ HX.out.2.1 this).2;omega
 have K:Below w.heap.size w w1:=J▸(Below.refl _ _).alloc (aD _) _;have HK:Hid (eu d w w1/\Good σ w1):=⟨(C.below HX.out.2.1 K).2,(C.below HX.out.2.1 K).1⟩;have hw1s:w.heap.size<=w1.heap.size:=K.size;clear K J;go_loopg [59] e.args.length (λk i wr=>∃j:Nat,i=.int .i64 j/\uP rec Good d true e.text bound e.args σ es w1 j k wr)
 case atStart=>
  exact⟨0,rfl,by omega,⟨rfl,rfl,rfl,aD _,λ_ _ _=>rfl,λc hc=>.inl hc⟩,[],es,rfl,HE.out,by rw[amA];exact HK.out.2⟩
 case round=>
  obtain⟨j,rfl,hR⟩:=hrel
  by_cases hj:j<e.args.length
  ·have hap':=hap (λh=>by rw[h]at hj;simp at hj);subst hap';obtain⟨L,hkeep,m,rest,s,f,hGr⟩:=hR;have a:eu d w wr:=HK.out.1.trans hkeep;obtain⟨va,f0,f1,f2,f3,B,hab,hnab⟩:=HV.out j e.args[j] (zF hj);rw[<- a.cell hab hnab]at f0 f1 f2 f3;obtain⟨vp,vn,vc,rfl⟩:=wG B;rw[amg hj]at f;by_cases hj0:j=0
   ·subst hj0;simp only[dV,amy,Nat.lt_irrefl,decide_false,aM,if_false]at f;obtain⟨u,R,f⟩:=zB.1 f;obtain⟨v,hv,f⟩:=zB.1 f;have hrest:rest=u++v:=(a7 f).symm;have D:(σ++m).length+u.length<=34359738368:=by rw[s,hrest]at hl;simp only[a8]at hl ⊢;omega
    have q:∀b o,S b o->S b o/\wr.cell? ⟨b,o,none⟩=w.cell? ⟨b,o,none⟩:=λb o l=>⟨l,a.cell (z b o l).1 (z b o l).2⟩
    have M:=Visits.go C IH R (a.amb C HX.out.2.1 HX.out.1) hGr D (by rw[a.block wb I H];exact HX.out.2.2.2) (a.not I H).2 (B.move q) (HX.out.2.2.1.move q) (λb o l=>a.not (z b o l).1 (z b o l).2);have HR:Hid (0+gk=e.args.length/\eu d w1 wr/\es=m++(u++v)/\dV rec true e.text bound (0+1) (e.args.drop (0+1))=some v):=⟨L,hkeep,hrest▸s,hv⟩;clear L hkeep s f hGr a R hv B hrest q D;simp only[Nat.zero_mul,Nat.add_zero]at f0 f1 f2 f3;go_wp2_with (go_at_call 109;refine (M _ ((Below.refl _ _).alloc (aD _) _)).mono ?_;rintro r w4 ⟨rfl,h4⟩;have H4:Hid (Good (σ++m++u) w4/\eu d wr w4):=h4;clear h4)
    go_roundg (gk-1)
    case measure=>have:=HR.out.1;omega
    case rel=>
     obtain⟨q1,q2,X,Y⟩:=HR.out
     refine⟨0+1,rfl,by omega,q2.trans H4.out.2,m++u,v,by rw[X,ba],Y,?_⟩
     rw[<- ba]
     exact H4.out.1
   ·have hj1:(0:Int)<(j:Int):=by omega
    have hd1:decide (0<j)=true:=by simp;omega
    simp only[dV,amy,hd1,if_true]at f;obtain⟨u,R,f⟩:=zB.1 f;obtain⟨_,hgd,R⟩:=zB.1 R;obtain⟨v,hv,f⟩:=zB.1 f;have hrest:rest=u++v:=(a7 f).symm;have D:(σ++m).length+u.length<=34359738368:=by rw[s,hrest]at hl;simp only[a8]at hl ⊢;omega
    have q:∀b o,S b o->S b o/\wr.cell? ⟨b,o,none⟩=w.cell? ⟨b,o,none⟩:=λb o l=>⟨l,a.cell (z b o l).1 (z b o l).2⟩
    have M:=Visits.go2 C IH R (a.amb C HX.out.2.1 HX.out.1) hGr D (by rw[a.block wb I H];exact HX.out.2.2.2) (a.not I H).2 (B.move q) (λb o l=>a.not (z b o l).1 (z b o l).2);have HR:Hid (j+gk=e.args.length/\eu d w1 wr/\es=m++(u++v)/\dV rec true e.text bound (j+1) (e.args.drop (j+1))=some v/\Good (σ++m) wr/\eu d w wr):=⟨L,hkeep,hrest▸s,hv,hGr,a⟩;clear L hkeep s f hGr a R hv B hrest q D hd1;go_wp2
    generalize hw12:wr.alloc (.cells #[.int .i64 e.args[j].kind,.int .i64 e.args[j].n,.string ⟨e.args[j].text.toArray⟩,.slice vp vn vc] 26)=y;have hB12:Below wr.heap.size wr y:=hw12▸(Below.refl _ _).alloc (aD _) _;have hrow:y.heap[wr.heap.size]?=some (.cells #[.int .i64 e.args[j].kind,.int .i64 e.args[j].n,.string ⟨e.args[j].text.toArray⟩,.slice vp vn vc] 26 (0,0)):=by
     rw[<- hw12];show (wr.heap.push _)[wr.heap.size]?=_
     rw[Array.getElem?_push_size]
    have hrl:wr.heap.size<y.heap.size:=(a6.1 hrow).1;have N:eu d w1 wr:=HR.out.2.1;have a:eu d w wr:=HR.out.2.2.2.2.2;have U:w.heap.size<wr.heap.size:=aL HD.out.2.2.2.2.1 N.size;have F:∀o,y.cell? ⟨w.heap.size,o,none⟩=w1.cell? ⟨w.heap.size,o,none⟩:=λo=>(hB12.cell (p:=⟨w.heap.size,o,none⟩) U).trans (N.cell HD.out.2.2.2.2.1 HD.out.2.2.2.2.2)
    have q:∀b o,S b o->S b o/\y.cell? ⟨b,o,none⟩=w.cell? ⟨b,o,none⟩:=λb o l=>⟨l,(hB12.cell (p:=⟨b,o,none⟩) (a.not (z b o l).1 (z b o l).2).1).trans (a.cell (z b o l).1 (z b o l).2)⟩
    have ha12:amb y:=amb.keep (a.amb C HX.out.2.1 HX.out.1) hB12.size λk hk=>hB12.block k (aL hk (a.amb C HX.out.2.1 HX.out.1).size)
    refine SS (w0:=⟨y,λb o=>S b o\/b=w.heap.size,λ_=>False,none⟩) (E:={ tt:=tt,fs:=[] }) (k:=TR 9) (r:=bound++[e.text]) (S:=aat e bound) (ds:=[70,71,72,73,74,75,76,9]) ((jd.nil adN).at (lq.none ha12) (λh=>by cases h)) rY (by kernel_rfl) ?hv ?hi ?_
    case hv=>
     refine (show _=(gd (([]:List Str).length+bound.length)).bind (λ_=>(gd ((([]:List Str)++bound).length+[e.text].length)).bind λ_=>some ((([]:List Str)++bound)++[e.text])) by kernel_rfl).trans ?_
     have hgd':=lW hgd
     have g1:gd (([]:List Str).length+bound.length)=some ():=by unfold gd;simp;omega
     have g2:gd ((([]:List Str)++bound).length+[e.text].length)=some ():=by unfold gd;simp;omega
     rw[g1,g2];rfl
    case hi=>
     exact Yu (HX.out.2.2.1.move q) (HA.out.move q) (λb o l=>aL (a.not (z b o l).1 (z b o l).2).1 hB12.size) (aL U hB12.size) (by rw[F];exact HD.out.1) (by rw[F];exact HD.out.2.1) (by rw[F];exact HD.out.2.2.1) (by rw[F];exact HD.out.2.2.2.1) _ rfl rfl rfl rfl
    intro S' a' A G' hk' hI hkept;obtain⟨hB13,S2,P,V⟩:=LV hI hk' (by rw[hkept.1];exact (by decide:9<82));have hs3:∀b o,S2 b o->(b<wr.heap.size->¬d wr b)/\b<A.heap.size:=λb o l=>⟨λhlt hh=>by
     rcases (V b o l).1 with (h | h) | h
     ·exact (a.not (z b o h).1 (z b o h).2).2 hh
     ·exact (N.not HD.out.2.2.2.2.1 HD.out.2.2.2.2.2).2 (h▸hh)
     ·have:=hB12.size;omega,(V b o l).2⟩
    have hr13:∀o,A.cell? ⟨wr.heap.size,o,none⟩=y.cell? ⟨wr.heap.size,o,none⟩:=λo=>hB13.cell (p:=⟨wr.heap.size,o,none⟩) hrl
    have k0:A.cell? ⟨wr.heap.size,0,none⟩=some (.int .i64 e.args[j].kind):=by rw[hr13];simp[World.cell?,hrow]
    have k1:A.cell? ⟨wr.heap.size,1,none⟩=some (.int .i64 e.args[j].n):=by rw[hr13];simp[World.cell?,hrow]
    have k2:A.cell? ⟨wr.heap.size,2,none⟩=some (.string ⟨e.args[j].text.toArray⟩):=by rw[hr13];simp[World.cell?,hrow]
    have k3:A.cell? ⟨wr.heap.size,3,none⟩=some (.slice vp vn vc):=by rw[hr13];simp[World.cell?,hrow]
    have Q:=M A (hB12.trans (hB13.mono hB12.size)) S2 _ P hs3;have t:a'=⟨#[Value.pointer (some ⟨wb,0,none⟩),Value.agg #[Value.int IntKind.i64 9,Value.int IntKind.i64 e.n,Value.string ⟨e.text.toArray⟩,Value.slice (some ⟨ab,ao,none⟩) e.args.length cap],vb,undef,Value.pointer (some ⟨w.heap.size,0,none⟩),undef,Value.bool true,Value.int IntKind.i64 (j:Int),Value.pointer (some ⟨wr.heap.size,0,none⟩),a'.tmps.getD 9 undef,Value.pointer (some ⟨w.heap.size,0,none⟩),Value.int IntKind.i64 9,Value.bool false,Value.bool false,undef,undef,undef,undef,undef,Value.bool false,undef,undef,undef,undef,undef,undef,undef,undef,undef,undef,undef,undef,undef,Value.pointer (some ⟨w.heap.size,0,none⟩),Value.int IntKind.i64 9,Value.bool false,Value.bool false,Value.pointer (some ⟨w.heap.size,0,none⟩),Value.int IntKind.i64 9,Value.bool true,Value.bool true,Value.bool true,Value.bool true,Value.pointer (some ⟨wb,0,none⟩),Value.pointer (some ⟨wb,0,none⟩),Value.pointer (some ⟨wb,1,none⟩),Value.nilFunc,Value.bool false,Value.bool false,undef,undef,undef,undef,undef,undef,undef,Value.pointer (some ⟨w.heap.size,3,none⟩),Value.slice (some ⟨ab,ao,none⟩) e.args.length cap,Value.int IntKind.i64 (e.args.length:Int),Value.int IntKind.i64 (j:Int),Value.bool true,Value.int IntKind.i64 (j:Int),Value.pointer (some ⟨ab,ao+j*4,none⟩),Value.agg #[Value.int IntKind.i64 e.args[j].kind,Value.int IntKind.i64 e.args[j].n,Value.string ⟨e.args[j].text.toArray⟩,Value.slice vp vn vc],vb,Value.bool true,Value.bool true,Value.int IntKind.i64 (j:Int),Value.bool true,Value.bool true,a'.tmps.getD 70 undef,a'.tmps.getD 71 undef,a'.tmps.getD 72 undef,a'.tmps.getD 73 undef,a'.tmps.getD 74 undef,a'.tmps.getD 75 undef,a'.tmps.getD 76 undef,u77,u78,u79,u80,u81],[]⟩:=(hkept.eq hI.nodef).trans (by kernel_rfl);generalize a'.tmps.getD 9 undef=vb2 at Q t;generalize a'.tmps.getD 70 undef=x70 at t;generalize a'.tmps.getD 71 undef=x71 at t;generalize a'.tmps.getD 72 undef=x72 at t;generalize a'.tmps.getD 73 undef=x73 at t;generalize a'.tmps.getD 74 undef=x74 at t;generalize a'.tmps.getD 75 undef=x75 at t;generalize a'.tmps.getD 76 undef=x76 at t;clear hr13 hs3 V P hB13 hI hkept hk' M ha12 q F U a N hrl hrow hB12 hw12 f0 f1 f2 f3;subst t;simp only[Exit.then];go_wp2_with (go_at_call 109;refine Q.mono ?_;rintro r w4 ⟨rfl,h4⟩;have H4:Hid (Good (σ++m++u) w4/\eu d wr w4):=h4;clear h4)
    go_roundg (gk-1)
    case measure=>have:=HR.out.1;omega
    case rel=>
     obtain⟨q1,q2,X,Y,_⟩:=HR.out
     refine⟨j+1,rfl,by omega,q2.trans H4.out.2,m++u,v,by rw[X,ba],Y,?_⟩
     rw[<- ba]
     exact H4.out.1
  ·have HR:Hid (uP rec Good d true e.text bound e.args σ es w1 j gk wr):=hR;clear hR;go_wp2
   refine bodyPost_end (results_none rfl _ _ _) rfl ?_;obtain⟨q1,q2,m,rest,X,Y,q5⟩:=HR.out;have hr:rest=[]:=by
    rw[List.drop_eq_nil_of_le (by omega)]at Y;exact (a7 Y).symm
   subst hr;rw[amA]at X;subst X;exact⟨rfl,q5,HK.out.1.trans q2⟩
set_option maxHeartbeats 8000000 in
set_option maxRecDepth 100000 in
theorem V5{g:Nat}{caps:Array Value}{Good:List Ev->World->Prop}{a:World->Nat->Prop}(C:Clo g caps Good a){rec:ak->List Str->Option (List Ev)}(IH:Visits g caps Good a rec)
  (e:ak) (bound:List Str) (es σ:List Ev) (w:World) (S:Nat->Nat->Prop) (ap:Option Addr) (ab ao cap:Nat) (O:e.args≠[]->ap=some ⟨ab,ao,none⟩) (vb:Value) (wb:Nat) (T:TypeId)
  (hk:e.kind=3) (y:bound.contains e.text=true) (P:bound.length<=34359738368) (l:dV rec false e.text bound 0 e.args=some es) (Q:amb w) (X:Good σ w) (Y:σ.length+es.length<=34359738368) (hal:e.args.length<=34359738368)
  (q:w.heap[wb]?=some (.cells #[.func (.func g) #[] caps,.nilFunc] T (0,0))) (D:¬a w wb)
  (hcap:e.args.length<=cap) (E:∀(i:Nat) (x:ak),e.args[i]?=some x->∃va,w.cell? ⟨ab,ao+i*4,none⟩=some (.int .i64 x.kind)/\w.cell? ⟨ab,ao+i*4+1,none⟩=some (.int .i64 x.n)/\w.cell? ⟨ab,ao+i*4+2,none⟩=some (.string ⟨x.text.toArray⟩)/\w.cell? ⟨ab,ao+i*4+3,none⟩=some va/\Rep w S (.list (.base .expr) x.args) va/\ab<w.heap.size/\¬a w ab)
  (z:Rep w S (.list (.base .str) bound) vb) (F:∀b o,S b o->b<w.heap.size/\¬a w b) :
  Calls Tryz.prog 109 #[.pointer (some ⟨wb,0,none⟩),.agg (jo e (.slice ap e.args.length cap)),vb] w λr w'=>r=.returned (.tuple #[])/\Good (σ++es) w'/\eu a w w':=by
 unfold jo;have c0:w.cell? ⟨wb,1,none⟩=some .nilFunc:=by simp[World.cell?,q]
 have G:wb<w.heap.size:=(a6.1 q).1;have HX:Hid (amb w/\Good σ w/\Rep w S (.list (.base .str) bound) vb/\w.heap[wb]?=some (.cells #[.func (.func g) #[] caps,.nilFunc] T (0,0))):=⟨Q,X,z,q⟩;have HV:Hid (∀(i:Nat) (x:ak),e.args[i]?=some x->∃va,w.cell? ⟨ab,ao+i*4,none⟩=some (.int .i64 x.kind)/\w.cell? ⟨ab,ao+i*4+1,none⟩=some (.int .i64 x.n)/\w.cell? ⟨ab,ao+i*4+2,none⟩=some (.string ⟨x.text.toArray⟩)/\w.cell? ⟨ab,ao+i*4+3,none⟩=some va/\Rep w S (.list (.base .expr) x.args) va/\ab<w.heap.size/\¬a w ab):=E;have hn:¬posOf e.text 0 bound<0:=λh=>by rw[(qV _ _ _).1 h]at y;cases y
 have hcall:=Eg bound e.text S vb P w Q z (λb o t=>(F b o t).1);have HE:Hid (dV rec false e.text bound 0 e.args=some es):=l;clear Q X z q E l y;go_enter Tryz.func109,Tryz.ntmps109
 go_wp2_with (go_at_call 108;refine (hcall _ ((Below.refl _ _).alloc (aD _) _)).mono ?_;rintro e2 w1 ⟨rfl,K⟩;have HB:Hid (Below _ _ w1):=K;have d0:=K.cell (p:=⟨w.heap.size,0,none⟩) (by simp);have d3:=K.cell (p:=⟨w.heap.size,3,none⟩) (by simp);clear K c0 hcall)
 have s:Below w.heap.size w w1:=((Below.refl _ _).alloc (aD _) _).trans (HB.out.mono (by simp));have HK:Hid (eu a w w1/\Good σ w1):=⟨(C.below HX.out.2.1 s).2,(C.below HX.out.2.1 s).1⟩;have hw1s:w.heap.size<=w1.heap.size:=s.size;clear s HB d0 d3;go_loopg [59] e.args.length (λk i wr=>∃j:Nat,i=.int .i64 j/\uP rec Good a false e.text bound e.args σ es w1 j k wr)
 case atStart=>
  exact⟨0,rfl,by omega,⟨rfl,rfl,rfl,aD _,λ_ _ _=>rfl,λc hc=>.inl hc⟩,[],es,rfl,HE.out,by rw[amA];exact HK.out.2⟩
 case round=>
  obtain⟨j,rfl,R⟩:=hrel
  by_cases L:j<e.args.length
  ·have H:=O (λh=>by rw[h]at L;simp at L);subst H;obtain⟨I,hkeep,m,rest,l,d,hGr⟩:=R;have f:eu a w wr:=HK.out.1.trans hkeep;obtain⟨va,f0,f1,f2,f3,A,U,hnab⟩:=HV.out j e.args[j] (zF L);rw[<- f.cell U hnab]at f0 f1 f2 f3;obtain⟨vp,vn,vc,rfl⟩:=wG A;rw[amg L]at d;simp only[dV,Bool.false_and,aM,if_false]at d;obtain⟨u,Z,d⟩:=zB.1 d;obtain⟨v,hv,d⟩:=zB.1 d;have hrest:rest=u++v:=(a7 d).symm;have J:(σ++m).length+u.length<=34359738368:=by rw[l,hrest]at Y;simp only[a8]at Y ⊢;omega
   have B:∀b o,S b o->S b o/\wr.cell? ⟨b,o,none⟩=w.cell? ⟨b,o,none⟩:=λb o t=>⟨t,f.cell (F b o t).1 (F b o t).2⟩
   have V:=Visits.go C IH Z (f.amb C HX.out.2.1 HX.out.1) hGr J (by rw[f.block wb G D];exact HX.out.2.2.2) (f.not G D).2 (A.move B) (HX.out.2.2.1.move B) (λb o t=>f.not (F b o t).1 (F b o t).2);have HR:Hid (j+gk=e.args.length/\eu a w1 wr/\es=m++(u++v)/\dV rec false e.text bound (j+1) (e.args.drop (j+1))=some v):=⟨I,hkeep,hrest▸l,hv⟩;clear I hkeep l d hGr f Z hv A hrest B J;go_wp2_with (go_at_call 109;refine (V _ ((Below.refl _ _).alloc (aD _) _)).mono ?_;rintro r w4 ⟨rfl,h4⟩;have H4:Hid (Good (σ++m++u) w4/\eu a wr w4):=h4;clear h4)
   go_roundg (gk-1)
   case measure=>have:=HR.out.1;omega
   case rel=>
    obtain⟨q1,W,M,N⟩:=HR.out
    refine⟨j+1,rfl,by omega,W.trans H4.out.2,m++u,v,by rw[M,ba],N,?_⟩
    rw[<- ba]
    exact H4.out.1
  ·have HR:Hid (uP rec Good a false e.text bound e.args σ es w1 j gk wr):=R;clear R;go_wp2
   refine bodyPost_end (results_none rfl _ _ _) rfl ?_;obtain⟨q1,W,m,rest,M,N,q5⟩:=HR.out;have hr:rest=[]:=by
    rw[List.drop_eq_nil_of_le (by omega)]at N;exact (a7 N).symm
   subst hr;rw[amA]at M;subst M;exact⟨rfl,q5,HK.out.1.trans W⟩
theorem Lr{g:Nat}{caps:Array Value}{Good:List Ev->World->Prop}{v:World->Nat->Prop}(C:Clo g caps Good v):∀n,Visits g caps Good v (jA n)
 | 0=>λe bound es σ w S va vb wb T h=>by cases h
 | n+1=>by
  intro e bound es σ w S va vb wb T h B E F j k m l y;have IH:=Lr C n;unfold jA at h;obtain⟨_,P,h⟩:=zB.1 h;obtain⟨_,Q,h⟩:=zB.1 h;have o:=lW P;have p:=lW Q;split at h
  ·rename_i hc;have:=(a7 h).symm;subst this;exact YK C e bound σ w S va vb wb T hc.1 hc.2 B E (by simpa using F) o j k l y
  ·rename_i hc;obtain⟨ap,ab,ao,cap,L,q,hcap,r⟩:∃(ap:Option Addr) (ab ao cap:Nat),va=.slice ap e.args.length cap/\(e.args≠[]->ap=some ⟨ab,ao,none⟩)/\e.args.length<=cap/\∀(i:Nat) (x:ak),e.args[i]?=some x->∃va,w.cell? ⟨ab,ao+i*4,none⟩=some (.int .i64 x.kind)/\w.cell? ⟨ab,ao+i*4+1,none⟩=some (.int .i64 x.n)/\w.cell? ⟨ab,ao+i*4+2,none⟩=some (.string ⟨x.text.toArray⟩)/\w.cell? ⟨ab,ao+i*4+3,none⟩=some va/\Rep w S (.list (.base .expr) x.args) va/\ab<w.heap.size/\¬v w ab:=by
    generalize A:D.list (.base .expr) e.args=d at m;cases m with
    | int=>cases A
    | bool=>cases A
    | str=>cases A
    | nil t=>
     injection A with G c;subst G;have c:e.args=[]:=eq_of_heq c;exact⟨none,0,0,0,by rw[c];rfl,λh=>absurd c h,by rw[c];exact aD _,λi x f=>by rw[c]at f;simp at f⟩
    | emp t a cap=>
     injection A with G c;subst G;have c:e.args=[]:=eq_of_heq c;exact⟨some a,0,0,cap,by rw[c];rfl,λh=>absurd c h,by rw[c];exact Nat.zero_le _,λi x f=>by rw[c]at f;simp at f⟩
    | list t xs b off cap vs hcap s u=>
     injection A with G c;subst G;have c:e.args=xs:=eq_of_heq c;subst c;refine⟨some ⟨b,off,none⟩,b,off,cap,rfl,λ_=>rfl,hcap,λi x f=>?_⟩;have H:=s i x 0 (.int .i64 x.kind) f rfl;have N:=s i x 1 (.int .i64 x.n) f rfl;have O:=s i x 2 (.str x.text) f rfl;have R:=s i x 3 (.list (.base .expr) x.args) f rfl;have U:=oV (u i x 0 (.int .i64 x.kind) f rfl);have V:=oV (u i x 1 (.int .i64 x.n) f rfl);have W:=xY (u i x 2 (.str x.text) f rfl);rw[U]at H;rw[V]at N;rw[W]at O;exact⟨vs i 3,H.1,N.1,O.1,R.1,u i x 3 _ f rfl,(y _ _ H.2).1,(y _ _ H.2).2⟩
   subst L;by_cases I:e.kind=3
   ·have M:bound.contains e.text=true:=by
     cases hh:bound.contains e.text with
     | true=>rfl
     | false=>exact absurd ⟨I,hh⟩ hc
    have z:(decide (e.kind=7)||decide (e.kind=9))=false:=by rw[I];rfl
    rw[z]at h;exact V5 C IH e bound es σ w S ap ab ao cap q vb wb T I M o h B E F p j k hcap r l y
   by_cases J:e.kind=7
   ·have z:(decide (e.kind=7)||decide (e.kind=9))=true:=by rw[J];rfl
    rw[z]at h;exact abN C IH e bound es σ w S ap ab ao cap q vb wb T J o m h B E F p j k hcap r l y
   by_cases K:e.kind=9
   ·have z:(decide (e.kind=7)||decide (e.kind=9))=true:=by rw[K];rfl
    rw[z]at h;exact abO C IH e bound es σ w S ap ab ao cap q vb wb T K o m h B E F p j k hcap r l y
   have z:(decide (e.kind=7)||decide (e.kind=9))=false:=by simp[J,K]
   rw[z]at h;exact V4 C IH e bound es σ w S ap ab ao cap q vb wb T I J K h B E F p j k hcap r l y
