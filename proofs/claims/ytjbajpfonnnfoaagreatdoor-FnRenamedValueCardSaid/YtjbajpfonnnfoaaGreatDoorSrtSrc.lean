import Derived.Test.YtjbajpfonnnfoaaGreatDoorDen1
import Derived.Test.YtjbajpfonnnfoaaGreatDoorSrc0
import Derived.StillTailTactics
import Derived.Deep.RegionHeld
set_option linter.unusedSimpArgs false
set_option linter.unusedVariables false
/- The walk over l8Source: the numbers of a drawn table's rows are drawn anew, in their places. -/
namespace Go.Proofs.YtjbajpfonnnfoaaGreatDoor
open Go.Abs Go.Proofs Go.RowKit
def xI(w:World)(T:Nat->Nat->Prop)(bb:Nat)(c:aS):Prop:=∃(S':Nat->Nat->Prop) (vs':List Value) (Et':TypeId),w.heap[bb]?=some (.cells vs'.toArray Et' (0,0)) /\
 aV (λ_ d u=>Rep w S' d u) 0 ((Ty.base .cur).cells c) vs'/\∀b o,S' b o->T b o/\b<w.heap.size
theorem xI.move{w w':World}{T T':Nat->Nat->Prop}{bb:Nat}{c:aS}(h:xI w T bb c)(f:w'.heap[bb]?=w.heap[bb]?)(e:∀b o,T b o->b<w.heap.size->T' b o/\w'.heap[b]?=w.heap[b]?)(g:w.heap.size<=w'.heap.size):xI w' T' bb c:=by
 obtain⟨S',vs',Et',j,k,a⟩:=h;exact⟨S',vs',Et',f.trans j,k.imp λi d u q=>q.move λb o hh=>⟨hh,World.cell?_of_block (e b o (a b o hh).1 (a b o hh).2).2⟩,λb o hh=>⟨(e b o (a b o hh).1 (a b o hh).2).1,aL (a b o hh).2 g⟩⟩
theorem aaQ{w:World}{S:Nat->Nat->Prop}{k:IntKind}{n:Int}{u:Value}(h:Rep w S (.int k n) u):u=.int k n:=by
 generalize a:D.int k n=d at h;cases h with
 | int=>cases a;rfl
 | bool c=>cases a
 | str=>cases a
 | nil=>cases a
 | emp=>cases a
 | list=>cases a
theorem abW{w:World}{S:Nat->Nat->Prop}{bb:Nat}{c:aS}{y:aS×Int}(k:aU c 4=some y)(l:amb w)(d:nT<=bb)(hc:xI w S bb c)(m:∀b o,S b o->b≠bb) :
  Calls Tryz.prog 27 #[.pointer (some ⟨bb,0,none⟩),.int .i64 4] w λe w'=>e=.returned (.int .i64 y.2)/\jJ (λc=>c=bb) w.heap.size w w'/\jv w w' bb/\xI w' (λb o=>S b o\/w.heap.size<=b) bb y.1:=by
 obtain⟨n,vs,Et,p,r,f⟩:=hc;refine (zW w n bb vs Et [.int .i64 4] (c,(4:Int)) y k l d p ⟨⟨vs,rfl,r⟩,Rep.int _ _,trivial⟩ (λb o hh=>⟨(f b o hh).2,m b o (f b o hh).1⟩)).mono ?_;rintro e w' ⟨v,rfl,hoff,g,S',vs',Et',us,rfl,hh,h,i,a⟩;refine⟨?_,hoff,g,S',vs',Et',hh,h,λb o j=>⟨(a b o j).1.imp (λq=>(f b o q).1) And.right,(a b o j).2⟩⟩;rcases us with _ | ⟨u,_ | ⟨s,q⟩⟩
 ·exact i.elim
 ·have:u=.int .i64 y.2:=aaQ (w:=w') (S:=S') i.1;rw[this];rfl
 ·exact i.elim
theorem abV{w:World}{S:Nat->Nat->Prop}{bb:Nat}{c:aS}{y:aS×af}(p:kT c=some y)(r:amb w)(f:nT<=bb)(hc:xI w S bb c)(s:∀b o,S b o->b≠bb) :
  Calls Tryz.prog 117 #[.pointer (some ⟨bb,0,none⟩)] w λe w'=>∃(lv cv rv:Value) (g h i:Nat->Prop),e=.returned (.agg (P5 y.2 lv cv rv).toArray) /\
   jJ (λc=>c=bb) w.heap.size w w'/\jv w w' bb/\xI w' S bb y.1/\Own w' (.list (.base .val) y.2.list) lv g/\Own w' (.list (.base .str) y.2.columns) cv h/\Own w' (.list (.base .row) y.2.rows) rv i /\
   (∀c,g c\/h c\/i c->w.heap.size<=c/\c<w'.heap.size)/\∀c,i c->¬g c/\¬h c:=by
 obtain⟨t,vs,Et,x,z,j⟩:=hc;refine (rC w t bb vs Et [] c y p r f x ⟨vs,rfl,z⟩ (λb o hh=>⟨(j b o hh).2,s b o (j b o hh).1⟩)).mono ?_;rintro e w' ⟨v,rfl,hoff,k,S',vs',Et',us,rfl,hh,l,⟨fps,a,hf,m⟩,d⟩;rcases us with _ | ⟨u,_ | ⟨E,q⟩⟩
 ·exact a.elim
 ·obtain⟨A,rfl,a⟩:=a;obtain⟨lv,cv,rv,rfl,B,C,D⟩:=Ro a;refine⟨lv,cv,rv,fps 4,fps 5,fps 6,rfl,hoff,k,⟨S',vs',Et',hh,l,λb o n=>⟨(d b o n).1.elim (λq=>(j b o q).1) (λq=>by cases q.1),(d b o n).2⟩⟩,B,C,D,?_,λc hc=>⟨λq=>?_,λq=>?_⟩⟩
  ·rintro c (hc | hc | hc)<;>exact hf _ c hc
  ·have:=m 6 4 c hc q;omega
  ·have:=m 6 5 c hc q;omega
 ·exact a.elim
theorem agR{w:World}{x y:af}{n:Int}{lv cv rv:Value}{g j k:Nat->Prop}(p:ny n x=some y)(r:amb w)(s:Own w (.list (.base .val) x.list) lv g)(t:Own w (.list (.base .str) x.columns) cv j)
  (z:Own w (.list (.base .row) x.rows) rv k) (m:∀c,g c\/j c\/k c->c<w.heap.size) :
  Calls Tryz.prog 118 #[.int .i64 n,.agg (P5 x lv cv rv).toArray] w λe w'=>∃(lv' cv' rv':Value) (S':Nat->Nat->Prop),e=.returned (.agg (P5 y lv' cv' rv').toArray)/\Below w.heap.size w w' /\
   aV (λ_ d u=>Rep w' S' d u) 0 ((Ty.base .val).cells y) (P5 y lv' cv' rv')/\∀b o,S' b o->w.heap.size<=b/\b<w'.heap.size:=by
 have a:∀ {d:D} {v:Value} {F:Nat->Prop},Own w d v F->(∀c,F c->g c\/j c\/k c)->Rep w (λb _=>g b\/j b\/k b) d v:=λh A=>h.Jl (λ_ _ q=>q.elim) λb o f _=>A b f
 refine (qZ w (λb _=>g b\/j b\/k b) [.int .i64 n,.agg (P5 x lv cv rv).toArray] (n,x) y p r ⟨⟨Rep.int _ _,trivial⟩,_,rfl,Rep.int _ _,Rep.int _ _,Rep.int _ _,Rep.str ⟨x.text.toArray⟩,a s λ_ q=>.inl q,a t λ_ q=>.inr (.inl q),a z λ_ q=>.inr (.inr q),trivial⟩ λb o f=>m b f).mono ?_;rintro e w' ⟨v,rfl,B,us,rfl,fps,l,hf,I⟩;rcases us with _ | ⟨u,_ | ⟨J,q⟩⟩
 ·exact l.elim
 ·obtain⟨C,rfl,l⟩:=l;obtain⟨lv',cv',rv',rfl,E,G,H⟩:=Ro l;have a:∀ {d:D} {v:Value} {i:Nat},Own w' d v (fps i)->Rep w' (λb _=>w.heap.size<=b/\b<w'.heap.size) d v:=λh=>h.Jl (λ_ _ q=>q.elim) λb o f _=>hf _ b f
  exact⟨lv',cv',rv',λb _=>w.heap.size<=b/\b<w'.heap.size,rfl,B,⟨Rep.int _ _,Rep.int _ _,Rep.int _ _,Rep.str ⟨y.text.toArray⟩,a E,a G,a H,trivial⟩,λb o f=>f⟩
 ·exact l.elim
structure zo(w1 wr:World)(S:Nat->Nat->Prop)(bb g:Nat)(cur:aS)(x:af)(rows:List aB)(lv cv rv:Value)(F:Nat->Prop):Prop where
 off:jJ (λc=>c=bb\/F c) w1.heap.size w1 wr
 keep:jv w1 wr bb
 cur:xI wr (λb o=>S b o\/g<b) bb cur
 box:wr.heap[g]?=some (.cells (P5 x lv cv rv).toArray 38 (0,0))
 tree:Own wr (.list (.base .row) rows) rv F
structure air(w0 w1:World)(S:Nat->Nat->Prop)(bb g:Nat)(F:Nat->Prop):Prop where
 g:g=w1.heap.size
 b:bb<w0.heap.size
 w:w0.heap.size<=w1.heap.size
 s:∀b o,S b o->b<w0.heap.size/\b≠bb
 f:∀c,F c->w0.heap.size<=c/\c<w1.heap.size
theorem zo.lt{w1 wr:World}{S:Nat->Nat->Prop}{bb g:Nat}{cur:aS}{x:af}{rows:List aB}{lv cv rv:Value}{F:Nat->Prop}(h:zo w1 wr S bb g cur x rows lv cv rv F):g<wr.heap.size:=(a6.1 h.box).1
theorem zo.drew{w1 wr:World}{S:Nat->Nat->Prop}{bb g:Nat}{cur:aS}{x:af}{rows:List aB}{lv cv rv:Value}{F:Nat->Prop}(h:zo w1 wr S bb g cur x rows lv cv rv F):zo w1 wr.drew S bb g cur x rows lv cv rv F:=
 ⟨⟨h.off.os,h.off.tape,h.off.output,h.off.size,h.off.block⟩,h.keep,h.cur.move rfl (λb o a _=>⟨a,rfl⟩) (aD _),h.box,h.tree.move (λ_ _ q=>q.elim) λ_ _=>rfl⟩
theorem zo.drawn{w0 w1 wr:World}{S:Nat->Nat->Prop}{bb g:Nat}{cur:aS}{x:af}{rows:List aB}{lv cv rv:Value}{F:Nat->Prop}(h:zo w1 wr S bb g cur x rows lv cv rv F)(hp:air w0 w1 S bb g F)
  {w':World} {cur':aS} (hoff:jJ (λc=>c=bb) wr.heap.size wr w') (hk:jv wr w' bb) (hc:xI w' (λb o=>(S b o\/g<b)\/wr.heap.size<=b) bb cur'):zo w1 w' S bb g cur' x rows lv cv rv F:=by
 have l:=h.off.size;have d:=h.lt;have m:=hp.g;have n:=hp.b;have p:=hp.w;have i:=hoff.size;refine⟨⟨hoff.os.trans h.off.os,hoff.tape.trans h.off.tape,hoff.output.trans h.off.output,by omega,λk a hf=>(hoff.block k (by omega) λe=>hf (.inl e)).trans (h.off.block k a hf)⟩,h.keep.trans hk,?_,(hoff.block g d (by omega)).trans h.box,h.tree.move (λ_ _ q=>q.elim) λc hc=>hoff.block c (by have:=(hp.f c hc).2;omega) (by have:=(hp.f c hc).1;omega)⟩;exact hc.move rfl (λb o j _=>⟨j.elim id λq=>.inr (by omega),rfl⟩) (aD _)
theorem zo.put{w0 w1 wr:World}{S:Nat->Nat->Prop}{bb g:Nat}{cur:aS}{x:af}{rows rows':List aB}{lv cv rv:Value}{F:Nat->Prop}(h:zo w1 wr S bb g cur x rows lv cv rv F)(hp:air w0 w1 S bb g F)
  {b k:Nat} {arr:Array Value} {E:TypeId} {n:Int} (d:F b) (i:wr.heap[b]?=some (.cells arr E (0,0)))
  (hset:∀(w':World),(∀c,F c->c≠b->w'.heap[c]?=wr.heap[c]?)->w'.heap[b]?=some (.cells (arr.setIfInBounds k (.int .i64 n)) E (0,0))->Own w' (.list (.base .row) rows') rv F) :
  zo w1 (wr.setCell ⟨b,k,none⟩ (.int .i64 n)) S bb g cur x rows' lv cv rv F:=by
 have j:=h.off.size;have l:=hp.g;have m:=hp.b;have p:=hp.w;have q:=hp.f b d;have far:∀c,c≠b->(wr.setCell ⟨b,k,none⟩ (.int .i64 n)).heap[c]?=wr.heap[c]?:=λc hc=>Below.heap_setCell _ _ _ _ hc
 have a:(wr.setCell ⟨b,k,none⟩ (.int .i64 n)).heap.size=wr.heap.size:=by simp[World.setCell]
 refine⟨⟨h.off.os,h.off.tape,h.off.output,by rw[a];exact j,λc hc hf=>(far c λe=>hf (.inr (e▸d))).trans (h.off.block c hc hf)⟩,h.keep.same (far bb (by omega)),?_,(far g (by omega)).trans h.box,hset _ (λc _ hc=>far c hc) ?_⟩
 ·refine h.cur.move (far bb (by omega)) (λc o hc _=>⟨hc,far c ?_⟩) (by rw[a];exact aD _);rcases hc with hc | hc
  ·have:=(hp.s c o hc).1;omega
  ·omega
 ·show (wr.heap.modify b _)[b]?=_
  rw[Array.getElem?_modify,if_pos rfl,i];rfl
abbrev YS:Array Value:=#[.int .i64 0,.int .i64 0,.int .i64 0,.string ⟨#[]⟩,.slice none 0 0,.slice none 0 0,.slice none 0 0]
theorem fA{W:World}{g i:Nat}{cs:Array Value}{E:TypeId}{v:Value}(h:W.heap[g]?=some (.cells cs E (0,0)))(hi:cs[i]?=some v):W.cell? ⟨g,i,none⟩=some v:=by
 simp[World.cell?,h,hi]
theorem LY{W:World}{g:Nat}{cs:Array Value}{E:TypeId}(i:Nat)(h:W.heap[g]?=some (.cells cs E (0,0))):W.frozen? ⟨g,i,none⟩=false:=by
 unfold World.frozen?;simp only[h];simp
theorem Hr{w:World}{S:Nat->Nat->Prop}{t:Ty}{xs:List t.den}{u:Value}(h:Rep w S (.list t xs) u):∃ad cap,u=.slice ad xs.length cap:=by
 generalize a:D.list t xs=d at h;cases h with
 | nil=>cases a;exact⟨_,_,rfl⟩
 | emp=>cases a;exact⟨_,_,rfl⟩
 | list=>cases a;exact⟨_,_,rfl⟩
 | bool c=>cases a
 | int=>cases a
 | str=>cases a
theorem agQ{W:World}{g:Nat}{E:TypeId}{l m n o p q r:Value}(h:W.heap[g]?=some (.cells #[l,m,n,o,p,q,r] E (0,0)))(a b c d f j k:Value) :
  (((((((W.setCell ⟨g,0,none⟩ a).setCell ⟨g,1,none⟩ b).setCell ⟨g,2,none⟩ c).setCell ⟨g,3,none⟩ d).setCell ⟨g,4,none⟩ f).setCell ⟨g,5,none⟩ j).setCell ⟨g,6,none⟩ k).heap[g]?=some (.cells #[a,b,c,d,f,j,k] E (0,0)):=by
 have one:∀ {W:World} {cs:Array Value} {i:Nat} {v:Value},W.heap[g]?=some (.cells cs E (0,0))->(W.setCell ⟨g,i,none⟩ v).heap[g]?=some (.cells (cs.setIfInBounds i v) E (0,0)):=λ{W cs i v} h=>by
  show (W.heap.modify g _)[g]?=_
  rw[Array.getElem?_modify,if_pos rfl,h];rfl
 have e:=one (i:=6) (v:=k) (one (i:=5) (v:=j) (one (i:=4) (v:=f) (one (i:=3) (v:=d) (one (i:=2) (v:=c) (one (i:=1) (v:=b) (one (i:=0) (v:=a) h))))));rw[e];rfl
theorem EN{W:World}{g b:Nat}(a c d e f j k:Value)(h:b≠g) :
  (((((((W.setCell ⟨g,0,none⟩ a).setCell ⟨g,1,none⟩ c).setCell ⟨g,2,none⟩ d).setCell ⟨g,3,none⟩ e).setCell ⟨g,4,none⟩ f).setCell ⟨g,5,none⟩ j).setCell ⟨g,6,none⟩ k).heap[b]?=W.heap[b]?:=by
 have one:∀(W:World) (i:Nat) (v:Value),(W.setCell ⟨g,i,none⟩ v).heap[b]?=W.heap[b]?:=λW i v=>by
  show (W.heap.modify g _)[b]?=_
  rw[Array.getElem?_modify,if_neg (Ne.symm h)]
 rw[one,one,one,one,one,one,one]
theorem vP(W:World)(g:Nat)(b c d e f h i:Value) :
  (((((((W.setCell ⟨g,0,none⟩ b).setCell ⟨g,1,none⟩ c).setCell ⟨g,2,none⟩ d).setCell ⟨g,3,none⟩ e).setCell ⟨g,4,none⟩ f).setCell ⟨g,5,none⟩ h).setCell ⟨g,6,none⟩ i).os=W.os /\
  (((((((W.setCell ⟨g,0,none⟩ b).setCell ⟨g,1,none⟩ c).setCell ⟨g,2,none⟩ d).setCell ⟨g,3,none⟩ e).setCell ⟨g,4,none⟩ f).setCell ⟨g,5,none⟩ h).setCell ⟨g,6,none⟩ i).tape=W.tape /\
  (((((((W.setCell ⟨g,0,none⟩ b).setCell ⟨g,1,none⟩ c).setCell ⟨g,2,none⟩ d).setCell ⟨g,3,none⟩ e).setCell ⟨g,4,none⟩ f).setCell ⟨g,5,none⟩ h).setCell ⟨g,6,none⟩ i).output=W.output /\
  (((((((W.setCell ⟨g,0,none⟩ b).setCell ⟨g,1,none⟩ c).setCell ⟨g,2,none⟩ d).setCell ⟨g,3,none⟩ e).setCell ⟨g,4,none⟩ f).setCell ⟨g,5,none⟩ h).setCell ⟨g,6,none⟩ i).heap.size=W.heap.size:=
 have o:∀(W:World) (a:Addr) (v:Value),(W.setCell a v).os=W.os:=λ_ _ _=>rfl
 have t:∀(W:World) (a:Addr) (v:Value),(W.setCell a v).tape=W.tape:=λ_ _ _=>rfl
 have p:∀(W:World) (a:Addr) (v:Value),(W.setCell a v).output=W.output:=λ_ _ _=>rfl
 have z:∀(W:World) (a:Addr) (v:Value),(W.setCell a v).heap.size=W.heap.size:=λW a v=>by simp[World.setCell]
 ⟨by rw[o,o,o,o,o,o,o],by rw[t,t,t,t,t,t,t],by rw[p,p,p,p,p,p,p],by rw[z,z,z,z,z,z,z]⟩
theorem adX:(Tryz.prog.info? 38).map (·.size)=some 7:=by kernel_rfl
theorem iQ{P:Program}{ops:Array Oper}{Q:Exit->Act->World->Prop}{md:Region.Mode}{S:World->Prop}{listed:Array Bool}{a:Act}{w:World}{i:Nat}{oi:Oper}{v:Value}{fuel:Nat}(dd:Option Nat)(hi:ops[i]?=some oi)(b:oi.dst=dd)
  (d:Region.noSelect ops=true) (hf:Region.free md ops listed i=true) (e:(Region.ready md ops listed).contains i=true)
  (f:∀c a w,Q (.panic c) (a.put oi.dst v) w->Q (.panic c) a w) (g:YieldsIf P ops S oi v a) (j:S w)
  (h:wpAnyH P md ops Q S fuel (listed.setIfInBounds i true) (a.put dd v) w):wpAnyH P md ops Q S (fuel+1) listed a w:=by
 subst b;exact wpAnyH_take hi d hf e f g j h
theorem aaR{w w1 wr:World}{S:Nat->Nat->Prop}{bb g:Nat}{F:Nat->Prop}{o:Obj}(a:amb w)(d:nT<=bb)(hp:air w w1 S bb g F)(e:jJ (λc=>c=bb) (w.alloc o).heap.size (w.alloc o) w1)
  (b:jJ (λc=>c=bb\/F c) w1.heap.size w1 wr):amb wr:=by
 have h:=hp.w;have i:=b.size;have j:=a.size;have l:(w.alloc o).heap.size=w.heap.size+1:=by simp
 refine a.keep (by omega) λk hk=>(b.block k (by omega) ?_).trans ((e.block k (by omega) (by omega)).trans (Below.heap_alloc w o k (by omega)))
 rintro (q | q)
 ·omega
 ·have:=hp.f k q;omega
set_option maxHeartbeats 1500000 in
set_option maxRecDepth 100000 in
theorem adW(c:aS)(n:Int)(y:aS×af)(M:qR c n=some y)(w:World)(S:Nat->Nat->Prop)(bb:Nat)(vs:List Value)(Et:TypeId)(ha:amb w)(N:nT<=bb)
  (x:w.heap[bb]?=some (.cells vs.toArray Et (0,0))) (hr:aV (λ_ d u=>Rep w S d u) 0 ((Ty.base .cur).cells c) vs) (hS:∀b o,S b o->b<w.heap.size/\b≠bb) :
  Calls Tryz.prog 65 #[.pointer (some ⟨bb,0,none⟩),.int .i64 n] w λe w'=>∃(lv cv rv:Value) (S':Nat->Nat->Prop),e=.returned (.agg (P5 y.2 lv cv rv).toArray) /\
   jJ (λc=>c=bb) w.heap.size w w'/\jv w w' bb/\xI w' (λb o=>S b o\/w.heap.size<=b) bb y.1/\aV (λ_ d u=>Rep w' S' d u) 0 ((Ty.base .val).cells y.2) (P5 y.2 lv cv rv)/\∀b o,S' b o->w.heap.size<=b/\b<w'.heap.size:=by
 have Z:bb<w.heap.size:=(a6.1 x).1;unfold qR at M;obtain⟨r,hr1,M⟩:=zB.1 M;obtain⟨q,hq1,M⟩:=zB.1 M;obtain⟨z,hz1,M⟩:=zB.1 M;obtain rfl:(q.1,z)=y:=a7 M;clear M;have C:Below w.heap.size w (w.alloc (.cells YS 38 (0,0))):=(Below.refl _ w).alloc (aD _) _;have ha0:amb (w.alloc (.cells YS 38 (0,0))):=ha.keep C.size λk hk=>C.block k (aL hk ha.size)
 have hcur0:xI (w.alloc (.cells YS 38 (0,0))) S bb c:=⟨S,vs,Et,(C.block bb Z).trans x,hr.imp λi d u h=>h.move λb o A=>⟨A,C.cell (p:=⟨b,o,none⟩) (hS b o A).1⟩,λb o A=>⟨A,aL (hS b o A).1 C.size⟩⟩;have HC:Hid _:=abV hr1 ha0 N hcur0 λb o A=>(hS b o A).2
 have HAM:Hid (amb w):=ha;clear hcur0 hr x ha0 ha;go_enter Tryz.func65,Tryz.ntmps65
 go_wp2_with fail
 refine Calls.mono HC.out ?_;rintro e w1 ⟨lv,cv,rv,F4,F5,O,rfl,hoff,hkl,hcur,h4,h5,h6,hf,hd⟩;have hlv:=KO h4;have l:=KO h5;have D:=KO h6;obtain⟨la,lc,rfl,hm1⟩:=hlv;obtain⟨ca,cc,rfl,hm2⟩:=l;obtain⟨ra,rc,rfl,hm3⟩:=D;have hmr:r.2.rows.length<=9223372036854775807:=amq hm3 (by unfold maxLen;omega);clear hm1 hm2 hm3;have HO:Hid _:=hoff;have HK:Hid _:=hkl;have HCu:Hid (xI w1 S bb r.1):=hcur;have H4:Hid _:=h4;have H5:Hid _:=h5;have H6:Hid _:=h6;have HF:Hid _:=hf;have HD:Hid _:=hd;clear hoff hkl hcur h4 h5 h6 hf hd HC;rename_i hK0;refine hK0 _ _ ?_;clear hK0;go_wp2_with fail
 have hw1:w.heap.size+1<=w1.heap.size:=by have:=HO.out.size;simpa using this
 have HP:Hid (air w w1 S bb w1.heap.size O):=⟨rfl,Z,by omega,hS,λc hc=>by have:=HF.out c (.inr (.inr hc));simp at this;omega⟩;have HS0:Hid (zo w1 (w1.alloc (.cells (P5 r.2 (.slice la r.2.list.length lc) (.slice ca r.2.columns.length cc) (.slice ra r.2.rows.length rc)).toArray 38 (0,0))) S bb w1.heap.size r.1 r.2 r.2.rows (.slice la r.2.list.length lc) (.slice ca r.2.columns.length cc) (.slice ra r.2.rows.length rc) O):=
  ⟨⟨rfl,rfl,rfl,by simp,λk hk _=>Below.heap_alloc w1 _ k hk⟩,(jv.refl w1 bb).same (Below.heap_alloc w1 _ bb (by omega)),HCu.out.move (Below.heap_alloc w1 _ bb (by omega)) (λb o x P=>⟨.inl x,Below.heap_alloc w1 _ b P⟩) (by simp),Array.getElem?_push_size,
   H6.out.move (λ_ _ q=>q.elim) λc hc=>Below.heap_alloc w1 _ c (HF.out c (.inr (.inr hc))).2⟩
 have HQ:Hid (lV r.1 r.2.rows=some q):=hq1;clear hq1;go_loopw [6] (λi wr=>∃(dn rest:List aB) (cur:aS) (z1:aS×List aB),i=.int .i64 dn.length/\dn.length+rest.length=r.2.rows.length/\Hid (lV cur rest=some z1/\q=(z1.1,dn++z1.2)) /\
  Hid (zo w1 wr S bb w1.heap.size cur r.2 (dn++rest) (.slice la r.2.list.length lc) (.slice ca r.2.columns.length cc) (.slice ra r.2.rows.length rc) O)) (λi _=>r.2.rows.length-(intOf i).toNat)
 case atStart=>exact⟨[],r.2.rows,r.1,q,rfl,by simp,⟨HQ.out,rfl⟩,HS0⟩
 case round=>
  clear HS0 HQ
  obtain⟨dn,rest,cur,z1,rfl,hlen,HZ,HS⟩:=hrel
  have hbox:=fA (i:=6) HS.out.box rfl
  by_cases P:dn.length<r.2.rows.length
  ·obtain⟨row,rest',rfl⟩:∃row rest',rest=row::rest':=by
    cases rest with
    | nil=>simp at hlen;omega
    | cons a b=>exact⟨a,b,rfl⟩
   have hi:(dn++row::rest')[dn.length]?=some row:=by simp
   obtain⟨rb,cap,arr,E,cv,D,hcap,hFrb,t,l,⟨ad,g,rfl,hmc⟩,hk⟩:=aa8 HS.out.tree hi;have hmc:row.cells.length<=9223372036854775807:=amq hmc (by unfold maxLen;omega);injection D with era elen erc;subst era;subst erc;have hcell:wr.cell? ⟨rb,dn.length*2,none⟩=some (.slice ad row.cells.length g):=fA t l;clear l t hcap elen hi hk;go_wp2_with fail
   have HS1:Hid (zo w1 wr S bb w1.heap.size cur r.2 (dn++aB.mk ([]++row.cells) row.orig::rest') (.slice la r.2.list.length lc) (.slice ca r.2.columns.length cc) (.slice (some ⟨rb,0,none⟩) r.2.rows.length rc) O):=HS.out;obtain⟨F,m,HZ1⟩:∃(F:aS×List Int) (m:aS×List aB),Hid (mZ cur row.cells=some F/\lV F.1 rest'=some m/\q=(m.1,dn++aB.mk ([]++F.2) row.orig::m.2)):=by
    have h1:=HZ.out.1;simp only[lV,zB,zD]at h1;obtain⟨a2,ha2,a3,ha3,rfl⟩:=h1;exact⟨a2,a3,ha2,ha3,HZ.out.2⟩
   clear HS HZ hbox hcell;go_loopw [7] (λi w2=>∃(dk rk:List Int) (cur2:aS) (F:aS×List Int) (m:aS×List aB),i=.int .i64 dk.length/\dk.length+rk.length=row.cells.length/\Hid (mZ cur2 rk=some F/\lV F.1 rest'=some m/\q=(m.1,dn++aB.mk (dk++F.2) row.orig::m.2)) /\
    Hid (zo w1 w2 S bb w1.heap.size cur2 r.2 (dn++aB.mk (dk++rk) row.orig::rest') (.slice la r.2.list.length lc) (.slice ca r.2.columns.length cc) (.slice (some ⟨rb,0,none⟩) r.2.rows.length rc) O)) (λi _=>row.cells.length-(intOf i).toNat)
   case atStart=>exact⟨[],row.cells,cur,F,m,rfl,by simp,HZ1,HS1⟩
   case round=>
    clear HS1 HZ1
    obtain⟨dk,rk,cur2,F,m,rfl,hlen2,HZ,HS⟩:=hrel
    have hbox:=fA (i:=6) HS.out.box rfl
    have hi:(dn++aB.mk (dk++rk) row.orig::rest')[dn.length]?=some (aB.mk (dk++rk) row.orig):=by simp
    obtain⟨rb',cap',arr,E,cv,D,hcap,hFrb,t,l,⟨ad,g,rfl,hmc⟩,hk⟩:=aa8 HS.out.tree hi
    injection D with era elen erc
    injection era with era
    injection era with era _ _
    subst era;subst erc
    have hll:(dk++rk).length=row.cells.length:=by rw[a8];exact hlen2
    have hcell:wr.cell? ⟨rb,dn.length*2,none⟩=some (.slice ad row.cells.length g):=(fA t l).trans (by show some (Value.slice ad (dk++rk).length g)=_;rw[hll])
    by_cases hltk:dk.length<row.cells.length
    ·obtain⟨c0,rk',rfl⟩:∃c0 rk',rk=c0::rk':=by
      cases rk with
      | nil=>simp at hlen2;omega
      | cons a b=>exact⟨a,b,rfl⟩
     obtain⟨b,cb,arr',E',G,hle,hbr,hFb,hbh,hksz,hset⟩:=hk dk.length (by simp);have G:Value.slice ad (dk++c0::rk').length g=.slice (some ⟨b,0,none⟩) (dk++c0::rk').length cb:=G;injection G with ead _ ecc;subst ead;subst ecc;have V:wr.heap[rb]?=some (.cells arr E (0,0))/\arr[dn.length*2]?=some (.slice (some ⟨b,0,none⟩) (dk++c0::rk').length g)/\(dk++c0::rk').length=row.cells.length:=⟨t,l,hll⟩;clear l t hcap elen hi hk;go_wp2_with fail
     have H:=HZ.out.1;simp only[mZ,zB,zD]at H;obtain⟨B,hx1,y1,hy1,rfl⟩:=H;have s:wr.drew.cell? ⟨w1.heap.size,6,none⟩=some (.slice (some ⟨rb,0,none⟩) r.2.rows.length rc)/\wr.drew.cell? ⟨rb,dn.length*2,none⟩=some (.slice (some ⟨b,0,none⟩) row.cells.length g):=⟨hbox,hcell⟩;have HU:=abW hx1 (aaR HAM.out N HP.out HO.out HS.out.drew.off) N HS.out.drew.cur (λb' o x=>x.elim (λq=>(hS b' o q).2) (λq=>by omega));have HWr:Hid _:=HS.out.drew;have HBH:Hid _:=hbh;have HRB:Hid _:=V;have hZ2:=HZ.out.2;have HZ2:Hid (lV y1.1 rest'=some m/\q=(m.1,dn++aB.mk (dk++B.2::y1.2) row.orig::m.2)):=hZ2;have HY1:Hid (mZ B.1 rk'=some y1):=hy1;have HSET:Hid _:=hset;have hlr:(wr.drew).heap.size=wr.heap.size:=rfl;have hlw:=HS.out.lt;have HLW:Hid (w1.heap.size<wr.heap.size):=hlw;clear hZ2 hy1 hset hbh V HS HZ hbox hcell hlw;refine wp_region_held (S:=λwq=>wq.cell? ⟨w1.heap.size,6,none⟩=some (.slice (some ⟨rb,0,none⟩) r.2.rows.length rc)/\wq.cell? ⟨rb,dn.length*2,none⟩=some (.slice (some ⟨b,0,none⟩) row.cells.length g)) (by kernel_rfl) ?_;change wpAnyH _ _ _ _ _ _ _ _ wr.drew;refine iQ (some 28) (i:=0) (v:=.pointer (some ⟨w1.heap.size,6,none⟩)) rfl rfl (by kernel_rfl) (by kernel_rfl) (by kernel_rfl) (λ_ _ _ h=>h) (Or.inl ⟨by rfl,?hy1⟩) s ?rest1
     case hy1=>(intro wq hSw;have hSw1:=hSw.1;have hSw2:=hSw.2;go_simp;try with_reducible rfl)
     try simp only[Act.put,o5,F6,amc]
     refine iQ (some 29) (i:=1) (v:=.slice (some ⟨rb,0,none⟩) r.2.rows.length rc) rfl rfl (by kernel_rfl) (by kernel_rfl) (by kernel_rfl) (λ_ _ _ h=>h) (Or.inl ⟨by rfl,?hy2⟩) s ?rest2
     case hy2=>(intro wq hSw;have hSw1:=hSw.1;have hSw2:=hSw.2;go_simp;try with_reducible rfl)
     try simp only[Act.put,o5,F6,amc]
     refine iQ (some 30) (i:=2) (v:=.int .i64 dn.length) rfl rfl (by kernel_rfl) (by kernel_rfl) (by kernel_rfl) (λ_ _ _ h=>h) (Or.inl ⟨by rfl,?hy3⟩) s ?rest3
     case hy3=>(intro wq hSw;have hSw1:=hSw.1;have hSw2:=hSw.2;go_simp;try with_reducible rfl)
     try simp only[Act.put,o5,F6,amc]
     refine iQ (some 31) (i:=3) (v:=.pointer (some ⟨rb,dn.length*2,none⟩)) rfl rfl (by kernel_rfl) (by kernel_rfl) (by kernel_rfl) (λ_ _ _ h=>h) (Or.inl ⟨by rfl,?hy4⟩) s ?rest4
     case hy4=>(intro wq hSw;have hSw1:=hSw.1;have hSw2:=hSw.2;go_simp;try with_reducible rfl)
     try simp only[Act.put,o5,F6,amc]
     refine iQ (some 32) (i:=4) (v:=.pointer (some ⟨rb,dn.length*2,none⟩)) rfl rfl (by kernel_rfl) (by kernel_rfl) (by kernel_rfl) (λ_ _ _ h=>h) (Or.inl ⟨by rfl,?hy5⟩) s ?rest5
     case hy5=>(intro wq hSw;have hSw1:=hSw.1;have hSw2:=hSw.2;go_simp;try with_reducible rfl)
     try simp only[Act.put,o5,F6,amc]
     refine iQ (some 33) (i:=5) (v:=.slice (some ⟨b,0,none⟩) row.cells.length g) rfl rfl (by kernel_rfl) (by kernel_rfl) (by kernel_rfl) (λ_ _ _ h=>h) (Or.inl ⟨by rfl,?hy6⟩) s ?rest6
     case hy6=>(intro wq hSw;have hSw1:=hSw.1;have hSw2:=hSw.2;go_simp;try with_reducible rfl)
     try simp only[Act.put,o5,F6,amc]
     refine iQ (some 34) (i:=6) (v:=.int .i64 dk.length) rfl rfl (by kernel_rfl) (by kernel_rfl) (by kernel_rfl) (λ_ _ _ h=>h) (Or.inl ⟨by rfl,?hy7⟩) s ?rest7
     case hy7=>(intro wq hSw;have hSw1:=hSw.1;have hSw2:=hSw.2;go_simp;try with_reducible rfl)
     try simp only[Act.put,o5,F6,amc]
     refine iQ (some 35) (i:=7) (v:=.pointer (some ⟨bb,0,none⟩)) rfl rfl (by kernel_rfl) (by kernel_rfl) (by kernel_rfl) (λ_ _ _ h=>h) (Or.inl ⟨by rfl,?hy8⟩) s ?rest8
     case hy8=>(intro wq hSw;have hSw1:=hSw.1;have hSw2:=hSw.2;go_simp;try with_reducible rfl)
     try simp only[Act.put,o5,F6,amc]
     refine wpAnyH_ready (rs:=[8]) (by kernel_rfl) (by simp) ?_;refine AllReadyH.cons rfl (λK W=>?_) AllReadyH.nil;go_simp
     refine HU.mono ?_;rintro r3 X ⟨rfl,hoff3,Y,hcur3⟩;have HS3':=HWr.out.drawn HP.out hoff3 Y hcur3;have Q:X.heap[b]?=some (.cells arr' E' (0,0)):=(hoff3.block b (by have:=HP.out.f b hFb;have:=HLW.out;rw[hlr];omega) (by have:=HP.out.f b hFb;omega)).trans HBH.out;have I:X.heap[rb]?=some (.cells arr E (0,0)):=(hoff3.block rb (by have:=HP.out.f rb hFrb;have:=HLW.out;rw[hlr];omega) (by have:=HP.out.f rb hFrb;omega)).trans HRB.out.1;have J:X.cell? ⟨w1.heap.size,6,none⟩=some (.slice (some ⟨rb,0,none⟩) r.2.rows.length rc)/\X.cell? ⟨rb,dn.length*2,none⟩=some (.slice (some ⟨b,0,none⟩) row.cells.length g):=⟨fA (i:=6) HS3'.box rfl,(fA I HRB.out.2.1).trans (by rw[<- HRB.out.2.2])⟩;have h3c:X.cell? ⟨b,dk.length,none⟩=some arr'[dk.length]:=fA Q (Array.getElem?_eq_getElem hksz);have h3f:=LY dk.length Q;have HS4':=HS3'.put (k:=dk.length) (n:=B.2) HP.out hFb Q (λw' k1 k2=>HSET.out B.2 w' (λc hc U=>(k1 c hc U).trans (hoff3.block c (by have:=HP.out.f c hc;have:=HLW.out;rw[hlr];omega) (by have:=HP.out.f c hc;omega))) k2);have hS4:(X.setCell ⟨b,dk.length,none⟩ (.int .i64 B.2)).cell? ⟨w1.heap.size,6,none⟩=some (.slice (some ⟨rb,0,none⟩) r.2.rows.length rc)/\(X.setCell ⟨b,dk.length,none⟩ (.int .i64 B.2)).cell? ⟨rb,dn.length*2,none⟩=some (.slice (some ⟨b,0,none⟩) row.cells.length g):=⟨fA (i:=6) HS4'.box rfl,(fA ((Below.heap_setCell _ _ _ _ (Ne.symm hbr)).trans I) HRB.out.2.1).trans (by rw[<- HRB.out.2.2])⟩;have HS4:Hid (zo w1 (X.setCell ⟨b,dk.length,none⟩ (.int .i64 B.2)) S bb w1.heap.size B.1 r.2 (dn++aB.mk ((dk++[B.2])++rk') row.orig::rest') (.slice la r.2.list.length lc) (.slice ca r.2.columns.length cc) (.slice (some ⟨rb,0,none⟩) r.2.rows.length rc) O):=by
      have e:(dn++aB.mk (dk++c0::rk') row.orig::rest').set dn.length (Ip (aB.mk (dk++c0::rk') row.orig) dk.length B.2)=dn++aB.mk ((dk++[B.2])++rk') row.orig::rest':=by
       simp[Ip,List.set_append]
      rw[<- e];exact HS4'
     clear HS3' HS4' hoff3 Y hcur3 Q I HU;refine W.out _ _ J (λ_=>?_);clear W K;refine wpAnyH_ready (rs:=[9]) (by kernel_rfl) (by simp) ?_;refine AllReadyH.cons rfl (λK W=>?_) AllReadyH.nil;go_simp
     refine W.out _ _ J (λ_=>?_);clear W K;refine wpAnyH_ready (rs:=[10]) (by kernel_rfl) (by simp) ?_;refine AllReadyH.cons rfl (λK W=>?_) AllReadyH.nil;go_simp
     refine W.out _ _ hS4 (λ_=>?_);clear W K;refine wpAnyH_done (by kernel_rfl) ?_ _;go_wp2_with fail
     go_roundw
     case rel=>exact⟨dk++[B.2],rk',B.1,y1,m,by first | go_num | simp,by simp at hlen2 ⊢<;>omega,⟨HY1.out,HZ2.out.1,by simpa using HZ2.out.2⟩,HS4⟩
     case measure=>simp[intOf];omega
    ·obtain rfl:rk=[]:=by
      cases rk with
      | nil=>rfl
      | cons a b=>simp at hlen2;omega
     have H:=HZ.out.1;simp only[mZ,zD]at H;subst H;have HZ2:Hid (lV cur2 rest'=some m/\q=(m.1,(dn++[aB.mk dk row.orig])++m.2)):=⟨HZ.out.2.1,by have:=HZ.out.2.2;simpa using this⟩;have HS2:Hid (zo w1 wr S bb w1.heap.size cur2 r.2 ((dn++[aB.mk dk row.orig])++rest') (.slice la r.2.list.length lc) (.slice ca r.2.columns.length cc) (.slice (some ⟨rb,0,none⟩) r.2.rows.length rc) O):=by
      have e:dn++aB.mk (dk++[]) row.orig::rest'=(dn++[aB.mk dk row.orig])++rest':=by simp
      rw[<- e];exact HS.out
     clear HS HZ l t hcap elen hi hk;go_wp2_with fail
     go_roundw
     case rel=>exact⟨dn++[aB.mk dk row.orig],rest',cur2,m,by first | go_num | simp,by simp at hlen ⊢<;>omega,HZ2,HS2⟩
     case measure=>simp[intOf];omega
  ·obtain rfl:rest=[]:=by
    cases rest with
    | nil=>rfl
    | cons a b=>simp at hlen;omega
   have hrl:=HZ.out.1;simp only[lV,zD]at hrl;subst hrl;have hq2:=HZ.out.2;simp only[amA]at hq2;subst hq2;have HS2:Hid (zo w1 wr S bb w1.heap.size cur r.2 dn (.slice la r.2.list.length lc) (.slice ca r.2.columns.length cc) (.slice ra r.2.rows.length rc) O):=by
    have:=HS.out;rwa [amA]at this
   clear HS HZ;have k0:=fA (i:=0) HS2.out.box rfl;have k1:=fA (i:=1) HS2.out.box rfl;have k2:=fA (i:=2) HS2.out.box rfl;have k3:=fA (i:=3) HS2.out.box rfl;have k4:=fA (i:=4) HS2.out.box rfl;have k5:=fA (i:=5) HS2.out.box rfl;go_wp2_with fail
   have hoff:=HS2.out.off;have hsz:=hoff.size;have hg:=HS2.out.lt;have r4:Own wr (.list (.base .val) r.2.list) (.slice la r.2.list.length lc) F4:=H4.out.move (λ_ _ q=>q.elim) λc hc=>hoff.block c (HF.out c (.inl hc)).2 (by
    have:=HF.out c (.inl hc);simp at this;rintro (q | q)
    ·omega
    ·exact (HD.out c q).1 hc)
   have r5:Own wr (.list (.base .str) r.2.columns) (.slice ca r.2.columns.length cc) F5:=H5.out.move (λ_ _ q=>q.elim) λc hc=>hoff.block c (HF.out c (.inr (.inl hc))).2 (by
    have:=HF.out c (.inr (.inl hc));simp at this;rintro (q | q)
    ·omega
    ·exact (HD.out c q).2 hc)
   have HT:=agR hz1 (aaR HAM.out N HP.out HO.out hoff) r4 r5 HS2.out.tree (λc hc=>by have:=(HF.out c hc).2;omega);have hz0:wr.heap[w.heap.size]?=some (.cells YS 38 (0,0)):=(hoff.block w.heap.size (by omega) (by
    rintro (q | q)
    ·omega
    ·have h1:(w.alloc (.cells YS 38 (0,0))).heap.size=w.heap.size+1:=by simp
     have h2:=(HF.out _ (.inr (.inr q))).1;omega)).trans ((HO.out.block w.heap.size (by simp) (by omega)).trans Array.getElem?_push_size)
   refine Calls.mono HT ?_;rintro e w3 ⟨lv',cv',rv',S3,rfl,hB3,L,J⟩;obtain⟨p1,l1,rfl⟩:=Hr L.2.2.2.2.1;obtain⟨p2,l2,rfl⟩:=Hr L.2.2.2.2.2.1;obtain⟨p3,l3,rfl⟩:=Hr L.2.2.2.2.2.2.1;have j:w3.heap[w.heap.size]?=some (.cells YS 38 (0,0)):=(hB3.block w.heap.size (by omega)).trans hz0;have z0:=fA (i:=0) j rfl;have z1:=fA (i:=1) j rfl;have F:=fA (i:=2) j rfl;have m:=fA (i:=3) j rfl;have z4:=fA (i:=4) j rfl;have z5:=fA (i:=5) j rfl;have z6:=fA (i:=6) j rfl;have zf:=λi=>LY i j
   have HB3:Hid _:=hB3;have HC3:Hid _:=L;have HS3:Hid _:=J;have HZ3:Hid _:=j;have HSZ:Hid _:=hsz;have HG:Hid _:=hg;clear hB3 L J j hz0 HT r4 r5 hoff hsz hg k0 k1 k2 k3 k4 k5 hbox;rename_i hK3;refine hK3 _ _ ?_;clear hK3;go_wp2_with fail
   refine bodyPost_ret (results_cell_row rfl _ _ w.heap.size 38 _ (0,0) _ rfl (agQ HZ3.out _ _ _ _ _ _ _) Tryz.underlying38 rfl adX) rfl ?_;have hsz:w1.heap.size<=wr.heap.size:=HSZ.out;have hg:w1.heap.size<wr.heap.size:=HG.out;have hs3:wr.heap.size<=w3.heap.size:=HB3.out.size;have hbig:w.heap.size<wr.heap.size:=by omega
   have hwa:(w.alloc (.cells YS 38 (0,0))).heap.size=w.heap.size+1:=by simp
   have hnF:∀k,k<=w.heap.size->k≠bb->¬(k=bb\/O k):=λk hk hn=>by
    rintro (q | q)
    ·exact hn q
    ·have h2:=(HF.out _ (.inr (.inr q))).1;omega
   refine⟨_,_,_,rfl,⟨?_,?_,?_,?_,λk hk U=>?_⟩,?_,?_,S3,aV.imp (R:=λ_ d u=>Rep w3 S3 d u) (λi d u h=>h.move λb o A=>⟨A,World.cell?_of_block (EN _ _ _ _ _ _ _ (by have:=(HS3.out b o A).1;show b≠w.heap.size;omega))⟩) HC3.out,λb o A=>⟨by have:=(HS3.out b o A).1;omega,by rw[(vP w3 w.heap.size _ _ _ _ _ _ _).2.2.2];exact (HS3.out b o A).2⟩⟩
   ·exact (vP w3 w.heap.size _ _ _ _ _ _ _).1.trans (HB3.out.os.trans (HS2.out.off.os.trans HO.out.os))
   ·exact (vP w3 w.heap.size _ _ _ _ _ _ _).2.1.trans (HB3.out.tape.trans (HS2.out.off.tape.trans HO.out.tape))
   ·exact (vP w3 w.heap.size _ _ _ _ _ _ _).2.2.1.trans (HB3.out.output.trans (HS2.out.off.output.trans HO.out.output))
   ·rw[(vP w3 w.heap.size _ _ _ _ _ _ _).2.2.2];omega
   ·exact (EN _ _ _ _ _ _ _ (by omega)).trans ((HB3.out.block k (by omega)).trans ((HS2.out.off.block k (by omega) (hnF k (by omega) U)).trans ((HO.out.block k (by omega) U).trans (Below.heap_alloc w _ k hk))))
   ·have e0:jv w w1 bb:=λvs0 E0 h0=>HK.out vs0 E0 ((Below.heap_alloc w _ bb Z).trans h0)
    exact ((e0.trans HS2.out.keep).same (HB3.out.block bb (by omega))).same (EN _ _ _ _ _ _ _ (by omega))
   ·refine xI.move (w:=wr) (T:=λb o=>S b o\/w1.heap.size<b) HS2.out.cur ((EN _ _ _ _ _ _ _ (by omega)).trans (HB3.out.block bb (by omega))) (λb o x P=>⟨x.imp id λq=>by omega,(EN _ _ _ _ _ _ _ ?_).trans (HB3.out.block b P)⟩) (by rw[(vP w3 w.heap.size _ _ _ _ _ _ _).2.2.2];omega);rcases x with x | x
    ·have:=(hS b o x).1;omega
    ·omega
theorem JP:jw Tryz.prog Wv:=by
 intro w S bb vs Et args x y h n f p g s;rcases args with _ | ⟨u,_ | ⟨B,r⟩⟩
 ·exact g.2.elim
 ·obtain⟨⟨c,e,hc⟩,j,_⟩:=g;injection e with e;obtain rfl:c=vs:=(List.toArray_inj e).symm;have j:=aaQ j;subst j;refine (adW x.1 x.2 y h w S bb c Et n f p hc s).mono ?_;rintro e w' ⟨lv,cv,rv,S',rfl,hoff,k,⟨t,vs',Et',v,z,l⟩,A,m⟩;refine⟨_,rfl,hoff,k,λb o=>t b o\/S' b o,vs',Et',[_],rfl,v,z.imp λi d u h=>h.move λb o a=>⟨.inl a,rfl⟩,⟨_,rfl,A.imp λi d u h=>h.move λb o a=>⟨.inr a,rfl⟩⟩,λb o a=>?_⟩;rcases a with a | a
  ·exact⟨(l b o a).1.imp id λq=>⟨rfl,q⟩,(l b o a).2⟩
  ·exact⟨.inr ⟨rfl,(m b o a).1⟩,(m b o a).2⟩
 ·exact g.2.elim
