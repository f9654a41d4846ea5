import Derived.Test.YtjbajpfonnnfoaaGreatDoorDen0
import Derived.StillTailTactics
set_option linter.unusedSimpArgs false
set_option linter.unusedVariables false
/- What l10Call and l1PickExpr hand back. -/
namespace Go.Proofs.YtjbajpfonnnfoaaGreatDoor
open Go.Abs Go.Proofs Go.RowKit
theorem UO:(Tryz.prog.info? 26).map (·.size)=some 4:=by kernel_rfl
set_option maxHeartbeats 4000000 in
set_option maxRecDepth 100000 in
theorem yV:PW Tryz.prog { fid:=57,n:=2,tm:=[.inl 5,.inl 0,.inr 0,.inr 1] }:=by
 intro w us h e;match us,h with
 | [b,c],_=>
  have f:=e b (by simp);have g:=e c (by simp);have c0:b.cells = #[b]:=by cases b<;>first | rfl | cases f
  have c1:c.cells = #[c]:=by cases c<;>first | rfl | cases g
  unfold Value.cells at c0 c1;go_enter Tryz.func57,Tryz.ntmps57
  go_wp2
  all_goals (try simp only[c0,c1]at *)
  have s0:=λW a m=>run_store Tryz.prog W a b m f
  have i:=λW a m=>run_store Tryz.prog W a c m g
  simp only[s0];go_simp
  rename_i d;refine d _ _ ?_;go_wp2
  exact bodyPost_ret (results_cell_row rfl _ _ w.heap.size 26 #[.int .i64 5,.int .i64 0,b,c] (0,0) _ rfl Array.getElem?_push_size Tryz.underlying26 rfl UO) rfl ⟨rfl,(Below.refl _ _).alloc (aD _) _⟩
theorem jf{W:World}{g i:Nat}{cs:Array Value}{E:TypeId}{v:Value}(h:W.heap[g]?=some (.cells cs E (0,0)))(hi:cs[i]?=some v):W.cell? ⟨g,i,none⟩=some v:=by
 simp[World.cell?,h,hi]
theorem RI{W:World}{g:Nat}{cs:Array Value}{E:TypeId}(i:Nat)(h:W.heap[g]?=some (.cells cs E (0,0))):W.frozen? ⟨g,i,none⟩=false:=by
 unfold World.frozen?;simp only[h];simp
theorem ahj{w:World}{S:Nat->Nat->Prop}{b:Bool}{u:Value}(h:Rep w S (.bool b) u):u=.bool b:=by
 generalize a:D.bool b=d at h;cases h with
 | bool c=>cases a;rfl
 | int=>cases a
 | str=>cases a
 | nil=>cases a
 | emp=>cases a
 | list=>cases a
theorem aeO{W:World}{g:Nat}{E:TypeId}{f j k l:Value}(h:W.heap[g]?=some (.cells #[f,j,k,l] E (0,0)))(a b c d:Value) :
  ((((W.setCell ⟨g,0,none⟩ a).setCell ⟨g,1,none⟩ b).setCell ⟨g,2,none⟩ c).setCell ⟨g,3,none⟩ d).heap[g]?=some (.cells #[a,b,c,d] E (0,0)):=by
 have one:∀ {W:World} {cs:Array Value} {i:Nat} {v:Value},W.heap[g]?=some (.cells cs E (0,0))->(W.setCell ⟨g,i,none⟩ v).heap[g]?=some (.cells (cs.setIfInBounds i v) E (0,0)):=λ{W cs i v} h=>by
  show (W.heap.modify g _)[g]?=_
  rw[Array.getElem?_modify,if_pos rfl,h];rfl
 have e:=one (i:=3) (v:=d) (one (i:=2) (v:=c) (one (i:=1) (v:=b) (one (i:=0) (v:=a) h)));rw[e];rfl
theorem akG{W:World}{g b:Nat}(a c d e:Value)(h:b≠g) :
  ((((W.setCell ⟨g,0,none⟩ a).setCell ⟨g,1,none⟩ c).setCell ⟨g,2,none⟩ d).setCell ⟨g,3,none⟩ e).heap[b]?=W.heap[b]?:=by
 have one:∀(W:World) (i:Nat) (v:Value),(W.setCell ⟨g,i,none⟩ v).heap[b]?=W.heap[b]?:=λW i v=>by
  show (W.heap.modify g _)[b]?=_
  rw[Array.getElem?_modify,if_neg (Ne.symm h)]
 rw[one,one,one,one]
abbrev NC:Array Value:=#[.int .i64 0,.int .i64 0,.string ⟨#[]⟩,.slice none 0 0]
abbrev pkW(w:World)(va vb:Array Value):World:=((w.alloc (.cells va 26)).alloc (.cells vb 26)).alloc (.cells NC 26)
theorem UQ(w:World)(va vb:Array Value){b:Nat}(h:b<w.heap.size):(pkW w va vb).heap[b]?=w.heap[b]?:=by
 have a:=Below.heap_alloc (w.alloc (.cells va 26)) (.cells vb 26) b (by simp;omega);have c:=Below.heap_alloc ((w.alloc (.cells va 26)).alloc (.cells vb 26)) (.cells NC 26) b (by simp;omega);exact c.trans (a.trans (Below.heap_alloc w _ b h))
theorem aeP(w:World)(va vb:Array Value):(pkW w va vb).heap.size=w.heap.size+3:=by simp
theorem acG(w:World)(va vb:Array Value):Below w.heap.size w (pkW w va vb):=
 (((Below.refl _ w).alloc (aD _) _).alloc (by simp) _).alloc (by simp;omega) _
theorem alI(w:World)(va vb:Array Value):(pkW w va vb).heap[w.heap.size]?=some (.cells va 26):=by
 have a:=Below.heap_alloc (w.alloc (.cells va 26)) (.cells vb 26) w.heap.size (by simp);have b:=Below.heap_alloc ((w.alloc (.cells va 26)).alloc (.cells vb 26)) (.cells NC 26) w.heap.size (by simp;omega);exact b.trans (a.trans Array.getElem?_push_size)
theorem alH(w:World)(va vb:Array Value):(pkW w va vb).heap[w.heap.size+1]?=some (.cells vb 26):=by
 have a:(w.alloc (.cells va 26)).heap.size=w.heap.size+1:=by simp
 have b:=Below.heap_alloc ((w.alloc (.cells va 26)).alloc (.cells vb 26)) (.cells NC 26) (w.heap.size+1) (by simp);refine b.trans ?_;rw[<- a];exact Array.getElem?_push_size
theorem alG(w:World)(va vb:Array Value):(pkW w va vb).heap[w.heap.size+1+1]?=some (.cells NC 26):=by
 have a:((w.alloc (.cells va 26)).alloc (.cells vb 26)).heap.size=w.heap.size+1+1:=by simp
 rw[<- a];exact Array.getElem?_push_size
theorem acN(j:jw Tryz.prog Hy){w:World}{S:Nat->Nat->Prop}{bb:Nat}{vs:List Value}{Et:TypeId}{x:aS}{y:aS×Bool}(k:dP x 2=some y)(l:amb w)(f:nT<=bb)
  (m:w.heap[bb]?=some (.cells vs.toArray Et (0,0))) (n:aV (λ_ d u=>Rep w S d u) 0 ((Ty.base .cur).cells x) vs) (p:∀b o,S b o->b<w.heap.size/\b≠bb) :
  Calls Tryz.prog 21 #[.pointer (some ⟨bb,0,none⟩),.int .i64 2] w λe w'=>e=.returned (.bool y.2)/\jJ (λc=>c=bb) w.heap.size w w'/\jv w w' bb /\
   ∃(S':Nat->Nat->Prop) (vs':List Value) (Et':TypeId),w'.heap[bb]?=some (.cells vs'.toArray Et' (0,0))/\aV (λ_ d u=>Rep w' S' d u) 0 ((Ty.base .cur).cells y.1) vs'/\∀b o,S' b o->(S b o\/w.heap.size<=b)/\b<w'.heap.size:=by
 refine (j w S bb vs Et [.int .i64 2] (x,(2:Int)) y k l f m ⟨⟨vs,rfl,n⟩,Rep.int _ _,trivial⟩ p).mono ?_;rintro e w' ⟨v,rfl,hoff,g,S',vs',Et',us,rfl,hh,hc,h,a⟩;refine⟨?_,hoff,g,S',vs',Et',hh,hc,λb o i=>⟨(a b o i).1.imp id And.right,(a b o i).2⟩⟩;rcases us with _ | ⟨u,_ | ⟨r,q⟩⟩
 ·exact h.elim
 ·have:u=.bool y.2:=ahj (w:=w') (S:=S') h.1;rw[this];rfl
 ·exact h.elim
set_option maxHeartbeats 4000000 in
set_option maxRecDepth 100000 in
theorem pick_walk(hO:jw Tryz.prog Hy)(w:World)(S:Nat->Nat->Prop)(bb:Nat)(vs:List Value)(Et:TypeId)(a0 f g j l n r s:Value)(x:aS)(y:aS×Bool)(hy:dP x 2=some y)(ha:amb w)(N:nT<=bb)
  (D:w.heap[bb]?=some (.cells vs.toArray Et (0,0))) (hr:aV (λ_ d u=>Rep w S d u) 0 ((Ty.base .cur).cells x) vs) (I:∀b o,S b o->b<w.heap.size/\b≠bb)
  (O:a0.oneCell'=true) (P:f.oneCell'=true) (Q:g.oneCell'=true) (R:j.oneCell'=true) (T:l.oneCell'=true) (U:n.oneCell'=true) (V:r.oneCell'=true) (X:s.oneCell'=true) :
  Calls Tryz.prog 150 #[.pointer (some ⟨bb,0,none⟩),.agg #[a0,f,g,j],.agg #[l,n,r,s]] w λe w'=>e=.returned (.agg (bif y.2 then #[a0,f,g,j]else #[l,n,r,s]))/\jJ (λc=>c=bb) w.heap.size w w'/\jv w w' bb /\
   ∃(S':Nat->Nat->Prop) (vs':List Value) (Et':TypeId),w'.heap[bb]?=some (.cells vs'.toArray Et' (0,0))/\aV (λ_ d u=>Rep w' S' d u) 0 ((Ty.base .cur).cells y.1) vs'/\∀b o,S' b o->(S b o\/w.heap.size<=b)/\b<w'.heap.size:=by
 have E:bb<w.heap.size:=(a6.1 D).1;have z:=acG w #[a0,f,g,j] #[l,n,r,s];have hcall:=acN hO (w:=pkW w #[a0,f,g,j] #[l,n,r,s]) (S:=S) hy (ha.keep z.size λk hk=>z.block k (aL hk ha.size)) N ((UQ w _ _ E).trans D)
  (hr.imp λi d u h=>h.move λb o v=>⟨v,z.cell (p:=⟨b,o,none⟩) (I b o v).1⟩) (λb o v=>⟨aL (I b o v).1 z.size,(I b o v).2⟩)
 have done:∀(w1:World) (J K L M:Value),jJ (λc=>c=bb) (pkW w #[a0,f,g,j] #[l,n,r,s]).heap.size (pkW w #[a0,f,g,j] #[l,n,r,s]) w1->jv (pkW w #[a0,f,g,j] #[l,n,r,s]) w1 bb ->
   (∃(S':Nat->Nat->Prop) (vs':List Value) (Et':TypeId),w1.heap[bb]?=some (.cells vs'.toArray Et' (0,0))/\aV (λ_ d u=>Rep w1 S' d u) 0 ((Ty.base .cur).cells y.1) vs'/\∀b o,S' b o->(S b o\/(pkW w #[a0,f,g,j] #[l,n,r,s]).heap.size<=b)/\b<w1.heap.size) ->
   ∀w',w'=((((w1.setCell ⟨w.heap.size+1+1,0,none⟩ J).setCell ⟨w.heap.size+1+1,1,none⟩ K).setCell ⟨w.heap.size+1+1,2,none⟩ L).setCell ⟨w.heap.size+1+1,3,none⟩ M) ->
   jJ (λc=>c=bb) w.heap.size w w'/\jv w w' bb /\
   ∃(S':Nat->Nat->Prop) (vs':List Value) (Et':TypeId),w'.heap[bb]?=some (.cells vs'.toArray Et' (0,0))/\aV (λ_ d u=>Rep w' S' d u) 0 ((Ty.base .cur).cells y.1) vs'/\∀b o,S' b o->(S b o\/w.heap.size<=b)/\b<w'.heap.size:=by
  rintro w1 J K L M hoff A ⟨S',vs',Et',hh,hc,B⟩ w' rfl;have hsz:=aeP w #[a0,f,g,j] #[l,n,r,s];have hfar:∀b,b≠w.heap.size+1+1->((((w1.setCell ⟨w.heap.size+1+1,0,none⟩ J).setCell ⟨w.heap.size+1+1,1,none⟩ K).setCell ⟨w.heap.size+1+1,2,none⟩ L).setCell ⟨w.heap.size+1+1,3,none⟩ M).heap[b]?=w1.heap[b]?:=λb D=>akG J K L M D
  have hs1:=hoff.size;refine⟨⟨hoff.os,hoff.tape,hoff.output,by simp[World.setCell];omega,λk hk hf=>?_⟩,?_,S',vs',Et',(hfar bb (by omega)).trans hh,hc.imp λi d u h=>h.move λb o v=>⟨v,?_⟩,λb o v=>⟨(B b o v).1.imp id λq=>by omega,by have:=(B b o v).2;simpa [World.setCell] using this⟩⟩
  ·exact (hfar k (by omega)).trans ((hoff.block k (by omega) hf).trans (UQ w _ _ hk))
  ·refine jv.same ?_ (hfar bb (by omega));intro Y E0 h0;exact A Y E0 ((UQ w _ _ E).trans h0)
  ·refine World.cell?_of_block (w:=w1) (hfar b ?_);rcases (B b o v).1 with q | q
   ·have:=(I b o q).1;omega
   ·omega
 have HC:Hid _:=hcall;have HD:Hid _:=done;clear hcall done hr D;go_enter Tryz.func150,Tryz.ntmps150
 go_wp2_with fail
 refine Calls.mono HC.out ?_;rintro e w1 ⟨rfl,hoff,A,F⟩;have G:=(hoff.block w.heap.size (by simp;omega) (by omega)).trans (alI w _ _);have H:=(hoff.block (w.heap.size+1) (by simp) (by omega)).trans (alH w _ _);have p2:=(hoff.block (w.heap.size+1+1) (by simp) (by omega)).trans (alG w _ _);have HOf:Hid _:=hoff;have HKl:Hid _:=A;have HEx:Hid _:=F;clear hoff A F;rename_i Z;refine Z _ _ ?_;have q0:=jf (i:=0) G rfl;have q1:=jf (i:=1) G rfl;have q2:=jf (i:=2) G rfl;have q3:=jf (i:=3) G rfl;have r0:=jf (i:=0) H rfl;have r1:=jf (i:=1) H rfl;have r2:=jf (i:=2) H rfl;have r3:=jf (i:=3) H rfl;have t:Hid _:=p2;clear G H p2;go_wp2
 ·have s0:=λW a m=>run_store Tryz.prog W a a0 m O
  have s1:=λW a m=>run_store Tryz.prog W a f m P
  have s2:=λW a m=>run_store Tryz.prog W a g m Q
  have s3:=λW a m=>run_store Tryz.prog W a j m R
  have z0:=jf (i:=0) t.out rfl;have z1:=jf (i:=1) t.out rfl;have z2:=jf (i:=2) t.out rfl;have z3:=jf (i:=3) t.out rfl;have zf:=λi=>RI i t.out
  simp only[s0];go_simp
  rename_i C;refine C _ _ ?_;go_wp2
  exact bodyPost_ret (results_cell_row rfl _ _ (w.heap.size+1+1) 26 #[a0,f,g,j] (0,0) _ rfl (aeO t.out _ _ _ _) Tryz.underlying26 rfl UO) rfl ⟨by simp_all,HD.out _ _ _ _ _ HOf.out HKl.out HEx.out _ rfl⟩
 ·have s0:=λW a m=>run_store Tryz.prog W a l m T
  have s1:=λW a m=>run_store Tryz.prog W a n m U
  have s2:=λW a m=>run_store Tryz.prog W a r m V
  have s3:=λW a m=>run_store Tryz.prog W a s m X
  have z0:=jf (i:=0) t.out rfl;have z1:=jf (i:=1) t.out rfl;have z2:=jf (i:=2) t.out rfl;have z3:=jf (i:=3) t.out rfl;have zf:=λi=>RI i t.out
  simp only[s0];go_simp
  rename_i C;refine C _ _ ?_;go_wp2
  exact bodyPost_ret (results_cell_row rfl _ _ (w.heap.size+1+1) 26 #[l,n,r,s] (0,0) _ rfl (aeO t.out _ _ _ _) Tryz.underlying26 rfl UO) rfl ⟨by simp_all,HD.out _ _ _ _ _ HOf.out HKl.out HEx.out _ rfl⟩
theorem rF:PY Tryz.prog { fid:=150,c:=⟨true,.base .cur⟩,n:=4,fn:=λx=>dP x 2 }:=by
 intro w S bb vs Et us us' x y i j f k l m o g d a;match us,o,us',g with
 | [a0,p,q,r],_,[s,t,u,v],_=>
  obtain⟨b,e,hc⟩:=l;injection e with e;obtain rfl:b=vs:=(List.toArray_inj e).symm;refine (pick_walk Dl w S bb b Et a0 p q r s t u v x y i j f k hc m (d _ (by simp)) (d _ (by simp)) (d _ (by simp)) (d _ (by simp)) (a _ (by simp)) (a _ (by simp)) (a _ (by simp)) (a _ (by simp))).mono ?_;rintro e w' ⟨rfl,h⟩;refine⟨?_,h⟩;cases y.2<;>rfl
