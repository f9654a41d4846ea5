import Derived.Test.YtjbajpfonnnfoaaGreatDoorDen3
import Derived.Test.YtjbajpfonnnfoaaGreatDoorGrp0
import Derived.StillTailTactics
import Derived.Deep.RegionHeld
set_option linter.unusedSimpArgs false
set_option linter.unusedVariables false
/- The walk over impl.GroupSum. -/
namespace Go.Proofs.YtjbajpfonnnfoaaGreatDoor
open Go.Abs Go.Proofs Go.Shelf Go.RowKit Go.Lib Go.Sort
def oN(w:World)(S:Nat->Nat->Prop)(x:af)(lv cv rv:Value):Prop:=Rep w S (.list (.base .val) x.list) lv/\Rep w S (.list (.base .str) x.columns) cv/\Rep w S (.list (.base .row) x.rows) rv
abbrev lC(x:af)(lv cv rv:Value):List Value:=[.int .i64 x.kind,.int .i64 x.n,.int .i64 x.step,.string ⟨x.text.toArray⟩,lv,cv,rv]
theorem EI{w:World}{S:Nat->Nat->Prop}{x:af}{cs:List Value}{n:Nat}(h:aV (λ_ d u=>Rep w S d u) n ((Ty.base .val).cells x) cs):∃lv cv rv,cs=lC x lv cv rv/\oN w S x lv cv rv:=by
 match cs,h with
 | [a,b,c,d,e,f,g],h=>
  obtain⟨i,j,k,l,m,o,p,_⟩:=h;refine⟨e,f,g,?_,m,o,p⟩;have q:=oV i;have r:=oV j;have s:=oV k;have t:=xY l;subst q;subst r;subst s;subst t;rfl
theorem oN.cells{w:World}{S:Nat->Nat->Prop}{x:af}{lv cv rv:Value}(h:oN w S x lv cv rv)(n:Nat):aV (λ_ d u=>Rep w S d u) n ((Ty.base .val).cells x) (lC x lv cv rv):=
 ⟨Rep.int _ _,Rep.int _ _,Rep.int _ _,Rep.str ⟨x.text.toArray⟩,h.1,h.2.1,h.2.2,trivial⟩
theorem oN.move{w w':World}{S S':Nat->Nat->Prop}{x:af}{lv cv rv:Value}(h:oN w S x lv cv rv)(a:∀b o,S b o->S' b o/\w'.cell? ⟨b,o,none⟩=w.cell? ⟨b,o,none⟩):oN w' S' x lv cv rv:=
 ⟨h.1.move a,h.2.1.move a,h.2.2.move a⟩
theorem SX{w:World}{S':Nat->Nat->Prop}{fps:Nat->Nat->Prop}(hf:∀i c o,fps i c->S' c o):∀(ds:List D) (n:Nat) (vs:List Value),aV (λi d u=>Ow w (λ_ _=>False) true d u (fps i)) n ds vs->aV (λ_ d u=>Rep w S' d u) n ds vs
 | [],_,[],_=>trivial
 | d::ds,n,v::vs,h=>⟨h.1.Jl (λ_ _ q=>q.elim) λb o a _=>hf n b o a,SX hf ds (n+1) vs h.2⟩
theorem jU{w w':World}(h:amb w)(a:Below w.heap.size w w'):amb w':=amb.keep h a.size λk hk=>a.block k (aL hk h.size)
theorem Yb{n:Int}{e:af}(h:aI n=some e){w:World}(d:amb w):Calls Tryz.prog 29 #[.int .i64 n] w λr w'=>∃lv cv rv,r=.returned (.agg (lC e lv cv rv).toArray)/\Below w.heap.size w w'/\oN w' (λb _=>w.heap.size<=b/\b<w'.heap.size) e lv cv rv:=by
 refine (uI w (λ_ _=>False) [.int .i64 n] n e h d ⟨Rep.int _ _,trivial⟩ (λ_ _ q=>q.elim)).mono ?_;rintro r w' ⟨v,rfl,f,us,rfl,fps,a,hf,_⟩;rcases us with _ | ⟨u,_ | ⟨g,q⟩⟩
 ·exact a.elim
 ·obtain⟨vs,rfl,hc⟩:=a;obtain⟨lv,cv,rv,rfl,hv⟩:=EI (SX (S':=λb _=>w.heap.size<=b/\b<w'.heap.size) (λi c _ hc=>hf i c hc) _ _ _ hc);exact⟨lv,cv,rv,rfl,f,hv⟩
 ·exact a.elim
theorem ahl{w:World}{b:Bool}{u:Value}{fp:Nat->Prop}(h:Ow w (λ_ _=>False) true (.bool b) u fp):u=.bool b:=by
 generalize a:D.bool b=d at h;cases h with
 | bool c=>cases a;rfl
 | ro d v fp e h=>cases e
 | int=>cases a
 | str=>cases a
 | nil=>cases a
 | list=>cases a
theorem akI{w:World}{k:IntKind}{n:Int}{u:Value}{fp:Nat->Prop}(h:Ow w (λ_ _=>False) true (.int k n) u fp):u=.int k n:=by
 generalize a:D.int k n=d at h;cases h with
 | int=>cases a;rfl
 | ro d v fp b h=>cases b
 | bool c=>cases a
 | str=>cases a
 | nil=>cases a
 | list=>cases a
theorem Xo{n:Int}{b:Bool}(h:fO n=some b){w:World}(c:amb w):Calls Tryz.prog 157 #[.int .i64 n] w λr w'=>r=.returned (.bool b)/\Below w.heap.size w w':=by
 refine (y9 w (λ_ _=>False) [.int .i64 n] n b h c ⟨Rep.int _ _,trivial⟩ (λ_ _ q=>q.elim)).mono ?_;rintro r w' ⟨v,rfl,d,us,rfl,fps,a,hf,_⟩;rcases us with _ | ⟨u,_ | ⟨e,q⟩⟩
 ·exact a.elim
 ·have:=ahl a.1;subst this;exact⟨rfl,d⟩
 ·exact a.elim
theorem GH{x:af}{s:Str}{i:Int}(h:dL x s=some i){w:World}{S:Nat->Nat->Prop}(c:∀b o,S b o->b<w.heap.size)(d:amb w){lv cv rv:Value}(hv:oN w S x lv cv rv) :
  Calls Tryz.prog 200 #[.agg (lC x lv cv rv).toArray,.string ⟨s.toArray⟩] w λr w'=>r=.returned (.int .i64 i)/\Below w.heap.size w w':=by
 refine (sQ w S [.agg (lC x lv cv rv).toArray,.string ⟨s.toArray⟩] (x,s) i h d ⟨⟨_,rfl,hv.cells _⟩,⟨Rep.str ⟨s.toArray⟩,trivial⟩⟩ c).mono ?_;rintro r w' ⟨v,rfl,e,us,rfl,fps,a,hf,_⟩;rcases us with _ | ⟨u,_ | ⟨f,q⟩⟩
 ·exact a.elim
 ·have:=akI a.1;subst this;exact⟨rfl,e⟩
 ·exact a.elim
theorem LC{a b u:List aj}(h:iJ a b=some u){w:World}{S:Nat->Nat->Prop}(d:∀b o,S b o->b<w.heap.size)(e:amb w){av bv:Value}(f:Rep w S (.list (.base .origin) a) av)(g:Rep w S (.list (.base .origin) b) bv) :
  Calls Tryz.prog 203 #[av,bv] w λr w'=>∃v,r=.returned v/\Below w.heap.size w w'/\Rep w' (λb _=>w.heap.size<=b/\b<w'.heap.size) (.list (.base .origin) u) v:=by
 refine (qA w S [av,bv] (a,b) u h e ⟨⟨f,trivial⟩,⟨g,trivial⟩⟩ d).mono ?_;rintro r w' ⟨v,rfl,i,us,rfl,fps,c,hf,_⟩;rcases us with _ | ⟨u,_ | ⟨k,q⟩⟩
 ·exact c.elim
 ·exact⟨u,rfl,i,c.1.Jl (λ_ _ q=>q.elim) λb o j _=>hf _ b j⟩
 ·exact c.elim
theorem acX{a b c e:af}{bad:Bool}(h:fC [2,2,5] [a,b,c]=some (e,bad)){w w1:World}{S:Nat->Nat->Prop}(B:∀b o,S b o->b<w.heap.size)(F:amb w)(y:Below w.heap.size w w1){la ca ra lb cb rb lc cc rc:Value}
  (va:oN w S a la ca ra) (vb:oN w S b lb cb rb) (vc:oN w S c lc cc rc) {g k:Nat} {G H:TypeId} (I:w.heap.size<=g) (J:w.heap.size<=k)
  (C:w1.heap[g]?=some (.cells #[.int .i64 2,.int .i64 2,.int .i64 5] G (0,0))) (E:w1.heap[k]?=some (.cells (lC a la ca ra++lC b lb cb rb++lC c lc cc rc).toArray H (0,0))) :
  Calls Tryz.prog 172 #[.slice (some ⟨g,0,none⟩) 3 3,.slice (some ⟨k,0,none⟩) 3 3] w1 λr w'=>∃lv cv rv S',r=.returned (.tuple #[.agg (lC e lv cv rv).toArray,.bool bad])/\Below w1.heap.size w1 w'/\oN w' S' e lv cv rv/\∀b o,S' b o->(S b o\/b=g\/b=k\/w1.heap.size<=b)/\b<w'.heap.size:=by
 have K:g<w1.heap.size:=(a6.1 C).1;have L:k<w1.heap.size:=(a6.1 E).1;have mv:∀ {d:D} {v:Value},Rep w S d v->Rep w1 (λb o=>S b o\/b=g\/b=k) d v:=λp=>p.move λb o s=>⟨.inl s,y.cell (B b o s)⟩
 have M:Rep w1 (λb o=>S b o\/b=g\/b=k) (.list (.base .int) [2,2,5]) (.slice (some ⟨g,0,none⟩) 3 3):=by
  refine Rep.list (.base .int) [2,2,5] g 0 3 (λi _=>.int .i64 ([2,2,5].getD i 0)) (aD _) (λi x j d l f=>⟨?_,.inr (.inl rfl)⟩) (λi x j d l f=>?_)
  ·have hi:i<3:=(zC.1 l).1;cases j with
   | succ j=>simp[Ty.cells,Base.cells]at f
   | zero=>
    simp only[World.cell?,C];match i,hi with
    | 0,_=>rfl
    | 1,_=>rfl
    | 2,_=>rfl
  ·cases j with
   | succ j=>simp[Ty.cells,Base.cells]at f
   | zero=>
    simp only[Ty.cells,Base.cells,List.getElem?_cons_zero,zD]at f;subst f;have:([2,2,5]:List Int).getD i 0=x:=by rw[zE,l];rfl
    rw[this];exact Rep.int _ _
 have N:Rep w1 (λb o=>S b o\/b=g\/b=k) (.list (.base .val) [a,b,c]) (.slice (some ⟨k,0,none⟩) 3 3):=by
  have key:∀(i:Nat) (x:af),([a,b,c]:List af)[i]?=some x->∃lx cx rx,oN w S x lx cx rx/\∀j,j<7->(lC a la ca ra++lC b lb cb rb++lC c lc cc rc)[i*7+j]?=(lC x lx cx rx)[j]?:=λi x l=>by
   have hi:i<3:=(zC.1 l).1;match i,hi with
   | 0,_=>cases l;exact⟨_,_,_,va,λj m=>by match j,m with | 0,_=>rfl | 1,_=>rfl | 2,_=>rfl | 3,_=>rfl | 4,_=>rfl | 5,_=>rfl | 6,_=>rfl⟩
   | 1,_=>cases l;exact⟨_,_,_,vb,λj m=>by match j,m with | 0,_=>rfl | 1,_=>rfl | 2,_=>rfl | 3,_=>rfl | 4,_=>rfl | 5,_=>rfl | 6,_=>rfl⟩
   | 2,_=>cases l;exact⟨_,_,_,vc,λj m=>by match j,m with | 0,_=>rfl | 1,_=>rfl | 2,_=>rfl | 3,_=>rfl | 4,_=>rfl | 5,_=>rfl | 6,_=>rfl⟩
  have cl:∀(x:af) (lx cx rx:Value),oN w S x lx cx rx->∀(j:Nat) (d:D),((Ty.base .val).cells x)[j]?=some d->∃v,(lC x lx cx rx)[j]?=some v/\Rep w S d v:=λx lx cx rx hv j d f=>by
   match j with
   | 0=>cases f;exact⟨_,rfl,Rep.int _ _⟩
   | 1=>cases f;exact⟨_,rfl,Rep.int _ _⟩
   | 2=>cases f;exact⟨_,rfl,Rep.int _ _⟩
   | 3=>cases f;exact⟨_,rfl,Rep.str ⟨x.text.toArray⟩⟩
   | 4=>cases f;exact⟨_,rfl,hv.1⟩
   | 5=>cases f;exact⟨_,rfl,hv.2.1⟩
   | 6=>cases f;exact⟨_,rfl,hv.2.2⟩
   | j+7=>simp[Ty.cells,Base.cells]at f
  refine Rep.list (.base .val) [a,b,c] k 0 3 (λi j=>((lC a la ca ra++lC b lb cb rb++lC c lc cc rc)[i*7+j]?).getD undef) (aD _) (λi x j d l f=>⟨?_,.inr (.inr rfl)⟩) (λi x j d l f=>?_)
  ·obtain⟨lx,cx,rx,hv,hk⟩:=key i x l;obtain⟨v,n,_⟩:=cl x lx cx rx hv j d f;have m:j<7:=(zC.1 f).1;have e:0+(i*(Ty.base .val).size+j)=i*7+j:=amw _;rw[e];simp only[World.cell?,E,hk j m,n,Option.getD_some];rw[List.getElem?_toArray,hk j m,n];rfl
  ·obtain⟨lx,cx,rx,hv,hk⟩:=key i x l;obtain⟨v,n,z⟩:=cl x lx cx rx hv j d f;have m:j<7:=(zC.1 f).1;rw[hk j m,n];exact mv z
 refine (wU w1 (λb o=>S b o\/b=g\/b=k) [.slice (some ⟨g,0,none⟩) 3 3,.slice (some ⟨k,0,none⟩) 3 3] ([2,2,5],[a,b,c]) (e,bad) h (jU F y) ⟨⟨M,trivial⟩,⟨N,trivial⟩⟩ (λb o t=>by
  rcases t with t | rfl | rfl
  ·exact aL (B b o t) y.size
  ·exact K
  ·exact L)).mono ?_
 rintro r w' ⟨v,rfl,A,us,rfl,S',p,hf⟩;rcases us with _ | ⟨u,_ | ⟨O,_ | ⟨P,q⟩⟩⟩
 ·exact p.elim
 ·exact p.2.elim
 ·obtain⟨⟨vs,rfl,hc⟩,t⟩:=p;obtain⟨lv,cv,rv,rfl,hv⟩:=EI hc;have:=aeD t.1;subst this;refine⟨lv,cv,rv,S',rfl,A,hv,λb o s=>⟨?_,(hf b o s).2⟩⟩;rcases (hf b o s).1 with (q | rfl | rfl) | q
  ·exact .inl q
  ·exact .inr (.inl rfl)
  ·exact .inr (.inr (.inl rfl))
  ·exact .inr (.inr (.inr q))
 ·exact p.2.elim
theorem lU{w W:World}(h:Below w.heap.size w W)(o:Obj):Below w.heap.size w (W.alloc o):=h.alloc h.size o
theorem xh{W:World}{o:Obj}{g:Nat}(h:W.heap.size=g):(W.alloc o).heap[g]?=some o:=by
 subst h;exact (MapKept.heap_alloc W o).1
theorem aZ{W:World}{o:Obj}{g:Nat}(h:g<W.heap.size):(W.alloc o).heap[g]?=W.heap[g]?:=Below.heap_alloc W o g h
theorem aJ{W:World}{g i:Nat}{cs:Array Value}{E:TypeId}{v:Value}(h:W.heap[g]?=some (.cells cs E (0,0)))(hi:cs[i]?=some v):W.cell? ⟨g,i,none⟩=some v:=by
 simp[World.cell?,h,hi]
theorem iY{W:World}{g i:Nat}{cs:Array Value}{E:TypeId}(h:W.heap[g]?=some (.cells cs E (0,0))):W.frozen? ⟨g,i,none⟩=false:=by
 unfold World.frozen?;simp only[h];simp
abbrev zeroV:Array Value:=#[.int .i64 0,.int .i64 0,.int .i64 0,.string ⟨#[]⟩,.slice none 0 0,.slice none 0 0,.slice none 0 0]
abbrev Jz(w:World)(a b c:af)(la ca ra lb cb rb lc cc rc:Value):World:=
 (((((w.alloc (.cells (lC a la ca ra).toArray 38)).alloc (.cells (lC b lb cb rb).toArray 38)).alloc (.cells (lC c lc cc rc).toArray 38)).alloc (.cells zeroV 38)).alloc (.cells #[.int .i64 2,.int .i64 2,.int .i64 5] 3)).alloc
  (.cells (lC a la ca ra++lC b lb cb rb++lC c lc cc rc).toArray 38)
theorem XA(w:World)(a b c:af)(la ca ra lb cb rb lc cc rc:Value):Below w.heap.size w (Jz w a b c la ca ra lb cb rb lc cc rc):=lU (lU (lU (lU (lU (lU (Below.refl _ _) _) _) _) _) _) _
theorem Ee(w:World)(a b c:af)(la ca ra lb cb rb lc cc rc:Value):(Jz w a b c la ca ra lb cb rb lc cc rc).heap.size=w.heap.size+6:=by simp
theorem ZW(w:World)(a b c:af)(la ca ra lb cb rb lc cc rc:Value):(Jz w a b c la ca ra lb cb rb lc cc rc).heap[w.heap.size]?=some (.cells (lC a la ca ra).toArray 38 (0,0)) /\
  (Jz w a b c la ca ra lb cb rb lc cc rc).heap[w.heap.size+1]?=some (.cells (lC b lb cb rb).toArray 38 (0,0))/\(Jz w a b c la ca ra lb cb rb lc cc rc).heap[w.heap.size+1+1]?=some (.cells (lC c lc cc rc).toArray 38 (0,0)) /\
  (Jz w a b c la ca ra lb cb rb lc cc rc).heap[w.heap.size+1+1+1]?=some (.cells zeroV 38 (0,0))/\(Jz w a b c la ca ra lb cb rb lc cc rc).heap[w.heap.size+1+1+1+1]?=some (.cells #[.int .i64 2,.int .i64 2,.int .i64 5] 3 (0,0)) /\
  (Jz w a b c la ca ra lb cb rb lc cc rc).heap[w.heap.size+1+1+1+1+1]?=some (.cells (lC a la ca ra++lC b lb cb rb++lC c lc cc rc).toArray 38 (0,0)):=by
 have lt:∀ {W:World} {g:Nat},W.heap.size=g+1->g<W.heap.size:=λh=>by omega
 refine⟨?_,?_,?_,?_,?_,xh (by simp)⟩
 ·rw[aZ (by simp;try omega),aZ (by simp;try omega),aZ (by simp;try omega),aZ (by simp;try omega),aZ (by simp)];exact xh rfl
 ·rw[aZ (by simp;try omega),aZ (by simp;try omega),aZ (by simp;try omega),aZ (by simp)];exact xh (by simp)
 ·rw[aZ (by simp;try omega),aZ (by simp;try omega),aZ (by simp)];exact xh (by simp)
 ·rw[aZ (by simp;try omega),aZ (by simp)];exact xh (by simp)
 ·rw[aZ (by simp)];exact xh (by simp)
theorem xZ{w:World}{S:Nat->Nat->Prop}{t:Ty}{xs:List t.den}{v:Value}(h:Rep w S (.list t xs) v):∃p c,v=.slice p xs.length c:=by
 generalize a:D.list t xs=d at h;cases h with
 | int=>cases a
 | bool=>cases a
 | str=>cases a
 | nil=>cases a;exact⟨_,_,rfl⟩
 | emp=>cases a;exact⟨_,_,rfl⟩
 | list=>cases a;exact⟨_,_,rfl⟩
theorem oN.sl{w:World}{S:Nat->Nat->Prop}{x:af}{lv cv rv:Value}(h:oN w S x lv cv rv):∃a c1 b c2 c c3,lv=.slice a x.list.length c1/\cv=.slice b x.columns.length c2/\rv=.slice c x.rows.length c3:=by
 obtain⟨a,c1,rfl⟩:=xZ h.1;obtain⟨b,c2,rfl⟩:=xZ h.2.1;obtain⟨c,c3,rfl⟩:=xZ h.2.2;exact⟨_,_,_,_,_,_,rfl,rfl,rfl⟩
theorem VE(W:World)(g:Nat)(a b c d e f h:Value):W.grownBy (((((((W.setCell ⟨g,0,none⟩ a).setCell ⟨g,1,none⟩ b).setCell ⟨g,2,none⟩ c).setCell ⟨g,3,none⟩ d).setCell ⟨g,4,none⟩ e).setCell ⟨g,5,none⟩ f).setCell ⟨g,6,none⟩ h) (some g):=
 ((((((fP W ⟨g,0,none⟩ a).trans (fP _ ⟨g,1,none⟩ b)).trans (fP _ ⟨g,2,none⟩ c)).trans (fP _ ⟨g,3,none⟩ d)).trans (fP _ ⟨g,4,none⟩ e)).trans (fP _ ⟨g,5,none⟩ f)).trans (fP _ ⟨g,6,none⟩ h)
theorem Ce{W:World}{g:Nat}{E:TypeId}{l m n o p q r:Value}(h:W.heap[g]?=some (.cells #[l,m,n,o,p,q,r] E (0,0)))(a b c d f j k:Value) :
  (((((((W.setCell ⟨g,0,none⟩ a).setCell ⟨g,1,none⟩ b).setCell ⟨g,2,none⟩ c).setCell ⟨g,3,none⟩ d).setCell ⟨g,4,none⟩ f).setCell ⟨g,5,none⟩ j).setCell ⟨g,6,none⟩ k).heap[g]?=some (.cells #[a,b,c,d,f,j,k] E (0,0)):=by
 have one:∀ {W:World} {cs:Array Value} {i:Nat} {v:Value},W.heap[g]?=some (.cells cs E (0,0))->(W.setCell ⟨g,i,none⟩ v).heap[g]?=some (.cells (cs.setIfInBounds i v) E (0,0)):=λ{W cs i v} h=>by
  show (W.heap.modify g _)[g]?=_
  rw[Array.getElem?_modify,if_pos rfl,h];rfl
 have e:=one (i:=6) (v:=k) (one (i:=5) (v:=j) (one (i:=4) (v:=f) (one (i:=3) (v:=d) (one (i:=2) (v:=c) (one (i:=1) (v:=b) (one (i:=0) (v:=a) h))))));rw[e];rfl
theorem adC:(Tryz.prog.info? 38).map (·.size)=some 7:=by kernel_rfl
theorem KI{tmps:Array Value}{W:World}{g:Nat}{E:TypeId}{a b c d e f h:Value}(hp:tmps.getD 6 undef=.pointer (some ⟨g,0,none⟩))(i:W.heap[g]?=some (.cells #[a,b,c,d,e,f,h] E (0,0))) :
  (results Tryz.f169 tmps).run Tryz.prog W=.ok (.agg #[a,b,c,d,e,f,h]) W:=by
 exact results_cell_row rfl tmps W g E _ (0,0) _ hp i Tryz.underlying38 rfl adC
theorem KJ{w W W':World}{S S':Nat->Nat->Prop}{x:af}{lv cv rv:Value}{g:Nat}(f:Below w.heap.size w W)(d:W.grownBy W' (some g))(h:w.heap.size<=g)(hv:oN W S' x lv cv rv)(c:∀b o,S' b o->b≠g/\(S b o\/w.heap.size<=b)/\b<W.heap.size) :
  Below w.heap.size w W'/\oN W' S' x lv cv rv/\∀b o,S' b o->(S b o\/w.heap.size<=b)/\b<W'.heap.size:=
 ⟨f.grown d f.size (λk hk=>by injection hk with hk;omega),hv.move λb o a=>⟨a,d.cell_far _ (c b o a).2.2 (λe=>by injection e with e;exact (c b o a).1 e)⟩,λb o a=>⟨(c b o a).2.1,aL (c b o a).2.2 d.size⟩⟩
theorem mF.drew{M:Nat}{w2 wr:World}{S:Nat->Nat->Prop}{gs:List Gp}{F:Nat->Prop}{kv:Value}(h:mF M w2 S wr gs F kv):mF M w2 S wr.drew gs F kv:=
 ⟨h.map,h.keys,λg a=>⟨(h.ats g a).hp,(h.ats g a).hc,(h.ats g a).hf.move λ_ _ b=>⟨b,rfl⟩⟩,h.dis,h.low,h.fl,h.kd,h.bel.drew,h.nv,h.big⟩
theorem mF.start(w3:World)(S:Nat->Nat->Prop):mF w3.heap.size w3 S ((w3.alloc (.map #[] 0)).alloc (.cells #[] 3)) [] (λ_=>False) (.slice (some ⟨w3.heap.size+1,0,none⟩) 0 0) where
 map:=(World.ownsMap_made w3 _ _ _).alloc _
 keys:=by simpa using World.ownsRow_made (base:=w3.heap.size+1) (e:=3) (size:=1) (w3.alloc (.map #[] 0)) #[] 0 (by simp) (by unfold maxLen;omega) rfl
 ats:=λg c=>by cases c
 dis:=List.nodup_nil
 low:=λb a=>by cases a
 fl:=λb a=>a.elim
 kd:=List.nodup_nil
 bel:=lU (lU (Below.refl _ _) _) _
 nv:=by simp
 big:=by simp
theorem akE{w:World}{S:Nat->Nat->Prop}{rs:List aB}{v:Value}(h:Rep w S (.list (.base .row) rs) v)(e:∀b o,S b o->b<w.heap.size){k:Nat}{r:aB}(hk:rs[k]?=some r) :
  ∃rb ro cap cv fv,v=.slice (some ⟨rb,ro,none⟩) rs.length cap/\rb<w.heap.size/\w.cell? ⟨rb,ro+k*2,none⟩=some cv/\w.cell? ⟨rb,ro+k*2+1,none⟩=some fv/\Rep w S (.list (.base .int) r.cells) cv/\Rep w S (.list (.base .origin) r.orig) fv:=by
 generalize a:D.list (.base .row) rs=d at h;cases h with
 | int=>cases a
 | bool=>cases a
 | str=>cases a
 | nil=>cases a;simp at hk
 | emp=>cases a;simp at hk
 | list t xs b off cap vs hcap hc c=>
  cases a
  have f:off+(k*(Ty.base .row).size+0)=off+k*2:=rfl;have g:off+(k*(Ty.base .row).size+1)=off+k*2+1:=rfl;have c0:=hc k r 0 _ hk rfl;have c1:=hc k r 1 _ hk rfl;rw[f]at c0;rw[g]at c1;exact⟨b,off,cap,_,_,rfl,e _ _ c0.2,c0.1,c1.1,c k r 0 _ hk rfl,c k r 1 _ hk rfl⟩
theorem abv{w:World}{S:Nat->Nat->Prop}{xs:List Int}{v:Value}(h:Rep w S (.list (.base .int) xs) v)(e:∀b o,S b o->b<w.heap.size){i:Nat}{x:Int}(hi:idx xs (i:Int)=some x) :
  ∃b o cap,v=.slice (some ⟨b,o,none⟩) xs.length cap/\b<w.heap.size/\i<xs.length/\w.cell? ⟨b,o+i,none⟩=some (.int .i64 x):=by
 have c:xs[i]?=some x:=by
  unfold idx at hi;simpa using hi
 generalize a:D.list (.base .int) xs=d at h;cases h with
 | int=>cases a
 | bool=>cases a
 | str=>cases a
 | nil=>cases a;simp at c
 | emp=>cases a;simp at c
 | list t xs' b off cap vs hcap hc f=>
  cases a
  have g:off+(i*(Ty.base .int).size+0)=off+i:=by show off+(i*1+0)=_;omega
  have c0:=hc i x 0 _ c rfl;rw[g,oV (f i x 0 _ c rfl)]at c0;exact⟨b,off,cap,rfl,e _ _ c0.2,(zC.1 c).1,c0.1⟩
theorem O6{x n:Int}{fr:List aj}:∀ {gs:List Gp} {l:List (Int×Int×List aj)},(∀g,g∈gs->g.key≠x)->qo x n fr (gs.map Gp.dat)=some l->∃u,iJ [] fr=some u/\l=gs.map Gp.dat++[(x,IntKind.i64.wrap (0+n),u)]
 | [],l,_,h=>by
  unfold qo at h;obtain⟨u,a,b⟩:=zB.1 h;exact⟨u,a,(a7 b).symm⟩
 | g::r,l,c,h=>by
  have h:(if g.key=x then (iJ g.orig fr).bind λu=>some ((g.key,IntKind.i64.wrap (g.sum+n),u)::r.map Gp.dat)else (qo x n fr (r.map Gp.dat)).bind λr'=>some ((g.key,g.sum,g.orig)::r'))=some l:=h;rw[if_neg (c g aw)]at h;obtain⟨l',a,b⟩:=zB.1 h;obtain⟨u,d,e⟩:=O6 (λg' f=>c g' (ar _ f)) a;exact⟨u,d,by rw[<- a7 b,e];rfl⟩
theorem O5{x n:Int}{fr:List aj}{g:Gp}{post:List Gp}(a:g.key=x):∀ {pre:List Gp} {l:List (Int×Int×List aj)},(∀g,g∈pre->g.key≠x)->qo x n fr ((pre++g::post).map Gp.dat)=some l->∃u,iJ g.orig fr=some u/\l=pre.map Gp.dat++(g.key,IntKind.i64.wrap (g.sum+n),u)::post.map Gp.dat
 | [],l,_,h=>by
  have h:(if g.key=x then (iJ g.orig fr).bind λu=>some ((g.key,IntKind.i64.wrap (g.sum+n),u)::post.map Gp.dat)else (qo x n fr (post.map Gp.dat)).bind λr'=>some ((g.key,g.sum,g.orig)::r'))=some l:=h;rw[if_pos a]at h;obtain⟨u,b,c⟩:=zB.1 h;exact⟨u,b,(a7 c).symm⟩
 | q::r,l,d,h=>by
  have h:(if q.key=x then (iJ q.orig fr).bind λu=>some ((q.key,IntKind.i64.wrap (q.sum+n),u)::(r++g::post).map Gp.dat)else (qo x n fr ((r++g::post).map Gp.dat)).bind λr'=>some ((q.key,q.sum,q.orig)::r'))=some l:=h;rw[if_neg (d q aw)]at h;obtain⟨l',b,c⟩:=zB.1 h;obtain⟨u,e,f⟩:=O5 a (λg' a=>d g' (ar _ a)) b;exact⟨u,e,by rw[<- a7 c,f];rfl⟩
theorem ah1(gs:List Gp)(hk:(gs.map Gp.key).Nodup)(x:Int):(∀g,g∈gs->g.key≠x)\/∃pre g post,gs=pre++g::post/\g.key=x/\∀q,q∈pre->q.key≠x:=by
 by_cases h:∃g,g∈gs/\g.key=x
 ·obtain⟨g,a,b⟩:=h;obtain⟨pre,post,rfl⟩:=List.append_of_mem a;refine .inr ⟨pre,g,post,rfl,b,λq c e=>?_⟩;rw[List.map_append,List.map_cons]at hk;exact (List.nodup_append.1 hk).2.2 q.key (List.mem_map.2 ⟨q,c,rfl⟩) g.key aw (e.trans b.symm)
 ·exact .inl λg a e=>h ⟨g,a,e⟩
theorem XY{i k:Nat}{rs:List aB}{kk:Nat}{gs:List Gp}{R:List (Int×Int×List aj)}(a:kk<rs.length)(h:qm (i:Int) (k:Int) (rs.drop kk) (gs.map Gp.dat)=some R) :
  ∃r x n l,rs[kk]?=some r/\idx r.cells (i:Int)=some x/\idx r.cells (k:Int)=some n/\Kq x=true/\qo x n r.orig (gs.map Gp.dat)=some l/\qm (i:Int) (k:Int) (rs.drop (kk+1)) l=some R:=by
 rw[amg a]at h;unfold qm at h;obtain⟨x,c,h⟩:=zB.1 h;obtain⟨n,d,h⟩:=zB.1 h;obtain⟨l,b,h⟩:=zB.1 h;split at b
 case isFalse=>cases b
 rename_i e;exact⟨_,x,n,l,zF a,c,d,e,b,h⟩
theorem mW{P:Program}{ops:Array Oper}{w:World}{Q:Act->Prop}{a:Act}{o:Oper}{rest:List Oper}(b:o.guard=none)(m x:Operand)(t:TypeId)(c:o.op=Op.lookup t m x false)(mv xv v:Value)(d:a.eval m=mv)(e:a.eval x=xv)
  (hrun:(Instr.lookup t mv xv false).run P w=.ok v w) (h:wpStill P ops w Q rest (a.put o.dst v)):wpStill P ops w Q (o::rest) a:=by
 unfold wpStill;have f:Region.wanted o (yielded ops a.tmps)=true:=by simp[Region.wanted,b]
 rw[if_pos f];unfold Oper.still;simp[execOp,c,d,e,hrun,Result.andThen,Oper.stillUpon];exact h
theorem wrap_eq(n:Int):wrap64 n=IntKind.i64.wrap n:=by simp[wrap64,IntKind.wrap,IntKind.bits,IntKind.signed,IntKind.min,IntKind.max];split<;>omega
theorem lD{P:Program}{a:Act}{o:Oper}{w:World}(m x:Operand)(t:TypeId)(b:o.op=Op.lookup t m x false)(mv xv v:Value)(c:a.eval m=mv)(d:a.eval x=xv)(hrun:(Instr.lookup t mv xv false).run P w=.ok v w) :
  (execOp a.eval o).run P w=.ok (.value v) w:=by
 simp[execOp,b,c,d,hrun,Result.andThen]
theorem bH{P:Program}{ops:Array Oper}{Q:Exit->Act->World->Prop}{md:Region.Mode}{S:World->Prop}{listed:Array Bool}{a:Act}{w:World}{i:Nat}{oi:Oper}{v:Value}{fuel:Nat}(dd:Option Nat)(hi:ops[i]?=some oi)(b:oi.dst=dd)
  (d:Region.noSelect ops=true) (hf:Region.free md ops listed i=true) (e:(Region.ready md ops listed).contains i=true)
  (f:∀c a w,Q (.panic c) (a.put oi.dst v) w->Q (.panic c) a w) (g:YieldsIf P ops S oi v a) (j:S w)
  (h:wpAnyH P md ops Q S fuel (listed.setIfInBounds i true) (a.put dd v) w):wpAnyH P md ops Q S (fuel+1) listed a w:=by
 subst b;exact wpAnyH_take hi d hf e f g j h
theorem EG{P:Program}{ops:Array Oper}{rest:List Oper}{o:Oper}{a:Act}{w:World}{Q:Exit->Act->World->Prop}(d:o.guard=none)(m x:Operand)(t:TypeId)(b:o.op=Op.lookup t m x false)(mv xv v:Value)(e:a.eval m=mv)(f:a.eval x=xv)
  (hrun:(Instr.lookup t mv xv false).run P w=.ok v w) (g:wpList P ops Q rest (a.put o.dst v) w):wpList P ops Q (o::rest) a w:=by
 refine wpList_plain d λK' c=>?_
 unfold Oper.wp;simp[execOp,b,e,f,hrun,Result.andThen];exact c _ _ g
theorem ahV:Tryz.prog.underlying 101=some (.slice 3):=by kernel_rfl
theorem ahW:(Tryz.prog.info? 3).map (λi=>(i.zero,i.size,i.bytes))=some (some (.int .i64 0),1,8):=by kernel_rfl
theorem Tz{P:Program}{w:World}{o:Oper}{a:Act}{K:Act->World->Prop}{Q:Exit->Act->World->Prop}(s x:Operand)(t:TypeId)
  (k:o.op=.call { callee:=.builtin .append,args:=#[s,x],argTypes:=#[t,t] })
  (base:Nat) (e:TypeId) (i:TypeInfo) (z:Value) (size bytes:Nat) (l:P.underlying t=some (.slice e)) (hi:P.info? e=some i) (p:i.zero=some z)
  (hsize:i.size=size) (b:i.bytes=bytes) (d:z.cells.size=size) (f:0<size)
  (v:Value) (n:Nat) (xs:List Value) (q:a.eval s=v) (hown:w.ownsRow base e size v n xs)
  (ad:Addr) (m c:Nat) (news:List Value) (r:a.eval x=.slice (some ad) m c) (y:news.length=m*size) (hnews:∀j u,news[j]?=some u->w.cell? (ad.add j)=some u) (A:∀u∈news,u.oneCell'=true)
  (g:n+m<=maxLen) (hbytes:(n+m)*bytes<=140737488355328) (hbase:base<=w.heap.size)
  (h:∀v' w',w'.ownsRow base e size v' (n+m) (xs++news)->w.grownBy w' v.ownBlock->(v'.ownBlock=v.ownBlock\/v'.ownBlock=some w.heap.size)->K (a.put o.dst v') w'):o.wp P a w K Q:=by
 obtain⟨v',w',B,C,D,F,E⟩:=run_append_own_at (P:=P) w base t o.type e i z size bytes l hi p hsize b d f v n xs hown ad m c news y hnews A g hbytes hbase;unfold Oper.wp execOp;simp only[k,resolve,invoke,builtin,Sem.run_bind,Sem.run_pure,Result.andThen_ok,List.map_toArray,List.map_cons,List.map_nil,q,r,B];exact h v' w' C D E
theorem ahd:Tryz.prog.underlying 36=some (.slice 117):=by kernel_rfl
theorem WX:(Tryz.prog.info? 117).map (λi=>(i.zero,i.size,i.bytes))=some (some (.agg #[.slice none 0 0,.slice none 0 0]),2,48):=by kernel_rfl
theorem aa7{w:World}{base size n:Nat}{e:TypeId}{v:Value}{xs:List Value}(h:w.ownsRow base e size v n xs):∃p c,v=.slice p n c:=by
 rcases h.2 with ⟨rfl,rfl⟩ | ⟨g,cap,cur,rfl,_⟩
 ·exact⟨_,_,rfl⟩
 ·exact⟨_,_,rfl⟩
set_option maxHeartbeats 16000000 in
set_option maxRecDepth 100000 in
theorem aal(a b c res:af)(h:oK a b c=some res)(w:World)(ha:amb w)(S:Nat->Nat->Prop)(J:∀b o,S b o->b<w.heap.size)(la ca ra lb cb rb lc cc rc:Value)
  (va:oN w S a la ca ra) (vb:oN w S b lb cb rb) (vc:oN w S c lc cc rc) :
  Calls Tryz.prog 169 #[.agg (lC a la ca ra).toArray,.agg (lC b lb cb rb).toArray,.agg (lC c lc cc rc).toArray] w λr w'=>
   ∃lv cv rv S',r=.returned (.agg (lC res lv cv rv).toArray)/\Below w.heap.size w w'/\oN w' S' res lv cv rv/\∀b o,S' b o->(S b o\/w.heap.size<=b)/\b<w'.heap.size:=by
 unfold oK at h;obtain⟨⟨e,bad⟩,hk,h⟩:=zB.1 h;have hmm:=@run_makeMap Tryz.prog;obtain⟨b0,b1,b2,b3,b4,b5⟩:=ZW w a b c la ca ra lb cb rb lc cc rc;have kB:=XA w a b c la ca ra lb cb rb lc cc rc;have HK:=acX hk J ha kB va vb vc (by omega) (by omega) b4 b5;obtain⟨pa1,ka1,pa2,ka2,pa3,ka3,rfl,rfl,rfl⟩:=va.sl;obtain⟨pb1,kb1,pb2,kb2,pb3,kb3,rfl,rfl,rfl⟩:=vb.sl;obtain⟨pc1,kc1,pc2,kc2,pc3,kc3,rfl,rfl,rfl⟩:=vc.sl;have B0:Hid _:=b0;have B1:Hid _:=b1;have B2:Hid _:=b2;have B3:Hid _:=b3;have KB:Hid _:=kB;clear b0 b1 b2 b3 b4 b5 kB;cases bad with
 | true=>
  have h:some e=some res:=h;injection h with h;subst h;clear va vb vc hk;go_enter Tryz.func169,Tryz.ntmps169
  go_wp2_with (go_at_call 172;refine HK.mono ?_;rintro r w1 ⟨lv,cv,rv,S',rfl,m,hv,T⟩;obtain⟨R,c1,p2,c2,p3,c3,rfl,rfl,rfl⟩:=hv.sl;have d:=(m.block _ (a6.1 B3.out).1).trans B3.out;have H:=(a6.1 d).1;have q0:=λo:Obj=>aJ (i:=0) ((aZ (o:=o) H).trans d) rfl;have q1:=λo:Obj=>aJ (i:=1) ((aZ (o:=o) H).trans d) rfl;have q2:=λo:Obj=>aJ (i:=2) ((aZ (o:=o) H).trans d) rfl;have q3:=λo:Obj=>aJ (i:=3) ((aZ (o:=o) H).trans d) rfl;have q4:=λo:Obj=>aJ (i:=4) ((aZ (o:=o) H).trans d) rfl;have q5:=λo:Obj=>aJ (i:=5) ((aZ (o:=o) H).trans d) rfl;have q6:=λo:Obj=>aJ (i:=6) ((aZ (o:=o) H).trans d) rfl;have f0:=λ(o:Obj) i=>iY (i:=i) ((aZ (o:=o) H).trans d);clear H;have HZ:Hid _:=d;have HB:Hid _:=m;have HV:Hid _:=hv;have HS:Hid _:=T;clear d m hv T)
  (try simp only[Exit.inBlock,Exit.then]);refine bodyPost_ret (KI rfl (Ce ((aZ (a6.1 HZ.out).1).trans HZ.out) _ _ _ _ _ _ _)) rfl ?_;have hz:=Ee w a b c (.slice pa1 a.list.length ka1) (.slice pa2 a.columns.length ka2) (.slice pa3 a.rows.length ka3) (.slice pb1 b.list.length kb1) (.slice pb2 b.columns.length kb2) (.slice pb3 b.rows.length kb3) (.slice pc1 c.list.length kc1) (.slice pc2 c.columns.length kc2) (.slice pc3 c.rows.length kc3);have hz1:=HB.out.size;obtain⟨O,r2,r3⟩:=KJ (S:=S) (KB.out.trans (HB.out.mono KB.out.size)) ((World.grownBy_alloc w1 _ (some (w.heap.size+1+1+1))).trans (VE _ (w.heap.size+1+1+1) _ _ _ _ _ _ _)) (by omega) HV.out (λb o z=>by
   have:=HS.out b o z;rcases this.1 with q | q | q | q
   ·have:=J b o q;exact⟨by omega,.inl q,by omega⟩
   ·exact⟨by omega,.inr (by omega),by omega⟩
   ·exact⟨by omega,.inr (by omega),by omega⟩
   ·exact⟨by omega,.inr (by omega),this.2⟩)
  exact⟨_,_,_,_,rfl,O,r2,r3⟩
 | false=>
  obtain⟨i,hi,h⟩:=zB.1 h;obtain⟨k,hk',h⟩:=zB.1 h;have HVC:Hid _:=vc;have HI:Hid (dL c a.text=some i):=hi;have HKk:Hid (dL c b.text=some k):=hk';have HAm:Hid _:=ha;clear va vb vc hk hi hk' ha;by_cases hbad:i<0\/k<0\/a.text=b.text
  ·have h:aI 7=some res:=by
    have:(decide (i<0)||decide (k<0)||a.text==b.text)=true:=by
     rcases hbad with q | q | q<;>simp[q]
    rw[this]at h;exact h
   have hcond:(i<0\/k<0)\/(a.text==b.text)=true:=by
    rcases hbad with q | q | q
    ·exact .inl (.inl q)
    ·exact .inl (.inr q)
    ·exact .inr (by simp[q])
   have HE:Hid (aI 7=some res):=h;clear h hbad;obtain⟨r0,hrf,hrz0,hrz1,hrz2⟩:=info_parts WX;go_enter Tryz.func169,Tryz.ntmps169
   go_wp2_with fail
   go_at_call 172
   refine HK.mono ?_;rintro r w1 ⟨lv,cv,rv,S',rfl,m,hv,T⟩;obtain⟨R,c1,p2,c2,p3,c3,rfl,rfl,rfl⟩:=hv.sl;have B:=(m.block _ (a6.1 B0.out).1).trans B0.out;have C:=(m.block _ (a6.1 B1.out).1).trans B1.out;have f:=(m.block _ (a6.1 B2.out).1).trans B2.out;have d:=(m.block _ (a6.1 B3.out).1).trans B3.out;have U:=(a6.1 B).1;have hl1:=(a6.1 C).1;have t:=(a6.1 f).1;have H:=(a6.1 d).1;have a3:=λo:Obj=>aJ (i:=3) ((aZ (o:=o) U).trans B) rfl
   have c0':=λo:Obj=>aJ (i:=0) ((aZ (o:=o) t).trans f) rfl
   have c1':=λo:Obj=>aJ (i:=1) ((aZ (o:=o) t).trans f) rfl
   have c2':=λo:Obj=>aJ (i:=2) ((aZ (o:=o) t).trans f) rfl
   have c3':=λo:Obj=>aJ (i:=3) ((aZ (o:=o) t).trans f) rfl
   have c4':=λo:Obj=>aJ (i:=4) ((aZ (o:=o) t).trans f) rfl
   have c5':=λo:Obj=>aJ (i:=5) ((aZ (o:=o) t).trans f) rfl
   have c6':=λo:Obj=>aJ (i:=6) ((aZ (o:=o) t).trans f) rfl
   have H0:Hid _:=B;have H1:Hid _:=C;have H2:Hid _:=f;have H3:Hid _:=d;have HB1:Hid _:=KB.out.trans (m.mono KB.out.size);have HZ:Hid (w.heap.size+6<=w1.heap.size):=amq (Nat.le_of_eq (Ee w a b c _ _ _ _ _ _ _ _ _).symm) m.size;clear m hv T B C f d U hl1 t H;go_wp2_with fail
   go_at_call 200
   have hBx:=lU HB1.out (.cells #[.int .i64 e.kind,.int .i64 e.n,.int .i64 e.step,.string ⟨e.text.toArray⟩,.slice R e.list.length c1,.slice p2 e.columns.length c2,.slice p3 e.rows.length c3] 38);refine (GH (S:=S) HI.out (λb o z=>aL (J b o z) hBx.size) (jU HAm.out hBx) (oN.move HVC.out λb o z=>⟨z,hBx.cell (J b o z)⟩)).mono ?_;rintro r w2 ⟨rfl,m⟩;have HB2:Hid _:=hBx.trans (m.mono hBx.size);have HZ2:Hid (w.heap.size+6<=w2.heap.size):=(show w.heap.size+6<=w2.heap.size from by have:=HZ.out;have h2:=m.size;simp at h2;omega);have B:=(m.block _ (aL (a6.1 H0.out).1 (by simp))).trans ((aZ (a6.1 H0.out).1).trans H0.out);have C:=(m.block _ (aL (a6.1 H1.out).1 (by simp))).trans ((aZ (a6.1 H1.out).1).trans H1.out);have f:=(m.block _ (aL (a6.1 H2.out).1 (by simp))).trans ((aZ (a6.1 H2.out).1).trans H2.out);have d:=(m.block _ (aL (a6.1 H3.out).1 (by simp))).trans ((aZ (a6.1 H3.out).1).trans H3.out);have b3:=aJ (i:=3) C rfl;have d0:=aJ (i:=0) f rfl;have d1:=aJ (i:=1) f rfl;have d2:=aJ (i:=2) f rfl;have d3:=aJ (i:=3) f rfl;have d4:=aJ (i:=4) f rfl;have d5:=aJ (i:=5) f rfl;have d6:=aJ (i:=6) f rfl;have G0:Hid _:=B;have G1:Hid _:=C;have G2:Hid _:=f;have G3:Hid _:=d;clear m hBx B C f d;go_wp2_with fail
   go_at_call 200
   refine (GH (S:=S) HKk.out (λb o z=>aL (J b o z) HB2.out.size) (jU HAm.out HB2.out) (oN.move HVC.out λb o z=>⟨z,HB2.out.cell (J b o z)⟩)).mono ?_;rintro r w3 ⟨rfl,m⟩;have HB3:Hid _:=HB2.out.trans (m.mono HB2.out.size);have B:=(m.block _ (a6.1 G0.out).1).trans G0.out;have C:=(m.block _ (a6.1 G1.out).1).trans G1.out;have f:=(m.block _ (a6.1 G2.out).1).trans G2.out;have d:=(m.block _ (a6.1 G3.out).1).trans G3.out;have x3:=aJ (i:=3) B rfl;have y3:=aJ (i:=3) C rfl;have t:=(a6.1 f).1;have z6:=λo o':Obj=>aJ (i:=6) ((aZ (o:=o') (aL t (World.grownBy_alloc w3 o none).size)).trans ((aZ (o:=o) t).trans f)) rfl
   clear t;have F0:Hid _:=B;have F1:Hid _:=C;have F2:Hid _:=f;have F3:Hid _:=d;have HZ3:Hid (w.heap.size+6<=w3.heap.size):=(show w.heap.size+6<=w3.heap.size from by have:=HZ2.out;have:=m.size;omega);clear m B C f d;go_wp2_with fail
   all_goals (try (exfalso;have hc2:(0<=i/\0<=k)/\(a.text==b.text)=false:=(by assumption);rcases hcond with (q | q) | q<;>first | omega | (rw[hc2.2]at q;cases q)))
   all_goals
    go_at_call 29
    refine (Yb HE.out (jU HAm.out HB3.out)).mono ?_
    rintro r w4 ⟨lv,cv,rv,rfl,m,hv⟩
    obtain⟨q1,l1,q2,l2,q3,l3,rfl,rfl,rfl⟩:=hv.sl
    have d:=(m.block _ (a6.1 F3.out).1).trans F3.out
    have s0:=aJ (i:=0) d rfl
    have V:=aJ (i:=1) d rfl
    have s2:=aJ (i:=2) d rfl
    have s3:=aJ (i:=3) d rfl
    have s4:=aJ (i:=4) d rfl
    have s5:=aJ (i:=5) d rfl
    have s6:=aJ (i:=6) d rfl
    have f0:=λi=>iY (i:=i) d
    have HR3:Hid _:=d
    have HB4:Hid (Below w3.heap.size w3 w4):=m
    have HV:Hid _:=hv
    clear d m hv
    go_wp2_with fail
    (try simp only[Exit.inBlock,Exit.then])
    refine bodyPost_ret (KI rfl (Ce HR3.out _ _ _ _ _ _ _)) rfl ?_
    obtain⟨O,r2,r3⟩:=KJ (S:=S) (S':=λb _=>w3.heap.size<=b/\b<w4.heap.size) (HB3.out.trans (HB4.out.mono HB3.out.size)) (VE w4 (w.heap.size+1+1+1) _ _ _ _ _ _ _) (by omega) HV.out (λb o z=>by
     have:=HZ3.out;exact⟨by omega,.inr (by omega),z.2⟩)
    exact⟨_,_,_,_,rfl,O,r2,r3⟩
  ·have h:(gd c.rows.length).bind (λ_=>(qm i k c.rows []).bind λgs=>yM a.text b.text gs)=some res:=by
    have:(decide (i<0)||decide (k<0)||a.text==b.text)=false:=by
     have h1:¬i<0:=λq=>hbad (.inl q)
     have h2:¬k<0:=λq=>hbad (.inr (.inl q))
     have h3:¬a.text=b.text:=λq=>hbad (.inr (.inr q))
     simp[h1,h2,h3]
    rw[this]at h;exact h
   have hi0:¬i<0:=λq=>hbad (.inl q)
   have hk0:¬k<0:=λq=>hbad (.inr (.inl q))
   have hst:(a.text==b.text)=false:=by
    apply beq_eq_false_iff_ne.2;exactλq=>hbad (.inr (.inr q))
   clear hbad;obtain⟨iN,rfl⟩:=Int.eq_ofNat_of_zero_le (show 0<=i by omega);obtain⟨kN,rfl⟩:=Int.eq_ofNat_of_zero_le (show 0<=k by omega);obtain⟨_,I,h⟩:=zB.1 h;obtain⟨gR,hall,hout⟩:=zB.1 h;have hrl:=lW I;have HOUT:Hid (yM a.text b.text gR=some res):=hout;have HALL:Hid (qm (iN:Int) (kN:Int) (c.rows.drop 0) (([]:List Gp).map Gp.dat)=some gR):=hall;clear h I hall hout;obtain⟨i0,hif0,hz0,hz1,hz2⟩:=info_parts ahW;obtain⟨r0,hrf,hrz0,hrz1,hrz2⟩:=info_parts WX;go_enter Tryz.func169,Tryz.ntmps169
   go_wp2_with fail
   go_at_call 172
   refine HK.mono ?_;rintro r w1 ⟨lv,cv,rv,S',rfl,m,hv,T⟩;obtain⟨R,c1,p2,c2,p3,c3,rfl,rfl,rfl⟩:=hv.sl;have B:=(m.block _ (a6.1 B0.out).1).trans B0.out;have C:=(m.block _ (a6.1 B1.out).1).trans B1.out;have f:=(m.block _ (a6.1 B2.out).1).trans B2.out;have d:=(m.block _ (a6.1 B3.out).1).trans B3.out;have U:=(a6.1 B).1;have hl1:=(a6.1 C).1;have t:=(a6.1 f).1;have H:=(a6.1 d).1;have a3:=λo:Obj=>aJ (i:=3) ((aZ (o:=o) U).trans B) rfl
   have c0':=λo:Obj=>aJ (i:=0) ((aZ (o:=o) t).trans f) rfl
   have c1':=λo:Obj=>aJ (i:=1) ((aZ (o:=o) t).trans f) rfl
   have c2':=λo:Obj=>aJ (i:=2) ((aZ (o:=o) t).trans f) rfl
   have c3':=λo:Obj=>aJ (i:=3) ((aZ (o:=o) t).trans f) rfl
   have c4':=λo:Obj=>aJ (i:=4) ((aZ (o:=o) t).trans f) rfl
   have c5':=λo:Obj=>aJ (i:=5) ((aZ (o:=o) t).trans f) rfl
   have c6':=λo:Obj=>aJ (i:=6) ((aZ (o:=o) t).trans f) rfl
   have H0:Hid _:=B;have H1:Hid _:=C;have H2:Hid _:=f;have H3:Hid _:=d;have HB1:Hid _:=KB.out.trans (m.mono KB.out.size);have HZ:Hid (w.heap.size+6<=w1.heap.size):=amq (Nat.le_of_eq (Ee w a b c _ _ _ _ _ _ _ _ _).symm) m.size;clear m hv T B C f d U hl1 t H;go_wp2_with fail
   go_at_call 200
   have hBx:=lU HB1.out (.cells #[.int .i64 e.kind,.int .i64 e.n,.int .i64 e.step,.string ⟨e.text.toArray⟩,.slice R e.list.length c1,.slice p2 e.columns.length c2,.slice p3 e.rows.length c3] 38);refine (GH (S:=S) HI.out (λb o z=>aL (J b o z) hBx.size) (jU HAm.out hBx) (oN.move HVC.out λb o z=>⟨z,hBx.cell (J b o z)⟩)).mono ?_;rintro r w2 ⟨rfl,m⟩;have HB2:Hid _:=hBx.trans (m.mono hBx.size);have HZ2:Hid (w.heap.size+6<=w2.heap.size):=(show w.heap.size+6<=w2.heap.size from by have:=HZ.out;have h2:=m.size;simp at h2;omega);have B:=(m.block _ (aL (a6.1 H0.out).1 (by simp))).trans ((aZ (a6.1 H0.out).1).trans H0.out);have C:=(m.block _ (aL (a6.1 H1.out).1 (by simp))).trans ((aZ (a6.1 H1.out).1).trans H1.out);have f:=(m.block _ (aL (a6.1 H2.out).1 (by simp))).trans ((aZ (a6.1 H2.out).1).trans H2.out);have d:=(m.block _ (aL (a6.1 H3.out).1 (by simp))).trans ((aZ (a6.1 H3.out).1).trans H3.out);have b3:=aJ (i:=3) C rfl;have d0:=aJ (i:=0) f rfl;have d1:=aJ (i:=1) f rfl;have d2:=aJ (i:=2) f rfl;have d3:=aJ (i:=3) f rfl;have d4:=aJ (i:=4) f rfl;have d5:=aJ (i:=5) f rfl;have d6:=aJ (i:=6) f rfl;have G0:Hid _:=B;have G1:Hid _:=C;have G2:Hid _:=f;have G3:Hid _:=d;clear m hBx B C f d;go_wp2_with fail
   go_at_call 200
   refine (GH (S:=S) HKk.out (λb o z=>aL (J b o z) HB2.out.size) (jU HAm.out HB2.out) (oN.move HVC.out λb o z=>⟨z,HB2.out.cell (J b o z)⟩)).mono ?_;rintro r w3 ⟨rfl,m⟩;have HB3:Hid _:=HB2.out.trans (m.mono HB2.out.size);have B:=(m.block _ (a6.1 G0.out).1).trans G0.out;have C:=(m.block _ (a6.1 G1.out).1).trans G1.out;have f:=(m.block _ (a6.1 G2.out).1).trans G2.out;have d:=(m.block _ (a6.1 G3.out).1).trans G3.out;have x3:=aJ (i:=3) B rfl;have y3:=aJ (i:=3) C rfl;have t:=(a6.1 f).1;have z6:=λo o':Obj=>aJ (i:=6) ((aZ (o:=o') (aL t (World.grownBy_alloc w3 o none).size)).trans ((aZ (o:=o) t).trans f)) rfl
   clear t;have F0:Hid _:=B;have F1:Hid _:=C;have F2:Hid _:=f;have F3:Hid _:=d;have HZ3:Hid (w.heap.size+6<=w3.heap.size):=(show w.heap.size+6<=w3.heap.size from by have:=HZ2.out;have:=m.size;omega);clear m B C f d;go_wp2_with fail
   go_loopw [12,14,15,57] (λkv _ _ i wr=>∃(kk:Nat) (gs:List Gp) (F:Nat->Prop),kk<=c.rows.length/\i=.int .i64 kk/\gs.length<=kk/\Hid (∀g,g∈gs->(Lit.int .i64 g.key).wf=true)/\Hid (mF w3.heap.size w3 S wr gs F kv)/\Hid (qm (iN:Int) (kN:Int) (c.rows.drop kk) (gs.map Gp.dat)=some gR)) (λ_ _ _ i _=>c.rows.length-(intOf i).toNat)
   case atStart=>exact⟨0,[],_,Nat.zero_le _,rfl,aD _,(λg hg=>by cases hg),mF.start w3 S,HALL⟩
   case round=>
    clear HALL x3 y3 z6
    obtain⟨kk,gs,F,hkk,rfl,hgl,HWF,HG,HA⟩:=hrel
    have HS3:Hid (∀b o,S b o->b<w3.heap.size):=λb o z=>aL (J b o z) HB3.out.size
    have HBW:Hid (Below w.heap.size w wr):=HB3.out.trans (HG.out.bel.mono HB3.out.size)
    by_cases hlt:kk<c.rows.length
    ·obtain⟨r,x,n,l,hr,hx,hn,hxi,hadd,hrest⟩:=XY hlt HA.out;obtain⟨rb,ro,cap,cv,fv,hrv,hrb,hcv,hfv,Rc,Rf⟩:=akE HVC.out.2.2 J hr;obtain⟨xb,xo,xcap,rfl,hxb,hxl,hxc⟩:=abv Rc J hx;obtain⟨nb,no,ncap,hnv,hnb,hnl,hnc⟩:=abv Rc J hn;cases hnv
     injection hrv with hrv1 hrv2 hrv3;subst hrv1;have D:(Lit.int .i64 x).wf=true:=by
      unfold Kq at hxi;simp only[zI,decide_eq_true_eq]at hxi;exact WalkArith.wf_i64 hxi
     have m0:wr.cell? ⟨rb,ro+kk*2,none⟩=some (.slice (some ⟨xb,xo,none⟩) r.cells.length xcap):=(HBW.out.cell hrb).trans hcv;have m1:wr.cell? ⟨rb,ro+kk*2+1,none⟩=some fv:=(HBW.out.cell hrb).trans hfv;have m2:∀o:Obj,(wr.alloc o).cell? ⟨xb,xo+iN,none⟩=some (.int .i64 x):=λo=>((HBW.out.alloc HBW.out.size o).cell hxb).trans hxc
     obtain⟨fp,fc,rfl⟩:=xZ Rf;rcases ah1 gs HG.out.kd x with hnew | ⟨pre,g,post,rfl,hgk,hpre⟩
     ·obtain⟨u,hu,rfl⟩:=O6 hnew hadd;have HG0':=HG.out.step HS3.out (aD _) (vO wr (.cells #[.slice (some ⟨xb,xo,none⟩) r.cells.length xcap,.slice fp r.orig.length fc] 117));have lkN:=HG0'.afq D hnew;have w0:(wr.alloc (.cells #[.slice (some ⟨xb,xo,none⟩) r.cells.length xcap,.slice fp r.orig.length fc] 117)).cell? ⟨wr.heap.size,0,none⟩=some (.slice (some ⟨xb,xo,none⟩) r.cells.length xcap):=by simp
      have w1:(wr.alloc (.cells #[.slice (some ⟨xb,xo,none⟩) r.cells.length xcap,.slice fp r.orig.length fc] 117)).cell? ⟨wr.heap.size,1,none⟩=some (.slice fp r.orig.length fc):=by simp
      have wsz:(wr.alloc (.cells #[.slice (some ⟨xb,xo,none⟩) r.cells.length xcap,.slice fp r.orig.length fc] 117)).heap.size=wr.heap.size+1:=by simp
      have kvl:Hid (∀j,u12.ownBlock=some j->j<wr.heap.size):=λj hj=>(HG.out.keys.lt j hj).2
      have W0S:Hid _:=wsz;have W00:Hid _:=w0;have W01:Hid _:=w1;have HLN:Hid _:=lkN;have HG0:Hid _:=HG0';clear HG0' lkN w0 w1 wsz;go_wp2_with (first
       | (at_lookup;refine EG rfl _ _ _ rfl (.map (some w3.heap.size)) (.int .i64 x) _ rfl rfl HLN.out ?_)
       | (at_mapUpdate;refine wpList_mapUpdate_own _ rfl _ _ _ 172 rfl 3 173 Lc La Xc w3.heap.size gs.length _ rfl ((HG0.out.map.alloc _).alloc _) (by unfold maxLen;omega) _ _ _ rfl rfl (Cf D) (.lit (.int .i64 (((wr.alloc (.cells #[.slice (some ⟨xb,xo,none⟩) r.cells.length xcap,.slice fp r.orig.length fc] 117)).heap.size+1:Nat):Int))) [] (by rw[W0S.out];rfl) ?_;intro w4 hown1 hgrow1)
       | (at_builtin;refine wpList_append_own_at _ rfl _ _ 101 rfl (w3.heap.size+1) 3 i0 (.int .i64 0) 1 8 ahV hif0 hz0 hz1 hz2 rfl (by decide) u12 _ _ rfl ((((HG0.out.step HS3.out (aD _) ((World.grownBy_alloc _ _ _).trans (World.grownBy_alloc _ _ _))).keys.kept hgrow1 (.inr λe=>by have:=(HG.out.keys.lt _ e).1;omega)).alloc _)) ⟨w4.heap.size,0,none⟩ 1 1 [.int .i64 x] rfl rfl (cell_one_new _ _ _) (λv hv=>by rw[List.mem_singleton.1 hv];rfl) (by unfold maxLen;omega) (by omega) (by have:=hgrow1.size;have:=HG.out.big;simp at *;omega) ?_;intro kv2 W hown2 hgrow2 hnil2 hat2)
       | go_in)
      have hgrow1':(U9 (wr.alloc (.cells #[.slice (some ⟨xb,xo,none⟩) r.cells.length xcap,.slice fp r.orig.length fc] 117)) x).grownBy w4 (some w3.heap.size):=by unfold U9;rw[W0S.out];exact hgrow1
      have HW:=HG0.out.add HS3.out hnew hown1 hgrow1' hown2 hgrow2 (λq=>HG.out.nv (hnil2.1 q).1) hat2;have nk:some wr.heap.size≠u12.ownBlock:=λe=>Nat.lt_irrefl _ (kvl.out _ e.symm)
      have nM:(some wr.heap.size:Option Nat)≠some w3.heap.size:=λe=>by have:=HG.out.big;injection e with e;omega
      have w0:W.cell? ⟨wr.heap.size,0,none⟩=some (.slice (some ⟨xb,xo,none⟩) r.cells.length xcap):=hgrow2.cell ((World.grownBy_alloc w4 _ none).cell (hgrow1.cell ((World.grownBy_alloc _ _ none).cell ((World.grownBy_alloc _ _ none).cell W00.out (by simp)) (by simp)) nM) (by simp)) nk;have w1:W.cell? ⟨wr.heap.size,1,none⟩=some (.slice fp r.orig.length fc):=hgrow2.cell ((World.grownBy_alloc w4 _ none).cell (hgrow1.cell ((World.grownBy_alloc _ _ none).cell ((World.grownBy_alloc _ _ none).cell W01.out (by simp)) (by simp)) nM) (by simp)) nk;have nn:W.cell? ⟨xb,xo+kN,none⟩=some (.int .i64 n):=((HB3.out.trans (HW.bel.mono HB3.out.size)).cell hxb).trans hnc;have wlt:wr.heap.size<W.heap.size:=(by have h1:=hgrow1.size;have h2:=hgrow2.size;simp at h1 h2;omega);clear hgrow1' hown1 hgrow1 hown2 hgrow2 hnil2 hat2 HG0 HLN nk nM;obtain⟨g,I⟩:∃g:Gp,g=⟨x,0,[],(wr.alloc (.cells #[.slice (some ⟨xb,xo,none⟩) r.cells.length xcap,.slice fp r.orig.length fc] 117)).heap.size+1,(wr.alloc (.cells #[.slice (some ⟨xb,xo,none⟩) r.cells.length xcap,.slice fp r.orig.length fc] 117)).heap.size,.slice none 0 0⟩:=⟨_,rfl⟩;rw[<- I]at HW;have hg1:g.orig=[]:=congrArg Gp.orig I;have hg2:g.sum=0:=congrArg Gp.sum I;have hg3:g.p=(wr.alloc (.cells #[.slice (some ⟨xb,xo,none⟩) r.cells.length xcap,.slice fp r.orig.length fc] 117)).heap.size+1:=congrArg Gp.p I;have hg4:g.c=(wr.alloc (.cells #[.slice (some ⟨xb,xo,none⟩) r.cells.length xcap,.slice fp r.orig.length fc] 117)).heap.size:=congrArg Gp.c I;have hg5:g.key=x:=congrArg Gp.key I;clear I;subst hg5;rw[<- hg1]at hu;rw[show IntKind.i64.wrap (0+n)=IntKind.i64.wrap (g.sum+n) by rw[hg2]]at hrest;have hgcF:g.c≠wr.heap.size:=by have:=W0S.out;omega
      have hgpF:g.p≠wr.heap.size:=by have:=W0S.out;omega
      clear hg1 hg2 hg3 hg4;have A:g∈gs++g::[]:=amj _ aw;have hgc:g.c≠wr.heap.size:=hgcF;have hgp:g.p≠wr.heap.size:=hgpF;obtain⟨gp,gc,hgfv⟩:=xZ (HW.ats g A).hf;have p0:W.cell? ⟨g.p,0,none⟩=some (.slice (some ⟨g.c,0,none⟩) 2 2):=aJ (HW.ats g A).hp rfl;have R:W.cell? ⟨g.p,1,none⟩=some g.fv:=aJ (HW.ats g A).hp rfl;rw[hgfv]at R;have V:W.cell? ⟨g.c,1,none⟩=some (.int .i64 g.sum):=aJ (HW.ats g A).hc rfl;have sf:W.frozen? ⟨g.c,1,none⟩=false:=iY (HW.ats g A).hc;have lkW:(Instr.lookup 172 (.map (some w3.heap.size)) (.int .i64 g.key) false).run Tryz.prog { heap:=W.heap,tape:=W.tape,drawn:=W.drawn+1,os:=W.os,output:=W.output }=.ok (.pointer (some ⟨g.p,0,none⟩)) { heap:=W.heap,tape:=W.tape,drawn:=W.drawn+1,os:=W.os,output:=W.output }:=HW.drew.look D;have HWh:Hid _:=HW;clear HW;refine wp_region_still_tail 21 (by kernel_rfl) (by kernel_rfl) ?_;simp only[List.take_succ_cons,List.take_zero,List.drop_succ_cons,List.drop_zero];repeat still_step
      refine mW rfl _ _ _ rfl _ _ _ rfl rfl lkW ?_;repeat still_step
      refine mW rfl _ _ _ rfl _ _ _ rfl rfl lkW ?_;repeat still_step
      refine wpStill_nil ?_;change wpList _ _ _ _ _ W.drew;go_wp2_with fail
      have HW2:=(HWh.out.sum HS3.out (wrap64 (g.sum+n))).drew;have O:(W.setCell ⟨g.c,1,none⟩ (.int .i64 (wrap64 (g.sum+n)))).drew.cell? ⟨wr.heap.size,1,none⟩=some (.slice fp r.orig.length fc):=((fP W ⟨g.c,1,none⟩ _).cell_far ⟨wr.heap.size,1,none⟩ wlt (λe=>by injection e with e;exact hgc e.symm)).trans w1;have wlt2:wr.heap.size<(W.setCell ⟨g.c,1,none⟩ (.int .i64 (wrap64 (g.sum+n)))).drew.heap.size:=aL wlt (fP W ⟨g.c,1,none⟩ _).size;clear w0 w1 nn p0 R V sf lkW wlt;generalize (W.setCell ⟨g.c,1,none⟩ (.int .i64 (wrap64 (g.sum+n)))).drew=P at HW2 O wlt2 ⊢;clear HWh;have G:({ g with sum:=wrap64 (g.sum+n) }:Gp)∈gs ++ { g with sum:=wrap64 (g.sum+n) } :: []:=amj _ aw;have R:P.drew.cell? ⟨g.p,1,none⟩=some g.fv:=aJ (W:=P) (HW2.ats _ G).hp rfl;rw[hgfv]at R;have s:(Instr.lookup 172 (.map (some w3.heap.size)) (.int .i64 g.key) false).run Tryz.prog P.drew=.ok (.pointer (some ⟨g.p,0,none⟩)) P.drew/\P.drew.cell? ⟨wr.heap.size,1,none⟩=some (.slice fp r.orig.length fc):=⟨HW2.drew.look (g:={ g with sum:=wrap64 (g.sum+n) }) D,O⟩;have BW2:Below w.heap.size w P.drew:=(HB3.out.trans (HW2.bel.mono HB3.out.size)).drew;have HU:=LC hu (w:=P.drew) (S:=λb o=>S b o\/F b) (λb o z=>z.elim (λq=>aL (J b o q) BW2.size) λq=>(HW2.fl b q).2.1) (jU HAm.out BW2) ((HW2.drew.ats _ G).hf) (Rf.move λb o z=>⟨.inl z,BW2.cell (J b o z)⟩);rw[hgfv]at HU;have HW2h:Hid _:=HW2;have HR1:Hid _:=O;have WL2:Hid _:=wlt2;clear HW2 BW2 O wlt2;refine wp_region_held (S:=λwq=>(Instr.lookup 172 (.map (some w3.heap.size)) (.int .i64 g.key) false).run Tryz.prog wq=.ok (.pointer (some ⟨g.p,0,none⟩)) wq/\wq.cell? ⟨wr.heap.size,1,none⟩=some (.slice fp r.orig.length fc)) (by kernel_rfl) ?_;change wpAnyH _ _ _ _ _ _ _ _ P.drew;refine bH (some 101) (i:=0) (v:=.map (some w3.heap.size)) rfl rfl (by kernel_rfl) (by kernel_rfl) (by kernel_rfl) (λ_ _ _ h=>h) (Or.inl ⟨by rfl,?ny1⟩) s ?nrest1
      case ny1=>(intro wq hSw;have hSw2:=hSw.2;go_simp;try with_reducible rfl)
      try simp only[Act.put,o5,F6,amc]
      refine bH (some 102) (i:=1) (v:=.int .i64 g.key) rfl rfl (by kernel_rfl) (by kernel_rfl) (by kernel_rfl) (λ_ _ _ h=>h) (Or.inl ⟨by rfl,?ny2⟩) s ?nrest2
      case ny2=>(intro wq hSw;have hSw2:=hSw.2;go_simp;try with_reducible rfl)
      try simp only[Act.put,o5,F6,amc]
      refine bH (some 103) (i:=2) (v:=.pointer (some ⟨g.p,0,none⟩)) rfl rfl (by kernel_rfl) (by kernel_rfl) (by kernel_rfl) (λ_ _ _ h=>h) (Or.inl ⟨by rfl,?ny3⟩) s ?nrest3
      case ny3=>(intro wq hSw;exact lD _ _ _ rfl (.map (some w3.heap.size)) (.int .i64 g.key) _ rfl rfl hSw.1)
      try simp only[Act.put,o5,F6,amc]
      refine bH (some 104) (i:=3) (v:=.map (some w3.heap.size)) rfl rfl (by kernel_rfl) (by kernel_rfl) (by kernel_rfl) (λ_ _ _ h=>h) (Or.inl ⟨by rfl,?ny4⟩) s ?nrest4
      case ny4=>(intro wq hSw;have hSw2:=hSw.2;go_simp;try with_reducible rfl)
      try simp only[Act.put,o5,F6,amc]
      refine bH (some 105) (i:=4) (v:=.int .i64 g.key) rfl rfl (by kernel_rfl) (by kernel_rfl) (by kernel_rfl) (λ_ _ _ h=>h) (Or.inl ⟨by rfl,?ny5⟩) s ?nrest5
      case ny5=>(intro wq hSw;have hSw2:=hSw.2;go_simp;try with_reducible rfl)
      try simp only[Act.put,o5,F6,amc]
      refine bH (some 106) (i:=5) (v:=.pointer (some ⟨g.p,0,none⟩)) rfl rfl (by kernel_rfl) (by kernel_rfl) (by kernel_rfl) (λ_ _ _ h=>h) (Or.inl ⟨by rfl,?ny6⟩) s ?nrest6
      case ny6=>(intro wq hSw;exact lD _ _ _ rfl (.map (some w3.heap.size)) (.int .i64 g.key) _ rfl rfl hSw.1)
      try simp only[Act.put,o5,F6,amc]
      refine bH (some 107) (i:=6) (v:=.pointer (some ⟨g.p,0,none⟩)) rfl rfl (by kernel_rfl) (by kernel_rfl) (by kernel_rfl) (λ_ _ _ h=>h) (Or.inl ⟨by rfl,?ny7⟩) s ?nrest7
      case ny7=>(intro wq hSw;have hSw2:=hSw.2;go_simp;try with_reducible rfl)
      try simp only[Act.put,o5,F6,amc]
      refine bH (some 108) (i:=7) (v:=.pointer (some ⟨g.p,1,none⟩)) rfl rfl (by kernel_rfl) (by kernel_rfl) (by kernel_rfl) (λ_ _ _ h=>h) (Or.inl ⟨by rfl,?ny8⟩) s ?nrest8
      case ny8=>(intro wq hSw;have hSw2:=hSw.2;go_simp;try with_reducible rfl)
      try simp only[Act.put,o5,F6,amc]
      refine bH (some 110) (i:=9) (v:=.pointer (some ⟨wr.heap.size,1,none⟩)) rfl rfl (by kernel_rfl) (by kernel_rfl) (by kernel_rfl) (λ_ _ _ h=>h) (Or.inl ⟨by rfl,?ny9⟩) s ?nrest9
      case ny9=>(intro wq hSw;have hSw2:=hSw.2;go_simp;try with_reducible rfl)
      try simp only[Act.put,o5,F6,amc]
      refine bH (some 111) (i:=10) (v:=.slice fp r.orig.length fc) rfl rfl (by kernel_rfl) (by kernel_rfl) (by kernel_rfl) (λ_ _ _ h=>h) (Or.inl ⟨by rfl,?ny10⟩) s ?nrest10
      case ny10=>(intro wq hSw;have hSw2:=hSw.2;go_simp;try with_reducible rfl)
      try simp only[Act.put,o5,F6,amc]
      refine wpAnyH_ready (rs:=[8]) (by kernel_rfl) (by simp) ?_;refine AllReadyH.cons rfl (λK y=>?_) AllReadyH.nil;go_simp
      refine y.out _ _ s (λ_=>?_);clear y K;refine wpAnyH_ready (rs:=[11]) (by kernel_rfl) (by simp) ?_;refine AllReadyH.cons rfl (λK y=>?_) AllReadyH.nil;go_simp
      refine HU.mono ?_;rintro r3 Q ⟨v,rfl,m,hR⟩;obtain⟨vp,vcap,rfl⟩:=xZ hR;have HG3':=HW2h.out.drew.more HS3.out m;have V:=aJ (i:=1) (HG3'.ats _ G).hp rfl;have sf:=iY (i:=1) (HG3'.ats _ G).hp;have L:(Instr.lookup 172 (.map (some w3.heap.size)) (.int .i64 g.key) false).run Tryz.prog Q=.ok (.pointer (some ⟨g.p,0,none⟩)) Q/\Q.cell? ⟨wr.heap.size,1,none⟩=some (.slice fp r.orig.length fc):=⟨HG3'.look (g:={ g with sum:=wrap64 (g.sum+n) }) D,(m.cell (p:=⟨wr.heap.size,1,none⟩) WL2.out).trans HR1.out⟩;have hS4:(Instr.lookup 172 (.map (some w3.heap.size)) (.int .i64 g.key) false).run Tryz.prog (Q.setCell ⟨g.p,1,none⟩ (.slice vp u.length vcap))=.ok (.pointer (some ⟨g.p,0,none⟩)) (Q.setCell ⟨g.p,1,none⟩ (.slice vp u.length vcap))/\(Q.setCell ⟨g.p,1,none⟩ (.slice vp u.length vcap)).cell? ⟨wr.heap.size,1,none⟩=some (.slice fp r.orig.length fc):=⟨(HG3'.org HS3.out u (.slice vp u.length vcap) (hR.move λb o z=>⟨.inr (.inr z),rfl⟩)).look (g:={ { g with sum:=wrap64 (g.sum+n) } with orig:=u,fv:=.slice vp u.length vcap }) D,((fP Q ⟨g.p,1,none⟩ _).cell_far ⟨wr.heap.size,1,none⟩ (aL WL2.out m.size) (λe=>by injection e with e;exact hgp e.symm)).trans L.2⟩;have HG3:Hid _:=HG3';have HR:Hid _:=hR;clear HG3' hR m HU;refine y.out _ _ L (λ_=>?_);clear y K;refine wpAnyH_ready (rs:=[12]) (by kernel_rfl) (by simp) ?_;refine AllReadyH.cons rfl (λK y=>?_) AllReadyH.nil;go_simp
      refine y.out _ _ L (λ_=>?_);clear y K;refine wpAnyH_ready (rs:=[13]) (by kernel_rfl) (by simp) ?_;refine AllReadyH.cons rfl (λK y=>?_) AllReadyH.nil;go_simp
      refine y.out _ _ L (λ_=>?_);clear y K;refine wpAnyH_ready (rs:=[14]) (by kernel_rfl) (by simp) ?_;refine AllReadyH.cons rfl (λK y=>?_) AllReadyH.nil;go_simp
      refine y.out _ _ hS4 (λ_=>?_);clear y K;refine wpAnyH_done (by kernel_rfl) ?_ _;go_wp2_with fail
      have hfin:qm (iN:Int) (kN:Int) (c.rows.drop (kk+1)) ((gs++({ { g with sum:=wrap64 (g.sum+n) } with orig:=u,fv:=.slice vp u.length vcap }:Gp)::[]).map Gp.dat)=some gR:=by
       have e:(gs++({ { g with sum:=wrap64 (g.sum+n) } with orig:=u,fv:=.slice vp u.length vcap }:Gp)::[]).map Gp.dat=gs.map Gp.dat++(g.key,IntKind.i64.wrap (g.sum+n),u)::([]:List Gp).map Gp.dat:=by simp[Gp.dat,wrap_eq]
       rw[e];exact hrest
      have X:Hid (∀q,q∈gs++({ { g with sum:=wrap64 (g.sum+n) } with orig:=u,fv:=.slice vp u.length vcap }:Gp)::[]->(Lit.int .i64 q.key).wf=true):=λq E=>by
       rcases List.mem_append.1 E with E | E
       ·exact HWF.out q E
       ·rw[List.mem_singleton.1 E];exact D
      have hlen:(gs++({ { g with sum:=wrap64 (g.sum+n) } with orig:=u,fv:=.slice vp u.length vcap }:Gp)::[]).length<=kk+1:=(by simp;omega);have hgo:=HG3.out.org HS3.out u (.slice vp u.length vcap) (HR.out.move λb o z=>⟨.inr (.inr z),rfl⟩);go_roundw
      case rel=>exact⟨_,_,_,_,⟨kk+1,by omega,by go_num,_,hlen,X,⟨_,hgo⟩,hfin⟩,rfl,rfl,rfl,rfl⟩
      case measure=>simp[intOf];omega
     ·subst hgk;obtain⟨u,hu,rfl⟩:=O5 rfl hpre hadd;have HG1:=λo:Obj=>HG.out.step HS3.out (aD _) (vO wr o)
      have lk:=λo:Obj=>(HG1 o).look D
      go_wp2_with fail
      have HW:=HG1 (.cells #[.slice (some ⟨xb,xo,none⟩) r.cells.length xcap,.slice fp r.orig.length fc] 117);have w0:(wr.alloc (.cells #[.slice (some ⟨xb,xo,none⟩) r.cells.length xcap,.slice fp r.orig.length fc] 117)).cell? ⟨wr.heap.size,0,none⟩=some (.slice (some ⟨xb,xo,none⟩) r.cells.length xcap):=by simp
      have w1:(wr.alloc (.cells #[.slice (some ⟨xb,xo,none⟩) r.cells.length xcap,.slice fp r.orig.length fc] 117)).cell? ⟨wr.heap.size,1,none⟩=some (.slice fp r.orig.length fc):=by simp
      have nn:(wr.alloc (.cells #[.slice (some ⟨xb,xo,none⟩) r.cells.length xcap,.slice fp r.orig.length fc] 117)).cell? ⟨xb,xo+kN,none⟩=some (.int .i64 n):=((HBW.out.alloc HBW.out.size _).cell hxb).trans hnc;have wlt:wr.heap.size<(wr.alloc (.cells #[.slice (some ⟨xb,xo,none⟩) r.cells.length xcap,.slice fp r.orig.length fc] 117)).heap.size:=by simp
      clear HG1 lk;generalize (wr.alloc (.cells #[.slice (some ⟨xb,xo,none⟩) r.cells.length xcap,.slice fp r.orig.length fc] 117))=W at HW w0 w1 nn wlt ⊢;have A:g∈pre++g::post:=amj _ aw;have hgc:g.c≠wr.heap.size:=Nat.ne_of_lt (HG.out.low _ (eX A).2).2.1;have hgp:g.p≠wr.heap.size:=Nat.ne_of_lt (HG.out.low _ (eX A).1).2.1;obtain⟨gp,gc,hgfv⟩:=xZ (HW.ats g A).hf;have p0:W.cell? ⟨g.p,0,none⟩=some (.slice (some ⟨g.c,0,none⟩) 2 2):=aJ (HW.ats g A).hp rfl;have R:W.cell? ⟨g.p,1,none⟩=some g.fv:=aJ (HW.ats g A).hp rfl;rw[hgfv]at R;have V:W.cell? ⟨g.c,1,none⟩=some (.int .i64 g.sum):=aJ (HW.ats g A).hc rfl;have sf:W.frozen? ⟨g.c,1,none⟩=false:=iY (HW.ats g A).hc;have lkW:(Instr.lookup 172 (.map (some w3.heap.size)) (.int .i64 g.key) false).run Tryz.prog { heap:=W.heap,tape:=W.tape,drawn:=W.drawn+1,os:=W.os,output:=W.output }=.ok (.pointer (some ⟨g.p,0,none⟩)) { heap:=W.heap,tape:=W.tape,drawn:=W.drawn+1,os:=W.os,output:=W.output }:=HW.drew.look D;have HWh:Hid _:=HW;clear HW;refine wp_region_still_tail 21 (by kernel_rfl) (by kernel_rfl) ?_;simp only[List.take_succ_cons,List.take_zero,List.drop_succ_cons,List.drop_zero];repeat still_step
      refine mW rfl _ _ _ rfl _ _ _ rfl rfl lkW ?_;repeat still_step
      refine mW rfl _ _ _ rfl _ _ _ rfl rfl lkW ?_;repeat still_step
      refine wpStill_nil ?_;change wpList _ _ _ _ _ W.drew;go_wp2_with fail
      have HW2:=(HWh.out.sum HS3.out (wrap64 (g.sum+n))).drew;have O:(W.setCell ⟨g.c,1,none⟩ (.int .i64 (wrap64 (g.sum+n)))).drew.cell? ⟨wr.heap.size,1,none⟩=some (.slice fp r.orig.length fc):=((fP W ⟨g.c,1,none⟩ _).cell_far ⟨wr.heap.size,1,none⟩ wlt (λe=>by injection e with e;exact hgc e.symm)).trans w1;have wlt2:wr.heap.size<(W.setCell ⟨g.c,1,none⟩ (.int .i64 (wrap64 (g.sum+n)))).drew.heap.size:=aL wlt (fP W ⟨g.c,1,none⟩ _).size;clear w0 w1 nn p0 R V sf lkW wlt;generalize (W.setCell ⟨g.c,1,none⟩ (.int .i64 (wrap64 (g.sum+n)))).drew=P at HW2 O wlt2 ⊢;clear HWh;have G:({ g with sum:=wrap64 (g.sum+n) }:Gp)∈pre ++ { g with sum:=wrap64 (g.sum+n) } :: post:=amj _ aw;have R:P.drew.cell? ⟨g.p,1,none⟩=some g.fv:=aJ (W:=P) (HW2.ats _ G).hp rfl;rw[hgfv]at R;have s:(Instr.lookup 172 (.map (some w3.heap.size)) (.int .i64 g.key) false).run Tryz.prog P.drew=.ok (.pointer (some ⟨g.p,0,none⟩)) P.drew/\P.drew.cell? ⟨wr.heap.size,1,none⟩=some (.slice fp r.orig.length fc):=⟨HW2.drew.look (g:={ g with sum:=wrap64 (g.sum+n) }) D,O⟩;have BW2:Below w.heap.size w P.drew:=(HB3.out.trans (HW2.bel.mono HB3.out.size)).drew;have HU:=LC hu (w:=P.drew) (S:=λb o=>S b o\/F b) (λb o z=>z.elim (λq=>aL (J b o q) BW2.size) λq=>(HW2.fl b q).2.1) (jU HAm.out BW2) ((HW2.drew.ats _ G).hf) (Rf.move λb o z=>⟨.inl z,BW2.cell (J b o z)⟩);rw[hgfv]at HU;have HW2h:Hid _:=HW2;have HR1:Hid _:=O;have WL2:Hid _:=wlt2;clear HW2 BW2 O wlt2;refine wp_region_held (S:=λwq=>(Instr.lookup 172 (.map (some w3.heap.size)) (.int .i64 g.key) false).run Tryz.prog wq=.ok (.pointer (some ⟨g.p,0,none⟩)) wq/\wq.cell? ⟨wr.heap.size,1,none⟩=some (.slice fp r.orig.length fc)) (by kernel_rfl) ?_;change wpAnyH _ _ _ _ _ _ _ _ P.drew;refine bH (some 101) (i:=0) (v:=.map (some w3.heap.size)) rfl rfl (by kernel_rfl) (by kernel_rfl) (by kernel_rfl) (λ_ _ _ h=>h) (Or.inl ⟨by rfl,?hy1⟩) s ?rest1
      case hy1=>(intro wq hSw;have hSw2:=hSw.2;go_simp;try with_reducible rfl)
      try simp only[Act.put,o5,F6,amc]
      refine bH (some 102) (i:=1) (v:=.int .i64 g.key) rfl rfl (by kernel_rfl) (by kernel_rfl) (by kernel_rfl) (λ_ _ _ h=>h) (Or.inl ⟨by rfl,?hy2⟩) s ?rest2
      case hy2=>(intro wq hSw;have hSw2:=hSw.2;go_simp;try with_reducible rfl)
      try simp only[Act.put,o5,F6,amc]
      refine bH (some 103) (i:=2) (v:=.pointer (some ⟨g.p,0,none⟩)) rfl rfl (by kernel_rfl) (by kernel_rfl) (by kernel_rfl) (λ_ _ _ h=>h) (Or.inl ⟨by rfl,?hy3⟩) s ?rest3
      case hy3=>(intro wq hSw;exact lD _ _ _ rfl (.map (some w3.heap.size)) (.int .i64 g.key) _ rfl rfl hSw.1)
      try simp only[Act.put,o5,F6,amc]
      refine bH (some 104) (i:=3) (v:=.map (some w3.heap.size)) rfl rfl (by kernel_rfl) (by kernel_rfl) (by kernel_rfl) (λ_ _ _ h=>h) (Or.inl ⟨by rfl,?hy4⟩) s ?rest4
      case hy4=>(intro wq hSw;have hSw2:=hSw.2;go_simp;try with_reducible rfl)
      try simp only[Act.put,o5,F6,amc]
      refine bH (some 105) (i:=4) (v:=.int .i64 g.key) rfl rfl (by kernel_rfl) (by kernel_rfl) (by kernel_rfl) (λ_ _ _ h=>h) (Or.inl ⟨by rfl,?hy5⟩) s ?rest5
      case hy5=>(intro wq hSw;have hSw2:=hSw.2;go_simp;try with_reducible rfl)
      try simp only[Act.put,o5,F6,amc]
      refine bH (some 106) (i:=5) (v:=.pointer (some ⟨g.p,0,none⟩)) rfl rfl (by kernel_rfl) (by kernel_rfl) (by kernel_rfl) (λ_ _ _ h=>h) (Or.inl ⟨by rfl,?hy6⟩) s ?rest6
      case hy6=>(intro wq hSw;exact lD _ _ _ rfl (.map (some w3.heap.size)) (.int .i64 g.key) _ rfl rfl hSw.1)
      try simp only[Act.put,o5,F6,amc]
      refine bH (some 107) (i:=6) (v:=.pointer (some ⟨g.p,0,none⟩)) rfl rfl (by kernel_rfl) (by kernel_rfl) (by kernel_rfl) (λ_ _ _ h=>h) (Or.inl ⟨by rfl,?hy7⟩) s ?rest7
      case hy7=>(intro wq hSw;have hSw2:=hSw.2;go_simp;try with_reducible rfl)
      try simp only[Act.put,o5,F6,amc]
      refine bH (some 108) (i:=7) (v:=.pointer (some ⟨g.p,1,none⟩)) rfl rfl (by kernel_rfl) (by kernel_rfl) (by kernel_rfl) (λ_ _ _ h=>h) (Or.inl ⟨by rfl,?hy8⟩) s ?rest8
      case hy8=>(intro wq hSw;have hSw2:=hSw.2;go_simp;try with_reducible rfl)
      try simp only[Act.put,o5,F6,amc]
      refine bH (some 110) (i:=9) (v:=.pointer (some ⟨wr.heap.size,1,none⟩)) rfl rfl (by kernel_rfl) (by kernel_rfl) (by kernel_rfl) (λ_ _ _ h=>h) (Or.inl ⟨by rfl,?hy9⟩) s ?rest9
      case hy9=>(intro wq hSw;have hSw2:=hSw.2;go_simp;try with_reducible rfl)
      try simp only[Act.put,o5,F6,amc]
      refine bH (some 111) (i:=10) (v:=.slice fp r.orig.length fc) rfl rfl (by kernel_rfl) (by kernel_rfl) (by kernel_rfl) (λ_ _ _ h=>h) (Or.inl ⟨by rfl,?hy10⟩) s ?rest10
      case hy10=>(intro wq hSw;have hSw2:=hSw.2;go_simp;try with_reducible rfl)
      try simp only[Act.put,o5,F6,amc]
      refine wpAnyH_ready (rs:=[8]) (by kernel_rfl) (by simp) ?_;refine AllReadyH.cons rfl (λK y=>?_) AllReadyH.nil;go_simp
      refine y.out _ _ s (λ_=>?_);clear y K;refine wpAnyH_ready (rs:=[11]) (by kernel_rfl) (by simp) ?_;refine AllReadyH.cons rfl (λK y=>?_) AllReadyH.nil;go_simp
      refine HU.mono ?_;rintro r3 Q ⟨v,rfl,m,hR⟩;obtain⟨vp,vcap,rfl⟩:=xZ hR;have HG3':=HW2h.out.drew.more HS3.out m;have V:=aJ (i:=1) (HG3'.ats _ G).hp rfl;have sf:=iY (i:=1) (HG3'.ats _ G).hp;have L:(Instr.lookup 172 (.map (some w3.heap.size)) (.int .i64 g.key) false).run Tryz.prog Q=.ok (.pointer (some ⟨g.p,0,none⟩)) Q/\Q.cell? ⟨wr.heap.size,1,none⟩=some (.slice fp r.orig.length fc):=⟨HG3'.look (g:={ g with sum:=wrap64 (g.sum+n) }) D,(m.cell (p:=⟨wr.heap.size,1,none⟩) WL2.out).trans HR1.out⟩;have hS4:(Instr.lookup 172 (.map (some w3.heap.size)) (.int .i64 g.key) false).run Tryz.prog (Q.setCell ⟨g.p,1,none⟩ (.slice vp u.length vcap))=.ok (.pointer (some ⟨g.p,0,none⟩)) (Q.setCell ⟨g.p,1,none⟩ (.slice vp u.length vcap))/\(Q.setCell ⟨g.p,1,none⟩ (.slice vp u.length vcap)).cell? ⟨wr.heap.size,1,none⟩=some (.slice fp r.orig.length fc):=⟨(HG3'.org HS3.out u (.slice vp u.length vcap) (hR.move λb o z=>⟨.inr (.inr z),rfl⟩)).look (g:={ { g with sum:=wrap64 (g.sum+n) } with orig:=u,fv:=.slice vp u.length vcap }) D,((fP Q ⟨g.p,1,none⟩ _).cell_far ⟨wr.heap.size,1,none⟩ (aL WL2.out m.size) (λe=>by injection e with e;exact hgp e.symm)).trans L.2⟩;have HG3:Hid _:=HG3';have HR:Hid _:=hR;clear HG3' hR m HU;refine y.out _ _ L (λ_=>?_);clear y K;refine wpAnyH_ready (rs:=[12]) (by kernel_rfl) (by simp) ?_;refine AllReadyH.cons rfl (λK y=>?_) AllReadyH.nil;go_simp
      refine y.out _ _ L (λ_=>?_);clear y K;refine wpAnyH_ready (rs:=[13]) (by kernel_rfl) (by simp) ?_;refine AllReadyH.cons rfl (λK y=>?_) AllReadyH.nil;go_simp
      refine y.out _ _ L (λ_=>?_);clear y K;refine wpAnyH_ready (rs:=[14]) (by kernel_rfl) (by simp) ?_;refine AllReadyH.cons rfl (λK y=>?_) AllReadyH.nil;go_simp
      refine y.out _ _ hS4 (λ_=>?_);clear y K;refine wpAnyH_done (by kernel_rfl) ?_ _;go_wp2_with fail
      have hfin:qm (iN:Int) (kN:Int) (c.rows.drop (kk+1)) ((pre++({ { g with sum:=wrap64 (g.sum+n) } with orig:=u,fv:=.slice vp u.length vcap }:Gp)::post).map Gp.dat)=some gR:=by
       have e:(pre++({ { g with sum:=wrap64 (g.sum+n) } with orig:=u,fv:=.slice vp u.length vcap }:Gp)::post).map Gp.dat=pre.map Gp.dat++(g.key,IntKind.i64.wrap (g.sum+n),u)::post.map Gp.dat:=by simp[Gp.dat,wrap_eq]
       rw[e];exact hrest
      have X:Hid (∀q,q∈pre++({ { g with sum:=wrap64 (g.sum+n) } with orig:=u,fv:=.slice vp u.length vcap }:Gp)::post->(Lit.int .i64 q.key).wf=true):=λq E=>by
       rcases List.mem_append.1 E with E | E
       ·exact HWF.out q (amk _ E)
       ·rcases bh.1 E with rfl | E
        ·exact HWF.out g (amj _ aw)
        ·exact HWF.out q (amj _ (ar _ E))
      have hlen:(pre++({ { g with sum:=wrap64 (g.sum+n) } with orig:=u,fv:=.slice vp u.length vcap }:Gp)::post).length<=kk+1:=(by simp at hgl ⊢;omega);have hgo:=HG3.out.org HS3.out u (.slice vp u.length vcap) (HR.out.move λb o z=>⟨.inr (.inr z),rfl⟩);go_roundw
      case rel=>exact⟨_,_,_,_,⟨kk+1,by omega,by go_num,_,hlen,X,⟨_,hgo⟩,hfin⟩,rfl,rfl,rfl,rfl⟩
      case measure=>simp[intOf];omega
    ·obtain rfl:kk=c.rows.length:=by omega
     have hgR:gs.map Gp.dat=gR:=by
      have:=HA.out;rw[List.drop_length]at this;exact a7 this
     subst hgR;obtain⟨_,hk | ⟨kb,kcap,kcur,rfl,hkb,hkh,hkc,hkm,hks,hkt⟩⟩:=HG.out.keys
     ·exact absurd hk.1 HG.out.nv
     have hsort:=afR l191 wr kb kcap kcur _ (gs.map Gp.key) hkh (by omega) (by rw[amv];exact hkc) (by rw[amv];omega) (λi x hx=>by
      have hi:i<(gs.map Gp.key).length:=(zC.1 hx).1;rw[amv]at hi;have e:(kcur.toList.take (gs.length*1))[i]?=(gs.map λg=>Value.int .i64 g.key)[i]?:=by rw[hkt]
      rw[amo,if_pos (by omega),Array.getElem?_toList,amh]at e;rw[e];rw[amh]at hx;cases E:gs[i]? with
      | none=>rw[E]at hx;cases hx
      | some q=>rw[E]at hx;cases hx;rfl)
     rw[amv]at hsort;clear hkc hkm hks hkt hkh HA;go_wp2_with fail
     go_at_call 204
     refine hsort.mono ?_;rintro r5 M ⟨rfl,h1,h2,h3,h4,h5,h6⟩;have HS5':=HG.out.sorted HS3.out h1 h2 h3 h4 h5 h6;have hM:=HZ3.out;have x3:M.cell? ⟨w.heap.size,3,none⟩=some (.string ⟨a.text.toArray⟩):=(HS5'.bel.cell (p:=⟨w.heap.size,3,none⟩) (by show w.heap.size<_;omega)).trans (aJ (i:=3) F0.out rfl);have y3:M.cell? ⟨w.heap.size+1,3,none⟩=some (.string ⟨b.text.toArray⟩):=(HS5'.bel.cell (p:=⟨w.heap.size+1,3,none⟩) (by show w.heap.size+1<_;omega)).trans (aJ (i:=3) F1.out rfl);have HS5:Hid _:=HS5';clear h1 h2 h3 h4 h5 h6 HS5' hsort hM;go_wp2_with fail
     have HO0:Hid (tC M (outW M a.text b.text) a.text b.text (zx gs) 0 (.slice none 0 0)):=tC.start _ _ _ _;go_loopw [18,126] (λ_ i wr=>∃(j:Nat) (v:Value),j<=gs.length/\i=.int .i64 j/\Hid (tC M wr a.text b.text (zx gs) j v)/\Hid (∀g,g∈(zx gs).take j->-1000000000<=g.sum/\g.sum<=1000000000)) (λ_ i _=>gs.length-(intOf i).toNat)
     case atStart=>exact⟨0,_,Nat.zero_le _,rfl,HO0,λg hg=>by simp at hg⟩
     case round=>
      clear HO0
      obtain⟨j,v,hj,rfl,HO,HR⟩:=hrel
      have HSr:=HS5.out.keep HS3.out HO.out.bel
      by_cases hlt:j<gs.length
      ·obtain⟨g,hg⟩:∃g,(zx gs)[j]?=some g:=⟨_,zF (by rw[BD];exact hlt)⟩;have A:g∈gs:=BB.1 (zG hg);have hkj:wr.cell? ⟨kb,j,none⟩=some (.int .i64 g.key):=HSr.kc j g.key (by rw[<- ab2,amh,hg];rfl);have D:=HWF.out g A;obtain⟨gvp,gvc,hgv'⟩:=xZ (HSr.ats g A).hf;have hgv:Hid _:=hgv';clear hgv';have lkr:=HSr.look A D;have p0:wr.cell? ⟨g.p,0,none⟩=some (.slice (some ⟨g.c,0,none⟩) 2 2):=aJ (HSr.ats g A).hp rfl;have V:wr.cell? ⟨g.c,1,none⟩=some (.int .i64 g.sum):=aJ (HSr.ats g A).hc rfl;have BWr:Below w.heap.size w wr:=HB3.out.trans (HSr.bel.mono HB3.out.size);have HSR:Hid _:=HSr;have HAMr:Hid _:=jU HAm.out BWr;have HBWr:Hid _:=BWr;clear HSr BWr;by_cases hnum:-1000000000<=g.sum/\g.sum<=1000000000
       ·have hNC:=Xo (n:=g.sum) (b:=true) (by simp[fO,jC,hnum.1,hnum.2]) HAMr.out;go_wp2_with fail
        go_at_call 157
        refine hNC.mono ?_;rintro r6 N ⟨rfl,Y⟩;have HO6:Hid _:=HO.out.keep Y;clear p0 V lkr hkj hNC Y HO HSR;go_wp2_with fail
        have hB0:Below M.heap.size M N.drew:=HO6.out.bel.drew;have s:((Instr.lookup 172 (.map (some w3.heap.size)) (.int .i64 g.key) false).run Tryz.prog N.drew=.ok (.pointer (some ⟨g.p,0,none⟩)) N.drew/\N.drew.cell? ⟨g.p,0,none⟩=some (.slice (some ⟨g.c,0,none⟩) 2 2)/\N.drew.cell? ⟨g.p,1,none⟩=some g.fv):=Ci HS5.out HS3.out A D hB0;have hS7:((Instr.lookup 172 (.map (some w3.heap.size)) (.int .i64 g.key) false).run Tryz.prog (N.alloc (.cells #[.slice (some ⟨g.c,0,none⟩) 2 2,g.fv] 117)).drew=.ok (.pointer (some ⟨g.p,0,none⟩)) (N.alloc (.cells #[.slice (some ⟨g.c,0,none⟩) 2 2,g.fv] 117)).drew/\(N.alloc (.cells #[.slice (some ⟨g.c,0,none⟩) 2 2,g.fv] 117)).drew.cell? ⟨g.p,0,none⟩=some (.slice (some ⟨g.c,0,none⟩) 2 2)/\(N.alloc (.cells #[.slice (some ⟨g.c,0,none⟩) 2 2,g.fv] 117)).drew.cell? ⟨g.p,1,none⟩=some g.fv):=Ci HS5.out HS3.out A D ((HO6.out.alloc _).drew.bel);have o0:N.drew.cell? ⟨M.heap.size+1,6,none⟩=some v:=HO6.out.drew.cell;have o7:(N.alloc (.cells #[.slice (some ⟨g.c,0,none⟩) 2 2,g.fv] 117)).drew.cell? ⟨M.heap.size+1,6,none⟩=some v:=(HO6.out.alloc _).drew.cell;refine wp_region_held (S:=λwq=>((Instr.lookup 172 (.map (some w3.heap.size)) (.int .i64 g.key) false).run Tryz.prog wq=.ok (.pointer (some ⟨g.p,0,none⟩)) wq/\wq.cell? ⟨g.p,0,none⟩=some (.slice (some ⟨g.c,0,none⟩) 2 2)/\wq.cell? ⟨g.p,1,none⟩=some g.fv)) (by kernel_rfl) ?_;change wpAnyH _ _ _ _ _ _ _ _ N.drew;refine bH (some 141) (i:=0) (v:=.pointer (some ⟨M.heap.size+1,6,none⟩)) rfl rfl (by kernel_rfl) (by kernel_rfl) (by kernel_rfl) (λ_ _ _ h=>h) (Or.inl ⟨by rfl,?hy11⟩) s ?rest11
        case hy11=>(intro wq hSw;have hSw2:=hSw.2.1;have hSw3:=hSw.2.2;go_simp;try with_reducible rfl)
        (try simp only[Act.put,o5,F6,amc]);refine bH (some 143) (i:=2) (v:=.map (some w3.heap.size)) rfl rfl (by kernel_rfl) (by kernel_rfl) (by kernel_rfl) (λ_ _ _ h=>h) (Or.inl ⟨by rfl,?hy12⟩) s ?rest12
        case hy12=>(intro wq hSw;have hSw2:=hSw.2.1;have hSw3:=hSw.2.2;go_simp;try with_reducible rfl)
        (try simp only[Act.put,o5,F6,amc]);refine bH (some 144) (i:=3) (v:=.int .i64 g.key) rfl rfl (by kernel_rfl) (by kernel_rfl) (by kernel_rfl) (λ_ _ _ h=>h) (Or.inl ⟨by rfl,?hy13⟩) s ?rest13
        case hy13=>(intro wq hSw;have hSw2:=hSw.2.1;have hSw3:=hSw.2.2;go_simp;try with_reducible rfl)
        (try simp only[Act.put,o5,F6,amc]);refine bH (some 145) (i:=4) (v:=.pointer (some ⟨g.p,0,none⟩)) rfl rfl (by kernel_rfl) (by kernel_rfl) (by kernel_rfl) (λ_ _ _ h=>h) (Or.inl ⟨by rfl,?hy14⟩) s ?rest14
        case hy14=>(intro wq hSw;exact lD _ _ _ rfl (.map (some w3.heap.size)) (.int .i64 g.key) _ rfl rfl hSw.1)
        (try simp only[Act.put,o5,F6,amc]);refine bH (some 146) (i:=5) (v:=.pointer (some ⟨g.p,0,none⟩)) rfl rfl (by kernel_rfl) (by kernel_rfl) (by kernel_rfl) (λ_ _ _ h=>h) (Or.inl ⟨by rfl,?hy15⟩) s ?rest15
        case hy15=>(intro wq hSw;have hSw2:=hSw.2.1;have hSw3:=hSw.2.2;go_simp;try with_reducible rfl)
        (try simp only[Act.put,o5,F6,amc]);refine bH (some 147) (i:=6) (v:=.agg #[.slice (some ⟨g.c,0,none⟩) 2 2,g.fv]) rfl rfl (by kernel_rfl) (by kernel_rfl) (by kernel_rfl) (λ_ _ _ h=>h) (Or.inl ⟨by rfl,?hy16⟩) s ?rest16
        case hy16=>(intro wq hSw;have hSw2:=hSw.2.1;have hSw3:=hSw.2.2;go_simp;try with_reducible rfl)
        (try simp only[Act.put,o5,F6,amc]);refine wpAnyH_ready (rs:=[1,7]) (by kernel_rfl) (by simp) ?_;refine AllReadyH.cons rfl (λK y=>?_) (AllReadyH.cons rfl (λK y=>?_) AllReadyH.nil);focus (go_simp;refine y.out _ _ s (λ_=>?_);clear y K;(try simp only[Act.put,o5,F6,amc]);refine wpAnyH_ready (rs:=[7]) (by kernel_rfl) (by simp) ?_;refine AllReadyH.cons rfl (λK y=>?_) AllReadyH.nil;go_simp;refine y.out _ _ hS7 (λ_=>?_);clear y K;(try simp only[Act.put,o5,F6,amc]))
        rotate_left;focus (go_simp;refine y.out _ _ hS7 (λ_=>?_);clear y K;(try simp only[Act.put,o5,F6,amc]);refine wpAnyH_ready (rs:=[1]) (by kernel_rfl) (by simp) ?_;refine AllReadyH.cons rfl (λK y=>?_) AllReadyH.nil;go_simp;refine y.out _ _ hS7 (λ_=>?_);clear y K;(try simp only[Act.put,o5,F6,amc]))
        all_goals
         refine wpAnyH_ready (rs:=[8]) (by kernel_rfl) (by simp) ?_
         refine AllReadyH.cons rfl (λK y=>?_) AllReadyH.nil
         rw[if_pos (by rfl)]
         refine Tz _ _ 36 rfl (M.heap.size+2) 117 r0 (.agg #[.slice none 0 0,.slice none 0 0]) 2 48 ahd hrf hrz0 hrz1 hrz2 rfl (by decide) v _ _ rfl ((HO6.out.alloc (.cells #[.slice (some ⟨g.c,0,none⟩) 2 2,g.fv] 117)).drew.rows) ⟨N.heap.size,0,none⟩ 1 1 [.slice (some ⟨g.c,0,none⟩) 2 2,g.fv] rfl rfl (cell_two_new _ _ _ _) (by intro q E;rcases bh.1 E with rfl | E;rfl;rw[List.mem_singleton.1 E,hgv.out];rfl) (by unfold maxLen;omega) (by omega) (by have:=HO6.out.big;simp;omega) ?_
         intro v8 w8 hown8 Z hat8
         obtain⟨p8,c8,rfl⟩:=aa7 hown8
         obtain⟨hB8,ho8⟩:=HO6.out.drew.mid (o:=(.cells #[.slice (some ⟨g.c,0,none⟩) 2 2,g.fv] 117)) Z
         have hS8:((Instr.lookup 172 (.map (some w3.heap.size)) (.int .i64 g.key) false).run Tryz.prog w8=.ok (.pointer (some ⟨g.p,0,none⟩)) w8/\w8.cell? ⟨g.p,0,none⟩=some (.slice (some ⟨g.c,0,none⟩) 2 2)/\w8.cell? ⟨g.p,1,none⟩=some g.fv):=Ci HS5.out HS3.out A D hB8
         have HO8:Hid _:=HO6.out.drew.more (o:=(.cells #[.slice (some ⟨g.c,0,none⟩) 2 2,g.fv] 117)) hg hown8 Z hat8
         have of8:w8.frozen? ⟨M.heap.size+1,6,none⟩=false:=iY ho8
         have oc8:w8.cell? ⟨M.heap.size+1,6,none⟩=some v:=aJ ho8 rfl
         have hS9:((Instr.lookup 172 (.map (some w3.heap.size)) (.int .i64 g.key) false).run Tryz.prog (w8.setCell ⟨M.heap.size+1,6,none⟩ (.slice p8 (j+1) c8))=.ok (.pointer (some ⟨g.p,0,none⟩)) (w8.setCell ⟨M.heap.size+1,6,none⟩ (.slice p8 (j+1) c8))/\(w8.setCell ⟨M.heap.size+1,6,none⟩ (.slice p8 (j+1) c8)).cell? ⟨g.p,0,none⟩=some (.slice (some ⟨g.c,0,none⟩) 2 2)/\(w8.setCell ⟨M.heap.size+1,6,none⟩ (.slice p8 (j+1) c8)).cell? ⟨g.p,1,none⟩=some g.fv):=Ci HS5.out HS3.out A D HO8.out.bel
         clear hown8 Z hat8 hB8 ho8
         refine y.out _ _ hS8 (λ_=>?_)
         clear y K
         (try simp only[Act.put,o5,F6,amc])
         refine wpAnyH_ready (rs:=[9]) (by kernel_rfl) (by simp) ?_
         refine AllReadyH.cons rfl (λK y=>?_) AllReadyH.nil
         go_simp
         refine y.out _ _ hS8 (λ_=>?_)
         clear y K
         (try simp only[Act.put,o5,F6,amc])
         refine wpAnyH_ready (rs:=[10]) (by kernel_rfl) (by simp) ?_
         refine AllReadyH.cons rfl (λK y=>?_) AllReadyH.nil
         go_simp
         refine y.out _ _ hS9 (λ_=>?_)
         clear y K
         (try simp only[Act.put,o5,F6,amc])
         refine wpAnyH_done (by kernel_rfl) ?_ _
         have hHR:Hid (∀q,q∈(zx gs).take (j+1)->-1000000000<=q.sum/\q.sum<=1000000000):=λq E=>by
          rw[List.take_add_one,hg]at E;rcases List.mem_append.1 E with E | E
          ·exact HR.out q E
          ·cases List.mem_singleton.1 E
           exact hnum
         go_wp2_with fail
         go_roundw
         case rel=>exact⟨j+1,_,by omega,by go_num,HO8,hHR⟩
         case measure=>simp[intOf];omega
       ·have hNC:=Xo (n:=g.sum) (b:=false) (by
         by_cases q:-1000000000<=g.sum
         ·have q2:¬g.sum<=1000000000:=λq2=>hnum ⟨q,q2⟩
          simp[fO,jC,q,q2]
         ·simp[fO,jC,q]) HAMr.out
        have HE:Hid (aI 5=some res):=aak HOUT.out A hnum;go_wp2_with fail
        go_at_call 157
        refine hNC.mono ?_;rintro r6 N ⟨rfl,Y⟩;have HO6:Hid _:=HO.out.keep Y;clear p0 V lkr hkj hNC Y HO HSR;go_wp2_with fail
        have HB6:Hid (Below w3.heap.size w3 N):=(HS5.out.keep HS3.out HO6.out.bel).bel;go_at_call 29
        refine (Yb HE.out (jU HAm.out (HB3.out.trans (HB6.out.mono HB3.out.size)))).mono ?_;rintro r w7 ⟨lv,cv,rv,rfl,m,hv⟩;obtain⟨q1,l1,q2,l2,q3,l3,rfl,rfl,rfl⟩:=hv.sl;have d:=(m.block _ (aL (a6.1 F3.out).1 HB6.out.size)).trans ((HB6.out.block _ (a6.1 F3.out).1).trans F3.out);have s0:=aJ (i:=0) d rfl;have V:=aJ (i:=1) d rfl;have s2:=aJ (i:=2) d rfl;have s3:=aJ (i:=3) d rfl;have s4:=aJ (i:=4) d rfl;have s5:=aJ (i:=5) d rfl;have s6:=aJ (i:=6) d rfl;have f0:=λi=>iY (i:=i) d
        have HR7:Hid _:=d;have HB7:Hid (Below N.heap.size N w7):=m;have HV:Hid _:=hv;clear d m hv;go_wp2_with fail
        refine bodyPost_ret (KI rfl (Ce HR7.out _ _ _ _ _ _ _)) rfl ?_;obtain⟨O,r2,r3⟩:=KJ (S:=S) (S':=λb _=>N.heap.size<=b/\b<w7.heap.size) (HB3.out.trans ((HB6.out.trans (HB7.out.mono HB6.out.size)).mono HB3.out.size)) (VE w7 (w.heap.size+1+1+1) _ _ _ _ _ _ _) (by omega) HV.out (λb o z=>by
         have:=HZ3.out;have:=HB6.out.size;exact⟨by omega,.inr (by omega),z.2⟩)
        exact⟨_,_,_,_,rfl,O,r2,r3⟩
      ·obtain rfl:j=gs.length:=by omega
       have d:=(HSr.bel.block _ (a6.1 F3.out).1).trans F3.out;have s0:=aJ (i:=0) d rfl;have V:=aJ (i:=1) d rfl;have s2:=aJ (i:=2) d rfl;have s3:=aJ (i:=3) d rfl;have s4:=aJ (i:=4) d rfl;have s5:=aJ (i:=5) d rfl;have s6:=aJ (i:=6) d rfl;have f0:=λi=>iY (i:=i) d
       have u0:=aJ (i:=0) HO.out.out rfl;have u1:=aJ (i:=1) HO.out.out rfl;have u2:=aJ (i:=2) HO.out.out rfl;have u3:=aJ (i:=3) HO.out.out rfl;have u4:=aJ (i:=4) HO.out.out rfl;have u5:=aJ (i:=5) HO.out.out rfl;have u6:=aJ (i:=6) HO.out.out rfl;have HR9:Hid _:=d;obtain⟨p8,c8,rfl⟩:=aa7 HO.out.rows;clear d;go_wp2_with fail
       refine bodyPost_ret (KI rfl (Ce HR9.out _ _ _ _ _ _ _)) rfl ?_;have hres:=ahX HOUT.out (λq E=>HR.out q (by
        rw[List.take_of_length_le (by rw[BD];exact aD _)];exact BB.2 E))
       subst hres;have hz3:=HZ3.out;have hs5:=HS5.out.bel.size;have hsr:=HSr.bel.size;have HX:oN wr (λb o=>(S b o\/w.heap.size<=b)/\b≠w.heap.size+1+1+1/\b<wr.heap.size) (af.mk 5 0 0 [] [] [a.text,b.text] ((zx gs).map λg=>aB.mk [g.key,g.sum] g.orig)) (.slice none 0 0) (.slice (some ⟨M.heap.size,0,none⟩) 2 2) (.slice p8 gs.length c8):=by
        have hbig:=HO.out.big;have hrows:=HO.out.rows;rw[List.take_of_length_le (by rw[BD];exact aD _)]at hrows;refine⟨Rep.nil _,agc HO.out.cols (λo=>⟨.inr (by omega),by omega,by omega⟩),?_⟩;refine aeu (S:=S) (F:=F) (base:=M.heap.size+2) (by rw[BD];exact hrows) (λq E=>HSr.ats q (BB.1 E)) (λb o hb=>?_) (λq o E=>?_) (λb o hb=>?_)
        ·have:=HO.out.rows.lt b hb;exact⟨.inr (by omega),by omega,this.2⟩
        ·have:=HSr.low _ (eX (BB.1 E)).2;exact⟨.inr (by omega),by omega,this.2⟩
        ·rcases hb with hb | hb
         ·have:=J b o hb;exact⟨.inl hb,by omega,by omega⟩
         ·have:=HSr.fl b hb;exact⟨.inr (by omega),by omega,this.2⟩
       obtain⟨O,r2,r3⟩:=KJ (S:=S) (HB3.out.trans (HSr.bel.mono HB3.out.size)) (VE wr (w.heap.size+1+1+1) _ _ _ _ _ _ _) (by omega) HX (λb o z=>⟨z.2.1,z.1,z.2.2⟩);exact⟨_,_,_,_,rfl,O,r2,r3⟩
theorem J6:Sound Tryz.prog XO:=by
 intro w S args x y h c a d;rcases args with _ | ⟨u,_ | ⟨g,_ | ⟨i,_ | ⟨j,r⟩⟩⟩⟩
 ·exact a.elim
 ·exact a.2.elim
 ·exact a.2.2.elim
 ·obtain⟨⟨va,rfl,ca⟩,⟨vb,rfl,cb⟩,⟨vc,rfl,cc⟩⟩:=a;obtain⟨la,xa,ra,rfl,Va⟩:=EI ca;obtain⟨lb,xb,rb,rfl,Vb⟩:=EI cb;obtain⟨lc,xc,rc,rfl,Vc⟩:=EI cc;refine (aal x.1 x.2.1 x.2.2 y h w c S d _ _ _ _ _ _ _ _ _ Va Vb Vc).mono ?_;rintro e w' ⟨lv,cv,rv,S',rfl,f,hv,b⟩;exact⟨_,rfl,f,[_],rfl,S',⟨_,rfl,hv.cells _⟩,b⟩
 ·exact a.2.2.elim
