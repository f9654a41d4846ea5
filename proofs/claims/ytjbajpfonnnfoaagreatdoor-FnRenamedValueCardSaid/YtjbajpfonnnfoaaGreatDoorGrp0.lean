import Derived.Test.YtjbajpfonnnfoaaGreatDoorPdq8
set_option linter.unusedSimpArgs false
set_option linter.unusedVariables false
/- Groups of rows kept in a map from numbers to boxes: what holds while they are made. -/
namespace Go.Proofs.YtjbajpfonnnfoaaGreatDoor
open Go.Abs Go.Proofs Go.Shelf Go.RowKit Go.Lib Go.Sort Go.Maps
structure Gp where
 key:Int
 sum:Int
 orig:List aj
 p:Nat
 c:Nat
 fv:Value
def Gp.dat(g:Gp):Int×Int×List aj:=(g.key,g.sum,g.orig)
def Xc(v:Value):Option (DataW Unit×List MemPlace):=match v with
 | .pointer none=>some (.lit (.int .i64 (-1)),[])
 | .pointer (some ⟨b,0,none⟩)=>some (.lit (.int .i64 b),[])
 | _=>none
theorem Xb{v:Value}{b:Nat}{ps:List MemPlace}(h:Xc v=some (.lit (.int .i64 b),ps)):v=.pointer (some ⟨b,0,none⟩):=by
 unfold Xc at h;split at h
 ·simp at h
 ·rename_i b';simp at h;have e:b'=b:=by omega
  rw[e]
 ·cases h
theorem ahJ(n:Int):WideAt.IsKeyLit (.int .i64 n):=True.intro
theorem acF{v:Value}{ps:List MemPlace}(h:Xc v=some (.lit (.int .i64 (-1)),ps)):v=.pointer none:=by
 unfold Xc at h;split at h
 ·rfl
 ·simp at h
 ·cases h
def mapD(gs:List Gp):DataW Unit:=gs.foldl (λm g=>m.put (.int .i64 g.key) (.lit (.int .i64 g.p))) (.map [])
theorem acR(gs:List Gp)(g:Gp):mapD (gs++[g])=(mapD gs).put (.int .i64 g.key) (.lit (.int .i64 g.p)):=by simp[mapD,List.foldl_append]
theorem Ho:∀(gs:List Gp) (m:DataW Unit),Tidy m->Tidy (gs.foldl (λm g=>m.put (.int .i64 g.key) (.lit (.int .i64 g.p))) m)
 | [],_,h=>h
 | g::r,m,h=>Ho r _ (h.put (ahJ _) _)
theorem VS(x:Int)(z:DataW Unit):∀(gs:List Gp) (m:DataW Unit),Tidy m->(∀g,g∈gs->g.key≠x)->(gs.foldl (λm g=>m.put (.int .i64 g.key) (.lit (.int .i64 g.p))) m).atKey (.int .i64 x) z=m.atKey (.int .i64 x) z
 | [],_,_,_=>rfl
 | g::r,m,a,h=>by
  rw[List.foldl_cons,VS x z r _ (a.put (ahJ _) _) λg' b=>h g' (ar _ b)];exact atKey_put_other (by intro e;injection e with d c;exact h g aw c.symm) _ _
theorem acS{gs:List Gp}{x:Int}{z:DataW Unit}(h:∀g,g∈gs->g.key≠x):(mapD gs).atKey (.int .i64 x) z=z:=VS x z gs _ tidy_empty h
theorem RZ{pre post:List Gp}{g:Gp}{z:DataW Unit}(h:∀h,h∈post->h.key≠g.key):(mapD (pre++g::post)).atKey (.int .i64 g.key) z=.lit (.int .i64 g.p):=by
 unfold mapD;rw[List.foldl_append,List.foldl_cons,VS g.key z post _ ((Ho pre _ tidy_empty).put (ahJ _) _) h];exact atKey_put_same (Ho pre _ tidy_empty).isMap (ahJ _) _ _
theorem afp(pre post:List Gp)(g g':Gp)(hk:g'.key=g.key)(hp:g'.p=g.p):mapD (pre++g'::post)=mapD (pre++g::post):=by
 unfold mapD;rw[List.foldl_append,List.foldl_cons,List.foldl_append,List.foldl_cons,hk,hp]
def lm(gs:List Gp):List Nat:=gs.flatMap λg=>[g.p,g.c]
theorem aar{pre post:List Gp}{g:Gp}(h:(lm (pre++g::post)).Nodup):g.p≠g.c/\∀q,q∈pre\/q∈post->q.p≠g.p/\q.p≠g.c/\q.c≠g.p/\q.c≠g.c:=by
 unfold lm at h;rw[List.flatMap_append,List.flatMap_cons]at h;obtain⟨m,k,e⟩:=List.nodup_append.1 h;obtain⟨l,n,f⟩:=List.nodup_append.1 k;refine⟨by simpa using l,λq a=>?_⟩;rcases a with a | a
 ·have b:=e q.p (List.mem_flatMap.2 ⟨q,a,by simp⟩);have d:=e q.c (List.mem_flatMap.2 ⟨q,a,by simp⟩);exact⟨b _ (by simp),b _ (by simp),d _ (by simp),d _ (by simp)⟩
 ·have b:=f g.p (by simp);have d:=f g.c (by simp);have i:q.p∈post.flatMap λg=>[g.p,g.c]:=List.mem_flatMap.2 ⟨q,a,by simp⟩
  have j:q.c∈post.flatMap λg=>[g.p,g.c]:=List.mem_flatMap.2 ⟨q,a,by simp⟩
  exact⟨Ne.symm (b _ i),Ne.symm (d _ i),Ne.symm (b _ j),Ne.symm (d _ j)⟩
structure alq(S:Nat->Nat->Prop)(F:Nat->Prop)(wr:World)(g:Gp):Prop where
 hp:wr.heap[g.p]?=some (.cells #[.slice (some ⟨g.c,0,none⟩) 2 2,g.fv] 117 (0,0))
 hc:wr.heap[g.c]?=some (.cells #[.int .i64 g.key,.int .i64 g.sum] 3 (0,0))
 hf:Rep wr (λb o=>S b o\/F b) (.list (.base .origin) g.orig) g.fv
structure mF(M:Nat)(w2:World)(S:Nat->Nat->Prop)(wr:World)(gs:List Gp)(F:Nat->Prop)(kv:Value):Prop where
 map:wr.ownsMap Tryz.prog 3 Xc M gs.length (mapD gs)
 keys:wr.ownsRow (M+1) 3 1 kv gs.length (gs.map λg=>.int .i64 g.key)
 ats:∀g,g∈gs->alq S F wr g
 dis:(lm gs).Nodup
 low:∀b,b∈lm gs->M+1<b/\b<wr.heap.size/\¬F b/\some b≠kv.ownBlock
 fl:∀b,F b->M+1<b/\b<wr.heap.size/\some b≠kv.ownBlock
 kd:(gs.map Gp.key).Nodup
 bel:Below M w2 wr
 nv:kv≠.slice none 0 0
 big:M+1<wr.heap.size
section
variable {M:Nat} {w2 wr w':World} {S:Nat->Nat->Prop} {gs:List Gp} {F:Nat->Prop} {kv:Value}
theorem eX{gs:List Gp}{g:Gp}(h:g∈gs):g.p∈lm gs/\g.c∈lm gs:=⟨List.mem_flatMap.2 ⟨g,h,by simp⟩,List.mem_flatMap.2 ⟨g,h,by simp⟩⟩
theorem mF.step(h:mF M w2 S wr gs F kv)(r:∀b o,S b o->b<M){b:Nat}(v:wr.heap.size<=b)(a:wr.grownBy w' (some b)):mF M w2 S w' gs F kv:=by
 have big:=h.big;have ne:∀j,j<wr.heap.size->some j≠some b:=λj c e=>by injection e with e;omega
 refine⟨h.map.kept a (ne _ (by omega)),h.keys.kept a (.inr λe=>by have:=(h.keys.lt b e).2;omega),λg d=>?_,h.dis,λj c=>?_,λj c=>?_,h.kd,h.bel.grown a (by omega) (λj c=>by injection c with c;omega),h.nv,aL big a.size⟩
 ·have n:=h.low _ (eX d).1;have p:=h.low _ (eX d).2;obtain⟨s,t,u⟩:=h.ats g d;refine⟨(a.block _ n.2.1 (ne _ n.2.1)).trans s,(a.block _ p.2.1 (ne _ p.2.1)).trans t,u.move λq o f=>⟨f,?_⟩⟩;have i:q<wr.heap.size:=by
   rcases f with f | f
   ·have:=r q o f;omega
   ·exact (h.fl q f).2.1
  exact a.cell_far _ i (ne _ i)
 ·obtain⟨k,l,m⟩:=h.low j c;exact⟨k,aL l a.size,m⟩
 ·obtain⟨k,l,m⟩:=h.fl j c;exact⟨k,aL l a.size,m⟩
theorem mF.upd{pre post:List Gp}{g g':Gp}(h:mF M w2 S wr (pre++g::post) F kv)(E:∀b o,S b o->b<M)(hk:g'.key=g.key)(hp:g'.p=g.p)(hc:g'.c=g.c){b:Nat}(k:b=g.p\/b=g.c)(d:wr.grownBy w' (some b))
  (N:w'.heap.size=wr.heap.size) (l:w'.heap[g.p]?=some (.cells #[.slice (some ⟨g.c,0,none⟩) 2 2,g'.fv] 117 (0,0))/\w'.heap[g.c]?=some (.cells #[.int .i64 g.key,.int .i64 g'.sum] 3 (0,0)))
  (hf:Rep wr (λb o=>S b o\/F b) (.list (.base .origin) g'.orig) g'.fv):mF M w2 S w' (pre++g'::post) F kv:=by
 have m:g∈pre++g::post:=amj _ aw;have lb:M+1<b/\b<wr.heap.size/\¬F b/\some b≠kv.ownBlock:=by
  rcases k with rfl | rfl
  ·exact h.low _ (eX m).1
  ·exact h.low _ (eX m).2
 obtain⟨O,D⟩:=aar h.dis;have n:lm (pre++g'::post)=lm (pre++g::post):=by
  unfold lm;rw[List.flatMap_append,List.flatMap_append,List.flatMap_cons,List.flatMap_cons,hp,hc]
 have u:(pre++g'::post).map Gp.key=(pre++g::post).map Gp.key:=by simp[hk]
 have r:((pre++g'::post).map λg=>Value.int .i64 g.key)=((pre++g::post).map λg=>Value.int .i64 g.key):=by simp[hk]
 have s:(pre++g'::post).length=(pre++g::post).length:=by simp
 have mv:∀(o:List aj) (v:Value),Rep wr (λb o=>S b o\/F b) (.list (.base .origin) o) v->Rep w' (λb o=>S b o\/F b) (.list (.base .origin) o) v:=λo v G=>G.move λq o a=>⟨a,by
  have t:q<wr.heap.size/\q≠b:=by
   rcases a with a | a
   ·have:=E q o a;omega
   ·exact⟨(h.fl q a).2.1,λe=>lb.2.2.1 (e▸a)⟩
  exact d.cell_far _ t.1 (λe=>by injection e with e;exact t.2 e)⟩
 refine⟨?_,?_,λq a=>?_,by rw[n];exact h.dis,λj f=>?_,λj f=>?_,by rw[u];exact h.kd,h.bel.grown d (by omega) (λj f=>by injection f with f;omega),h.nv,by have:=h.big;omega⟩
 ·rw[s,afp pre post g g' hk hp];exact h.map.kept d (λe=>by injection e with e;omega)
 ·rw[s,r];exact h.keys.kept d (.inr (Ne.symm lb.2.2.2))
 ·rcases List.mem_append.1 a with a | a
  ·have i:q∈pre++g::post:=amk _ a;obtain⟨w,x,y⟩:=h.ats q i;obtain⟨H,I,J,K⟩:=D q (.inl a);have z:q.p≠b:=by rcases k with rfl | rfl<;>assumption
   have A:q.c≠b:=by rcases k with rfl | rfl<;>assumption
   exact⟨(d.block _ (h.low _ (eX i).1).2.1 λe=>by injection e with e;exact z e).trans w,(d.block _ (h.low _ (eX i).2).2.1 λe=>by injection e with e;exact A e).trans x,mv _ _ y⟩
  ·rcases bh.1 a with rfl | a
   ·refine⟨?_,?_,mv _ _ hf⟩
    ·rw[hp,hc];exact l.1
    ·rw[hc,hk];exact l.2
   ·have i:q∈pre++g::post:=amj _ (ar _ a);obtain⟨w,x,y⟩:=h.ats q i;obtain⟨H,I,J,K⟩:=D q (.inr a);have z:q.p≠b:=by rcases k with rfl | rfl<;>assumption
    have A:q.c≠b:=by rcases k with rfl | rfl<;>assumption
    exact⟨(d.block _ (h.low _ (eX i).1).2.1 λe=>by injection e with e;exact z e).trans w,(d.block _ (h.low _ (eX i).2).2.1 λe=>by injection e with e;exact A e).trans x,mv _ _ y⟩
 ·rw[n]at f;obtain⟨B,L,C⟩:=h.low j f;exact⟨B,by omega,C⟩
 ·obtain⟨B,L,C⟩:=h.fl j f;exact⟨B,by omega,C⟩
theorem mF.sum{pre post:List Gp}{g:Gp}(h:mF M w2 S wr (pre++g::post) F kv)(d:∀b o,S b o->b<M)(n:Int):mF M w2 S (wr.setCell ⟨g.c,1,none⟩ (.int .i64 n)) (pre ++ { g with sum:=n } :: post) F kv:=by
 have a:g∈pre++g::post:=amj _ aw;obtain⟨e,f,i⟩:=h.ats g a;have j:=(aar h.dis).1;refine h.upd d (g':={ g with sum:=n }) rfl rfl rfl (.inr rfl) (fP _ _ _) (by simp[World.setCell]) ⟨(Below.heap_setCell wr _ _ _ (show g.p≠g.c from j)).trans e,?_⟩ i;show (wr.heap.modify g.c _)[g.c]?=_
 rw[Array.getElem?_modify,if_pos rfl,f];rfl
theorem mF.org{pre post:List Gp}{g:Gp}(h:mF M w2 S wr (pre++g::post) F kv)(d:∀b o,S b o->b<M)(os:List aj)(v:Value)(hf:Rep wr (λb o=>S b o\/F b) (.list (.base .origin) os) v) :
  mF M w2 S (wr.setCell ⟨g.p,1,none⟩ v) (pre ++ { g with orig:=os,fv:=v } :: post) F kv:=by
 have a:g∈pre++g::post:=amj _ aw;obtain⟨e,f,j⟩:=h.ats g a;have i:=(aar h.dis).1;refine h.upd d (g':={ g with orig:=os,fv:=v }) rfl rfl rfl (.inl rfl) (fP _ _ _) (by simp[World.setCell]) ⟨?_,(Below.heap_setCell wr _ _ _ (show g.c≠g.p from Ne.symm i)).trans f⟩ hf;show (wr.heap.modify g.p _)[g.p]?=_
 rw[Array.getElem?_modify,if_pos rfl,e];rfl
theorem mF.more(h:mF M w2 S wr gs F kv)(n:∀b o,S b o->b<M)(c:Below wr.heap.size wr w'):mF M w2 S w' gs (λb=>F b\/(wr.heap.size<=b/\b<w'.heap.size)) kv:=by
 have p:wr.grownBy w' (some wr.heap.size):=⟨c.os,c.tape,c.output,c.size,λk hk _=>c.block k hk⟩;have a:=h.step n (aD _) p;refine⟨a.map,a.keys,λg f=>?_,a.dis,λj d=>?_,λj d=>?_,a.kd,a.bel,a.nv,a.big⟩
 ·obtain⟨r,s,t⟩:=a.ats g f;exact⟨r,s,t.move λq o u=>⟨u.elim .inl λq=>.inr (.inl q),rfl⟩⟩
 ·obtain⟨i,l,m,v⟩:=h.low j d;exact⟨i,aL l c.size,λe=>e.elim m λe=>by omega,v⟩
 ·rcases d with d | d
  ·obtain⟨i,l,m⟩:=h.fl j d;exact⟨i,aL l c.size,m⟩
  ·have:=h.big;exact⟨by omega,d.2,λe=>by have:=(h.keys.lt j e.symm).2;omega⟩
abbrev U9(wr:World)(x:Int):World:=(wr.alloc (.cells #[.int .i64 x,.int .i64 0] 3)).alloc (.cells #[.slice (some ⟨wr.heap.size,0,none⟩) 2 2,.slice none 0 0] 117)
theorem yu(wr:World)(x:Int){b:Nat}(a:wr.heap.size<=b):wr.grownBy (U9 wr x) (some b):=(World.grownBy_alloc _ _ _).trans (World.grownBy_alloc _ _ _)
theorem acP(wr:World)(x:Int):(U9 wr x).heap.size=wr.heap.size+2:=by simp[U9]
theorem mF.add{x:Int}{w1:World}{o:Obj}{kv':Value}(h:mF M w2 S wr gs F kv)(z:∀b o,S b o->b<M)(A:∀g,g∈gs->g.key≠x)
  (B:w1.ownsMap Tryz.prog 3 Xc M (gs.length+1) ((mapD gs).put (.int .i64 x) (.lit (.int .i64 ((wr.heap.size+1:Nat):Int))))) (n:(U9 wr x).grownBy w1 (some M))
  (s:w'.ownsRow (M+1) 3 1 kv' (gs.length+1) ((gs.map λg=>.int .i64 g.key)++[.int .i64 x])) (k:(w1.alloc o).grownBy w' kv.ownBlock) (hv:kv'≠.slice none 0 0) (t:kv'.ownBlock=kv.ownBlock\/kv'.ownBlock=some (w1.alloc o).heap.size) :
  mF M w2 S w' (gs++[⟨x,0,[],wr.heap.size+1,wr.heap.size,.slice none 0 0⟩]) F kv':=by
 have big:=h.big;have C:=h.step z (aD _) (yu wr x (aD _));have L:=acP wr x;have N:=n.size;have O:=k.size;have P:(w1.alloc o).heap.size=w1.heap.size+1:=by simp
 have far:∀j,M<j->j<wr.heap.size+2->some j≠kv.ownBlock->w'.heap[j]?=(U9 wr x).heap[j]?:=λj d D hk=>by
  rw[k.block j (by omega) hk,Below.heap_alloc w1 o j (by omega)];exact n.block j (by omega) λe=>by injection e with e;omega
 have kb:∀j,kv.ownBlock=some j->j<wr.heap.size:=λj d=>(h.keys.lt j d).2
 have nk:∀j,wr.heap.size<=j->some j≠kv.ownBlock:=λj d e=>by have:=kb j e.symm;omega
 have nk':∀j,j<wr.heap.size+2->some j≠kv.ownBlock->some j≠kv'.ownBlock:=λj d hk e=>by
  rcases t with q | q
  ·exact hk (e.trans q)
  ·rw[q]at e;injection e with e;omega
 have E:wr.heap.size+2<=w'.heap.size:=by omega
 have mv:∀(os:List aj) (v:Value),Rep wr (λb o=>S b o\/F b) (.list (.base .origin) os) v->Rep w' (λb o=>S b o\/F b) (.list (.base .origin) os) v:=λos v s=>s.move λq c i=>⟨i,by
  apply World.cell?_of_block;show w'.heap[q]?=_
  rcases i with i | i
  ·have:=z q c i;exact (k.block q (by omega) (λe=>by have:=(h.keys.lt q e.symm).1;omega)).trans ((Below.heap_alloc w1 o q (by omega)).trans ((n.block q (by omega) λe=>by injection e with e;omega).trans ((yu wr x (aD _)).block q (by omega) λe=>by injection e with e;omega)))
  ·obtain⟨Q,G,H⟩:=h.fl q i;exact (far q (by omega) (by omega) H).trans ((yu wr x (aD _)).block q G λe=>by injection e with e;omega)⟩
 have keep:∀j,j∈lm gs->w'.heap[j]?=wr.heap[j]?:=λj d=>by
  obtain⟨p,u,r,w⟩:=h.low j d;exact (far j (by omega) (by omega) w).trans ((yu wr x (aD _)).block j u λe=>by injection e with e;omega)
 refine⟨?_,?_,λg f=>?_,?_,λj d=>?_,λj d=>?_,?_,?_,hv,by omega⟩
 ·rw[a8,acR];exact (B.alloc o).kept k (λe=>by have:=(h.keys.lt M e.symm).1;omega)
 ·rw[a8,List.map_append];exact s
 ·rcases List.mem_append.1 f with f | f
  ·obtain⟨I,J,K⟩:=h.ats g f;exact⟨(keep _ (eX f).1).trans I,(keep _ (eX f).2).trans J,mv _ _ K⟩
  ·rw[amd]at f;subst f;refine⟨?_,?_,Rep.nil _⟩
   ·rw[far (wr.heap.size+1) (by omega) (by omega) (nk _ (by omega))];have:wr.heap.size+1=(wr.alloc (.cells #[.int .i64 x,.int .i64 0] 3)).heap.size:=by simp
    show (U9 wr x).heap[wr.heap.size+1]?=_
    rw[this];exact (MapKept.heap_alloc _ _).1
   ·rw[far wr.heap.size (by omega) (by omega) (nk _ (aD _))];show (U9 wr x).heap[wr.heap.size]?=_
    rw[Below.heap_alloc _ _ _ (by simp)];exact (MapKept.heap_alloc _ _).1
 ·unfold lm;rw[List.flatMap_append,List.nodup_append];refine⟨h.dis,by simp,λa y b l=>?_⟩;have:=(h.low a y).2.1;simp at l;rcases l with rfl | rfl<;>omega
 ·unfold lm at d;rw[List.flatMap_append]at d;rcases List.mem_append.1 d with d | d
  ·obtain⟨p,u,r,w⟩:=h.low j d;exact⟨p,by omega,r,nk' j (by omega) w⟩
  ·simp at d;have m:wr.heap.size<=j/\j<wr.heap.size+2:=by rcases d with rfl | rfl<;>omega
   exact⟨by omega,by omega,λe=>by have:=(h.fl j e).2.1;omega,nk' j m.2 (nk j m.1)⟩
 ·obtain⟨p,u,r⟩:=h.fl j d;exact⟨p,by omega,nk' j (by omega) r⟩
 ·rw[List.map_append,List.nodup_append];refine⟨h.kd,by simp,λa y b l=>?_⟩;obtain⟨g,f,rfl⟩:=List.mem_map.1 y;simp at l;subst l;exact A g f
 ·exact ((C.bel.grown n (by omega) (λj d=>by injection d with d;omega)).alloc (by omega) o).grown k (by omega) (λj d=>by have:=(h.keys.lt j d).1;omega)
theorem La:Tryz.prog.underlying 172=some (.map 3 173):=by kernel_rfl
theorem Lc:Keyed Tryz.prog 3:=int_keyed Tryz.underlying3
theorem O4(w:World):(zeroValue 173).run Tryz.prog w=.ok (.pointer none) w:=by kernel_rfl
theorem Cf{x:Int}(h:(Lit.int .i64 x).wf=true):keyOf Tryz.prog 3 (.int .i64 x)=some (.int .i64 x):=keyOf_int_mk Tryz.underlying3 h
theorem mF.afq(h:mF M w2 S wr gs F kv){x:Int}(a:(Lit.int .i64 x).wf=true)(b:∀g,g∈gs->g.key≠x):(Instr.lookup 172 (.map (some M)) (.int .i64 x) false).run Tryz.prog wr=.ok (.pointer none) wr:=by
 obtain⟨v,ps,hrun,hv⟩:=h.map.lookup Lc La (O4 wr) (zd:=.lit (.int .i64 (-1))) (zp:=[]) rfl (Cf a);rw[acS b]at hv;rw[hrun,acF hv]
theorem mF.look{pre post:List Gp}{g:Gp}(h:mF M w2 S wr (pre++g::post) F kv)(a:(Lit.int .i64 g.key).wf=true):(Instr.lookup 172 (.map (some M)) (.int .i64 g.key) false).run Tryz.prog wr=.ok (.pointer (some ⟨g.p,0,none⟩)) wr:=by
 obtain⟨v,ps,hrun,hv⟩:=h.map.lookup Lc La (O4 wr) (zd:=.lit (.int .i64 (-1))) (zp:=[]) rfl (Cf a);rw[RZ λq b=>?_]at hv
 ·rw[hrun,Xb hv]
 ·have hk:=h.kd;rw[List.map_append,List.map_cons]at hk;have c:=(List.nodup_append.1 hk).2.1;exactλe=>(List.nodup_cons.1 c).1 (List.mem_map.2 ⟨q,b,e⟩)
end
theorem afR{P:Program}{ρ:Ren}(L:Lays.n191 P ρ)(w:World)(g cap:Nat)(cur:Array Value)(E:TypeId)(zs:List Int)(b:w.heap[g]?=some (.cells cur E (0,0)))(hc:cur.size=cap)(v:zs.length<=cap)(z:zs.length<=34359738368)
  (d:∀(i:Nat) (x:Int),zs[i]?=some x->cur[i]?=some (.int .i64 x)) :
  Calls P (ρ.f 191) #[.slice (some ⟨g,0,none⟩) zs.length cap] w λe w'=>e=.returned (.tuple #[])/\w'.os=w.os/\w'.tape=w.tape/\w'.output=w.output/\w.heap.size<=w'.heap.size/\(∀c,c<w.heap.size->c≠g->w'.heap[c]?=w.heap[c]?) /\
   ∀(i:Nat) (x:Int),(zs.mergeSort λx y=>decide (x<=y))[i]?=some x->w'.cell? ⟨g,i,none⟩=some (.int .i64 x):=by
 have a:g<w.heap.size:=(a6.1 b).1;have r:Holds (Value.int .i64) w g 0 zs.toArray:=by
  intro j p;have h:j<zs.length:=by simpa using p
  have e:w.cell? ⟨g,0+j,none⟩=cur[j]?:=by simp[World.cell?,b]
  refine⟨?_,?_⟩
  ·rw[e,d j _ (zF h)];rw[getElem!_pos _ j p];simp
  ·unfold World.frozen?;simp only[b];simp
 refine (Any.sort_Ints L g 0 cap zs w r a (by omega)).mono ?_;rintro e w' ⟨rfl,n,os,rfl⟩;generalize k:(zs.mergeSort λx y=>decide (x<=y))=ys;have t:ys.length=zs.length:=by rw[<- k];exact List.length_mergeSort _
 refine⟨rfl,rfl,rfl,rfl,?_,?_,?_⟩
 ·show _<=((putRow (Value.int .i64) (Sort.ahead w n) g 0 _).heap++os).size
  rw[Array.size_append,size_putRow];exact Nat.le_add_right _ _
 ·intro c l m;show ((putRow (Value.int .i64) (Sort.ahead w n) g 0 _).heap++os)[c]?=_
  rw[Array.getElem?_append_left (by rw[size_putRow];exact l)];show (w.heap.modify g _)[c]?=_
  rw[Array.getElem?_modify,if_neg (Ne.symm m)]
 ·intro i s q;have hi:i<ys.length:=(zC.1 q).1;have o:i<cur.size:=by omega
  have u:((putRow (Value.int .i64) (Sort.ahead w n) g 0 ys.toArray).heap++os)[g]?=some (.cells (putCells (Value.int .i64) 0 ys.toArray cur) E (0,0)):=by
   rw[Array.getElem?_append_left (by rw[size_putRow];exact a)];show (w.heap.modify g _)[g]?=_
   rw[Array.getElem?_modify,if_pos rfl,b];rfl
  have hcell:(putCells (Value.int .i64) 0 ys.toArray cur)[i]?=some (.int .i64 s):=by
   unfold putCells;rw[Array.getElem?_mapIdx,Array.getElem?_eq_getElem o,Option.map_some,if_pos ⟨Nat.zero_le _,by simpa using hi⟩,Nat.sub_zero];rw[getElem!_pos _ i (by simpa using hi)];have:ys[i]=s:=(zC.1 q).2;simp only[List.getElem_toArray,this]
  show World.cell? _ _=_
  unfold World.cell?;show (match ((putRow (Value.int .i64) (Sort.ahead w n) g 0 ys.toArray).heap++os)[g]? with | some (.cells cs _ _)=>_ | _=>_)=_
  rw[u];simpa using hcell
structure aaz(M:Nat)(w2:World)(S:Nat->Nat->Prop)(wr:World)(gs:List Gp)(F:Nat->Prop)(kb:Nat)(ks:List Int):Prop where
 map:wr.ownsMap Tryz.prog 3 Xc M gs.length (mapD gs)
 ats:∀g,g∈gs->alq S F wr g
 low:∀b,b∈lm gs->M<b/\b<wr.heap.size
 fl:∀b,F b->M<b/\b<wr.heap.size
 kd:(gs.map Gp.key).Nodup
 bel:Below M w2 wr
 kl:M<kb/\kb<wr.heap.size
 kc:∀(i:Nat) (x:Int),ks[i]?=some x->wr.cell? ⟨kb,i,none⟩=some (.int .i64 x)
theorem owns_block{H:Type}{P:Program}{w w':World}{k:TypeId}{R:Value->Option (DataW H×List MemPlace)}{b n:Nat}{D:DataW H}(h:w.ownsMap P k R b n D)(c:w'.heap[b]?=w.heap[b]?):w'.ownsMap P k R b n D:=by
 obtain⟨es,clock,a,F,d,e⟩:=h;exact⟨es,clock,c.trans a,F,d,e⟩
theorem aaz.keep{M:Nat}{w2 wr w':World}{S:Nat->Nat->Prop}{gs:List Gp}{F:Nat->Prop}{kb:Nat}{ks:List Int}(h:aaz M w2 S wr gs F kb ks)(f:∀b o,S b o->b<M)(c:Below wr.heap.size wr w'):aaz M w2 S w' gs F kb ks:=by
 have d:M<wr.heap.size:=h.map.lt;refine⟨owns_block h.map (c.block M d),λg e=>?_,λb a=>⟨(h.low b a).1,aL (h.low b a).2 c.size⟩,λb a=>⟨(h.fl b a).1,aL (h.fl b a).2 c.size⟩,h.kd,h.bel.trans (c.mono (Nat.le_of_lt d)),⟨h.kl.1,aL h.kl.2 c.size⟩,λi x j=>(c.cell (p:=⟨kb,i,none⟩) h.kl.2).trans (h.kc i x j)⟩;obtain⟨k,l,m⟩:=h.ats g e;refine⟨(c.block _ (h.low _ (eX e).1).2).trans k,(c.block _ (h.low _ (eX e).2).2).trans l,m.move λb o a=>⟨a,c.cell (p:=⟨b,o,none⟩) ?_⟩⟩;rcases a with a | a
 ·exact Nat.lt_trans (f b o a) d
 ·exact (h.fl b a).2
theorem mF.sorted{M:Nat}{w2 wr w':World}{S:Nat->Nat->Prop}{gs:List Gp}{F:Nat->Prop}{kb cap:Nat}{ks:List Int}(h:mF M w2 S wr gs F (.slice (some ⟨kb,0,none⟩) gs.length cap))(p:∀b o,S b o->b<M)
  (t:w'.os=wr.os) (u:w'.tape=wr.tape) (v:w'.output=wr.output) (l:wr.heap.size<=w'.heap.size) (f:∀c,c<wr.heap.size->c≠kb->w'.heap[c]?=wr.heap[c]?) (w:∀(i:Nat) (x:Int),ks[i]?=some x->w'.cell? ⟨kb,i,none⟩=some (.int .i64 x)):aaz M w2 S w' gs F kb ks:=by
 have hk:=h.keys.lt kb rfl;have big:=h.big;have y:wr.grownBy w' (some kb):=⟨t,u,v,l,λk m n=>f k m λe=>n (by rw[e])⟩;have nk:∀b,some b≠(Value.slice (some ⟨kb,0,none⟩) gs.length cap).ownBlock->b≠kb:=λb a e=>a (by rw[e];rfl)
 refine⟨owns_block h.map (f M (by omega) (by omega)),λg d=>?_,λb a=>⟨by have:=(h.low b a).1;omega,aL (h.low b a).2.1 l⟩,λb a=>⟨by have:=(h.fl b a).1;omega,aL (h.fl b a).2.1 l⟩,h.kd,h.bel.grown y (by omega) (λj q=>by injection q with q;omega),⟨by omega,by omega⟩,w⟩;obtain⟨z,A,B⟩:=h.ats g d;have r:=h.low _ (eX d).1;have s:=h.low _ (eX d).2;refine⟨(f _ r.2.1 (nk _ r.2.2.2)).trans z,(f _ s.2.1 (nk _ s.2.2.2)).trans A,B.move λb o a=>⟨a,World.cell?_of_block (f b ?_ ?_)⟩⟩
 ·rcases a with a | a
  ·have:=p b o a;omega
  ·exact (h.fl b a).2.1
 ·rcases a with a | a
  ·have:=p b o a;show b≠kb
   omega
  ·exact nk _ (h.fl b a).2.2
theorem aaz.look{M:Nat}{w2 wr:World}{S:Nat->Nat->Prop}{gs:List Gp}{F:Nat->Prop}{kb:Nat}{ks:List Int}(h:aaz M w2 S wr gs F kb ks){g:Gp}(a:g∈gs)(b:(Lit.int .i64 g.key).wf=true):(Instr.lookup 172 (.map (some M)) (.int .i64 g.key) false).run Tryz.prog wr=.ok (.pointer (some ⟨g.p,0,none⟩)) wr:=by
 obtain⟨pre,post,rfl⟩:=List.append_of_mem a;obtain⟨v,ps,hrun,hv⟩:=h.map.lookup Lc La (O4 wr) (zd:=.lit (.int .i64 (-1))) (zp:=[]) rfl (Cf b);rw[RZ λq c=>?_]at hv
 ·rw[hrun,Xb hv]
 ·have hk:=h.kd;rw[List.map_append,List.map_cons]at hk;have d:=(List.nodup_append.1 hk).2.1;exactλe=>(List.nodup_cons.1 d).1 (List.mem_map.2 ⟨q,c,e⟩)
noncomputable def zx(gs:List Gp):List Gp:=gs.mergeSort λp q=>decide (p.key<=q.key)
theorem ab3(gs:List Gp):(zx gs).map Gp.dat=(gs.map Gp.dat).mergeSort λp q=>decide (p.1<=q.1):=
 List.map_mergeSort (r:=λp q:Gp=>decide (p.key<=q.key)) (s:=λp q:Int×Int×List aj=>decide (p.1<=q.1)) (f:=Gp.dat) (λ_ _ _ _=>rfl)
theorem ab2(gs:List Gp):(zx gs).map Gp.key=(gs.map Gp.key).mergeSort λx y=>decide (x<=y):=
 List.map_mergeSort (r:=λp q:Gp=>decide (p.key<=q.key)) (s:=λx y:Int=>decide (x<=y)) (f:=Gp.key) (λ_ _ _ _=>rfl)
theorem BB{gs:List Gp}{g:Gp}:g∈zx gs↔g∈gs:=List.mem_mergeSort
theorem BD(gs:List Gp):(zx gs).length=gs.length:=List.length_mergeSort _
def uw(gs:List Gp):List Value:=gs.flatMap λg=>[.slice (some ⟨g.c,0,none⟩) 2 2,g.fv]
theorem Zr(gs:List Gp)(g:Gp):uw (gs++[g])=uw gs++[.slice (some ⟨g.c,0,none⟩) 2 2,g.fv]:=by simp[uw]
structure tC(w5 wr:World)(a b:Str)(gs:List Gp)(j:Nat)(v:Value):Prop where
 bel:Below w5.heap.size w5 wr
 cols:wr.heap[w5.heap.size]?=some (.cells #[.string ⟨a.toArray⟩,.string ⟨b.toArray⟩] 9 (0,0))
 out:wr.heap[w5.heap.size+1]?=some (.cells #[.int .i64 5,.int .i64 0,.int .i64 0,.string ⟨#[]⟩,.slice none 0 0,.slice (some ⟨w5.heap.size,0,none⟩) 2 2,v] 38 (0,0))
 rows:wr.ownsRow (w5.heap.size+2) 117 2 v j (uw (gs.take j))
abbrev outW(c:World)(a b:Str):World:=(c.alloc (.cells #[.string ⟨a.toArray⟩,.string ⟨b.toArray⟩] 9)).alloc (.cells #[.int .i64 5,.int .i64 0,.int .i64 0,.string ⟨#[]⟩,.slice none 0 0,.slice (some ⟨c.heap.size,0,none⟩) 2 2,.slice none 0 0] 38)
theorem tC.start(c:World)(a b:Str)(gs:List Gp):tC c (outW c a b) a b gs 0 (.slice none 0 0) where
 bel:=((Below.refl _ _).alloc (aD _) _).alloc (by simp) _
 cols:=(Below.heap_alloc _ _ _ (by simp)).trans (MapKept.heap_alloc _ _).1
 out:=by
  have:c.heap.size+1=(c.alloc (.cells #[.string ⟨a.toArray⟩,.string ⟨b.toArray⟩] 9)).heap.size:=by simp
  show (outW c a b).heap[c.heap.size+1]?=_
  rw[this];exact (MapKept.heap_alloc _ _).1
 rows:=World.ownsRow_nil _ _ _ _
theorem tC.big{c wr:World}{a b:Str}{gs:List Gp}{j:Nat}{v:Value}(h:tC c wr a b gs j v):c.heap.size+2<=wr.heap.size:=(a6.1 h.out).1
theorem tC.keep{d wr w':World}{a b:Str}{gs:List Gp}{j:Nat}{v:Value}(h:tC d wr a b gs j v)(c:Below wr.heap.size wr w'):tC d w' a b gs j v:=by
 have big:=h.big;refine⟨h.bel.trans (c.mono h.bel.size),(c.block _ (by omega)).trans h.cols,(c.block _ (by omega)).trans h.out,h.rows.kept (w':=w') (row:=some wr.heap.size) ⟨c.os,c.tape,c.output,c.size,λk hk _=>c.block k hk⟩ (.inr λe=>?_)⟩;have:=(h.rows.lt _ e).2;omega
theorem tC.more{d wr w1:World}{a b:Str}{gs:List Gp}{j:Nat}{v v':Value}{g:Gp}{o:Obj}(h:tC d wr a b gs j v)(l:gs[j]?=some g)(m:w1.ownsRow (d.heap.size+2) 117 2 v' (j+1) (uw (gs.take j)++[.slice (some ⟨g.c,0,none⟩) 2 2,g.fv]))(i:(wr.alloc o).grownBy w1 v.ownBlock)
  (f:v'.ownBlock=v.ownBlock\/v'.ownBlock=some (wr.alloc o).heap.size):tC d (w1.setCell ⟨d.heap.size+1,6,none⟩ v') a b gs (j+1) v':=by
 have big:=h.big;have n:(wr.alloc o).heap.size=wr.heap.size+1:=by simp
 have nv:∀k,k<d.heap.size+2->some k≠v.ownBlock:=λk hk e=>by have:=(h.rows.lt k e.symm).1;omega
 have keep:∀k,k<d.heap.size+2->w1.heap[k]?=wr.heap[k]?:=λk hk=>(i.block k (by omega) (nv k hk)).trans (Below.heap_alloc wr o k (by omega))
 have hset:=fP w1 ⟨d.heap.size+1,6,none⟩ v';have hout:=(keep (d.heap.size+1) (by omega)).trans h.out;refine⟨?_,?_,?_,?_⟩
 ·exact (((h.bel.alloc h.bel.size o).grown i (by omega) (λk hk=>by have:=(h.rows.lt k hk).1;omega))).setCell (by show d.heap.size<=d.heap.size+1;omega) _
 ·rw[Below.heap_setCell w1 _ _ _ (by show d.heap.size≠d.heap.size+1;omega)];exact (keep _ (by omega)).trans h.cols
 ·show (w1.heap.modify (d.heap.size+1) _)[d.heap.size+1]?=_
  rw[Array.getElem?_modify,if_pos rfl,hout];rfl
 ·have e:gs.take (j+1)=gs.take j++[g]:=by rw[List.take_add_one,l];rfl
  rw[e,Zr];exact m.kept hset (.inr λe=>by
   rcases f with q | q
   ·exact nv (d.heap.size+1) (by omega) (e.symm.trans q)
   ·rw[q,n]at e;have e:some (wr.heap.size+1)=some (d.heap.size+1):=e;injection e with e;omega)
theorem Nq:∀(gs:List Gp) (i:Nat) (g:Gp),gs[i]?=some g->(uw gs)[i*2]?=some (.slice (some ⟨g.c,0,none⟩) 2 2)/\(uw gs)[i*2+1]?=some g.fv
 | q::r,0,g,h=>by
  cases h
  exact⟨rfl,rfl⟩
 | q::r,i+1,g,h=>by
  have e:uw (q::r)=.slice (some ⟨q.c,0,none⟩) 2 2::q.fv::uw r:=rfl;have a:(i+1)*2=i*2+1+1:=by omega
  have b:(i+1)*2+1=i*2+1+1+1:=by omega
  have:=Nq r i g h;rw[e,a,List.getElem?_cons_succ,List.getElem?_cons_succ,List.getElem?_cons_succ,List.getElem?_cons_succ];exact this
theorem tC.drew{c wr:World}{a b:Str}{gs:List Gp}{j:Nat}{v:Value}(h:tC c wr a b gs j v):tC c wr.drew a b gs j v:=h.keep (Below.refl _ _).drew
theorem tC.alloc{c wr:World}{a b:Str}{gs:List Gp}{j:Nat}{v:Value}(h:tC c wr a b gs j v)(o:Obj):tC c (wr.alloc o) a b gs j v:=h.keep ((Below.refl _ _).alloc (aD _) o)
theorem tC.cell{c wr:World}{a b:Str}{gs:List Gp}{j:Nat}{v:Value}(h:tC c wr a b gs j v):wr.cell? ⟨c.heap.size+1,6,none⟩=some v:=by simp[World.cell?,h.out]
theorem tC.mid{c wr w1:World}{a b:Str}{gs:List Gp}{j:Nat}{v:Value}{o:Obj}(h:tC c wr a b gs j v)(d:(wr.alloc o).grownBy w1 v.ownBlock) :
  Below c.heap.size c w1/\w1.heap[c.heap.size+1]?=some (.cells #[.int .i64 5,.int .i64 0,.int .i64 0,.string ⟨#[]⟩,.slice none 0 0,.slice (some ⟨c.heap.size,0,none⟩) 2 2,v] 38 (0,0)):=by
 have big:=h.big;have f:(wr.alloc o).heap.size=wr.heap.size+1:=by simp
 refine⟨(h.bel.alloc h.bel.size o).grown d (by omega) (λk hk=>by have:=(h.rows.lt k hk).1;omega),?_⟩;refine (d.block _ (by omega) (λe=>by have:=(h.rows.lt _ e.symm).1;omega)).trans ((Below.heap_alloc wr o _ (by omega)).trans h.out)
theorem Ci{M:Nat}{w2 a W:World}{S:Nat->Nat->Prop}{gs:List Gp}{F:Nat->Prop}{kb:Nat}{ks:List Int}(h:aaz M w2 S a gs F kb ks)(f:∀b o,S b o->b<M){g:Gp}(d:g∈gs)(i:(Lit.int .i64 g.key).wf=true)(j:Below a.heap.size a W) :
  (Instr.lookup 172 (.map (some M)) (.int .i64 g.key) false).run Tryz.prog W=.ok (.pointer (some ⟨g.p,0,none⟩)) W/\W.cell? ⟨g.p,0,none⟩=some (.slice (some ⟨g.c,0,none⟩) 2 2)/\W.cell? ⟨g.p,1,none⟩=some g.fv:=by
 have e:=h.keep f j;have hp:=(e.ats g d).hp;exact⟨e.look d i,by simp[World.cell?,hp],by simp[World.cell?,hp]⟩
theorem ahX{a b:Str}{gs:List Gp}{res:af}(h:yM a b (gs.map Gp.dat)=some res)(c:∀g,g∈gs->-1000000000<=g.sum/\g.sum<=1000000000):res=af.mk 5 0 0 [] [] [a,b] ((zx gs).map λg=>aB.mk [g.key,g.sum] g.orig):=by
 unfold yM at h;have e:((gs.map Gp.dat).all λg=>decide (-1000000000<=g.2.1)&&decide (g.2.1<=1000000000))=true:=by
  rw[amf];intro x d;obtain⟨g,f,rfl⟩:=List.mem_map.1 d;have:=c g f;simp[Gp.dat,this.1,this.2]
 rw[if_pos e]at h;rw[<- a7 h,<- ab3,List.map_map];rfl
theorem aak{a b:Str}{gs:List Gp}{res:af}(h:yM a b (gs.map Gp.dat)=some res){g:Gp}(c:g∈gs)(d:¬(-1000000000<=g.sum/\g.sum<=1000000000)):aI 5=some res:=by
 unfold yM at h;have e:¬(((gs.map Gp.dat).all λg=>decide (-1000000000<=g.2.1)&&decide (g.2.1<=1000000000))=true):=by
  rw[amf];intro q;have:=q g.dat (List.mem_map.2 ⟨g,c,rfl⟩);simp only[Gp.dat,zI,decide_eq_true_eq]at this;exact d ⟨of_decide_eq_true this.1,of_decide_eq_true this.2⟩
 rw[if_neg e]at h;rw[<- h];rfl
theorem aeu{w:World}{S S':Nat->Nat->Prop}{F:Nat->Prop}{base:Nat}{v:Value}{gs:List Gp}(h:w.ownsRow base 117 2 v gs.length (uw gs))(p:∀g,g∈gs->alq S F w g)
  (hv:∀b o,v.ownBlock=some b->S' b o) (hc:∀g o,g∈gs->S' g.c o) (hf:∀b o,S b o\/F b->S' b o):Rep w S' (.list (.base .row) (gs.map λg=>aB.mk [g.key,g.sum] g.orig)) v:=by
 have hcell:=λg q=>h.cells (g:=g) q
 rcases h.2 with ⟨rfl,r⟩ | ⟨kb,cap,cur,rfl,_,_,hcap,_,_,_⟩
 ·obtain rfl:=amB r;exact Rep.nil _
 ·have s:(gs.map λg=>aB.mk [g.key,g.sum] g.orig).length=gs.length:=amv _;rw[<- s]at hcap ⊢;have key:∀(i:Nat) (x:aB),(gs.map λg=>aB.mk [g.key,g.sum] g.orig)[i]?=some x->∃g,gs[i]?=some g/\g∈gs/\x=aB.mk [g.key,g.sum] g.orig:=λi x f=>by
   rw[amh]at f;cases l:gs[i]? with
   | none=>rw[l]at f;cases f
   | some g=>rw[l]at f;cases f;exact⟨g,rfl,zG l,rfl⟩
  refine Rep.list (.base .row) _ kb 0 cap (λi j=>((uw gs)[i*2+j]?).getD undef) hcap (λi x j d f k=>⟨?_,hv _ _ rfl⟩) (λi x j d f k=>?_)
  ·obtain⟨g,m,n,rfl⟩:=key i x f;have t:j<2:=(zC.1 k).1;have a:=Nq gs i g m;have e:0+(i*(Ty.base .row).size+j)=0+(i*2+j):=rfl;rw[e];have ad:∀j,(⟨kb,0,none⟩:Addr).add j=⟨kb,0+j,none⟩:=λj=>by
    unfold Addr.add;split
    ·rename_i q;rw[q]
    ·rfl
   match j,t with
   | 0,_=>
    have:=hcell kb rfl (i*2+0) _ a.1;rw[ad]at this;rw[this];show _=some (((uw gs)[i*2]?).getD undef)
    rw[a.1];rfl
   | 1,_=>
    have:=hcell kb rfl (i*2+1) _ a.2;rw[ad]at this;rw[this,a.2];rfl
  ·obtain⟨g,m,n,rfl⟩:=key i x f;have a:=Nq gs i g m;obtain⟨_,u,y⟩:=p g n;match j with
   | 0=>
    cases k
    show Rep w S' (.list (.base .int) [g.key,g.sum]) (((uw gs)[i*2]?).getD undef)
    rw[a.1];refine Rep.list (.base .int) [g.key,g.sum] g.c 0 2 (λi _=>.int .i64 ([g.key,g.sum].getD i 0)) (aD _) (λi x j d f k=>⟨?_,hc g _ n⟩) (λi x j d f k=>?_)
    ·have hi:i<2:=(zC.1 f).1;cases j with
     | succ j=>simp[Ty.cells,Base.cells]at k
     | zero=>
      simp only[World.cell?,u];match i,hi with
      | 0,_=>rfl
      | 1,_=>rfl
    ·cases j with
     | succ j=>simp[Ty.cells,Base.cells]at k
     | zero=>
      simp only[Ty.cells,Base.cells,List.getElem?_cons_zero,zD]at k;subst k;have:([g.key,g.sum]:List Int).getD i 0=x:=by rw[zE,f];rfl
      rw[this];exact Rep.int _ _
   | 1=>
    cases k
    show Rep w S' (.list (.base .origin) g.orig) (((uw gs)[i*2+1]?).getD undef)
    rw[a.2];exact y.move λb o z=>⟨hf b o z,rfl⟩
   | j+2=>simp[Ty.cells,Base.cells]at k
theorem agc{w:World}{S':Nat->Nat->Prop}{g:Nat}{E:TypeId}{a b:Str}(h:w.heap[g]?=some (.cells #[.string ⟨a.toArray⟩,.string ⟨b.toArray⟩] E (0,0)))(f:∀o,S' g o):Rep w S' (.list (.base .str) [a,b]) (.slice (some ⟨g,0,none⟩) 2 2):=by
 refine Rep.list (.base .str) [a,b] g 0 2 (λi _=>.string ⟨(([a,b]:List Str).getD i []).toArray⟩) (aD _) (λi x j d e c=>⟨?_,f _⟩) (λi x j d e c=>?_)
 ·have hi:i<2:=(zC.1 e).1;cases j with
  | succ j=>simp[Ty.cells,Base.cells]at c
  | zero=>
   simp only[World.cell?,h];match i,hi with
   | 0,_=>rfl
   | 1,_=>rfl
 ·cases j with
  | succ j=>simp[Ty.cells,Base.cells]at c
  | zero=>
   simp only[Ty.cells,Base.cells,List.getElem?_cons_zero,zD]at c;subst c;have:([a,b]:List Str).getD i []=x:=by rw[zE,e];rfl
   rw[this];exact Rep.str ⟨x.toArray⟩
