import Derived.Test.YtjbajpfonnnfoaaGreatDoorS2
import Derived.Deep.AppendSrc
set_option linter.unusedSimpArgs false
set_option linter.unusedVariables false
/- Operations: append, stores, slices, calls. -/
namespace Go.Abs
open Go.RowKit
theorem Ow.anyS{w:World}{S S':Nat->Nat->Prop}{dp:Bool}{d:D}{v:Value}{fp:Nat->Prop}(h:Ow w S dp d v fp)(f:dp=true):Ow w S' dp d v fp:=by
 induction h with
 | int k n fp=>exact .int k n fp
 | bool b fp=>exact .bool b fp
 | str v fp=>exact .str v fp
 | nil t fp=>exact .nil t fp
 | ro d v fp a h=>rw[a]at f;cases f
 | list t xs b cap arr E vs fps fp g hcap hmax c e hc i hf hdis ih=>exact .list t xs b cap arr E vs fps fp g hcap hmax c e hc ih hf hdis
section ops
variable {P:Program} {w0:Bs} {G:Gh} {S:St} {a:Act} {w:World} {o:Oper} {K:Act->World->Prop} {Q:Exit->Act->World->Prop}
theorem oV{n:Nat}{u:Unit}(h:gd n=some u):n<=34359738368:=by
 unfold gd at h;split at h
 ·assumption
 ·cases h
theorem OwT.weaken{S:Nat->Nat->Prop}{deep deep' m:Bool}{t:Ty}{xs:List t.den}{v:Value}{fp fp':Nat->Prop}(h:OwT w S deep m t xs v fp)(k:deep'=true->deep=true)(hf:∀c,fp c->fp' c):OwT w S deep' m t xs v fp':=by
 rcases h with h | ⟨b,cap,arr,E,vs,fps,rfl,l,hcap,hmax,e,f,hc,n,a,hdis,o⟩
 ·exact .inl h
 ·exact .inr ⟨b,cap,arr,E,vs,fps,rfl,l,hcap,hmax,e,hf _ f,hc,λi x j d p g=>(n i x j d p g).sub (λ_ hc=>hc) k,λi j c hc=>⟨hf _ (a i j c hc).1,(a i j c hc).2⟩,hdis,o⟩
theorem Ij{S S':Nat->Nat->Prop}{dp:Bool}{d:D}{v:Value}{fp fp':Nat->Prop}(a:mr d=none)(h:Ow w S dp d v fp):Ow w S' dp d v fp':=by
 cases h with
 | int k n=>exact .int k n _
 | bool b=>exact .bool b _
 | str v=>exact .str v _
 | nil t fp=>cases a
 | ro d v fp hd'' h''=>exact G7 a h''
 | list=>cases a
theorem JK(t tx ty e:TypeId)(i:TypeInfo)(b:P.underlying t=some (.slice e))(c:P.info? e=some i)(base:Option Addr)(n cap:Nat)(d:n<=cap)(x:Value)(a:Src P i.size tx x 0 [] w) :
  (Builtin.append_ #[t,tx] ty #[.slice base n cap,x]).run P w=.ok (.slice base n cap) w:=by
 rcases a.kind with ⟨e',hk⟩ | hk<;>cases base<;>simp[Builtin.append_,run_underlying b,run_underlying hk,sizeOf,typeInfo,c,a.len,d,a.cells,storeCells]
theorem run_append_room'(t tx ty e E:TypeId)(i:TypeInfo)(c:P.underlying t=some (.slice e))(d:P.info? e=some i)
  (g sLen sCap:Nat) (cur:Array Value) (f:w.heap[g]?=some (.cells cur E (0,0)))
  (x:Value) (m:Nat) (news:List Value) (b:Src P i.size tx x m news w)
  (hroom:sLen+m<=sCap) (hfit:sLen*i.size+news.length<=cur.size) :
  (Builtin.append_ #[t,tx] ty #[.slice (some ⟨g,0,none⟩) sLen sCap,x]).run P w =
   .ok (.slice (some ⟨g,0,none⟩) (sLen+m) sCap) (w.setRow g (cur.toList.take (sLen*i.size)++news++cur.toList.drop (sLen*i.size+news.length)).toArray):=by
 have a:=run_storeCells_at P g (sLen*i.size) E news 0 cur w f (by simpa using hfit) b.one;simp only[Nat.add_zero]at a;rcases b.kind with ⟨e',hk⟩ | hk<;>simp[Builtin.append_,run_underlying c,run_underlying hk,sizeOf,typeInfo,d,b.len,hroom,b.cells,Addr.add_lit,a]
theorem src_of{T:TypeId}{TT0:TT}(g:TT0.ok P=true){t:Ty}(h:lk TT0.elem T=some t){v:Value}{ys:List t.den}{S':Nat->Nat->Prop}{dp:Bool}{labS:Nat->Prop}
  (k:((∃(ad:Option Addr) (cap:Nat),v=.slice ad 0 cap/\(ad=none->cap=0))/\ys=[])\/∃b off cap news,v=.slice (some ⟨b,off,none⟩) ys.length cap/\(∀p u,news[p]?=some u->w.cell? ⟨b,off+p,none⟩=some u)/\lg w S' dp t ys news labS) :
  ∃news,(∀size,size=t.size->Src P size T v ys.length news w)/\lg w S' dp t ys news labS:=by
 obtain⟨e,inf,z,a,y,l,m,A,n,o⟩:=TT.jE g h;rcases k with ⟨⟨ad,cap,rfl,c⟩,rfl⟩ | ⟨b,off,cap,news,rfl,q,f⟩
 ·refine⟨[],λsize _=>?_,by simp,by simp,λ_ _=>undef,λ_ _ _=>False,λi x j d r=>by simp at r,λ_ _ _ hh=>hh.elim,λ_ _ _ _ _ hh=>hh.elim⟩;cases ad with
  | none=>rw[c rfl];exact Src.ofNil w a 0
  | some b=>exact Src.ofSlice w a b 0 cap [] (by simp) (by simp) (by simp)
 ·refine⟨news,λsize s=>?_,f⟩;subst s;exact Src.ofSlice w a _ _ cap news f.1 (λj u a=>by rw[addr_add];exact q j u a) f.2.1
theorem jb(h:Inv w0 G S a w){c:Call}(ho:o.op=.call c)(Z:c.callee=.builtin .append){x y:Operand}{T TX:TypeId}(hargs:c.args = #[x,y])(htys:c.argTypes = #[T,TX])
  {TT0:TT} (hT:TT0.ok P=true) {t:Ty} (ht:lk TT0.elem T=some t) {d:Nat} (hd:o.dst=some d) (hdO:S.aI d=[])
  {xs ys:List t.den} {deep dp m:Bool} {labD labS:Nat->Prop} (hD:OwT w G.S deep m t xs (a.eval x) labD)
  (hY:∃news,(∀size,size=t.size->Src P size TX (a.eval y) ys.length news w)/\lg w G.S dp t ys news labS)
  (s:∀c,labD c->labS c->False)
  (hfree:∀c,labD c\/labS c->w0.nw c/\c<w.heap.size/\(∀i,G.ow c≠some (.box i))/\∀k' j' t xs deep m,G.ow c=some (.own k' j')->(aZ (S.aI k') j').dY≠.own t xs deep m)
  (hgd:xs.length+ys.length<=34359738368)
  (hK:∀a' w' G',Inv w0 G' ((S.bI d [.own t (xs++ys) (deep&&dp) m]).iV d (.v (.one (.own d 0)))) a' w'->K a' w'):o.wp P a w K Q:=by
 obtain⟨e,inf,z,A,V,f,hby,hz,hzs,hzm⟩:=TT.jE hT ht;have hrun:∀ {v' w'},(Builtin.append_ #[T,TX] o.type #[a.eval x,a.eval y]).run P w=.ok v' w'->(execOp a.eval o).run P w=.ok (.value v') w':=by
  intro v' w' b;refine kV ho Z ?_;simp[builtin,hargs,htys,b]
 have hb47:∀k,k<=34359738368->k*inf.bytes<=140737488355328:=λk hk=>by
  have:=Nat.mul_le_mul hk hby
  omega
 have fin:∀ {v':Value} {w':World} {lab:Nat->Prop},Inv w0 G S a w'->(execOp a.eval o).run P w=.ok (.value v') w'->OwT w' G.S (deep&&dp) m t (xs++ys) v' lab ->
   (∀c,lab c->w0.nw c/\c<w'.heap.size/\(∀i,G.ow c≠some (.box i))/\∀k' j' t xs deep m,G.ow c=some (.own k' j')->(aZ (S.aI k') j').dY≠.own t xs deep m)->o.wp P a w K Q:=by
  intro v' w' lab h' b hO hl;obtain⟨G2,h7⟩:=h'.KH d (v:=v') lab hdO hl hO;refine aW b (hK _ _ G2 ?_);rw[hd];exact h7
 have new_free:∀c,c=w.heap.size->w0.nw c/\(∀i,G.ow c≠some (.box i))/\∀k' j' t xs deep m,G.ow c=some (.own k' j')->(aZ (S.aI k') j').dY≠.own t xs deep m:=by
  rintro c rfl;exact⟨.inl h.below.size,λi B=>absurd (h.olt _ _ B).2 (Nat.lt_irrefl _),λk' j' _ _ _ _ B=>absurd (h.olt _ _ B).2 (Nat.lt_irrefl _)⟩
 obtain⟨news,hsrc0,W⟩:=hY;have hsrc:=hsrc0 inf.size f;have q:=W.1;have hone:=W.2.1;by_cases N:ys.length=0
 ·have hyn:=List.eq_nil_of_length_eq_zero N;subst hyn;have hn0:news=[]:=List.eq_nil_of_length_eq_zero (by rw[q];simp);subst hn0;have C:∃base n cap,a.eval x=.slice base n cap/\n<=cap:=by
   rcases hD with ⟨D,_⟩ | ⟨g,cap,arr,E,vs,fps,D,_,hcap,_⟩
   ·exact⟨_,_,_,D,ar _⟩
   ·exact⟨_,_,_,D,hcap⟩
  obtain⟨base,n,cap,D,hn⟩:=C;refine fin (v':=a.eval x) (lab:=labD) h (hrun ?_) ?_ λc hc=>hfree c (.inl hc)
  ·rw[D];exact JK T TX o.type e inf A V base n cap hn _ hsrc
  ·rw[List.append_nil];exact hD.weaken (λe=>(zI _ _▸e).1) λ_ hc=>hc
 ·have hm:ys.length≠0:=N;have grown:∀ {olds:List Value} {cap':Nat} {old:Nat},lg w G.S deep t xs olds labD->xs.length+ys.length<=cap'->cap'=grownCap w (xs.length+ys.length) old e ->
    (Builtin.append_ #[T,TX] o.type #[a.eval x,a.eval y]).run P w=.ok (.slice (some ⟨w.heap.size,0,none⟩) (xs.length+ys.length) cap')
     (w.drew.alloc (.cells (olds.toArray++news.toArray++Builtin.zeroCells z.cells (cap'-(xs.length+ys.length))) e))->o.wp P a w K Q:=by
   intro olds cap' old hLD C hcap' b;have hbel:Below w.heap.size w (w.drew.alloc (.cells (olds.toArray++news.toArray++Builtin.zeroCells z.cells (cap'-(xs.length+ys.length))) e)):=((Below.refl _ _).drew).alloc (by simp) _;have hnew:=heap_alloc_new w.drew (.cells (olds.toArray++news.toArray++Builtin.zeroCells z.cells (cap'-(xs.length+ys.length))) e);refine fin (lab:=λc=>c=w.heap.size\/labD c\/labS c) (h.grow hbel) (hrun b) ?_ ?_
   ·refine Jl hLD W s hnew (rest:=(Builtin.zeroCells z.cells (cap'-(xs.length+ys.length))).toList) ?_ C ?_ ?_ (.inl rfl) ?_ ?_ ?_
    ·simp
    ·rw[hcap'];exact grownCap_le_maxLen w _ _ _ (by unfold maxLen;omega)
    ·simp only[Array.size_append,List.size_toArray,size_zeroCells,hzs,hLD.1,q,<- Nat.add_mul];congr 1;omega
    ·intro c hc;have:=(hfree c hc).2.1;exact⟨.inr hc,Nat.ne_of_lt this,hbel.block c this⟩
    ·intro b' o' l;exact⟨l,hbel.cell (p:=⟨b',o',none⟩) (h.sok b' o' l).1⟩
    ·intro oo l;exact absurd (h.sok _ oo l).1 (Nat.lt_irrefl _)
   ·intro c hc;rcases hc with hc | hc
    ·obtain⟨n1,n2,n3⟩:=new_free c hc;exact⟨n1,by subst hc;simp,n2,n3⟩
    ·obtain⟨n1,n2,n3,n4⟩:=hfree c hc;exact⟨n1,by simp;omega,n3,n4⟩
  rcases hD.laid with ⟨r,rfl⟩ | ⟨g,cap,arr,E,rest,olds,r,X,hcap,hmax,hasz,F,harr,hLD,H⟩
  ·have B:=hb47 ys.length (by omega);have b:=run_append_grow_src (P:=P) w T TX o.type e inf z A V hz none 0 0 [] (run_firstCells_none w.drew inf.size 0 0 0) _ ys.length news hsrc (by omega) (by omega) (growslice_fits (by omega) (by simpa using B));have I:=grownCap_ge w ys.length 0 e;refine grown (olds:=[]) (cap':=grownCap w ys.length 0 e) (old:=0) ⟨by simp,by simp,λ_ _=>undef,λ_ _ _=>False,λi x j d D=>by simp at D,λ_ _ _ hh=>hh.elim,λ_ _ _ _ _ hh=>hh.elim⟩ (by simpa using I) (by simp) ?_;rw[r];simpa using b
  ·have J:olds.length=xs.length*t.size:=hLD.1;by_cases hroom:xs.length+ys.length<=cap
   ·have hfit:xs.length*inf.size+news.length<=arr.size:=by rw[f,q,<- Nat.add_mul,hasz];exact Nat.mul_le_mul_right _ hroom
    have b:=run_append_room' (P:=P) (w:=w) T TX o.type e E inf A V g xs.length cap arr X _ ys.length news hsrc hroom hfit;have htake:arr.toList.take (xs.length*inf.size)=olds:=by rw[f,<- J,harr];exact List.take_left
    rw[htake]at b;have O:=setRow_heap w g arr (olds++news++arr.toList.drop (xs.length*inf.size+news.length)).toArray E (0,0) X;have hoth:∀c,c≠g->(w.setRow g (olds++news++arr.toList.drop (xs.length*inf.size+news.length)).toArray).heap[c]?=w.heap[c]?:=λc hc=>setRow_other w g c _ hc
    have L:=hfree g (.inl F);have hcellg:∀oo,oo<xs.length*t.size->(w.setRow g (olds++news++arr.toList.drop (xs.length*inf.size+news.length)).toArray).cell? ⟨g,oo,none⟩=w.cell? ⟨g,oo,none⟩:=by
     intro oo hoo;rw[cell_of_row _ _ _ _ _ _ O,cell_of_row _ _ _ _ _ _ X];rw[List.getElem?_toArray,<- Array.getElem?_toList,harr,a7,List.getElem?_append_left (by omega),List.getElem?_append_left (by omega)]
    have h':=h.TF g (w':=w.setRow g (olds++news++arr.toList.drop (xs.length*inf.size+news.length)).toArray) L.1 L.2.2.1 L.2.2.2 rfl rfl rfl (by simp) (λc _ hc=>hoth c hc) (λoo l=>hcellg oo (H oo l).2);refine fin (lab:=λc=>labD c\/labS c) h' (hrun (by rw[r];exact b)) ?_ λc hc=>by simpa using hfree c hc
    refine Jl (labD:=λc=>labD c/\c≠g) hLD W (λc M Y=>s c M.1 Y) O (rest:=arr.toList.drop (xs.length*inf.size+news.length)) (by simp) hroom hmax ?_ (.inl F) ?_ ?_ ?_
    ·have e1:arr.toList.length=arr.size:=Array.length_toList;simp only[List.size_toArray,a6,List.length_drop];rw[e1,hasz,J,q,f];have:xs.length*t.size+ys.length*t.size<=cap*t.size:=by rw[<- Nat.add_mul];exact Nat.mul_le_mul_right _ hroom
     omega
    ·intro c hc;rcases hc with ⟨M,Y⟩ | M
     ·exact⟨.inl M,Y,hoth c Y⟩
     ·have R:c≠g:=λe=>s g F (e▸M)
      exact⟨.inr M,R,hoth c R⟩
    ·intro b' o' l;refine⟨l,?_⟩;by_cases U:b'=g
     ·subst U;exact hcellg o' (H o' l).2
     ·exact World.cell?_of_block (w:=w) (hoth b' U)
    ·intro oo l;have:=H oo l;refine⟨this.1,?_⟩;have:xs.length*t.size<=(xs.length+ys.length)*t.size:=Nat.mul_le_mul_right _ (by omega);omega
   ·have B:=hb47 (xs.length+ys.length) hgd;have holds:∀j u,olds[j]?=some u->w.cell? ((⟨g,0,none⟩:Addr).add j)=some u:=by
     intro j u A;have hj:=(zC.1 A).1;rw[addr_add,Nat.zero_add,cell_of_row _ _ _ _ _ _ X,<- Array.getElem?_toList,harr,List.getElem?_append_left hj];exact A
    have b:=run_append_grow_src (P:=P) w T TX o.type e inf z A V hz (some ⟨g,0,none⟩) xs.length cap olds (run_firstCells_some w.drew inf.size xs.length ⟨g,0,none⟩ xs.length cap olds (by rw[f];exact J) (by simpa using holds)) _ ys.length news hsrc (by omega) (by omega) (growslice_fits (by omega) B);have I:=grownCap_ge w (xs.length+ys.length) cap e;refine grown (olds:=olds) (cap':=grownCap w (xs.length+ys.length) cap e) (old:=cap) ?_ I rfl (by rw[r];simpa using b);obtain⟨l1,l2,vs,fps,l3,l4,l5⟩:=hLD;exact⟨l1,l2,vs,fps,l3,λi j c hc=>(l4 i j c hc).1,l5⟩
theorem jR{S:St}{k j d:Nat}{x:O}(a:S.aI d=[]):(S.bI k ((S.aI k).set j x)).aI d=[]:=by
 rw[bg];split
 ·rename_i b;rw[b.1,a];rfl
 ·exact a
theorem mG{S:St}{k j:Nat}:aZ ((S.bI k ((S.aI k).set j .dead)).aI k) j=.dead:=by
 rw[bg];split
 ·rw[gu];split
  ·rfl
  ·rename_i a b;have:¬j<(S.aI k).length:=λc=>b ⟨rfl,c⟩
   simp only[aZ,zE];rw[zJ (by omega)];rfl
 ·rename_i a;have:¬k<S.owns.length:=λc=>a ⟨rfl,c⟩
  have d:S.aI k=[]:=by
   simp only[St.aI,zE];rw[zJ (by omega)];rfl
  rw[d];rfl
theorem E8{S:St}{k j k' j':Nat}:aZ ((S.bI k ((S.aI k).set j .dead)).aI k') j'=.dead\/aZ ((S.bI k ((S.aI k).set j .dead)).aI k') j'=aZ (S.aI k') j':=by
 rw[bg];split
 ·rename_i a;rw[gu];split
  ·exact .inl rfl
  ·rw[a.1];exact .inr rfl
 ·exact .inr rfl
theorem aeg{w':World}{S':Nat->Nat->Prop}{t:Ty}{xs:List t.den}{v:Value}{fp fp':Nat->Prop}(h:Ow w' (λ_ _=>False) true (.list t xs) v fp)(hf:∀c,fp c->fp' c)(m:∀b o,S' b o->¬fp b):OwT w' S' true true t xs v fp':=by
 generalize a:D.list t xs=dd at h;cases h with
 | int=>cases a
 | bool=>cases a
 | str=>cases a
 | nil t'=>cases a;exact .inl ⟨rfl,rfl⟩
 | ro _ _ _ k=>cases k
 | list t' xs' b cap arr E vs fps _ n hcap hmax l e hc p f hdis=>
  cases a
  exact .inr ⟨b,cap,arr,E,vs,fps,rfl,n,hcap,hmax,l,hf _ e,hc,λi x j d q k=>(p i x j d q k).move (λ_ _ h=>h.elim) λ_ _=>rfl,λi j c g=>⟨hf _ (f i j c g).1,(f i j c g).2⟩,hdis,λo r=>absurd e (m b o r)⟩
theorem tq.sV{G:Gh}{w:World}{k j:Nat}{x:O}(h:tq G w k j x){t:Ty}{xs:List t.den}{deep m:Bool}(e:x.sV=.own t xs deep m):OwT w G.S deep m t xs (G.ov k j) (fM G k j):=by
 cases x with
 | own t' xs' deep' m'=>cases e;exact h
 | tree t' xs'=>
  cases e
  obtain⟨fp,a,b,c⟩:=h;exact aeg b a c
 | _=>cases e
theorem Qj(h:Inv w0 G S a w){c:Call}(X:o.op=.call c)(v:c.callee=.builtin .append){x y:Operand}{T TX:TypeId}(hargs:c.args = #[x,y])(htys:c.argTypes = #[T,TX])
  {TT0:TT} (E:TT0.ok P=true) {t:Ty} (Y:lk TT0.elem T=some t) (F:lk TT0.elem TX=some t) {d:Nat} (Z:o.dst=some d) {ax:AV} {n:Nat} (z:jc G w ax (a.eval x)) (H:jc G w (.seg n) (a.eval y))
  {ws:List W} (l:(adz d t ax n).val S=some ws) (hK:∀a' w' G',Inv w0 G' (S.puts ws) a' w'->K a' w'):o.wp P a w K Q:=by
 simp only[adz,Rd.val]at l;split at l
 case h_2=>cases l
 rename_i I ys hseg;split at l
 case isFalse=>cases l
 rename_i h1;subst h1;have A:=h.owns n 0;rw[hseg]at A;have J:yT w G.S I ys (G.ov n 0) (fM G n 0):=A;have hY:∃news,(∀size,size=I.size->Src P size TX (a.eval y) ys.length news w)/\lg w G.S true I ys news (fM G n 0):=by
  refine src_of E F ?_;rw[H.2];rcases J with L | ⟨b,off,cap,news,e,L,h3⟩
  ·exact .inl L
  ·exact .inr ⟨b,off,cap,news,e,λp u hu=>(L p u hu).1,h3⟩
 split at l
 ·simp only[Rd.val,zB,Rd.aH,zD]at l;obtain⟨_,M,ws',q,rfl⟩:=l;obtain⟨r,rfl⟩:=fG q;have s:=h.tJ n 0 .dead trivial;refine jb s X v hargs htys E Y Z (jR r) (xs:=[]) (deep:=true) (m:=true) (labD:=λ_=>False) (.inl ⟨z,rfl⟩) hY (λ_ hh=>hh.elim) (λc hc=>?_) (by simpa using oV M) λa' w' G' D=>hK a' w' G' ?_
  ·rcases hc with hc | hc
   ·exact hc.elim
   ·have f:=h.iR hc;refine⟨f.1,f.2,λi g=>?_,λk' j' t2 B d2 m2 g=>?_⟩
    ·rw[show G.ow c=_ from hc]at g;cases g
    ·rw[show G.ow c=_ from hc]at g;cases g
     rw[mG];simp[O.dY]
  ·exact D
 ·rename_i k j;simp only[Rd.val]at l;split at l
  case h_2=>cases l
  rename_i t' xs deep m hown;split at l
  case isFalse=>cases l
  rename_i N;subst N;simp only[Rd.val,zB,Rd.aH,zD]at l;obtain⟨_,M,ws',q,rfl⟩:=l;obtain⟨r,rfl⟩:=fG q;have A:=h.owns k j;rw[hown]at A;have C:OwT w G.S deep m t' xs (G.ov k j) (fM G k j):=A;rw[<- z.2.1]at C;have s:=(h.tJ k j .dead trivial).tJ n 0 .dead trivial;have R:(deep&&true)=deep:=by simp
  have U:aZ (((S.bI k ((S.aI k).set j .dead)).bI n (((S.bI k ((S.aI k).set j .dead)).aI n).set 0 .dead)).aI k) j=.dead:=by
   rcases E8 (S:=S.bI k ((S.aI k).set j .dead)) (k:=n) (j:=0) (k':=k) (j':=j)with e | e
   ·exact e
   ·rw[e];exact mG
  refine jb s X v hargs htys E Y Z (jR (jR r)) (labD:=fM G k j) C hY (λc hc V=>?_) (λc hc=>?_) (oV M) λa' w' G' D=>hK a' w' G' ?_
  ·have e1:G.ow c=some (.own k j):=hc;have e2:G.ow c=some (.own n 0):=V;rw[e1]at e2;cases e2
   rw[hown]at hseg;cases hseg
  ·rcases hc with hc | hc
   ·have f:=h.iR hc;refine⟨f.1,f.2,λi g=>?_,λk' j' t2 B d2 m2 g=>?_⟩
    ·rw[show G.ow c=_ from hc]at g;cases g
    ·rw[show G.ow c=_ from hc]at g;cases g
     rw[U];simp[O.dY]
   ·have f:=h.iR hc;refine⟨f.1,f.2,λi g=>?_,λk' j' t2 B d2 m2 g=>?_⟩
    ·rw[show G.ow c=_ from hc]at g;cases g
    ·rw[show G.ow c=_ from hc]at g;cases g
     rw[mG];simp[O.dY]
  ·rw[R]at D;exact D
 ·cases l
theorem OwT.aaq{S:Nat->Nat->Prop}{deep:Bool}{t:Ty}{xs:List t.den}{v v':Value}{n:Nat}{fp:Nat->Prop}(h:OwT w S deep true t xs v fp)
  (k:(v'=.slice none 0 0/\n=0/\v=.slice none 0 0)\/∃b len cap,v=.slice (some ⟨b,0,none⟩) len cap/\n<=len/\v'=.slice (some ⟨b,0,none⟩) n cap):OwT w S deep true t (xs.take n) v' fp:=by
 rcases h with ⟨e,rfl⟩ | ⟨b,cap,arr,E,vs,fps,a,m,D,p,r,s,u,y,z,f,g⟩
 ·rcases k with ⟨a,_,_⟩ | ⟨b,len,cap,a,_⟩
  ·exact .inl ⟨a,by simp⟩
  ·rw[e]at a;cases a
 ·rcases k with ⟨_,_,q⟩ | ⟨b',len,cap',l,F,A⟩
  ·rw[a]at q;cases q
  ·rw[a]at l;cases l
   have B:(xs.take n).length=n:=by rw[a8];omega
   refine .inr ⟨b,cap,arr,E,vs,fps,by rw[B];exact A,m,by omega,p,r,s,λi x j d c=>u i x j d ?_,λi x j d c=>y i x j d ?_,z,f,λo C=>?_⟩
   ·rw[List.getElem?_take]at c;split at c<;>simp_all
   ·rw[List.getElem?_take]at c;split at c<;>simp_all
   ·exact absurd (g o C).1 (by simp)
theorem Pj(h:Inv w0 G S a w){c:Call}(ho:o.op=.call c)(J:c.callee=.builtin .append){x y:Operand}{T:TypeId}(hargs:c.args = #[x,y])(htys:c.argTypes = #[T,T])
  {TT0:TT} (hT:TT0.ok P=true) {t':Ty} (ht:lk TT0.elem T=some t') {d:Nat} (hd:o.dst=some d) (L:S.aI d=[]) {k j:Nat} {xs ys:List t'.den} {deep m dp:Bool}
  (M:OwT w G.S deep m t' xs (a.eval x) (fM G k j)) {cy:C} (N:l9 G w cy (a.eval y)) (h6:(cD (some t') cy).val S=some (.list t' ys)) (h5:(if t'.flat=true then Rd.ret true else CV cy).val S=some dp)
  (hnd:nodupB ((k,j)::aP [cy])=true) (R:xs.length+ys.length<=34359738368)
  (hK:∀a' w' G',Inv w0 G' (S.puts (.upd k j .dead::(if t'.flat=true then []else (aP [cy]).map λq=>W.ro q.1 q.2)++[.o d [.own t' (xs++ys) (deep&&dp) m]]++[.t d (.v (.one (.own d 0)))])) a' w'->K a' w'):o.wp P a w K Q:=by
 let keys:List (Nat×Nat):=if t'.flat then []else aP [cy]
 have hros:(if t'.flat=true then []else (aP [cy]).map λq=>W.ro q.1 q.2)=keys.map λq=>W.ro q.1 q.2:=by
  simp only[keys];split<;>rfl
 obtain⟨B,hnk⟩:=gQ hnd;have U:nodupB keys=true:=by
  by_cases X:t'.flat=true
  ·simp[keys,X,nodupB]
  ·simp only[keys,if_neg X];exact hnk
 have Y:=h.tJ k j .dead trivial;have A:(S.bI k ((S.aI k).set j .dead)).aI d=[]:=by
  rw[bg];split
  ·rename_i hkd;rw[hkd.1,L];rfl
  ·exact L
 have hdead:aZ ((S.bI k ((S.aI k).set j .dead)).aI k) j=.dead:=by
  rw[bg];split
  ·rw[gu];split
   ·rfl
   ·rename_i Z hjl;have:¬j<(S.aI k).length:=λhl=>hjl ⟨rfl,hl⟩
    simp only[aZ,zE];rw[zJ (by omega)];rfl
  ·rename_i Z;have:¬k<S.owns.length:=λhl=>Z ⟨rfl,hl⟩
   have hg0:S.aI k=[]:=by
    simp only[St.aI,zE];rw[zJ (by omega)];rfl
   rw[hg0];rfl
 have hsame:∀k' j',(k',j')≠(k,j)->aZ ((S.bI k ((S.aI k).set j .dead)).aI k') j'=aZ (S.aI k') j':=by
  intro k' j' hne;rw[bg];split
  ·rename_i hkk;rw[gu];split
   ·rename_i hjj;exact absurd (by rw[hkk.1,hjj.1]) hne
   ·rw[hkk.1]
  ·rfl
 by_cases hf:t'.flat=true
 ·have hY:=Eu h h6 N h5 (S':=λx o=>G.S x o\/AK G S (aP [cy]) x o) (λx o z=>z);have hY':((∃(ad:Option Addr) (cap:Nat),a.eval y=.slice ad 0 cap/\(ad=none->cap=0))/\ys=[])\/∃b off cap news,a.eval y=.slice (some ⟨b,off,none⟩) ys.length cap/\(∀p u,news[p]?=some u->w.cell? ⟨b,off+p,none⟩=some u)/\lg w G.S dp t' ys news (λ_=>False):=by
   rcases hY with hY | ⟨b,off,cap,news,e1,e2,l1,l2,vs,fps,l3,l4,l5⟩
   ·exact .inl hY
   ·refine .inr ⟨b,off,cap,news,e1,e2,l1,l2,vs,λ_ _ _=>False,λi x j d D E=>⟨(l3 i x j d D E).1,?_⟩,λ_ _ _ hh=>hh.elim,λ_ _ _ _ _ hh=>hh.elim⟩;have z:=qh hf E;exact Ij z (l3 i x j d D E).2
  refine jb Y ho J hargs htys hT ht hd A (labD:=fM G k j) (labS:=λ_=>False) M (src_of hT ht hY') (λ_ _ hh=>hh.elim) (λc hc=>?_) R λa' w' G' h'=>hK a' w' G' ?_
  ·rcases hc with hc | hc
   ·have l:=h.iR hc;refine⟨l.1,l.2,λi f=>?_,λk' j' F r H I f=>?_⟩
    ·rw[show G.ow c=_ from hc]at f;cases f
    ·rw[show G.ow c=_ from hc]at f;cases f
     rw[hdead];simp[O.dY]
   ·exact hc.elim
  ·rw[hros];simp only[keys,hf,if_true];exact h'
 ·have hk:keys=aP [cy]:=by simp only[keys];rw[if_neg hf]
  obtain⟨G1,h11,n,e11,n11⟩:=Inv.VQ keys Y U;have hAK:∀x o,AK G S (aP [cy]) x o->AK G (S.bI k ((S.aI k).set j .dead)) keys x o:=by
   rintro x o ⟨k',j',F,r,H,I,hmem,D,rest⟩;exact⟨k',j',F,r,H,I,by rw[hk];exact hmem,by rw[hsame k' j' λe=>B (e▸hmem)];exact D,rest⟩
  have hY:=Eu h h6 N h5 (S':=G1.S) (λx o z=>(n.s x o).2 (z.imp id (hAK x o)));have hO1:OwT w G1.S deep m t' xs (a.eval x) (fM G k j):=by
   refine OwT.move M (λb o z=>⟨(n.s b o).2 (.inl z),rfl⟩) (λb f=>⟨f,rfl⟩) λb len cap hv f o z=>?_
   rcases (n.s b o).1 z with z | ⟨k',j',F,r,H,I,hmem,D,g,_⟩
   ·exact .inl z
   ·have:G.ow b=some (.own k j):=f;rw[this]at g;cases g
    rw[hdead]at D;cases D
  refine jb h11 ho J hargs htys hT ht hd (n11 d A) (labD:=fM G k j) hO1 (src_of hT ht hY) (λc hc hc'=>?_) (λc hc=>?_) R λa' w' G' h'=>hK a' w' G' ?_
  ·obtain⟨_,k',j',rfl,g,_⟩:=hc';rw[show G.ow c=_ from hc]at g;cases g
   exact B (by simp[aP])
  ·rcases hc with hc | ⟨_,k',j',rfl,g,F,r,H,I,hown2⟩
   ·have l:=h.iR hc;refine⟨l.1,l.2,λi f=>?_,λk' j' F r H I f=>?_⟩
    ·rw[n.ow,show G.ow c=_ from hc]at f;cases f
    ·rw[n.ow,show G.ow c=_ from hc]at f;cases f
     rw[e11,hdead];split<;>simp[O.BZ,O.dY]
   ·have l:=h.iR g;refine⟨l.1,l.2,λi f=>?_,λk'' j'' F r H I f=>?_⟩
    ·rw[n.ow,g]at f;cases f
    ·rw[n.ow,g]at f;cases f
     rw[e11,if_pos (by rw[hk];simp[aP])];rw[hsame k' j' λe=>B (by rw[<- e];simp[aP])];exact O.Lr hown2 _ _ _ _
  ·rw[hros];show Inv w0 G' ((S.put (.upd k j .dead)).puts ((keys.map λq=>W.ro q.1 q.2)++[W.o d [O.own t' (xs++ys) (deep&&dp) m]]++[W.t d (AV.v (V.one (C.own d 0)))])) a' w'
   rw[eP,eP];exact h'
theorem Pz{t:Ty}{ys:List t.den}{v:Value}{S':Nat->Nat->Prop}(hf:t.flat=true)(hrep:Rep w S' (.list t ys) v) :
  ((∃(ad:Option Addr) (cap:Nat),v=.slice ad 0 cap/\(ad=none->cap=0))/\ys=[])\/∃b off cap news,v=.slice (some ⟨b,off,none⟩) ys.length cap/\(∀p u,news[p]?=some u->w.cell? ⟨b,off+p,none⟩=some u) /\
   ∀(m:Nat->Nat->Prop),lg w m true t ys news (λ_=>False):=by
 generalize e:D.list t ys=dd at hrep;cases hrep with
 | int=>cases e
 | bool=>cases e
 | str=>cases e
 | nil t'=>cases e;exact .inl ⟨⟨none,0,rfl,λ_=>rfl⟩,rfl⟩
 | emp t' ad cap=>cases e;exact .inl ⟨⟨some ad,cap,rfl,λhh=>(by cases hh)⟩,rfl⟩
 | list t' xs' b off cap vs hcap h o=>
  cases e
  have hnews:∀(p:Nat) (u:Value),((List.range (ys.length*t.size)).map λp=>vs (p / t.size) (p % t.size))[p]?=some u->p<ys.length*t.size/\u=vs (p / t.size) (p % t.size):=by
   intro p u f;simp only[List.getElem?_map,Option.map_eq_some_iff]at f;obtain⟨q,k,rfl⟩:=f;have a:p<ys.length*t.size:=by have:=(zC.1 k).1;simpa using this
   have:q=p:=by simp[a]at k;exact k.symm
   rw[this];exact⟨a,rfl⟩
  have hget:∀(i j:Nat),i<ys.length->j<t.size->((List.range (ys.length*t.size)).map λp=>vs (p / t.size) (p % t.size))[i*t.size+j]?=some (vs i j):=by
   intro i j r l;have a:=wF r l;have s:(i*t.size+j) / t.size=i:=by rw[Nat.mul_comm,Nat.mul_add_div t.size_pos,Nat.div_eq_of_lt l];omega
   have y:(i*t.size+j) % t.size=j:=by rw[Nat.mul_comm,Nat.mul_add_mod,Nat.mod_eq_of_lt l]
   simp[a,s,y]
  refine .inr ⟨b,off,cap,(List.range (ys.length*t.size)).map λp=>vs (p / t.size) (p % t.size),rfl,?_,λm=>⟨by simp,?_,?_⟩⟩
  ·intro p u f;obtain⟨a,rfl⟩:=hnews p u f;obtain⟨x,d,g,c⟩:=Gn (t:=t) (xs:=ys) a;have:=(h _ _ _ _ g c).1;rw[<- yX (n:=t.size)]at this;exact this
  ·intro u f;obtain⟨p,z⟩:=List.mem_iff_getElem?.1 f;obtain⟨a,rfl⟩:=hnews p u z;obtain⟨x,d,g,c⟩:=Gn (t:=t) (xs:=ys) a;exact (o _ _ _ _ g c).one
  ·exact⟨vs,λ_ _ _=>False,λi x j d g c=>⟨hget i j (zC.1 g).1 (by have:=(zC.1 c).1;rwa [Ty.bn]at this),G7 (qh hf c) (o _ _ _ _ g c)⟩,λ_ _ _ hh=>hh.elim,λ_ _ _ _ _ hh=>hh.elim⟩
theorem Qi(h:Inv w0 G S a w){c:Call}(X:o.op=.call c)(s:c.callee=.builtin .append){x y:Operand}{T TX:TypeId}(hargs:c.args = #[x,y])(htys:c.argTypes = #[T,TX])
  {TT0:TT} (N:TT0.ok P=true) {t:Ty} (Y:lk TT0.elem T=some t) (u:lk TT0.elem TX=some t) {d:Nat} (Z:o.dst=some d) {ax:AV} {R:Ty} {v z r:Nat} (A:jc G w ax (a.eval x)) (B:jc G w (.suf R v z r) (a.eval y))
  {ws:List W} (e:(ado d t ax R v z r).val S=some ws) (hK:∀a' w' G',Inv w0 G' (S.puts ws) a' w'->K a' w'):o.wp P a w K Q:=by
 simp only[ado,Rd.val]at e;split at e
 case h_2=>cases e
 rename_i t2 ys dp2 mm2 hsuf;split at e
 case isFalse=>cases e
 rename_i h1;subst h1;split at e
 case isFalse=>cases e
 rename_i h2;obtain⟨rfl,hf⟩:=h2;split at e
 case h_2=>cases e
 rename_i k j;simp only[Rd.val]at e;split at e
 case h_2=>cases e
 rename_i t' xs deep m hown;split at e
 case isFalse=>cases e
 rename_i C;subst C;split at e
 case isFalse=>cases e
 rename_i hnd;simp only[Rd.val,zB,Rd.aH,zD]at e;obtain⟨_,hg,ws',D,rfl⟩:=e;obtain⟨f,rfl⟩:=fG D;have hrep:=B.2 _ _ _ (h.KA hsuf [(v,z)] (by simp));have E:∃news,(∀size,size=t'.size->Src P size TX (a.eval y) (ys.drop r).length news w)/\lg w G.S true t' (ys.drop r) news (λ_=>False):=by
  refine src_of N u ?_;rcases Pz hf hrep with E | ⟨b,off,cap,news,e1,e2,l1⟩
  ·exact .inl E
  ·exact .inr ⟨b,off,cap,news,e1,e2,l1 _⟩
 have U:=h.owns k j;rw[hown]at U;have g:OwT w G.S deep m t' xs (G.ov k j) (fM G k j):=U;rw[<- A.2.1]at g;have F:=h.tJ k j .dead trivial;have l:(S.bI k ((S.aI k).set j .dead)).aI d=[]:=by
  rw[bg];split
  ·rename_i H;rw[H.1,f];rfl
  ·exact f
 have hdead:aZ ((S.bI k ((S.aI k).set j .dead)).aI k) j=.dead:=by
  rw[bg];split
  ·rw[gu];split
   ·rfl
   ·rename_i n I;have:¬j<(S.aI k).length:=λJ=>I ⟨rfl,J⟩
    simp only[aZ,zE];rw[zJ (by omega)];rfl
  ·rename_i n;have:¬k<S.owns.length:=λJ=>n ⟨rfl,J⟩
   have L:S.aI k=[]:=by
    simp only[St.aI,zE];rw[zJ (by omega)];rfl
   rw[L];rfl
 have M:(deep&&true)=deep:=by simp
 refine jb F X s hargs htys N Y Z l (labD:=fM G k j) (labS:=λ_=>False) g E (λ_ _ hh=>hh.elim) (λc hc=>?_) (oV hg) λa' w' G' V=>hK a' w' G' ?_
 ·rcases hc with hc | hc
  ·have p:=h.iR hc;refine⟨p.1,p.2,λi q=>?_,λk' j' t2 xs2 d2 m2 q=>?_⟩
   ·rw[show G.ow c=_ from hc]at q;cases q
   ·rw[show G.ow c=_ from hc]at q;cases q
    rw[hdead];simp[O.dY]
  ·exact hc.elim
 ·rw[M]at V;exact V
theorem acf(h:Inv w0 G S a w){c:Call}(L:o.op=.call c)(l:c.callee=.builtin .append){E:Env}(F:E.tt.ok P=true){ws:List W}(f:(eff E o).val S=some ws)
  (R:∀a' w' G',Inv w0 G' (S.puts ws) a' w'->K a' w'):o.wp P a w K Q:=by
 unfold eff at f;rw[L]at f;simp only[l]at f;split at f
 case h_2=>cases f
 rename_i d x y T T' C hxy hTT;have hargs:=nX hxy;split at f
 case isFalse=>
  split at f
  case isFalse=>cases f
  rename_i hTU
  obtain⟨B,hstr⟩:=hTU
  have htys:=nX hTT
  have hsu:=TT.Lu F hstr
  simp only[Rd.aH,zB]at f
  obtain⟨ax,h1,ay,h2,dy,h3,f⟩:=f
  have z:=aY h h1
  have X:=oZ h3 (aY h h2)
  split at f
  case h_2=>cases f
  rename_i s
  generalize hdd:D.str s=dd at X
  have hsv:∃v:ByteArray,a.eval y=.string v/\s=v.data.toList:=by
   generalize a.eval y=yv at X;cases X<;>cases hdd
   exact⟨_,rfl,rfl⟩
  obtain⟨sv,hyv,rfl⟩:=hsv
  have U:∃news,(∀size,size=(Ty.base .u8).size->Src P size T' (a.eval y) (NF sv.data.toList).length news w)/\lg w G.S true (.base .u8) (NF sv.data.toList) news (λ_=>False):=by
   have hbl:(NF sv.data.toList).length=sv.size:=by unfold NF;rw[List.length_map,Array.length_toList];rfl
   refine⟨byteCells sv,λsize Y=>?_,?_,?_,λi _=>((byteCells sv)[i]?).getD undef,λ_ _ _=>False,λi x j d hx C=>?_,λ_ _ _ hh=>hh.elim,λ_ _ _ _ _ hh=>hh.elim⟩
   ·subst Y;rw[hyv,hbl];exact Src.ofString w hsu sv
   ·rw[byteCells_length,hbl];exact (Nat.mul_one _).symm
   ·intro u hu;obtain⟨_,_,rfl⟩:=List.mem_map.1 hu;rfl
   ·cases j with
    | succ j=>simp[Ty.cells,Base.cells]at C
    | zero=>
     simp only[Ty.cells,Base.cells,List.getElem?_cons_zero,zD]at C;subst C;unfold NF at hx;rw[List.getElem?_map,Option.map_eq_some_iff]at hx;obtain⟨c,hc,rfl⟩:=hx;have e:(byteCells sv)[i*(Ty.base .u8).size+0]?=some (Value.int .u8 c.toNat):=by
      show (byteCells sv)[i*1+0]?=_
      unfold byteCells;rw[Nat.mul_one,Nat.add_zero,List.getElem?_map,hc];rfl
     have e':(byteCells sv)[i]?=some (Value.int .u8 c.toNat):=by
      unfold byteCells;rw[List.getElem?_map,hc];rfl
     refine⟨e.trans (by simp only[e',Option.getD_some]),?_⟩;simp only[e',Option.getD_some];exact .int _ _ _
  split at f
  ·simp only[Rd.val,zB,Rd.aH,zD]at f;obtain⟨_,M,ws',r,rfl⟩:=f;obtain⟨g,rfl⟩:=fG r;refine jb h L l hargs htys F B C g (xs:=[]) (deep:=true) (m:=true) (labD:=λ_=>False) (labS:=λ_=>False) (.inl ⟨z,rfl⟩) U (λ_ hh=>hh.elim) (λc hc=>(hc.elim id id).elim) (by simpa using oV M) λa' w' G' V=>R a' w' G' ?_
   exact V
  ·rename_i k j;simp only[Rd.val]at f;split at f
   case h_2=>cases f
   rename_i t' xs deep m hown;split at f
   case isFalse=>cases f
   rename_i H;subst H;simp only[Rd.val,zB,Rd.aH,zD]at f;obtain⟨_,M,ws',r,rfl⟩:=f;obtain⟨g,rfl⟩:=fG r;have hO:=h.owns k j;rw[hown]at hO;have A:OwT w G.S deep m (.base .u8) xs (G.ov k j) (fM G k j):=hO;rw[<- z.2.1]at A;have h12:=h.tJ k j .dead trivial;have hdO1:(S.bI k ((S.aI k).set j .dead)).aI d=[]:=by
    rw[bg];split
    ·rename_i hkd;rw[hkd.1,g];rfl
    ·exact g
   have hdead:aZ ((S.bI k ((S.aI k).set j .dead)).aI k) j=.dead:=by
    rw[bg];split
    ·rw[gu];split
     ·rfl
     ·rename_i hkl hjl;have:¬j<(S.aI k).length:=λhl=>hjl ⟨rfl,hl⟩
      simp only[aZ,zE];rw[zJ (by omega)];rfl
    ·rename_i hkl;have:¬k<S.owns.length:=λhl=>hkl ⟨rfl,hl⟩
     have hg0:S.aI k=[]:=by
      simp only[St.aI,zE];rw[zJ (by omega)];rfl
     rw[hg0];rfl
   have hdp:(deep&&true)=deep:=by simp
   refine jb h12 L l hargs htys F B C hdO1 (labD:=fM G k j) (labS:=λ_=>False) A U (λ_ _ hh=>hh.elim) (λc hc=>?_) (oV M) λa' w' G' V=>R a' w' G' ?_
   ·rcases hc with hc | hc
    ·have I:=h.iR hc;refine⟨I.1,I.2,λi J=>?_,λk' j' t2 xs2 d2 m2 J=>?_⟩
     ·rw[show G.ow c=_ from hc]at J;cases J
     ·rw[show G.ow c=_ from hc]at J;cases J
      rw[hdead];simp[O.dY]
    ·exact hc.elim
   ·rw[hdp]at V;exact V
  ·cases f
 rename_i hTe;subst hTe;have htys:=nX hTT;split at f
 ·cases f
 rename_i t B;simp only[Rd.aH,zB]at f;obtain⟨ax,h1,ay,h2,f⟩:=f;split at f
 ·exact Qj h L l hargs htys F B B C (aY h h1) (aY h h2) f R
 ·exact Qi h L l hargs htys F B B C (aY h h1) (aY h h2) f R
 simp only[Rd.aH,zB]at f;obtain⟨vy,h3,f⟩:=f;split at f
 ·cases f
 rename_i cy;simp only[Rd.aH,zB]at f;obtain⟨ys,h4,dp,h5,f⟩:=f;have z:=aY h h1;have N:l9 G w cy (a.eval y):=oW h3 (aY h h2);simp only[listOf,Rd.aH,zB,Rd.val,zD]at h4;obtain⟨d0,h6,ys',h7,h8⟩:=h4;have h8':=h8.symm;subst h8';have h9:=D.bG h7;subst h9;let keys:List (Nat×Nat):=if t.flat then []else aP [cy]
 have hros:(if t.flat=true then []else (aP [cy]).map λq=>W.ro q.1 q.2)=keys.map λq=>W.ro q.1 q.2:=by
  simp only[keys];split<;>rfl
 split at f
 ·simp only[Rd.val,zB,Rd.aH,zD]at f;obtain⟨_,M,ws',r,rfl⟩:=f;obtain⟨g,rfl⟩:=fG r;have hgd:ys.length<=34359738368:=oV M;have hnk:nodupB (aP [cy])=true:=by cases cy<;>rfl
  have hnk':nodupB keys=true:=by
   by_cases hff:t.flat=true
   ·simp[keys,hff,nodupB]
   ·simp only[keys,if_neg hff];exact hnk
  by_cases hf:t.flat=true
  ·have U:=Eu h h6 N h5 (S':=λx o=>G.S x o\/AK G S (aP [cy]) x o) (λx o Y=>Y);have hY':((∃(ad:Option Addr) (cap:Nat),a.eval y=.slice ad 0 cap/\(ad=none->cap=0))/\ys=[])\/∃b off cap news,a.eval y=.slice (some ⟨b,off,none⟩) ys.length cap/\(∀p u,news[p]?=some u->w.cell? ⟨b,off+p,none⟩=some u)/\lg w G.S dp t ys news (λ_=>False):=by
    rcases U with U | ⟨b,off,cap,news,e1,e2,l1,l2,vs,fps,l3,l4,l5⟩
    ·exact .inl U
    ·refine .inr ⟨b,off,cap,news,e1,e2,l1,l2,vs,λ_ _ _=>False,λi x j d hx Z=>⟨(l3 i x j d hx Z).1,?_⟩,λ_ _ _ hh=>hh.elim,λ_ _ _ _ _ hh=>hh.elim⟩;have Y:=qh hf Z;exact Ij Y (l3 i x j d hx Z).2
   refine jb h L l hargs htys F B C g (xs:=[]) (deep:=true) (m:=true) (labD:=λ_=>False) (labS:=λ_=>False) (.inl ⟨z,rfl⟩) (src_of F B hY') (λ_ hh=>hh.elim) (λc hc=>(hc.elim id id).elim) (by simpa using hgd) λa' w' G' V=>R a' w' G' ?_
   rw[hros];simp only[keys,hf,if_true];exact V
  ·have hk:keys=aP [cy]:=by simp only[keys];rw[if_neg hf]
   obtain⟨G1,h11,m11,e11,n11⟩:=Inv.VQ keys h hnk';have U:=Eu h h6 N h5 (S':=G1.S) (λx o Y=>(m11.s x o).2 (by rw[hk];exact Y));refine jb h11 L l hargs htys F B C (n11 d g) (xs:=[]) (deep:=true) (m:=true) (labD:=λ_=>False) (.inl ⟨z,rfl⟩) (src_of F B U) (λ_ hh=>hh.elim) (λc hc=>?_) (by simpa using hgd) λa' w' G' V=>R a' w' G' ?_
   ·rcases hc with hc | ⟨_,k,j,rfl,how,t',xs',deep',m',hown⟩
    ·exact hc.elim
    ·have I:=h.iR how;refine⟨I.1,I.2,λi J=>?_,λk' j' t2 xs2 d2 m2 J=>?_⟩
     ·rw[m11.ow,how]at J;cases J
     ·rw[m11.ow,how]at J;cases J
      rw[e11,if_pos (by rw[hk];simp[aP])];exact O.Lr hown _ _ _ _
   ·rw[hros,eP,eP];exact V
 ·rename_i k j;simp only[Rd.val]at f;split at f
  case h_2=>cases f
  rename_i t' xs deep m hown;split at f
  case isFalse=>cases f
  rename_i H;subst H;split at f
  case isFalse=>cases f
  rename_i hnd;simp only[Rd.val,zB,Rd.aH,zD]at f;obtain⟨_,M,ws',r,rfl⟩:=f;obtain⟨g,rfl⟩:=fG r;have A:OwT w G.S deep m t' xs (G.ov k j) (fM G k j):=(h.owns k j).sV hown;rw[<- z.2.1]at A;exact Pj h L l hargs htys F B C g A N h6 h5 hnd (oV M) R
 ·rename_i k j n;simp only[Rd.val]at f;split at f
  case h_2=>cases f
  rename_i t' xs deep hown;split at f
  case isFalse=>cases f
  rename_i H;subst H;split at f
  case isFalse=>cases f
  rename_i hnd;simp only[Rd.val,zB,Rd.aH,zD]at f;obtain⟨_,M,ws',r,rfl⟩:=f;obtain⟨g,rfl⟩:=fG r;have hO:=h.owns k j;rw[hown]at hO;have A:OwT w G.S deep true t' xs (G.ov k j) (fM G k j):=hO;exact Pj h L l hargs htys F B C g (A.aaq z.2) N h6 h5 hnd (oV M) R
 ·cases f
end ops
section ops
variable {P:Program} {w0:Bs} {G:Gh} {S:St} {a:Act} {w:World} {o:Oper} {K:Act->World->Prop} {Q:Exit->Act->World->Prop}
theorem xI{T:TypeId}{i:TypeInfo}(a:P.info? T=some i){g off:Nat}{cur:Array Value}{E:TypeId}(b:w.heap[g]?=some (.cells cur E (0,0))){v:Value}{vs:List Value}(c:v.cells=vs.toArray)(d:vs.length=i.size)
  (f:off+vs.length<=cur.size) (h:∀u∈vs,u.oneCell'=true) :
  (storeVar T ⟨g,off,none⟩ v).run P w=.ok () (w.setRow g (dN cur.toList off vs).toArray):=by
 have:=run_storeCells_at P g off E vs 0 cur w b (by simpa using f) h;simp only[Nat.add_zero]at this;have e:(storeVar T ⟨g,off,none⟩ v).run P w=(storeCells ⟨g,off,none⟩ vs).run P w:=by simp[storeVar,sizeOf,typeInfo,a,c,d]
 rw[e];exact this
theorem xQ{t:TypeId}{p x:Operand}(b:o.op=.store t p x){ad:Addr}(hp:a.eval p=.pointer (some ad)){w':World}(c:(storeVar t ad (a.eval x)).run P w=.ok () w') :
  (execOp a.eval o).run P w=.ok .skip w':=by
 unfold execOp;simp[b,hp,Instr.storeAt,Instr.sureAddr,c]
theorem QU(S:St)(k:Nat)(l l':List O):(S.bI k l).bI k l'=S.bI k l':=by simp[St.bI]
theorem Gq:∀ {tys:List (Option Ty)} {cs:List C} {ds:List D},(cDs tys cs).val S=some ds->tys.length=cs.length->ds.length=cs.length/\∀(j:Nat) (d:D),ds[j]?=some d->∃c ty,cs[j]?=some c/\(cD ty c).val S=some d
 | [],[],ds,h,_=>by
  simp only[cDs,Rd.val,zD]at h;subst h;exact⟨rfl,λj d a=>by simp at a⟩
 | ty::tys,c::cs,ds,h,b=>by
  simp only[cDs,Rd.aH,zB,Rd.val,zD]at h;obtain⟨l,e,f,g,rfl⟩:=h;obtain⟨i,k⟩:=Gq g (by simpa using b);refine⟨by simp[i],λj d a=>?_⟩;cases j with
  | zero=>simp at a;subst a;exact⟨c,ty,rfl,e⟩
  | succ j=>exact k j d (by simpa using a)
theorem aeQ{cs:List C}{vs us:List Value}{off:Nat}(hc:cu G w cs vs)(hp:(seg cs off us.length).all C.plain=true)(m:off+us.length<=vs.length):∀(n:Nat) p l c,vs[n]?=some (Value.slice p l c)->(dN vs off us)[n]?=some (Value.slice p l c):=by
 intro n p l c b;obtain⟨f,e⟩:=hc.get;have g:n<vs.length:=(zC.1 b).1;unfold dN;by_cases h:n<off
 ·rw[a7,List.getElem?_append_left (by rw[a8];omega),List.getElem?_take,if_pos h];exact b
 by_cases o:n<off+us.length
 ·exfalso;have a:n<cs.length:=by omega
  have j:=e n cs[n] _ (by simp[a]) b;have k:cs[n]∈seg cs off us.length:=by
   unfold seg;refine zG (i:=n-off) ?_;rw[List.getElem?_take,if_pos (by omega),List.getElem?_drop,show off+(n-off)=n by omega];simp[a]
  have:=List.all_eq_true.1 hp _ k;generalize cs[n]=cc at *;cases cc with
  | d x=>cases x with
   | list=>cases this
   | _=>cases j
  | _=>cases this
 ·rw[List.getElem?_append_right (by simp;omega),List.getElem?_drop];rw[show off+us.length+(n-(vs.take off++us).length)=n by simp;omega];exact b
theorem UJ{S:St}{k j:Nat}{x:O}(h:aZ (S.aI k) j=x)(b:x≠.dead):k<S.owns.length/\j<(S.aI k).length:=by
 have a:j<(S.aI k).length:=by
  rcases Nat.lt_or_ge j (S.aI k).length with q | q
  ·exact q
  ·simp only[aZ,zE]at h;rw[zJ q]at h;exact absurd h.symm b
 refine⟨?_,a⟩;rcases Nat.lt_or_ge k S.owns.length with q | q
 ·exact q
 ·simp only[St.aI,zE]at a;rw[zJ q]at a;simp at a
theorem agN(h:Inv w0 G S a w){t:TypeId}{p x:Operand}(ho:o.op=.store t p x){E:Env}(hT:E.tt.ok P=true){agg:Bool}{n:Nat}(Z:lk E.tt.shape t=some (agg,n)){v:V}(hn:v.cells.length=n){av:AV}(hav:(avV av).val S=some v)(hr:qV G w v (a.eval x))
  {k j i sz off:Nat} (hrp:jc G w (.oelt k j i sz off) (a.eval p)) {ty:Ty} {xs:List ty.den} {i0 q0:Nat} (hown:aZ (S.aI k) j=.hole ty xs i0 q0) {ws:List W}
  (C:(Vy o v n k j i sz off ty xs i0 q0).val S=some ws)
  (hK:∀a' w' G',Inv w0 G' (S.puts ws) a' w'->K a' w'):o.wp P a w K Q:=by
 obtain⟨f,r,rfl⟩:∃f r,v=.one (.own f r):=by
  unfold Vy at C;split at C
  ·exact⟨_,_,rfl⟩
  ·cases C
 unfold Vy at C;simp only[Rd.val]at C;split at C
 case h_2=>cases C
 rename_i t1 ys hown2;simp only[Rd.val,zB]at C;obtain⟨x0,M,_,hg,C⟩:=C;split at hg
 case isFalse=>cases hg
 rename_i hiq;obtain⟨rfl,rfl⟩:=hiq;split at C
 case isFalse=>cases C
 rename_i hcond;obtain⟨N,hn1,hoff,hfl,hnd⟩:=hcond;simp only[Rd.val,zB,zD]at C;obtain⟨y,hy,rfl⟩:=C;obtain⟨hkn,_⟩:=gQ hnd;have hne:(k,j)≠(f,r):=λe=>hkn (by simp[e])
 obtain⟨d,ti,hu,hi,htsz,hd⟩:=TT.vG hT Z;obtain⟨hlk,b,len,cap,hov,hpv⟩:=hrp;have hxv:a.eval x=G.ov f r:=hr.2.1;have hO:=h.owns k j;rw[hown]at hO;obtain⟨fp,q1,⟨b',cap',arr,e,vs,fps,hv',hb,hcap,hmax,hasz,T,hc,hrr,hf,hdis⟩,q3⟩:=hO;rw[hov]at hv';injection hv' with e1 e2 e3;injection e1 with e1;injection e1 with e1 _ _;subst e1;have hO2:=h.owns f r;rw[hown2]at hO2;have hii:i<xs.length:=(zC.1 M).1;have hidx:i*sz+off<arr.size:=by
  rw[hasz,<- N];have:(i+1)*ty.size<=cap'*ty.size:=Nat.mul_le_mul_right _ (by omega);rw[Nat.succ_mul]at this;omega
 let arr':Array Value:=(dN arr.toList (i*sz+off) [a.eval x]).toArray;have hsr:=setRow_heap w b arr arr' e (0,0) hb;have hoth:∀c,c≠b->(w.setRow b arr').heap[c]?=w.heap[c]?:=λc hc=>setRow_other w b c _ hc
 have D:G.ow b=some (.own k j):=q1 b T;have hlen0:arr.toList.length=arr.size:=Array.length_toList;obtain⟨R,H,hR2,hR3⟩:∃R:Nat->Prop,(∀c,R c->fM G f r c/\∀oo,¬G.S c oo)/\(∀w':World,(∀c,R c->w'.heap[c]?=w.heap[c]?)->Ow w' (λ_ _=>False) true (.list t1 ys) (G.ov f r) R)/\(∀c,R c->c<w.heap.size):=by
  rcases hO2 with ⟨hnil,hys⟩ | ⟨g,cg,ag,eg,vg,fg,g1,g2,g3,g4,g5,g6,g7,g8,g9,g10,g11⟩
  ·exact⟨λ_=>False,λ_ hc=>hc.elim,λw' _=>by rw[hnil,hys];exact .nil _ _,λ_ hc=>hc.elim⟩
  ·refine⟨λc=>c=g,λc hc=>by subst hc;exact⟨g6,λoo Z=>absurd (g11 oo Z).1 (by simp)⟩,λw' U=>?_,λc hc=>by subst hc;exact (h.olt _ _ g6).2⟩;rw[g1];exact .list t1 ys g cg ag eg vg (λ_ _ _=>False) _ ((U g rfl).trans g2) g3 g4 g5 rfl g7 (λi' x' q dd s l=>(Ij (S':=λ_ _=>False) (fp':=λ_=>False) (qh hfl l) (g8 i' x' q dd s l)).move (λ_ _ h=>h.elim) λ_ h=>h.elim) (λ_ _ _ hh=>hh.elim) λ_ _ _ _ _ hh=>hh.elim
 have hRb:¬R b:=λhh=>by
  have:=(H b hh).1;rw[show G.ow b=some (.own f r)from this]at D;cases D
  exact hne rfl
 obtain⟨hkl,hjl⟩:=UJ hown (by intro e;cases e);have h2:=h.tJ f r .dead trivial;have h3:=h2.tJ k j .dead trivial;have hdead:∀k' j' t' xs' d' m',(k',j')=(k,j)\/(k',j')=(f,r)->(aZ (((S.bI f ((S.aI f).set r .dead)).bI k (((S.bI f ((S.aI f).set r .dead)).aI k).set j .dead)).aI k') j').dY≠.own t' xs' d' m':=by
  intro k' j' t' xs' d' m' hh;have:aZ (((S.bI f ((S.aI f).set r .dead)).bI k (((S.bI f ((S.aI f).set r .dead)).aI k).set j .dead)).aI k') j'=.dead:=by
   rcases hh with hh | hh
   ·cases hh;exact mG
   ·cases hh
    rcases E8 (S:=S.bI f ((S.aI f).set r .dead)) (k:=k) (j:=j) (k':=f) (j':=r)with hh | hh
    ·exact hh
    ·rw[hh];exact mG
  rw[this];simp[O.dY]
 have h4:=h3.TF b (w':=w.setRow b arr') (h.iR D).1 (λi' m=>by rw[D]at m;cases m) (λk' j' t' xs' d' m' m=>by
   rw[D]at m;cases m;exact hdead k j t' xs' d' m' (.inl rfl)) rfl rfl rfl (by simp) (λc _ hc=>hoth c hc) (λoo Z=>absurd T (q3 b oo Z))
 classical
 have h5:=h4.ahR R k j (λc X=>by
  have z:=(H c X).1;refine⟨(h.iR z).1,by simpa using (h.iR z).2,λi' m=>?_,λk' j' t' xs' d' m' m _=>?_⟩
  ·rw[show G.ow c=_ from z]at m;cases m
  ·rw[show G.ow c=_ from z]at m;cases m
   exact hdead f r t' xs' d' m' (.inr rfl))
 have hfR:∀c,fp c->¬R c:=λc hc hh=>by
  have h6:G.ow c=some (.own f r):=(H c hh).1;rw[show G.ow c=some (.own k j)from q1 c hc]at h6;cases h6
  exact hne rfl
 have hnew:tq { G with ow:=λc=>if R c then some (.own k j)else G.ow c } (w.setRow b arr') k j (.tree ty (xs.set i y)):=by
  refine⟨λc=>fp c\/R c,λc hc=>?_,?_,λb' oo hs' m=>m.elim (q3 b' oo hs') λhh=>(H b' hh).2 oo hs'⟩
  ·show (if R c then some (sZ.own k j)else G.ow c)=_
   split
   ·rfl
   ·rename_i hh;exact q1 c (hc.resolve_right hh)
  ·show Ow _ _ true (.list ty (xs.set i y)) (G.ov k j) _
   rw[hov,e2,e3,<- @List.length_set _ xs i y];refine .list ty (xs.set i y) b cap' arr' e (λi' j'=>if i'=i/\j'=off then a.eval x else vs i' j') (λi' j' c=>if i'=i/\j'=off then R c else fps i' j' c) _ hsr (by simpa using hcap) hmax ?_ (.inl T) ?_ ?_ ?_ ?_
   ·show (dN arr.toList (i*sz+off) [a.eval x]).length=_
    rw[uN _ _ _ (by simp;omega),hlen0,hasz]
   ·intro i' x' j' d' s l;have hj':j'<ty.size:=by
     have:=(zC.1 l).1;rwa [Ty.bn]at this
    rw[<- Array.getElem?_toList];show (dN arr.toList (i*sz+off) [a.eval x])[i'*ty.size+j']?=some (if i'=i/\j'=off then a.eval x else vs i' j')
    have hss:(dN arr.toList (i*sz+off) [a.eval x])=arr.toList.set (i*sz+off) (a.eval x):=by
     rw[List.set_eq_take_append_cons_drop];simp[dN,hidx]
    rw[hss,List.getElem?_set];by_cases A:i'=i/\j'=off
    ·obtain⟨rfl,rfl⟩:=A;rw[N,if_pos rfl,if_pos (by omega)];simp
    ·have hneq:i*sz+off≠i'*ty.size+j':=λee=>A (by
      rw[<- N]at ee;have:=QL hoff hj' ee;exact⟨this.1.symm,this.2.symm⟩)
     rw[if_neg hneq,if_neg A,Array.getElem?_toList];by_cases B:i'=i
     ·subst B;obtain⟨d0,hd0⟩:∃d0,(ty.cells x0)[j']?=some d0:=⟨_,zF (by rw[Ty.bn];exact hj')⟩;exact hc i' x0 j' d0 M hd0
     ·rw[List.getElem?_set,if_neg (Ne.symm B)]at s;exact hc i' x' j' d' s l
   ·intro i' x' j' d' s l;by_cases A:i'=i/\j'=off
    ·obtain⟨rfl,rfl⟩:=A;rw[List.getElem?_set,if_pos rfl,if_pos hii]at s;cases s
     rw[Ty.dU hy]at l;have hdd:d'=.list t1 ys:=by
      simp only[dN,List.getElem?_append,List.getElem?_take,a6,a8,Ty.bn]at l;have m1:min j' ty.size=j':=by omega
      rw[m1]at l;simp at l;exact l.symm
     subst hdd;simp only[and_self,if_true];rw[hxv];exact hR2 _ λc X=>hoth c λee=>hRb (ee▸X)
    ·simp only[if_neg A];have U:Ow w (λ_ _=>False) true d' (vs i' j') (fps i' j'):=by
      by_cases B:i'=i
      ·subst B;rw[List.getElem?_set,if_pos rfl,if_pos hii]at s;cases s
       rw[Ty.dU hy]at l;have hjo:j'≠off:=λee=>A ⟨rfl,ee⟩
       refine hrr i' x0 j' d' M ?_ A;simp only[dN,List.getElem?_append,List.getElem?_take,List.getElem?_drop,a6,a8,Ty.bn]at l;have m1:min off ty.size=off:=by omega
       rw[m1]at l;by_cases hl:j'<off
       ·have a1:j'<off+1:=by omega
        simpa [a1,hl] using l
       ·have a1:¬j'<off+1:=by omega
        have a2:off+1+(j'-(off+1))=j':=by omega
        simpa [a1,a2] using l
      ·rw[List.getElem?_set,if_neg (Ne.symm B)]at s;exact hrr i' x' j' d' s l A
     refine (U.move (λ_ _ h=>h.elim) λc Y=>hoth c (hf i' j' c Y).2).sub (λc Y=>?_) id;exact Y
   ·intro i' j' c F;split at F
    ·exact⟨.inr F,λee=>hRb (ee▸F)⟩
    ·exact⟨.inl (hf i' j' c F).1,(hf i' j' c F).2⟩
   ·intro i1 j1 i2 j2' c I z;split at I
    ·rename_i J;split at z
     ·rename_i L;exact⟨J.1.trans L.1.symm,J.2.trans L.2.symm⟩
     ·exact absurd I (hfR c (hf _ _ _ z).1)
    ·split at z
     ·exact absurd z (hfR c (hf _ _ _ I).1)
     ·exact hdis _ _ _ _ _ I z
 have h6:=h5.tJ k j _ hnew;have hst:((S.bI f ((S.aI f).set r .dead)).bI k (((S.bI f ((S.aI f).set r .dead)).aI k).set j .dead)).bI k ((((S.bI f ((S.aI f).set r .dead)).bI k (((S.bI f ((S.aI f).set r .dead)).aI k).set j .dead)).aI k).set j (.tree ty (xs.set i y)))=(S.put (.upd f r .dead)).put (.upd k j (.tree ty (xs.set i y))):=by
  show _=(S.bI f ((S.aI f).set r .dead)).bI k (((S.bI f ((S.aI f).set r .dead)).aI k).set j _)
  rw[QU,bg,if_pos ⟨rfl,by simpa [St.bI] using hkl⟩,List.set_set]
 rw[hst]at h6;have h7:=h6.dst (o:=o) (AU (G:=_) (w:=_));have hcs1:∀u∈[a.eval x],u.oneCell'=true:=λu hu=>by
  rw[List.mem_singleton]at hu;subst hu;exact hr.2.2
 refine CY (xQ ho hpv (xI (vs:=[a.eval x]) hi hb (Gl hr.2.2) (by rw[htsz,hn1];rfl) (by simp;omega) hcs1)) (hK _ _ _ h7)
theorem aeo(h:Inv w0 G S a w){t:TypeId}{p x:Operand}(ho:o.op=.store t p x){E:Env}(hT:E.tt.ok P=true)(hma:E.ma=true->∀b,w0.bx≠some (b,true)){ws:List W}(f:(eff E o).val S=some ws)
  (hK:∀a' w' G',Inv w0 G' (S.puts ws) a' w'->K a' w'):o.wp P a w K Q:=by
 unfold eff at f;rw[ho]at f;simp only at f;split at f
 ·cases f
 rename_i agg n D;obtain⟨d,i,hu,hi,hsz,hd⟩:=TT.vG hT D;simp only[Rd.aH,zB]at f;obtain⟨av,h1,v,h2,f⟩:=f;have hr:=oW h2 (aY h h1);obtain⟨us,hus,X⟩:=hr.SX;split at f
 case isFalse=>cases f
 rename_i hn;have hul:us.length=n:=by rw[<- X.length];exact hn
 simp only[Rd.aH,zB]at f;obtain⟨ap,h3,f⟩:=f;have hrp:=aY h h3;split at f
 ·rename_i b off;simp only[Rd.val]at f;split at f
  ·rename_i cs hcsb;split at f
   ·rename_i hle';obtain⟨hle,hpl⟩:=hle';simp only[Rd.val,zD]at f;subst f;obtain⟨_,vs,e,hh,hc⟩:=h.box b cs hcsb;have hvl:=hc.length;refine CY (xQ ho hrp.2 (xI hi hh hus (by omega) (by simp;omega) X.one)) (hK _ _ G ?_);have h':=h.ajN b hcsb (hc.dN X off) λ⟨q0,hq0⟩ e0 vs2 E2 hh2=>(by
     rw[hh]at hh2;cases hh2;have hm0:E.ma=false:=by
      cases F:E.ma with
      | false=>rfl
      | true=>exact absurd hq0 (hma F q0)
     exact aeQ hc (by simpa [e0,hul,hm0] using hpl) (by omega))
    exact h'.dst AU
   ·cases f
  ·cases f
 ·rename_i k j ii sz off;simp only[Rd.val]at f;split at f
  case h_3=>cases f
  case h_2 ty xs i0 q0 hown=>exact agN h ho hT D hn h2 hr hrp hown f hK
  rename_i ty xs deep hown;simp only[Rd.val,zB]at f;obtain⟨x0,hx0,f⟩:=f;split at f
  case isFalse=>cases f
  rename_i hoff;simp only[Rd.aH,zB]at f;obtain⟨ds,h4,dp,h5,f⟩:=f;simp only[Rd.val,zB]at f;obtain⟨y,h6,f⟩:=f;split at f
  case isFalse=>cases f
  rename_i hnd;simp only[Rd.val,zD]at f;subst f;obtain⟨hlk,b,len,cap,hov,hpv⟩:=hrp;obtain⟨hkn,hnk⟩:=gQ hnd;have hO:=h.owns k j;rw[hown]at hO;rcases hO with ⟨he,_⟩ | ⟨b',cap',arr,e,vs,fps,hv',hb,hcap,hmax,hasz,hfb,hc,hrr,hf,hdis,hsS⟩
  ·rw[hov]at he;cases he
  rw[hov]at hv';injection hv' with e1 e2 e3;injection e1 with e1;injection e1 with e1 _ _;subst e1;have hii:ii<xs.length:=(zC.1 hx0).1;obtain⟨H,hon⟩:=hoff;have htl:(seg ty.tys off n).length=v.cells.length:=by simp[Abs.seg,kE];omega
  obtain⟨Y,hdg⟩:=Gq h4 htl;obtain⟨G1,h7,m7,e7,n7⟩:=Inv.VQ (aP v.cells) h hnk;have hS2:∀k' j',aZ ((S.puts ((aP v.cells).map λq=>W.ro q.1 q.2)).aI k') j'=if (k',j')∈aP v.cells then (aZ (S.aI k') j').BZ else aZ (S.aI k') j':=e7
  have h8:=h7.tJ k j .dead trivial;generalize hS1:S.puts ((aP v.cells).map λq=>W.ro q.1 q.2)=N at *;have hnq:∀k' j',(k',j')∈aP v.cells->∀t' xs',aZ (S.aI k') j'≠.seg t' xs':=λk' j' F t' xs' he=>by
   obtain⟨q,V⟩:=List.getElem?_of_mem (pV F);have Z:q<ds.length:=by rw[Y];exact (zC.1 V).1
   obtain⟨c,ty',l,g⟩:=hdg q _ (zF Z);rw[V]at l;cases l
   simp only[cD,Rd.val,he]at g;cases g
  have hnh:∀k' j',(k',j')∈aP v.cells->∀t' xs' i' q',aZ (S.aI k') j'≠.hole t' xs' i' q':=λk' j' F t' xs' i' q' he=>by
     obtain⟨q,V⟩:=List.getElem?_of_mem (pV F);have Z:q<ds.length:=by rw[Y];exact (zC.1 V).1
     obtain⟨c,ty',l,g⟩:=hdg q _ (zF Z);rw[V]at l;cases l
     simp only[cD,Rd.val,he]at g;cases g
  have hnp:∀k' j',(k',j')∈aP v.cells->∀t' xs' i',aZ (S.aI k') j'≠.part t' xs' i':=λk' j' F t' xs' i' he=>by
   obtain⟨q,V⟩:=List.getElem?_of_mem (pV F);have Z:q<ds.length:=by rw[Y];exact (zC.1 V).1
   obtain⟨c,ty',l,g⟩:=hdg q _ (zF Z);rw[V]at l;cases l
   simp only[cD,Rd.val,he]at g;cases g
  have hdead:∀k' j' t' xs' d' m',(aZ ((N.bI k ((N.aI k).set j .dead)).aI k') j').dY=.own t' xs' d' m'->(k',j')≠(k,j)/\(k',j')∉aP v.cells:=by
   intro k' j' t' xs' d' m' A;rw[bg]at A;split at A
   ·rename_i hkk;obtain⟨rfl,hkl⟩:=hkk;rw[gu]at A;split at A
    ·cases A
    ·rename_i hjj;refine⟨λe=>?_,λF=>?_⟩
     ·cases e
      have:¬j<(N.aI k).length:=λT=>hjj ⟨rfl,T⟩
      have:aZ (N.aI k) j=.dead:=by
       simp only[aZ,zE];rw[zJ (by omega)];rfl
      rw[this]at A;cases A
     ·rw[hS2,if_pos F]at A;cases B:aZ (S.aI k) j'<;>rw[B]at A<;>simp[O.BZ,O.dY]at A
      ·exact hnp _ _ F _ _ _ B
      ·exact hnq _ _ F _ _ B
      ·exact hnh _ _ F _ _ _ _ B
   ·rename_i hkk;refine⟨λe=>?_,λF=>?_⟩
    ·cases e
     have:¬k<N.owns.length:=λT=>hkk ⟨rfl,T⟩
     have hg0:N.aI k=[]:=by
      simp only[St.aI,zE];rw[zJ (by omega)];rfl
     rw[hg0]at A;cases A
    ·rw[hS2,if_pos F]at A;cases B:aZ (S.aI k') j'<;>rw[B]at A<;>simp[O.BZ,O.dY]at A
     ·exact hnp _ _ F _ _ _ B
     ·exact hnq _ _ F _ _ B
     ·exact hnh _ _ F _ _ _ _ B
  let arr':Array Value:=(dN arr.toList (ii*sz+off) us).toArray;have hidx:ii*sz+off+us.length<=arr.toList.length:=by
   have e1:arr.toList.length=arr.size:=Array.length_toList;rw[e1,hasz,<- H];have:(ii+1)*ty.size<=cap'*ty.size:=Nat.mul_le_mul_right _ (by omega);rw[Nat.succ_mul]at this;omega
  have hsr:=setRow_heap w b arr arr' e (0,0) hb;have hoth:∀c,c≠b->(w.setRow b arr').heap[c]?=w.heap[c]?:=λc hc=>setRow_other w b c _ hc
  have hbo:G1.ow b=some (.own k j):=by rw[m7.ow];exact hfb
  have hSb:∀oo,¬G1.S b oo:=by
   intro oo D;rcases (m7.s b oo).1 D with D | ⟨k',j',t2,xs2,d2,m2,hmem,_,I,_⟩
   ·exact absurd (hsS oo D).1 (by simp)
   ·rw[show G.ow b=some (.own k j)from hfb]at I;cases I
    exact hkn hmem
  have h9:=h8.TF b (w':=w.setRow b arr') (h7.iR hbo).1 (λi u=>by rw[hbo]at u;cases u) (λk' j' t' xs' d' m' u A=>by
    rw[hbo]at u;cases u;exact (hdead k j t' xs' d' m' A).1 rfl) rfl rfl rfl (by simp) (λc _ hc=>hoth c hc) (λoo D=>absurd D (hSb oo))
  classical
  have h10:=h9.ahR (λc=>∃(q:Nat) (cc:C),v.cells[q]?=some cc/\rowsOf G S cc c) k j (λc hc=>by
   obtain⟨q,cc,V,k',j',rfl,I,t2,xs2,d2,m2,hown2⟩:=hc;have hlt:=h.iR I;refine⟨hlt.1,by simpa using hlt.2,λi u=>?_,λk'' j'' t' xs' d' m' u _ A=>?_⟩
   ·rw[m7.ow,I]at u;cases u
   ·rw[m7.ow,I]at u;cases u
    exact (hdead _ _ t' xs' d' m' A).2 (fD (zG V)))
  have hrows_ne:∀(q:Nat) (cc:C) (c:Nat),v.cells[q]?=some cc->rowsOf G S cc c->G.ow c≠some (.own k j):=by
   rintro q cc c V ⟨k',j',rfl,I,_⟩ hcj;rw[I]at hcj;cases hcj
   exact hkn (fD (zG V))
  have hnew:tq { G1 with ow:=λc=>if ∃(q:Nat) (cc:C),v.cells[q]?=some cc/\rowsOf G S cc c then some (.own k j)else G1.ow c } (w.setRow b arr') k j (.own ty (xs.set ii y) (deep&&dp) true):=by
   refine .inr ⟨b,cap',arr',e,λi' j'=>if i'=ii/\off<=j'/\j'<off+n then us.getD (j'-off) undef else vs i' j',
    λi' j' c=>if i'=ii/\off<=j'/\j'<off+n then ∃cc,v.cells[j'-off]?=some cc/\rowsOf G S cc c else fps i' j' c,?_,hsr,by simpa using hcap,hmax,?_,?_,?_,?_,?_,?_,?_⟩
   ·rw[List.length_set];show G1.ov k j=_
    rw[m7.ov,hov,e2,e3]
   ·show (dN arr.toList (ii*sz+off) us).length=_
    rw[uN _ _ _ hidx];have e1:arr.toList.length=arr.size:=Array.length_toList;rw[e1,hasz]
   ·show (if _ then some (sZ.own k j)else G1.ow b)=_
    split
    ·rfl
    ·exact hbo
   ·intro i' x' j' d' z m;have hj':j'<ty.size:=by
     have:=(zC.1 m).1;rwa [Ty.bn]at this
    have hi':i'<xs.length:=by have:=(zC.1 z).1;simpa using this
    rw[<- Array.getElem?_toList];show (dN arr.toList (ii*sz+off) us)[i'*ty.size+j']?=some (if i'=ii/\off<=j'/\j'<off+n then us.getD (j'-off) undef else vs i' j')
    simp only[dN,List.getElem?_append,List.getElem?_take,List.getElem?_drop,a6,a8];have m1:min (ii*sz+off) arr.toList.length=ii*sz+off:=by omega
    rw[m1];by_cases J:i'=ii/\off<=j'/\j'<off+n
    ·obtain⟨rfl,U,R⟩:=J;have a1:i'*ty.size+j'<i'*sz+off+us.length:=by rw[H];omega
     have a2:¬i'*ty.size+j'<i'*sz+off:=by rw[H];omega
     have a3:i'*ty.size+j'-(i'*sz+off)=j'-off:=by rw[H];omega
     have a4:j'-off<us.length:=by omega
     simp[a1,a2,a3,U,R,a4]
    ·have hold:arr.toList[i'*ty.size+j']?=some (vs i' j'):=by
      by_cases r:i'=ii
      ·subst r;have hd0:∃d0,(ty.cells x0)[j']?=some d0:=by
        have:j'<(ty.cells x0).length:=by rw[Ty.bn];exact hj'
        exact⟨_,zF this⟩
       obtain⟨d0,hd0⟩:=hd0;simpa using hc i' x0 j' d0 hx0 hd0
      ·rw[List.getElem?_set,if_neg (Ne.symm r)]at z;simpa using hc i' x' j' d' z m
     rw[if_neg J];have hcase:i'*ty.size+j'<ii*sz+off\/ii*sz+off+us.length<=i'*ty.size+j':=by
      rw[<- H,hul];by_cases r:i'=ii
      ·subst r;have:¬(off<=j'/\j'<off+n):=λhh=>J ⟨rfl,hh⟩
       omega
      ·rcases Nat.lt_or_gt_of_ne r with T | T
       ·have:(i'+1)*ty.size<=ii*ty.size:=Nat.mul_le_mul_right _ T;rw[Nat.succ_mul]at this;omega
       ·have:(ii+1)*ty.size<=i'*ty.size:=Nat.mul_le_mul_right _ T;rw[Nat.succ_mul]at this;omega
     rcases hcase with T | T
     ·have a1:i'*ty.size+j'<ii*sz+off+us.length:=by omega
      rw[if_pos a1,if_pos T,if_pos T];exact hold
     ·have a1:¬i'*ty.size+j'<ii*sz+off+us.length:=by omega
      rw[if_neg a1];have a2:ii*sz+off+us.length+(i'*ty.size+j'-(ii*sz+off+us.length))=i'*ty.size+j':=by omega
      rw[a2];exact hold
   ·intro i' x' j' d' z m;have hmv:∀b' oo,G.S b' oo->G1.S b' oo/\(w.setRow b arr').cell? ⟨b',oo,none⟩=w.cell? ⟨b',oo,none⟩:=λb' oo D=>
     ⟨(m7.s b' oo).2 (.inl D),World.cell?_of_block (w:=w) (hoth b' λeb=>hSb oo (eb▸(m7.s b' oo).2 (.inl D)))⟩
    by_cases J:i'=ii/\off<=j'/\j'<off+n
    ·obtain⟨rfl,U,R⟩:=J;rw[List.getElem?_set,if_pos rfl,if_pos hii]at z;cases z
     rw[Ty.dU h6]at m;have hdd:ds[j'-off]?=some d':=by
      simp only[dN,List.getElem?_append,List.getElem?_take,List.getElem?_drop,a6,a8,Ty.bn,Y,hn]at m;have m1:min off ty.size=off:=by omega
      rw[m1]at m;have a1:j'<off+n:=R;have a2:¬j'<off:=by omega
      simpa [a1,a2] using m
     obtain⟨cc,tyc,L,hcd⟩:=hdg _ _ hdd;obtain⟨bb,hb1,hb2⟩:=yB h5 _ cc L;have hlt:j'-off<us.length:=by omega
     have hcr:=X.get.2 _ cc us[j'-off] L (by simp[hlt]);have:=VD h hcd hcr hb1 hb2 (S':=G1.S) (keys:=aP v.cells) (λxx oo D=>(m7.s xx oo).2 D) λk' j'' ec=>fD (ec▸zG L)
     simp only[U,R,and_self,if_true];have hg:us.getD (j'-off) undef=us[j'-off]:=by simp[hlt]
     rw[hg];refine (this.move (λb' oo D=>⟨D,World.cell?_of_block (w:=w) (hoth b' λeb=>hSb oo (eb▸D))⟩) λc M=>hoth c λeb=>?_).sub (λc M=>⟨cc,L,M⟩) λee=>(zI _ _▸ee).2
     exact hrows_ne _ cc c L M (by rw[eb];exact hfb)
    ·simp only[if_neg J];have hw':Ow w G.S deep d' (vs i' j') (fps i' j'):=by
      by_cases r:i'=ii
      ·subst r;rw[List.getElem?_set,if_pos rfl,if_pos hii]at z;cases z
       rw[Ty.dU h6]at m;refine hrr i' x0 j' d' hx0 ?_;have hno:¬(off<=j'/\j'<off+n):=λhh=>J ⟨rfl,hh⟩
       simp only[dN,List.getElem?_append,List.getElem?_take,List.getElem?_drop,a6,a8,Ty.bn,Y,hn]at m;have m1:min off ty.size=off:=by omega
       rw[m1]at m;by_cases T:j'<off
       ·have a1:j'<off+n:=by omega
        simpa [a1,T] using m
       ·have a1:¬j'<off+n:=by omega
        have a2:off+n+(j'-(off+n))=j':=by omega
        simpa [a1,a2] using m
      ·rw[List.getElem?_set,if_neg (Ne.symm r)]at z;exact hrr i' x' j' d' z m
     refine (hw'.move hmv λc M=>hoth c (hf i' j' c M).2).sub (λc M=>?_) λee=>(zI _ _▸ee).1
     first | exact M | (rw[if_neg J];exact M)
   ·intro i' j' c hcf;split at hcf
    ·obtain⟨cc,L,hrow⟩:=hcf;refine⟨?_,λeb=>hrows_ne _ cc c L hrow (by rw[eb];exact hfb)⟩;show (if _ then some (sZ.own k j)else G1.ow c)=_
     rw[if_pos ⟨_,cc,L,hrow⟩]
    ·refine⟨?_,(hf i' j' c hcf).2⟩;show (if _ then some (sZ.own k j)else G1.ow c)=_
     split
     ·rfl
     ·rw[m7.ow];exact (hf i' j' c hcf).1
   ·intro i1 j1 i2 j2 c l g;split at l
    ·rename_i hin1;obtain⟨cc1,hcc1,hrow1⟩:=l;split at g
     ·rename_i hin2;obtain⟨cc2,hcc2,hrow2⟩:=g;obtain⟨k1,l1,rfl,how1,_⟩:=hrow1;obtain⟨k2,l2,rfl,how2,_⟩:=hrow2;rw[how1]at how2;cases how2
      have:=gJ hnk hcc1 hcc2;omega
     ·exact absurd (hf i2 j2 c g).1 (hrows_ne _ cc1 c hcc1 hrow1)
    ·split at g
     ·obtain⟨cc2,hcc2,hrow2⟩:=g;exact absurd (hf i1 j1 c l).1 (hrows_ne _ cc2 c hcc2 hrow2)
     ·exact hdis _ _ _ _ _ l g
   ·intro oo D;exact absurd D (hSb oo)
  have U:=h10.tJ k j _ hnew;have hpv':a.eval p=.pointer (some ⟨b,ii*sz+off,none⟩):=hpv;have e1:arr.toList.length=arr.size:=Array.length_toList;have hst:(N.bI k ((N.aI k).set j .dead)).bI k (((N.bI k ((N.aI k).set j .dead)).aI k).set j (.own ty (xs.set ii y) (deep&&dp) true))=N.put (.upd k j (.own ty (xs.set ii y) (deep&&dp) true)):=by
   show _=N.bI k ((N.aI k).set j _)
   by_cases hkl:k<N.owns.length
   ·rw[QU,bg,if_pos ⟨rfl,hkl⟩,List.set_set]
   ·simp only[vI hkl]
  rw[hst]at U;have R:=U.dst (o:=o) (AU (G:=_) (w:=_));have hpu:S.puts (((aP v.cells).map λq=>W.ro q.1 q.2)++(.upd k j (.own ty (xs.set ii y) (deep&&dp) true)::fF o (.tup [])))=(N.put (.upd k j (.own ty (xs.set ii y) (deep&&dp) true))).puts (fF o (.tup [])):=by
   rw[eP,hS1];rfl
  rw[<- hpu]at R;exact CY (xQ ho hpv' (xI hi hb hus (by omega) (by omega) X.one)) (hK _ _ _ R)
 ·cases f
end ops
theorem RY{α:Type}{xs r:List α}{lo a:Option Int}(h:eff.cutL xs lo a=some r) :
  0<=lo.getD 0/\lo.getD 0<=a.getD xs.length/\a.getD xs.length<=xs.length/\r=(xs.take (a.getD xs.length).toNat).drop (lo.getD 0).toNat:=by
 simp only[eff.cutL]at h;split at h
 ·rename_i hc;exact⟨hc.1,hc.2.1,hc.2.2,(aR h).symm⟩
 ·cases h
section ops
variable {P:Program} {w0:Bs} {G:Gh} {S:St} {a:Act} {w:World} {o:Oper} {K:Act->World->Prop} {Q:Exit->Act->World->Prop}
theorem dP(isSlice:Bool)(len cap:Nat)(lo a:Option Value)(l h:Int)(b:lo=none/\l=0\/∃k,lo=some (.int k l))(c:a=none/\h=len\/∃k,a=some (.int k h))
  (d:0<=l) (e:l<=h) (f:h<=cap):(Instr.sliceBounds isSlice len cap lo a none).run P w=.ok (l.toNat,h.toNat,cap) w:=by
 rcases b with ⟨rfl,rfl⟩ | ⟨k,rfl⟩<;>rcases c with ⟨rfl,rfl⟩ | ⟨k',rfl⟩
 ·simp[Instr.sliceBounds]
 ·simp[Instr.sliceBounds,Instr.sliceBound,asIntOf,e,f]
 ·simp[Instr.sliceBounds,Instr.sliceBound,asIntOf,d,e]
 ·have g:(0:Int)<=h:=by omega
  have i:max h 0=h:=by omega
  have j:¬h<l:=by omega
  simp[Instr.sliceBounds,Instr.sliceBound,asIntOf,d,f,g,i,j]
theorem aa3(h:Inv w0 G S a w){x:Option Operand}{b:Option Int}(c:(eff.bnd x).val S=some b)(d:Int):(x.map a.eval=none/\b.getD d=d)\/∃k,x.map a.eval=some (.int k (b.getD d)):=by
 cases x with
 | none=>
  simp only[eff.bnd,Rd.val,zD]at c;subst c;exact .inl ⟨rfl,rfl⟩
 | some x=>
  simp only[eff.bnd,Rd.aH,zB,Rd.val,zD]at c;obtain⟨av,e,n,f,rfl⟩:=c;obtain⟨k,hk⟩:=wZ f (aY h e);exact .inr ⟨k,by simp[hk]⟩
theorem Inv.Tj(h:Inv w0 G S a w)(k j:Nat):∃G',Inv w0 G' (S.put (.nomut k j)) a w/\More G G' (AK G S [(k,j)]):=by
 have l:=h.owns k j;have R:Inv w0 G (S.put (.nomut k j)) a w:=by
  refine h.tJ k j _ ?_;cases c:aZ (S.aI k) j with
  | dead=>trivial
  | ro t xs=>rw[c]at l;exact l
  | part t xs i=>rw[c]at l;exact l
  | seg t xs=>rw[c]at l;exact l
  | hole t xs i q=>rw[c]at l;exact l
  | tree t xs=>
   rcases h.aee (k:=k) (j:=j) (by rw[c];rfl)with x | ⟨b,cap,arr,E,vs,fps,y,z,A,B,C,D,F,H,I,n,J⟩
   ·exact .inl x
   ·exact .inr ⟨b,cap,arr,E,vs,fps,y,z,A,B,C,D,F,H,I,n,λoo K=>⟨rfl,(J oo K).2⟩⟩
  | own t xs deep m=>
   rw[c]at l;rcases l with x | ⟨b,cap,arr,E,vs,fps,y,z,A,B,C,D,F,H,I,n,J⟩
   ·exact .inl x
   ·exact .inr ⟨b,cap,arr,E,vs,fps,y,z,A,B,C,D,F,H,I,n,λoo K=>⟨rfl,(J oo K).2⟩⟩
 have hent:∀k' j' t xs deep m,aZ ((S.put (.nomut k j)).aI k') j'=.own t xs deep m->∃m',(aZ (S.aI k') j').sV=.own t xs deep m'/\((k',j')=(k,j)->m=false):=by
  intro k' j' t xs deep m c;change aZ ((S.bI k ((S.aI k).set j (aZ (S.aI k) j).Ad)).aI k') j'=_ at c;rw[bg]at c;split at c
  ·rename_i hk;obtain⟨rfl,T⟩:=hk;rw[gu]at c;split at c
   ·rename_i s;obtain⟨rfl,_⟩:=s;cases d:aZ (S.aI k) j with
    | dead=>rw[d]at c;cases c
    | ro t' xs'=>rw[d]at c;cases c
    | part t' xs' i'=>rw[d]at c;cases c
    | seg t' xs'=>rw[d]at c;cases c
    | hole=>rw[d]at c;cases c
    | own t' xs' deep' m'=>
     rw[d]at c;simp only[O.Ad,O.own.injEq]at c;obtain⟨rfl,u,rfl,rfl⟩:=c;cases u
     exact⟨m',rfl,λ_=>rfl⟩
    | tree t' xs'=>
     rw[d]at c;simp only[O.Ad,O.own.injEq]at c;obtain⟨rfl,u,rfl,rfl⟩:=c;cases u
     exact⟨true,rfl,λ_=>rfl⟩
   ·rename_i s;refine⟨m,by rw[c];rfl,λe=>?_⟩;cases e
    have:¬j<(S.aI k).length:=λo=>s ⟨rfl,o⟩
    have:aZ (S.aI k) j=.dead:=by
     simp only[aZ,zE];rw[zJ (by omega)];rfl
    rw[this]at c;cases c
  ·rename_i hk;refine⟨m,by rw[c];rfl,λe=>?_⟩;cases e
   have:¬k<S.owns.length:=λo=>hk ⟨rfl,o⟩
   have p:S.aI k=[]:=by
    simp only[St.aI,zE];rw[zJ (by omega)];rfl
   rw[p]at c;cases c
 have L:∀t xs,(aZ ((S.put (.nomut k j)).aI k) j).IsT t xs->∀t' xs' d' m',(aZ (S.aI k) j).sV≠.own t' xs' d' m':=by
  intro t xs c t' xs' d' m';change (aZ ((S.bI k ((S.aI k).set j (aZ (S.aI k) j).Ad)).aI k) j).IsT t xs at c;rw[bg]at c;split at c
  ·rw[gu]at c;split at c
   ·cases d:aZ (S.aI k) j<;>rw[d]at c<;>simp[O.Ad,O.IsT,O.sV]at c ⊢
   ·rename_i s;have:¬j<(S.aI k).length:=λo=>s ⟨rfl,o⟩
    have:aZ (S.aI k) j=.dead:=by
     simp only[aZ,zE];rw[zJ (by omega)];rfl
    rw[this]at c;rcases c with c | ⟨_,c⟩ | c | ⟨_,_,c⟩<;>cases c
  ·rename_i hk;have:¬k<S.owns.length:=λo=>hk ⟨rfl,o⟩
   have p:S.aI k=[]:=by
    simp only[St.aI,zE];rw[zJ (by omega)];rfl
   rw[p]at c;rcases c with c | ⟨_,c⟩ | c | ⟨_,_,c⟩<;>cases c
 obtain⟨u,_⟩:=R.VI (AK G S [(k,j)]) (by
  rintro b oo ⟨k',j',t,xs,deep,m,hmem,hown,g,r⟩;simp only[List.mem_singleton,Prod.mk.injEq]at hmem;obtain⟨rfl,rfl⟩:=hmem;refine⟨(h.olt _ _ g).2,λi N=>(by rw[g]at N;cases N),λU V P v X Y c len cap M f=>?_⟩;rw[g]at f;cases f
  obtain⟨m',Q,W⟩:=hent _ _ _ _ _ _ c;rw[hown]at Q;cases Q
  exact⟨W rfl,r len cap M⟩) (by
  rintro b oo ⟨k',j',t,xs,deep,m,hmem,hown,g,r⟩;exact (h.iR g).1) (by
  rintro b oo ⟨k',j',t,xs,deep,m,hmem,hown,g,r⟩ U V P v c f;simp only[List.mem_singleton,Prod.mk.injEq]at hmem;obtain⟨rfl,rfl⟩:=hmem;rw[g]at f;cases f
  exact L P v c _ _ _ _ hown)
 exact⟨_,u,rfl,rfl,rfl,rfl,rfl,λb oo=>Iff.rfl⟩
theorem G6{S0:Nat->Nat->Prop}{t:Ty}{xs r:List t.den}{v:Value}(hrep:Rep w S0 (.list t xs) v){T e:TypeId}{i:TypeInfo}(u:P.underlying T=some (.slice e))(y:P.info? e=some i)(z:i.size=t.size)
  {lo c:Option Value} {blo bhi:Option Int} (m:(lo=none/\blo.getD 0=0)\/∃k,lo=some (.int k (blo.getD 0))) (n:(c=none/\bhi.getD xs.length=xs.length)\/∃k,c=some (.int k (bhi.getD xs.length)))
  (F:eff.cutL xs blo bhi=some r):∃v',(Instr.sliceAt T v lo c none).run P w=.ok v' w/\Rep w S0 (.list t r) v':=by
 obtain⟨G,H,E,rfl⟩:=RY F;generalize J:blo.getD 0=l at *;generalize hh:bhi.getD (xs.length:Int)=h at *;have q:((xs.take h.toNat).drop l.toNat).length=h.toNat-l.toNat:=by simp;omega
 generalize f:D.list t xs=dd at hrep;cases hrep with
 | int=>cases f
 | bool=>cases f
 | str=>cases f
 | nil t'=>
  cases f
  have o:h=0:=by simp at E;omega
  subst o;have p:l=0:=by omega
  subst p;have a:=dP (P:=P) (w:=w) true 0 0 lo c 0 0 (m.imp id id) (by simpa using n) (by omega) (by omega) (by omega);refine⟨.slice none 0 0,?_,?_⟩
  ·simp only[Int.toNat_zero]at a;simp[Instr.sliceAt,Instr.slice,run_underlying u,a,sizeOf,typeInfo,y]
  ·simp;exact .nil _
 | emp t' ad cap=>
  cases f
  have o:h=0:=by simp at E;omega
  subst o;have p:l=0:=by omega
  subst p;have a:=dP (P:=P) (w:=w) true 0 cap lo c 0 0 (m.imp id id) (by simpa using n) (by omega) (by omega) (by omega);have A:ad.add 0=ad:=rfl;refine⟨.slice (some ad) 0 cap,?_,?_⟩
  ·simp only[Int.toNat_zero]at a;simp[Instr.sliceAt,Instr.slice,run_underlying u,a,sizeOf,typeInfo,y,A]
  ·simp;exact .emp _ _ _
 | list t' xs' b off cap vs hcap hc B=>
  cases f
  have a:=dP (P:=P) (w:=w) true xs.length cap lo c l h m n G H (by omega);by_cases s:cap=l.toNat
  ·refine⟨.slice (some ⟨b,off,none⟩) (h.toNat-l.toNat) (cap-l.toNat),?_,?_⟩
   ·simp[Instr.sliceAt,Instr.slice,run_underlying u,a,sizeOf,typeInfo,y,if_pos s]
   ·have A:(xs.take h.toNat).drop l.toNat=[]:=List.eq_nil_of_length_eq_zero (by omega);have I:h.toNat-l.toNat=0:=by omega
    rw[A,I];exact .list t [] b off _ (λ_ _=>undef) (by simp) (λi x j d g=>by simp at g) (λi x j d g=>by simp at g)
  ·refine⟨.slice (some ⟨b,off+l.toNat*t.size,none⟩) (h.toNat-l.toNat) (cap-l.toNat),?_,?_⟩
   ·simp[Instr.sliceAt,Instr.slice,run_underlying u,a,sizeOf,typeInfo,y,s,z,addr_add]
   ·have hget:∀(i:Nat) (x:t.den),((xs.take h.toNat).drop l.toNat)[i]?=some x->xs[l.toNat+i]?=some x:=by
     intro i x g;rw[List.getElem?_drop,List.getElem?_take]at g;split at g
     ·exact g
     ·cases g
    rw[<- q];refine .list t _ b _ _ (λi j=>vs (l.toNat+i) j) (by rw[q];omega) (λi x j d g C=>?_) (λi x j d g C=>B _ x j d (hget i x g) C);have:=hc _ x j d (hget i x g) C;rw[Nat.add_mul,Nat.add_assoc,<- Nat.add_assoc off]at this;exact this
theorem Nb{S:St}{k j:Nat}{t:Ty}{xs:List t.den}{deep:Bool}(h:aZ (S.aI k) j=.own t xs deep false):S.put (.nomut k j)=S:=by
 show S.bI k ((S.aI k).set j (aZ (S.aI k) j).Ad)=S
 have b:j<(S.aI k).length:=by
  rcases Nat.lt_or_ge j (S.aI k).length with a | a
  ·exact a
  ·simp[aZ,zE,zJ a]at h
 have hk:k<S.owns.length:=by
  rcases Nat.lt_or_ge k S.owns.length with a | a
  ·exact a
  ·simp[St.aI,zE,zJ a]at b
 have d:(S.aI k).set j (aZ (S.aI k) j).Ad=S.aI k:=by
  rw[h];show (S.aI k).set j (.own t xs deep false)=_
  rw[<- h];refine List.ext_getElem (by simp) λi f c=>?_
  rw[List.getElem_set];split
  ·rename_i e;subst e;simp[aZ,zE,b]
  ·rfl
 rw[d];cases S with
 | mk tm bx ow=>
  show St.mk tm bx (ow.set k _)=St.mk tm bx ow
  congr 1;refine List.ext_getElem (by simp) λi f c=>?_
  rw[List.getElem_set];split
  ·rename_i e;subst e;simp[St.aI,zE,c]
  ·rfl
theorem aep(h:Inv w0 G S a w){T:TypeId}{x:Operand}{lo I mx:Option Operand}(ho:o.op=.slice T x lo I mx){E:Env}(hT:E.tt.ok P=true){ws:List W}(f:(eff E o).val S=some ws)
  (V:∀a' w' G',Inv w0 G' (S.puts ws) a' w'->K a' w'):o.wp P a w K Q:=by
 unfold eff at f;rw[ho]at f;simp only at f;split at f
 ·cases f
 simp only[Rd.aH,zB]at f;obtain⟨av,h1,blo,h2,bhi,Y,f⟩:=f;have R:=aY h h1;have C:=aa3 h h2;have J:=aa3 h Y;have run:∀ {v':Value},(Instr.sliceAt T (a.eval x) (lo.map a.eval) (I.map a.eval) none).run P w=.ok v' w->(execOp a.eval o).run P w=.ok (.value v') w:=by
  intro v' hr';unfold execOp;simp[ho,hr']
 split at f
 ·rename_i s;split at f
  case isFalse=>cases f
  rename_i hs;have H:=TT.Lu hT hs;simp only[Rd.val,zB,zD]at f;obtain⟨r,B,rfl⟩:=f;obtain⟨c0,c1,c2,rfl⟩:=RY B;have C:=C 0;have J:=J (s.length:Int);generalize hl:blo.getD 0=l at *;generalize hh:bhi.getD (s.length:Int)=hv' at *;generalize hxv:a.eval x=xv at *;generalize A:D.str s=dd at R;cases R with
  | int=>cases A
  | bool=>cases A
  | nil=>cases A
  | emp=>cases A
  | list=>cases A
  | str v=>
   cases A
   rw[oJ]at c2 J;have g:=dP (P:=P) (w:=w) false v.size v.size (lo.map a.eval) (I.map a.eval) l hv' C J c0 c1 c2;refine aW (v:=.string (v.extract l.toNat hv'.toNat)) (w':=w) (run ?_) (V _ _ _ (h.dst (av:=.v (.one (.d (.str _)))) ?_))
   ·simp[Instr.sliceAt,Instr.slice,run_underlying H,g]
   ·have e:(v.data.toList.take hv'.toNat).drop l.toNat=(v.extract l.toNat hv'.toNat).data.toList:=by
     simp[List.drop_take]
    rw[e];exact Rep.str _
 ·rename_i t xs;split at f
  case isFalse=>cases f
  rename_i Z;obtain⟨e,inf,z,H,u,F,_⟩:=TT.jE hT Z;simp only[Rd.val,zB,zD]at f;obtain⟨r,B,rfl⟩:=f;obtain⟨v',h5,h6⟩:=G6 (P:=P) R H u F (C 0) (J xs.length) B;exact aW (run h5) (V _ _ _ (h.dst h6))
 ·rename_i k j;by_cases hpre:ajy E o=true
  ·rw[if_pos hpre]at f;unfold ad7 at f;split at f
   case h_3=>cases f
   case h_2 hh=>
    simp only[Rd.val]at f
    split at f
    case h_2=>cases f
    rename_i t xs deep mm hown
    split at f
    case isFalse=>cases f
    rename_i Z
    obtain⟨e,inf,z,H,u,F,_⟩:=TT.jE hT Z
    simp only[Rd.val,zB,zD]at f
    obtain⟨m,B,rfl⟩:=f
    have hmn:hh=(m:Int)/\m<=xs.length:=by
     unfold cutAt at B;split at B
     ·rename_i hc;cases B;omega
     ·cases B
    obtain⟨rfl,hml⟩:=hmn
    have p:=C 0
    simp only[Option.getD_some]at p
    have L:∃k,lo.map a.eval=some (.int k (m:Int)):=by
     rcases p with ⟨q,q2⟩ | q
     ·cases lo with
      | none=>simp[eff.bnd,Rd.val]at h2
      | some x=>simp at q
     ·exact q
    have y:I.map a.eval=none:=by
     cases I with
     | none=>rfl
     | some x=>
      simp only[eff.bnd,Rd.aH,zB,Rd.val,zD]at Y;obtain⟨_,_,_,_,Y⟩:=Y;cases Y
    have hO:=h.owns k j
    rw[hown]at hO
    rcases hO with ⟨ev,rfl⟩ | ⟨b,cap,arr,E0,vs,fps,ev,_,hcap,_⟩
    ·have hm0:m=0:=by simpa using hml
     subst hm0;have g:=dP (P:=P) (w:=w) true 0 0 (lo.map a.eval) (I.map a.eval) 0 0 (.inr L) (.inl ⟨y,rfl⟩) (by omega) (by omega) (by omega);refine aW (v:=.slice none 0 0) (run ?_) (V _ _ _ (h.dst (av:=.suf t k j 0) ⟨R.1,λw' S' xs' X=>by rw[ev]at X;exact X⟩));rw[R.2.1,ev];simp only[Int.toNat_zero]at g;simp[Instr.sliceAt,Instr.slice,run_underlying H,g,sizeOf,typeInfo,u]
    ·have g:=dP (P:=P) (w:=w) true xs.length cap (lo.map a.eval) (I.map a.eval) m xs.length (.inr L) (.inl ⟨y,rfl⟩) (by omega) (by omega) (by omega);refine aW (v:=.slice (some ⟨b,if cap=m then 0 else m*t.size,none⟩) (xs.length-m) (cap-m)) (run ?_) (V _ _ _ (h.dst (av:=.suf t k j m) ⟨R.1,λw' S' xs' X=>?_⟩))
     ·rw[R.2.1,ev];simp only[aw]at g;by_cases hcm:cap=m
      ·subst hcm;simp[Instr.sliceAt,Instr.slice,run_underlying H,g,sizeOf,typeInfo,u]
      ·simp[Instr.sliceAt,Instr.slice,run_underlying H,g,sizeOf,typeInfo,u,hcm,addr_add,F]
     ·rw[ev]at X;generalize A:D.list t xs'=dd at X;generalize hvv:Value.slice (some ⟨b,0,none⟩) xs.length cap=vv at X;cases X with
      | int=>cases A
      | bool=>cases A
      | str=>cases A
      | nil=>cases hvv
      | emp t' ad cap'=>
       cases A
       simp only[Value.slice.injEq,zD]at hvv;obtain⟨rfl,hle,rfl⟩:=hvv;have hm0:m=0:=by omega
       subst hm0;simp only[List.drop_nil,Nat.zero_mul,ite_self,Nat.sub_zero];rw[hle];exact Rep.emp _ _ _
      | list t' xs2 b' off cap' vs' hcap' hc' hrr'=>
       cases A
       simp only[Value.slice.injEq,zD,Addr.mk.injEq]at hvv;obtain⟨⟨rfl,rfl,_⟩,hle,rfl⟩:=hvv;by_cases hmx:m=xs.length
       ·have e0:xs'.drop m=[]:=List.drop_eq_nil_of_le (by omega);rw[e0,show xs.length-m=0 by omega];exact .emp _ _ _
       ·have hcm:cap≠m:=by omega
        rw[if_neg hcm];have e1:xs.length-m=(xs'.drop m).length:=by rw[List.length_drop];omega
        rw[e1];refine .list t (xs'.drop m) b (m*t.size) (cap-m) (λi j=>vs' (m+i) j) (by rw[List.length_drop];omega) (λi x j d X hd=>?_) (λi x j d X hd=>?_)
        ·rw[List.getElem?_drop]at X;have:=hc' _ _ _ _ X hd;rw[Nat.add_mul]at this;simpa [Nat.add_assoc] using this
        ·rw[List.getElem?_drop]at X;exact hrr' _ _ _ _ X hd
   rename_i hh;simp only[Rd.val]at f;split at f
   case h_2=>cases f
   rename_i t xs deep hown;split at f
   case isFalse=>cases f
   rename_i Z;obtain⟨e,inf,z,H,u,F,_⟩:=TT.jE hT Z;simp only[Rd.val,zB]at f;obtain⟨m,B,f⟩:=f;have hmn:hh=(m:Int)/\m<=xs.length:=by
    unfold cutAt at B;split at B
    ·rename_i hc;cases B;omega
    ·cases B
   obtain⟨rfl,hml⟩:=hmn;have p:=C 0;have M:=J 0;simp only[Option.getD_some,Option.getD_none]at p M;have y:∃k,I.map a.eval=some (.int k (m:Int)):=by
    rcases M with ⟨q,q2⟩ | q
    ·cases I with
     | none=>simp[eff.bnd,Rd.val]at Y
     | some x=>simp at q
    ·exact q
   have hO:=h.owns k j;rw[hown]at hO;have hO':OwT w G.S deep true t xs (G.ov k j) (fM G k j):=hO;obtain⟨v',hrun,hrel⟩:∃v',(execOp a.eval o).run P w=.ok (.value v') w/\((v'=.slice none 0 0/\m=0/\G.ov k j=.slice none 0 0)\/∃b len cap,G.ov k j=.slice (some ⟨b,0,none⟩) len cap/\m<=len/\v'=.slice (some ⟨b,0,none⟩) m cap):=by
    rcases hO with ⟨ev,rfl⟩ | ⟨b,cap,arr,E0,vs,fps,ev,_,hcap,_⟩
    ·have hm0:m=0:=by simpa using hml
     subst hm0;have g:=dP (P:=P) (w:=w) true 0 0 (lo.map a.eval) (I.map a.eval) 0 0 (p.imp (λq=>⟨q.1,rfl⟩) id) (.inr y) (by omega) (by omega) (by omega);refine⟨.slice none 0 0,run ?_,.inl ⟨rfl,rfl,ev⟩⟩;rw[R.2.1,ev];simp only[Int.toNat_zero]at g;simp[Instr.sliceAt,Instr.slice,run_underlying H,g,sizeOf,typeInfo,u]
    ·have g:=dP (P:=P) (w:=w) true xs.length cap (lo.map a.eval) (I.map a.eval) 0 m (p.imp (λq=>⟨q.1,rfl⟩) id) (.inr y) (by omega) (by omega) (by omega);refine⟨.slice (some ⟨b,0,none⟩) m cap,run ?_,.inr ⟨b,xs.length,cap,ev,hml,rfl⟩⟩;rw[R.2.1,ev];simp only[Int.toNat_zero,aw]at g;simp[Instr.sliceAt,Instr.slice,run_underlying H,g,sizeOf,typeInfo,u,addr_add]
   cases N:aeS E o with
   | none=>
    rw[N]at f;simp only[Rd.val,zD]at f;subst f;exact aW hrun (V _ _ _ (h.dst (av:=.pre k j m) ⟨R.1,hrel⟩))
   | some d=>
    rw[N]at f;simp only[Rd.aH,zB,Rd.val,zD]at f;obtain⟨ws',h10,rfl⟩:=f;obtain⟨hdO,rfl⟩:=fG h10;have hd:o.dst=some d:=by
     unfold aeS at N;split at N
     ·rename_i d' hd';split at N
      ·cases N;exact hd'
      ·cases N
     ·cases N
    have h12:=h.tJ k j .dead trivial;have hdO1:(S.bI k ((S.aI k).set j .dead)).aI d=[]:=by
     rw[bg];split
     ·rename_i hkd;rw[hkd.1,hdO];rfl
     ·exact hdO
    obtain⟨G2,h7⟩:=h12.KH d (v:=v') (fM G k j) hdO1 (λc hc=>by
     have hlt:=h.iR hc;refine⟨hlt.1,hlt.2,λi hb=>?_,λk' j' t2 xs2 d2 m2 hb=>?_⟩
     ·rw[show G.ow c=_ from hc]at hb;cases hb
     ·rw[show G.ow c=_ from hc]at hb;cases hb
      rw[mG];simp[O.dY]) (hO'.aaq hrel)
    refine aW hrun (V _ _ G2 ?_);rw[hd];exact h7
  rw[if_neg hpre]at f;simp only[Rd.val]at f;split at f
  ·rename_i t xs deep m hown;split at f
   case isFalse=>cases f
   rename_i Z;obtain⟨e,inf,z,H,u,F,_⟩:=TT.jE hT Z;simp only[Rd.val,zB,zD]at f;obtain⟨r,B,rfl⟩:=f;have hrep:=h.KA hown [(k,j)] (by simp);rw[<- R.2.1]at hrep;obtain⟨v',h5,h6⟩:=G6 (P:=P) hrep H u F (C 0) (J xs.length) B;obtain⟨G1,h7,m7⟩:=h.Tj k j;have h8:=h7.dst (o:=o) (av:=.v (.one (.d (.list t r)))) (v:=v') (h6.move λb oo hs=>⟨(m7.s b oo).2 hs,rfl⟩);cases m with
   | true=>exact aW (run h5) (V _ _ _ h8)
   | false=>
    rw[Nb hown]at h8;exact aW (run h5) (V _ _ _ h8)
  ·rename_i t xs hown;split at f
   case isFalse=>cases f
   rename_i Z;obtain⟨e,inf,z,H,u,F,_⟩:=TT.jE hT Z;simp only[Rd.val,zB,zD]at f;obtain⟨r,B,rfl⟩:=f;have hrep:=h.Uy hown;rw[<- R.2.1]at hrep;obtain⟨v',h5,h6⟩:=G6 (P:=P) hrep H u F (C 0) (J xs.length) B;exact aW (run h5) (V _ _ _ (h.dst h6))
  ·cases f
 ·rename_i t len n k1 k2;split at f
  case isFalse=>cases f
  rename_i Z;obtain⟨e,inf,z,H,u,F,_⟩:=TT.jE hT Z;obtain⟨hl1,hl2,R⟩:=R;split at f
  ·rename_i hh;simp only[Rd.val,zB,zD]at f;obtain⟨_,B,rfl⟩:=f;split at B
   case isFalse=>cases B
   rename_i hhn;subst hhn;have p:=C 0;have M:=J 0;simp only[Option.getD_some,Option.getD_none]at p M;have y:∃k,I.map a.eval=some (.int k (n:Int)):=by
    rcases M with ⟨q,q2⟩ | q
    ·cases I with
     | none=>simp[eff.bnd,Rd.val]at Y
     | some x=>simp at q
    ·exact q
   rcases R with ⟨U,hn0,o1,o2⟩ | ⟨b,cap,U,hlc,hnl,o1,o2⟩
   ·subst hn0;have g:=dP (P:=P) (w:=w) true 0 0 (lo.map a.eval) (I.map a.eval) 0 0 (p.imp (λq=>⟨q.1,rfl⟩) id) (.inr y) (by omega) (by omega) (by omega);refine aW (v:=.slice none 0 0) (run ?_) (V _ _ _ (h.dst (av:=.seg k1) ⟨hl1,o1.symm⟩));rw[U];simp only[Int.toNat_zero]at g;simp[Instr.sliceAt,Instr.slice,run_underlying H,g,sizeOf,typeInfo,u]
   ·have g:=dP (P:=P) (w:=w) true len cap (lo.map a.eval) (I.map a.eval) 0 n (p.imp (λq=>⟨q.1,rfl⟩) id) (.inr y) (by omega) (by omega) (by omega);refine aW (v:=.slice (some ⟨b,0,none⟩) n cap) (run ?_) (V _ _ _ (h.dst (av:=.seg k1) ⟨hl1,o1.symm⟩));rw[U];simp only[Int.toNat_zero,aw]at g;simp[Instr.sliceAt,Instr.slice,run_underlying H,g,sizeOf,typeInfo,u,addr_add]
  ·rename_i l;simp only[Rd.val,zB,zD]at f;obtain⟨_,B,rfl⟩:=f;split at B
   case isFalse=>cases B
   rename_i hln;subst hln;have p:=C 0;have L:∃k,lo.map a.eval=some (.int k (n:Int)):=by
    rcases p with ⟨q,q2⟩ | q
    ·cases lo with
     | none=>simp[eff.bnd,Rd.val]at h2
     | some x=>simp at q
    ·exact q
   have y:I.map a.eval=none:=by
    cases I with
    | none=>rfl
    | some x=>
     simp only[eff.bnd,Rd.aH,zB,Rd.val,zD]at Y;obtain⟨_,_,_,_,Y⟩:=Y;cases Y
   rcases R with ⟨U,hn0,o1,o2⟩ | ⟨b,cap,U,hlc,hnl,o1,o2⟩
   ·subst hn0;have g:=dP (P:=P) (w:=w) true 0 0 (lo.map a.eval) (I.map a.eval) 0 0 (.inr L) (.inl ⟨y,rfl⟩) (by omega) (by omega) (by omega);refine aW (v:=.slice none 0 0) (run ?_) (V _ _ _ (h.dst (av:=.seg k2) ⟨hl2,o2.symm⟩));rw[U];simp only[Int.toNat_zero]at g;simp[Instr.sliceAt,Instr.slice,run_underlying H,g,sizeOf,typeInfo,u]
   ·have g:=dP (P:=P) (w:=w) true len cap (lo.map a.eval) (I.map a.eval) n len (.inr L) (.inl ⟨y,rfl⟩) (by omega) (by omega) (by omega);refine aW (v:=.slice (some ⟨b,if cap=n then 0 else n*t.size,none⟩) (len-n) (cap-n)) (run ?_) (V _ _ _ (h.dst (av:=.seg k2) ⟨hl2,o2.symm⟩));rw[U];simp only[aw]at g;by_cases hcn:cap=n
    ·subst hcn;simp[Instr.sliceAt,Instr.slice,run_underlying H,g,sizeOf,typeInfo,u,addr_add]
    ·simp[Instr.sliceAt,Instr.slice,run_underlying H,g,sizeOf,typeInfo,u,addr_add,hcn,F]
  ·cases f
 ·cases f
end ops
def callable(P:Program)(f:FuncId):Bool:=match P.funcs[f]? with
 | some fn => !(fn.name == "runtime.NumGoroutine") && fn.body.isSome
 | none=>false
abbrev Off(F:Nat->Prop)(w w':World):Prop:=jL F w.heap.size w w'
def Yo(w:World)(s:Sh)(x:s.t.den)(u:Value)(fps:Nat->Nat->Prop):Prop:=
 ShR (λi d v=>Ow w (λ_ _=>False) true d v (fps i)) 0 s x u
def VL(P:Program)(m:Msp):Prop:=∀(w:World) (u:Value) (x:m.sh.t.den) (n:Int) (r:m.sh.t.den×Int) (fps:Nat->Nat->Prop),m.fn x n=some r->amb w ->
 Yo w m.sh x u fps->(∀i c,fps i c->qi<=c/\c<w.heap.size)->(∀i i' c,fps i c->fps i' c->i=i') ->
 Calls P m.fid #[u,.int .i64 n] w λe w'=>e=.returned (.int .i64 r.2)/\Off (λc=>∃i,fps i c) w w'/\Yo w' m.sh r.1 u fps
def GH(P:Program)(s:Srt):Prop:=∀(w:World) (S:Nat->Nat->Prop) (deep:Bool) (bb:Nat) (E:TypeId) (u:Value) (xs ys:List s.t.den) (fp:Nat->Prop),s.fn xs=some ys->amb w ->
 OwT w S deep true s.t xs u fp->(∀c,fp c->c<w.heap.size)->(∀b o,S b o->b<w.heap.size)->w.heap[bb]?=some (.cells #[u] E (0,0))->¬fp bb ->
 Calls P s.fid #[.iface s.T u,.func (.func s.g) #[] #[.pointer (some ⟨bb,0,none⟩)]] w λe w'=>e=.returned (.tuple #[])/\Off (λc=>fp c/\∀o,¬S c o) w w'/\OwT w' S deep true s.t ys u fp
theorem aV.get{R:Nat->D->Value->Prop}:∀ {n:Nat} {ds:List D} {vs:List Value},aV R n ds vs->ds.length=vs.length/\∀(i:Nat) (d:D) (v:Value),ds[i]?=some d->vs[i]?=some v->R (n+i) d v
 | n,[],[],_=>⟨rfl,λi d v h=>by simp at h⟩
 | n,d::ds,v::vs,h=>by
  obtain⟨c,e⟩:=aV.get h.2;refine⟨by simp[c],λi d' v' a b=>?_⟩;cases i with
  | zero=>simp at a b;subst a;subst b;exact h.1
  | succ i=>simp at a b;have:=e i d' v' a b;rwa [show n+1+i=n+(i+1) by omega]at this
theorem WH:∀(ws:List W),(∀x,x∈ws->∃k j y,x=.upd k j y)->∀(S:St),(S.puts ws).tmps=S.tmps/\(S.puts ws).boxes=S.boxes/\(S.puts ws).owns.length=S.owns.length /\
  (∀k,((S.puts ws).aI k).length=(S.aI k).length) /\
  ∀k j,(k<S.owns.length->j<(S.aI k).length->(∃y,W.upd k j y∈ws)->∃y,W.upd k j y∈ws/\aZ ((S.puts ws).aI k) j=y)/\((∀y,W.upd k j y∉ws)->aZ ((S.puts ws).aI k) j=aZ (S.aI k) j)
 | [],_,S=>⟨rfl,rfl,rfl,λ_=>rfl,λk j=>⟨λ_ _ ⟨y,a⟩=>(by cases a),λ_=>rfl⟩⟩
 | x::r,i,S=>by
  obtain⟨k0,l,d,rfl⟩:=i x aq;let b:St:=S.bI k0 ((S.aI k0).set l d);obtain⟨p,q,s,t,f⟩:=WH r (λz c=>i z (ao _ c)) b;have m:b.owns.length=S.owns.length:=by simp[b,St.bI]
  have n:∀k,(b.aI k).length=(S.aI k).length:=by
   intro k;simp only[b];rw[bg];split
   ·rename_i hk;rw[List.length_set,hk.1]
   ·rfl
  refine⟨p,q,s.trans m,λk=>(t k).trans (n k),λk j=>⟨λhk e g=>?_,λo=>?_⟩⟩
  ·by_cases h:∃y:O,W.upd k j y∈r
   ·obtain⟨y,a,u⟩:=(f k j).1 (by rw[m];exact hk) (by rw[n];exact e) h;exact⟨y,ao _ a,u⟩
   ·obtain⟨y,a⟩:=g;rcases ba.1 a with a | a
    ·injection a with v w A;subst v;subst w;subst A;refine⟨_,aq,?_⟩;show aZ ((b.puts r).aI k) j=_
     rw[(f k j).2 λz c=>h ⟨z,c⟩];simp only[b];rw[bg,if_pos ⟨rfl,hk⟩,gu,if_pos ⟨rfl,e⟩]
    ·exact absurd ⟨y,a⟩ h
  ·show aZ ((b.puts r).aI k) j=_
   rw[(f k j).2 λz c=>o z (ao _ c)];simp only[b];rw[bg];split
   ·rename_i hk;rw[gu];split
    ·rename_i e;exact absurd (show W.upd k j d∈W.upd k0 l d::r by rw[hk.1,e.1];exact aq) (o d)
    ·rw[hk.1]
   ·rfl
theorem Lp{S:St}:∀ {ds:List D} {cs:List C} {ws:List W},(yV ds cs).val S=some ws->ds.length=cs.length /\
  (∀x,x∈ws->∃(k j i:Nat) (t:Ty) (xs:List t.den),x=.upd k j (.tree t xs)/\cs[i]?=some (C.own k j)/\ds[i]?=some (D.list t xs)) /\
  (∀(i k j:Nat),cs[i]?=some (C.own k j)->(∃t xs,aZ (S.aI k) j=.tree t xs)/\∃(t:Ty) (xs:List t.den),W.upd k j (.tree t xs)∈ws) /\
  (∀(i:Nat) (x:D),cs[i]?=some (C.d x)->mr x=none)/\∀i:Nat,cs[i]?≠some C.undef/\∀b o,cs[i]?≠some (C.ptr b o)
 | [],[],ws,h=>by
  simp only[yV,Rd.val,zD]at h;subst h;exact⟨rfl,λx f=>(by cases f),λi k j h=>(by simp at h),λi x h=>(by simp at h),λi=>⟨by simp,by simp⟩⟩
 | d::ds,[],ws,h=>by simp[yV,Rd.val]at h
 | [],c::cs,ws,h=>by simp[yV,Rd.val]at h
 | d::ds,c::cs,ws,h=>by
  simp only[yV,Rd.aH,zB]at h;obtain⟨ws',u,e⟩:=h;obtain⟨g,v,l,m,n⟩:=Lp u;have up:∀x,x∈ws'->∃(k j i:Nat) (t:Ty) (xs:List t.den),x=.upd k j (.tree t xs)/\(c::cs)[i]?=some (C.own k j)/\(d::ds)[i]?=some (D.list t xs):=by
   intro x f;obtain⟨k,j,i,t,xs,p,q,w⟩:=v x f;exact⟨k,j,i+1,t,xs,p,by simpa using q,by simpa using w⟩
  split at e
  ·rename_i k j;simp only[Rd.val]at e;split at e
   ·rename_i y r t xs z;simp only[Rd.val,zD]at e;subst e;refine⟨by simp[g],λx f=>?_,λi k' j' a=>?_,λi x a=>?_,λi=>?_⟩
    ·rcases ba.1 f with rfl | f
     ·exact⟨k,j,0,t,xs,rfl,rfl,rfl⟩
     ·exact up x f
    ·cases i with
     | zero=>
      simp at a;obtain⟨rfl,rfl⟩:=a;exact⟨⟨y,r,z⟩,t,xs,aq⟩
     | succ i=>
      obtain⟨p,t',xs',q⟩:=l i k' j' (by simpa using a);exact⟨p,t',xs',ao _ q⟩
    ·cases i with
     | zero=>simp at a
     | succ i=>exact m i x (by simpa using a)
    ·cases i with
     | zero=>exact⟨by simp,by simp⟩
     | succ i=>simpa using n i
   ·cases e
  ·simp only[Rd.val,zD]at e;subst e;refine⟨by simp[g],up,λi k' j' a=>?_,λi x a=>?_,λi=>?_⟩
   ·cases i with
    | zero=>simp at a
    | succ i=>exact l i k' j' (by simpa using a)
   ·cases i with
    | zero=>simp at a
    | succ i=>exact m i x (by simpa using a)
   ·cases i with
    | zero=>exact⟨by simp,by simp⟩
    | succ i=>simpa using n i
  ·cases e
  ·rename_i A s;simp only[Rd.val,zD]at e;subst e;refine⟨by simp[g],up,λi k' j' a=>?_,λi x a=>?_,λi=>?_⟩
   ·cases i with
    | zero=>simp at a
    | succ i=>exact l i k' j' (by simpa using a)
   ·cases i with
    | zero=>
     simp at a;subst a;cases A with
     | list t xs=>exact absurd rfl (s t xs)
     | _=>rfl
    | succ i=>exact m i x (by simpa using a)
   ·cases i with
    | zero=>exact⟨by simp,by simp⟩
    | succ i=>simpa using n i
  ·cases e
section ops
variable {P:Program} {w0:Bs} {G:Gh} {S:St} {a:Act} {w:World} {o:Oper} {K:Act->World->Prop} {Q:Exit->Act->World->Prop}
theorem jf{c:Call}{f:FuncId}(ho:o.op=.call c)(hc:c.callee=.value (.func f))(hf:callable P f=true) :
  (execOp a.eval o).run P w=.ok (.enter f (c.args.map a.eval)) w:=by
 unfold callable at hf;split at hf
 ·rename_i fn hfn;simp only[zI,Bool.not_eq_true']at hf;have hn : ¬ fn.name = "runtime.NumGoroutine" := by simpa using hf.1
  have hb:¬fn.body=none:=by
   have:=hf.2;cases hbb:fn.body<;>simp_all
  unfold execOp;simp[ho,resolve,hc,Act.eval,Deferred.ofValue,invoke,callFunc,hfn,hn,hb]
 ·cases hf
def tfp(G:Gh)(S:St)(w:World)(k j:Nat)(b:Nat):Prop:=
 ∃t xs fp,aZ (S.aI k) j=.tree t xs/\(∀b,fp b->fM G k j b)/\Ow w (λ_ _=>False) true (.list t xs) (G.ov k j) fp/\(∀b o,G.S b o->¬fp b)/\fp b
theorem ajE(h:Inv w0 G S a w){k j:Nat}{t:Ty}{xs:List t.den}(c:aZ (S.aI k) j=.tree t xs):Ow w (λ_ _=>False) true (.list t xs) (G.ov k j) (tfp G S w k j):=by
 have:=h.owns k j;rw[c]at this;obtain⟨fp,f,d,g⟩:=this;exact d.sub (λb i=>⟨t,xs,fp,c,f,d,g,i⟩) λe=>e
theorem O6(h:Inv w0 G S a w){all:List C}(hall:∀(i:Nat) (k j:Nat),all[i]?=some (.own k j)->∃t xs,aZ (S.aI k) j=.tree t xs)(l:∀(i:Nat) (x:D),all[i]?=some (.d x)->mr x=none) :
  ∀ {tys:List (Option Ty)} {cs:List C} {ds:List D} {vs:List Value} {n:Nat} {pre:List C},(cDs tys cs).val S=some ds ->
  tys.length=cs.length->cu G w cs vs->all=pre++cs->pre.length=n->aV (λi d v=>Ow w (λ_ _=>False) true d v (λb=>∃k j,all[i]?=some (.own k j)/\tfp G S w k j b)) n ds vs
 | [],[],ds,[],n,pre,m,_,_,_,_=>by
  simp only[cDs,Rd.val,zD]at m;subst m;trivial
 | [],[],ds,_::_,n,pre,_,_,hc,_,_=>hc.elim
 | [],_::_,ds,vs,n,pre,_,o,_,_,_=>by simp at o
 | _::_,[],ds,vs,n,pre,_,o,_,_,_=>by simp at o
 | ty::tys,c::cs,ds,[],n,pre,_,_,hc,_,_=>hc.elim
 | ty::tys,c::cs,ds,v::vs,n,pre,m,o,hc,r,hp=>by
  simp only[cDs,Rd.aH,zB,Rd.val,zD]at m;obtain⟨d,f,ds',y,rfl⟩:=m;have q:all[n]?=some c:=by
   rw[r,List.getElem?_append_right (by omega),hp];simp
  refine⟨?_,O6 h hall l (pre:=pre++[c]) y (by simpa using o) hc.2 (by rw[r];simp) (by simp[hp])⟩;have g:=hc.1;cases c with
  | undef=>cases f
  | ptr=>cases f
  | nil=>
   simp only[cD]at f;split at f
   ·simp only[Rd.val,zD]at f;subst f;rw[show v=_ from g];exact .nil _ _
   ·cases f
  | d x=>
   simp only[cD,Rd.val,zD]at f;subst f;have:=l n x q;have p:Rep w G.S x v:=g;cases p with
   | int k n=>exact .int k n _
   | bool b=>exact .bool b _
   | str s=>exact .str s _
   | nil=>cases this
   | emp=>cases this
   | list=>cases this
  | own k j=>
   obtain⟨t,xs,u⟩:=hall n k j q;simp only[cD,Rd.val,u,zD]at f;subst f;rw[g.2.1];exact (ajE h u).sub (λb z=>⟨k,j,q,z⟩) λe=>e
theorem agK(h:Inv w0 G S a w){c:Call}{f:FuncId}(N:o.op=.call c)(hc:c.callee=.value (.func f)){m:Msp}(hf:m.fid=f)(hcall:callable P f=true)(hA:lT w0)(hM:VL P m){x y:Operand}(hxy:c.args.toList=[x,y]){ws:List W}
  (B:((dM x).bind λax=>(avV ax).bind λv=>(dM y).bind λay=>(avD ay).bind λ
        | .int .i64 n=>(vT m.sh v).bind λz=>.opt (m.fn z n) λr=>
         if nodupB (aP v.cells)then (yV (m.sh.t.cells r.1) v.cells).bind λws=>.ret (ws++fF o (.v (.one (.d (.int .i64 r.2)))))
         else .fail
        | _=>.fail).val S=some ws)
  (hK:∀a' w' G',Inv w0 G' (S.puts ws) a' w'->K a' w'):o.wp P a w K Q:=by
 simp only[Rd.aH,zB]at B;obtain⟨ax,h1,v,h2,ay,h3,d,h4,B⟩:=B;have Y:=oZ h4 (aY h h3);split at B
 case h_2=>cases B
 rename_i n;simp only[Rd.aH,zB]at B;obtain⟨z,L,B⟩:=B;simp only[Rd.val,zB]at B;obtain⟨r,h6,B⟩:=B;split at B
 case isFalse=>cases B
 rename_i Z;simp only[Rd.aH,zB,Rd.val,zD]at B;obtain⟨ws',h8,rfl⟩:=B;have hxr:=oW h2 (aY h h1);obtain⟨t1,t2,t3,t4,t5⟩:=Lp h8;have hyv:a.eval y=.int .i64 n:=by
  generalize a.eval y=yv at Y;cases Y;rfl
 let fps:Nat->Nat->Prop:=λi b=>∃k j,v.cells[i]?=some (.own k j)/\tfp G S w k j b
 have hT:Yo w m.sh z (a.eval x) fps:=by
  simp only[vT]at L;split at L
  ·rename_i V;simp only[Rd.aH,zB,Rd.val]at L;obtain⟨ds,h9,z',h10,h11⟩:=L;simp only[zD]at h11;subst h11;obtain⟨vs,C,O,T⟩:=hxr.cells;have:=O6 h (all:=v.cells) (λi k j D=>(t3 i k j D).1) t4 (pre:=[]) h9 (by rw[kE];exact V.2.symm) C rfl rfl;rw[<- Ty.dU h10]at this;unfold Yo ShR;cases l:m.sh.agg with
   | true=>exact⟨vs,O (by rw[V.1,l]),this⟩
   | false=>rw[T (by rw[V.1,l])]at this;exact this
  ·cases L
 have q:∀i b,fps i b->∃k j,v.cells[i]?=some (.own k j)/\G.ow b=some (.own k j):=by
  rintro i b ⟨k,j,D,t,xs,fp,_,hfp,_,_,p⟩;exact⟨k,j,D,hfp b p⟩
 have hlt:∀i c,fps i c->c<w.heap.size:=λi b p=>by
  obtain⟨k,j,_,N⟩:=q i b p;exact (h.olt _ _ N).2
 have hge:∀i c,fps i c->qi<=c:=λi b p=>by
  obtain⟨k,j,_,N⟩:=q i b p;exact hA.nw (h.iR N).1
 have hdis:∀i i' c,fps i c->fps i' c->i=i':=λi i' b p hb'=>by
  obtain⟨k,j,D,N⟩:=q i b p;obtain⟨k',j',A,g⟩:=q i' b hb';rw[N]at g;cases g
  exact gJ Z D A
 have hSf:∀b oo,G.S b oo->¬ ∃i,fps i b:=by
  rintro b oo l ⟨i,k,j,_,t,xs,fp,_,_,_,hno,p⟩;exact hno b oo l p
 have hargs:c.args.map a.eval = #[a.eval x,.int .i64 n]:=by
  rw[nX hxy];simp[hyv]
 unfold Oper.wp;rw[jf N hc hcall,hargs];subst hf;refine Calls.mono (hM w (a.eval x) z n r fps h6 (hA.keep w h.below) hT (λi c hc=>⟨hge i c hc,hlt i c hc⟩) hdis) λe w' he=>?_
 obtain⟨rfl,hoff,F⟩:=he;have hcell:∀b oo,G.S b oo->w'.cell? ⟨b,oo,none⟩=w.cell? ⟨b,oo,none⟩:=λb oo l=>
  World.cell?_of_block (w:=w) (hoff.block b (h.sok b oo l).1 (hSf b oo l))
 have hm:Mv G G w w':=⟨λb oo l=>⟨l,hcell b oo l⟩,λk hk=>⟨hk,λ_=>rfl⟩,λi D=>⟨D,rfl⟩⟩;obtain⟨p1,p2,p3,p4,p5⟩:=WH ws' (λx H=>by obtain⟨k,j,i,t,xs,e,_⟩:=t2 x H;exact⟨k,j,_,e⟩) S;have hgT:∀i,(S.puts ws').iP i=S.iP i:=λi=>by simp only[St.iP,p1]
 have hgB:∀i,(S.puts ws').fJ i=S.fJ i:=λi=>by simp only[St.fJ,p2]
 have h9:Inv w0 G (S.puts ws') a w':=by
  have hblk:∀k,k<w0.w.heap.size->¬w0.R k->w'.heap[k]?=w.heap[k]?:=λk hk hn=>hoff.block k (by have:=h.below.size;omega) (by
   rintro⟨i,D⟩;obtain⟨k',j',_,g⟩:=q i k D;exact hn (Bs.nwF (h.iR g).1 hk))
  refine⟨h.below.trans ⟨hoff.os,hoff.tape,hoff.output,hoff.size,λk hk hn=>hblk k hk λh=>hn h.1⟩,h.nodef,by rw[p1];exact h.tsz,by rw[p1,p2];exact h.bsz,by rw[p1,p3];exact h.osz,λi u hu=>?_,?_,?_,?_,?_,?_,?_,h.sfr,h.Px hm,λb y H=>⟨(h.fx b y H).1,λhq M=>((h.fx b y H).2 hq M).same (hblk b M λh=>h.2 y H)⟩⟩
  ·rw[hgT];exact (h.tmps i u hu).move hm
  ·intro b x H;exact⟨(h.olt b x H).1,aD (h.olt b x H).2 hoff.size⟩
  ·intro b oo l;exact⟨aD (h.sok b oo l).1 hoff.size,(h.sok b oo l).2⟩
  ·intro i cs C;rw[hgB]at C;obtain⟨g,vs,E,hh,hc'⟩:=h.box i cs C;refine⟨g,vs,E,(hoff.block _ (h.olt _ _ g).2 ?_).trans hh,hc'.move hm⟩;rintro⟨i',A⟩;obtain⟨k',j',_,ho2⟩:=q i' _ A;rw[g]at ho2;cases ho2
  ·intro k j;by_cases U:∃y,W.upd k j y∈ws'
   ·obtain⟨y0,hy0⟩:=U;obtain⟨k0,j0,i0,t0,xs0,e0,hi0,_⟩:=t2 _ hy0;cases e0
    obtain⟨⟨tt0,xx0,htree⟩,_⟩:=t3 i0 k j hi0;have hjl:j<(S.aI k).length:=by
     rcases Nat.lt_or_ge j (S.aI k).length with M | M
     ·exact M
     ·have:aZ (S.aI k) j=.dead:=by
       simp only[aZ,zE];rw[zJ (by omega)];rfl
      rw[this]at htree;cases htree
    have hkl:k<S.owns.length:=by
     rcases Nat.lt_or_ge k S.owns.length with M | M
     ·exact M
     ·have hg0:S.aI k=[]:=by
       simp only[St.aI,zE];rw[zJ (by omega)];rfl
      rw[hg0]at htree;cases htree
    obtain⟨y,hy,he⟩:=(p5 k j).1 hkl hjl ⟨_,hy0⟩;obtain⟨k1,j1,I,t',xs',X,J,hd1⟩:=t2 _ hy;cases X
    rw[he];have hii:I=i0:=gJ Z J hi0;subst hii;refine⟨fps I,λb p=>?_,?_,λb oo l p=>hSf b oo l ⟨I,p⟩⟩
    ·obtain⟨k',j',A,g⟩:=q I b p;rw[J]at A;cases A
     exact g
    ·obtain⟨vs,C,O,T⟩:=hxr.cells;obtain⟨hl2,hg2⟩:=C.get;have hi1l:I<vs.length:=by
      have:=(zC.1 J).1;omega
     have hcr:=hg2 I _ vs[I] J (by simp[hi1l]);have hval:vs[I]=G.ov k j:=hcr.2.1;have hcells:aV (λi d v=>Ow w' (λ_ _=>False) true d v (fps i)) 0 (m.sh.t.cells r.1) vs:=by
      simp only[vT]at L;split at L
      ·rename_i V;unfold Yo ShR at F;cases l:m.sh.agg with
       | true=>
        rw[l]at F;obtain⟨vs',X,e2⟩:=F;rw[O (by rw[V.1,l])]at X;have:vs'=vs:=by
         injection X with X;have:=congrArg Array.toList X;simpa using this.symm
        rw[<- this];exact e2
       | false=>
        rw[l]at F;rw[T (by rw[V.1,l])];exact F
      ·cases L
     obtain⟨hl3,hg3⟩:=hcells.get;have:=hg3 I _ vs[I] hd1 (by simp[hi1l]);rw[Nat.zero_add,hval]at this;exact this
   ·rw[(p5 k j).2 λy hy=>U ⟨y,hy⟩];have hnk:∀i b,fps i b->G.ow b≠some (.own k j):=by
     intro i b p hob;obtain⟨k',j',A,g⟩:=q i b p;rw[hob]at g;cases g
     obtain⟨_,t',xs',hu⟩:=t3 i k j A;exact U ⟨_,hu⟩
    have keep:∀b,fM G k j b->w'.heap[b]?=w.heap[b]?:=λb p=>hoff.block b (h.olt _ _ p).2 λ⟨i,D⟩=>hnk i b D p
    exact (h.owns k j).same rfl hm.s (λt xs deep m H=>⟨λb p=>⟨p,keep b p⟩,λ_ _ _ _ _ oo l=>.inl l⟩) λt xs H b p=>⟨p,keep b p,λoo l=>l⟩
  ·intro k hk e;have:((S.puts ws').aI k).length=0:=by rw[e];rfl
   rw[p4]at this;exact h.lk k hk (List.eq_nil_of_length_eq_zero this)
  ·intro i D;rw[hgB];exact h.lb i D
 refine hK _ _ G ?_;rw[eP];exact h9.dst (av:=.v (.one (.d (.int .i64 r.2)))) (Rep.int _ _)
theorem WR(h:Inv w0 G S a w){k j:Nat}{t:Ty}{xs ys:List t.den}{deep:Bool}(r:aZ (S.aI k) j=.own t xs deep true){w':World}
  (hoff:Off (λc=>fM G k j c/\∀o,¬G.S c o) w w') (I:OwT w' G.S deep true t ys (G.ov k j) (fM G k j)):Inv w0 G (S.puts [.upd k j (.own t ys deep true)]) a w':=by
 have hcell:∀b oo,G.S b oo->w'.cell? ⟨b,oo,none⟩=w.cell? ⟨b,oo,none⟩:=λb oo f=>
  World.cell?_of_block (w:=w) (hoff.block b (h.sok b oo f).1 λhf=>hf.2 oo f)
 have v:Mv G G w w':=⟨λb oo f=>⟨f,hcell b oo f⟩,λk hk=>⟨hk,λ_=>rfl⟩,λi z=>⟨z,rfl⟩⟩;have n:j<(S.aI k).length:=by
  rcases Nat.lt_or_ge j (S.aI k).length with g | g
  ·exact g
  ·have:aZ (S.aI k) j=.dead:=by
    simp only[aZ,zE];rw[zJ (by omega)];rfl
   rw[this]at r;cases r
 have A:k<S.owns.length:=by
  rcases Nat.lt_or_ge k S.owns.length with g | g
  ·exact g
  ·have B:S.aI k=[]:=by
    simp only[St.aI,zE];rw[zJ (by omega)];rfl
   rw[B]at r;cases r
 have C:∀k',(S.bI k ((S.aI k).set j (.own t ys deep true))).aI k'=if k'=k then (S.aI k).set j (.own t ys deep true)else S.aI k':=λk'=>by
  simp only[St.bI,St.aI,zE,List.getElem?_set];by_cases e:k=k'
  ·subst e;simp[A]
  ·rw[if_neg e,if_neg (Ne.symm e)]
 show Inv w0 G (S.bI k ((S.aI k).set j (.own t ys deep true))) a w'
 have hblk:∀b,b<w0.w.heap.size->¬w0.R b->w'.heap[b]?=w.heap[b]?:=λb d D=>hoff.block b (by have:=h.below.size;omega) (by
  rintro⟨hf,_⟩;exact D (Bs.nwF (h.iR hf).1 d))
 refine⟨h.below.trans ⟨hoff.os,hoff.tape,hoff.output,hoff.size,λb d D=>hblk b d λh=>D h.1⟩,h.nodef,h.tsz,h.bsz,by simp[St.bI,h.osz],λi u J=>?_,?_,?_,?_,?_,?_,?_,h.sfr,h.Px v,λb y l=>⟨(h.fx b y l).1,λK g=>((h.fx b y l).2 K g).same (hblk b g λh=>h.2 y l)⟩⟩
 ·exact (h.tmps i u J).move v
 ·intro b x l;exact⟨(h.olt b x l).1,aD (h.olt b x l).2 hoff.size⟩
 ·intro b oo f;exact⟨aD (h.sok b oo f).1 hoff.size,(h.sok b oo f).2⟩
 ·intro i cs F;obtain⟨p,vs,E,hh,H⟩:=h.box i cs F;refine⟨p,vs,E,(hoff.block _ (h.olt _ _ p).2 ?_).trans hh,H.move v⟩;rintro⟨hf,_⟩;have hf:G.ow (G.bk i)=some (.own k j):=hf;rw[p]at hf;cases hf
 ·intro k' j';by_cases q:k'=k/\j'=j
  ·obtain⟨rfl,rfl⟩:=q;rw[C,if_pos rfl];have:aZ ((S.aI k').set j' (.own t ys deep true)) j'=.own t ys deep true:=by simp[aZ,zE,n]
   rw[this];exact I
  ·have e:aZ ((S.bI k ((S.aI k).set j (.own t ys deep true))).aI k') j'=aZ (S.aI k') j':=by
    rw[C];by_cases ek:k'=k
    ·subst ek;rw[if_pos rfl];simp only[aZ,zE,List.getElem?_set];rw[if_neg λe=>q ⟨rfl,e.symm⟩]
    ·rw[if_neg ek]
   rw[e];have keep:∀b,fM G k' j' b->w'.heap[b]?=w.heap[b]?:=λb d=>hoff.block b (h.olt _ _ d).2 λ⟨hf,_⟩=>by
    have d:G.ow b=some (.own k' j'):=d;have hf:G.ow b=some (.own k j):=hf;rw[d]at hf;cases hf
    exact q ⟨rfl,rfl⟩
   exact (h.owns k' j').same rfl v.s (λt xs deep m l=>⟨λb d=>⟨d,keep b d⟩,λ_ _ _ _ _ oo f=>.inl f⟩) λt xs l b d=>⟨d,keep b d,λoo f=>f⟩
 ·intro k' hk e;have:S.aI k'=[]:=by
   rw[C]at e;by_cases ek:k'=k
   ·subst ek;rw[if_pos rfl]at e;have:=congrArg List.length e;rw[List.length_set]at this;simp at this;rw[this]at n;simp at n
   ·rw[if_neg ek]at e;exact e
  exact h.lk k' hk this
 ·intro i z;exact h.lb i z
end ops
def pack:List Value->Value
 | [v]=>v
 | vs=>.tuple vs.toArray
def Yq(B:Nat)(w':World)(S:Nat->Nat->Prop)(ex:Bool)(rs:List Sh)(y:Tup rs)(v:Value):Prop:=
 ∃us:List Value,v=pack us/\match ex with
  | true=>∃fps:Nat->Nat->Prop,jG (λi d u=>Ow w' (λ_ _=>False) true d u (fps i)) 0 rs y us/\(∀i c,fps i c->B<=c/\c<w'.heap.size)/\∀i i' c,fps i c->fps i' c->i=i'
  | false=>∃S':Nat->Nat->Prop,jG (λ_ d u=>Rep w' S' d u) 0 rs y us/\∀b o,S' b o->(S b o\/B<=b)/\b<w'.heap.size
def Sound(P:Program)(s:Fsp):Prop:=∀(w:World) (S:Nat->Nat->Prop) (args:List Value) (x:Tup s.ps) (y:Tup s.rs),s.fn x=some y->amb w ->
 jG (λ_ d u=>Rep w S d u) 0 s.ps x args->(∀b o,S b o->b<w.heap.size) ->
 Calls P s.fid args.toArray w λe w'=>∃v,e=.returned v/\Below w.heap.size w w'/\Yq w.heap.size w' S s.ex s.rs y v
def J5(w:World)(S:Nat->Nat->Prop)(d:D)(u:Value)(fp:Nat->Prop):Prop:=match d with
 | .list t xs=>OwT w S false true t xs u fp
 | d=>Rep w S d u
def SH(B:Nat)(w':World)(S':Nat->Nat->Prop)(sh:Bool)(rs:List Sh)(y:Tup rs)(us:List Value):Prop:=match sh with
 | true=>∃fps:Nat->Nat->Prop,jG (λi d u=>J5 w' S' d u (fps i)) 0 rs y us/\(∀i c,fps i c->B<=c/\c<w'.heap.size)/\∀i i' c,fps i c->fps i' c->i=i'
 | false=>jG (λ_ d u=>Rep w' S' d u) 0 rs y us
def Pn(P:Program)(s:Fsp):Prop:=∀(w:World) (S:Nat->Nat->Prop) (args:List Value) (x:Tup s.ps) (y:Tup s.rs),s.fn x=some y->amb w ->
 jG (λ_ d u=>Rep w S d u) 0 s.ps x args->(∀b o,S b o->b<w.heap.size) ->
 Calls P s.fid args.toArray w λe w'=>∃v,e=.returned v/\Below w.heap.size w w'/\∃(S':Nat->Nat->Prop) (us:List Value),v=pack us/\SH w.heap.size w' S' true s.rs y us /\
  ∀b o,S' b o->(S b o\/w.heap.size<=b)/\b<w'.heap.size
def ajD(B:Nat)(w':World)(rs:List Sh)(y:Tup rs)(us:List Value):Prop:=
 ∃fps:Nat->Nat->Prop,jG (λi d u=>Ow w' (λ_ _=>False) true d u (fps i)) 0 rs y us/\(∀i c,fps i c->B<=c/\c<w'.heap.size)/\∀i i' c,fps i c->fps i' c->i=i'
def ahL(B:Nat)(w':World)(S:Nat->Nat->Prop)(bb:Nat)(ex sh:Bool):(rs:List Sh)->Tup rs->Value->Prop
 | [],_,_=>False
 | c::rs,y,v=>∃(S':Nat->Nat->Prop) (vs':List Value) (Et:TypeId) (us:List Value),v=pack us/\w'.heap[bb]?=some (.cells vs'.toArray Et (0,0)) /\
   aV (λ_ d u=>Rep w' S' d u) 0 (c.t.cells (jV y)) vs'/\(match ex with
    | true=>ajD B w' rs (yG y) us
    | false=>SH B w' S' sh rs (yG y) us)/\∀b o,S' b o->(S b o\/(ex=false/\B<=b))/\b<w'.heap.size
def jv(P:Program)(s:Fsp):Prop:=∀(w:World) (S:Nat->Nat->Prop) (bb:Nat) (vs:List Value) (Et:TypeId) (args:List Value) (x:Tup s.ps) (y:Tup s.rs),s.fn x=some y->amb w->qi<=bb ->
 w.heap[bb]?=some (.cells vs.toArray Et (0,0))->jG (λ_ d u=>Rep w S d u) 0 s.ps x (.agg vs.toArray::args)->(∀b o,S b o->b<w.heap.size/\b≠bb) ->
 Calls P s.fid (Value.pointer (some ⟨bb,0,none⟩)::args).toArray w λe w'=>∃v,e=.returned v/\jL (λc=>c=bb) w.heap.size w w'/\jr w w' bb/\ahL w.heap.size w' S bb s.ex s.sh s.rs y v
def Pq(P:Program)(s:Fsp):Prop:=∀(w:World) (S:Nat->Nat->Prop) (args:List Value) (x:Tup s.ps) (y:Tup s.rs),s.fn x=some y->amb w ->
 jG (λ_ d u=>Rep w S d u) 0 s.ps x args->(∀b o,S b o->b<w.heap.size) ->
 Calls P s.fid args.toArray w λe w'=>∃bb,e=.returned (.pointer (some ⟨bb,0,none⟩))/\Below w.heap.size w w'/\w.heap.size<=bb /\
  ∃(vs':List Value) (Et:TypeId) (S':Nat->Nat->Prop),w'.heap[bb]?=some (.cells vs'.toArray Et (0,0))/\aV (λ_ d u=>Rep w' S' d u) 0 (dF s.rs y) vs'/\∀b o,S' b o->(S b o\/w.heap.size<=b)/\b<w'.heap.size/\b≠bb
def afP(P:Program)(s:Isp):Prop:=∀(w:World) (S:Nat->Nat->Prop) (deep:Bool) (u:Value) (xs ys:List s.t.den) (fp:Nat->Prop),s.fn xs=some ys->amb w ->
 OwT w S deep true s.t xs u fp->(∀c,fp c->c<w.heap.size)->(∀b o,S b o->b<w.heap.size) ->
 Calls P s.fid #[u] w λe w'=>e=.returned (.tuple #[])/\Off (λc=>fp c/\∀o,¬S c o) w w'/\OwT w' S deep true s.t ys u fp
def afQ(w:World)(S:Nat->Nat->Prop)(R:Nat->Prop)(d:D)(u:Value):Prop:=match d with
 | .list t xs=>OwT w S false false t xs u R
 | d=>Rep w S d u
def abe(w:World)(S:Nat->Nat->Prop)(R:Nat->Prop)(ap:Nat)(vs:List Value)(args:List Value):(ps:List Sh)->Tup ps->Prop
 | [],_=>False
 | c::ps,x=>c.agg=true/\aV (λi d u=>if i=ap then afQ w S R d u else Rep w S d u) 0 (c.t.cells (jV x)) vs/\jG (λ_ d u=>Rep w S d u) 0 ps (yG x) args
def ahJ(B:Nat)(w':World)(S:Nat->Nat->Prop)(R:Nat->Prop)(bb ap:Nat)(v:Value):(rs:List Sh)->Tup rs->Prop
 | [],_=>False
 | c::rs,y=>∃(S':Nat->Nat->Prop) (R':Nat->Prop) (vs':List Value) (Et:TypeId) (us:List Value),v=pack us/\w'.heap[bb]?=some (.cells vs'.toArray Et (0,0)) /\
   aV (λi d u=>if i=ap then afQ w' S' R' d u else Rep w' S' d u) 0 (c.t.cells (jV y)) vs'/\jG (λ_ d u=>Rep w' S' d u) 0 rs (yG y) us /\
   (∀b o,S b o->S' b o)/\(∀b o,S' b o->(S b o\/B<=b\/R b)/\b<w'.heap.size)/\∀c,R' c->(B<=c\/R c)/\c<w'.heap.size
def fO(P:Program)(s:Fsp)(ap:Nat):Prop:=∀(w:World) (S:Nat->Nat->Prop) (R:Nat->Prop) (bb:Nat) (vs:List Value) (Et:TypeId) (args:List Value) (x:Tup s.ps) (y:Tup s.rs),s.fn x=some y->amb w->qi<=bb ->
 w.heap[bb]?=some (.cells vs.toArray Et (0,0))->abe w S R ap vs args s.ps x->(∀b o,S b o->b<w.heap.size/\b≠bb)->(∀c,R c->qi<=c/\c<w.heap.size/\c≠bb) ->
 Calls P s.fid (Value.pointer (some ⟨bb,0,none⟩)::args).toArray w λe w'=>∃v,e=.returned v/\jL (λc=>c=bb\/R c) w.heap.size w w'/\(∀b o,S b o->w'.cell? ⟨b,o,none⟩=w.cell? ⟨b,o,none⟩)/\ahJ w.heap.size w' S R bb ap v s.rs y
def tmV(us:List Value):List (Int⊕Nat)->List Value
 | []=>[]
 | .inl n::r=>.int .i64 n::tmV us r
 | .inr i::r=>us.getD i undef::tmV us r
def Po(P:Program)(s:Psp):Prop:=∀(w:World) (us:List Value),us.length=s.n->(∀u,u∈us->u.oneCell'=true) ->
 Calls P s.fid us.toArray w λe w'=>e=.returned (.agg (tmV us s.tm).toArray)/\Below w.heap.size w w'
def Pv(P:Program)(s:Ksp):Prop:=∀(w:World) (S:Nat->Nat->Prop) (bb:Nat) (vs:List Value) (Et:TypeId) (us us':List Value) (x:s.c.t.den) (y:s.c.t.den×Bool),s.fn x=some y->amb w->qi<=bb ->
 w.heap[bb]?=some (.cells vs.toArray Et (0,0))->jG (ss:=[s.c]) (λ_ d u=>Rep w S d u) 0 x [.agg vs.toArray]->(∀b o,S b o->b<w.heap.size/\b≠bb)->us.length=s.n->us'.length=s.n ->
 (∀u,u∈us->u.oneCell'=true)->(∀u,u∈us'->u.oneCell'=true) ->
 Calls P s.fid #[.pointer (some ⟨bb,0,none⟩),.agg us.toArray,.agg us'.toArray] w λe w'=>e=.returned (.agg (bif y.2 then us else us').toArray)/\jL (λc=>c=bb) w.heap.size w w'/\jr w w' bb /\
  ∃(S':Nat->Nat->Prop) (vs':List Value) (Et':TypeId),w'.heap[bb]?=some (.cells vs'.toArray Et' (0,0))/\aV (λ_ d u=>Rep w' S' d u) 0 (s.c.t.cells y.1) vs'/\∀b o,S' b o->(S b o\/w.heap.size<=b)/\b<w'.heap.size
def kM(P:Program)(E:Env):Prop:=E.tt.ok P=true/\(∀s,s∈E.fs->callable P s.fid=true/\Sound P s)/\(∀m,m∈E.ms->callable P m.fid=true/\VL P m) /\
 (∀s,s∈E.bs->callable P s.fid=true/\jv P s)/\(∀s,s∈E.ns->callable P s.fid=true/\Pq P s)/\(∀s,s∈E.ss->callable P s.fid=true/\Pn P s) /\
 (∀s,s∈E.so->callable P s.fid=true/\GH P s/\∃d,P.underlying s.T=some d/\∀ms,d≠.interface ms) /\
 (∀s,s∈E.is->callable P s.fid=true/\afP P s)/\(∀q,q∈E.mb->callable P q.1.fid=true/\fO P q.1 q.2)/\(∀s,s∈E.ps->callable P s.fid=true/\Po P s)/\∀s,s∈E.ks->callable P s.fid=true/\Pv P s
def oM(P:Program)(E:Env)(w0:Bs):Prop:=E.tt.ok P=true/\(∀s,s∈E.fs->callable P s.fid=true/\Sound P s)/\(∀m,m∈E.ms->callable P m.fid=true/\VL P m) /\
 (∀s,s∈E.bs->callable P s.fid=true/\jv P s)/\(∀s,s∈E.ns->callable P s.fid=true/\Pq P s)/\(∀s,s∈E.ss->callable P s.fid=true/\Pn P s) /\
 (∀s,s∈E.so->callable P s.fid=true/\GH P s/\∃d,P.underlying s.T=some d/\∀ms,d≠.interface ms)/\(∀s,s∈E.is->callable P s.fid=true/\afP P s)/\lT w0/\(E.ma=true->∀b,w0.bx≠some (b,true))/\(∀q,q∈E.mb->callable P q.1.fid=true/\fO P q.1 q.2)/\(∀s,s∈E.ps->callable P s.fid=true/\Po P s)/\∀s,s∈E.ks->callable P s.fid=true/\Pv P s
theorem kM.at{P:Program}{E:Env}{w0:Bs}(h:kM P E)(a:lT w0)(c:E.ma=true->∀b,w0.bx≠some (b,true)):oM P E w0:=⟨h.1,h.2.1,h.2.2.1,h.2.2.2.1,h.2.2.2.2.1,h.2.2.2.2.2.1,h.2.2.2.2.2.2.1,h.2.2.2.2.2.2.2.1,a,c,h.2.2.2.2.2.2.2.2⟩
theorem oM.am{P:Program}{E:Env}{w0:Bs}(h:oM P E w0):lT w0:=h.2.2.2.2.2.2.2.2.1
theorem oM.ma{P:Program}{E:Env}{w0:Bs}(h:oM P E w0):E.ma=true->∀b,w0.bx≠some (b,true):=h.2.2.2.2.2.2.2.2.2.1
theorem oM.mb{P:Program}{E:Env}{w0:Bs}(h:oM P E w0):∀q,q∈E.mb->callable P q.1.fid=true/\fO P q.1 q.2:=h.2.2.2.2.2.2.2.2.2.2.1
theorem oM.ps{P:Program}{E:Env}{w0:Bs}(h:oM P E w0):∀s,s∈E.ps->callable P s.fid=true/\Po P s:=h.2.2.2.2.2.2.2.2.2.2.2.1
theorem oM.ks{P:Program}{E:Env}{w0:Bs}(h:oM P E w0):∀s,s∈E.ks->callable P s.fid=true/\Pv P s:=h.2.2.2.2.2.2.2.2.2.2.2.2
theorem aV.imp{R R':Nat->D->Value->Prop}(h:∀i d v,R i d v->R' i d v):∀ {n:Nat} {ds:List D} {vs:List Value},aV R n ds vs->aV R' n ds vs
 | n,[],[],_=>trivial
 | n,d::ds,v::vs,hh=>⟨h _ _ _ hh.1,aV.imp h hh.2⟩
theorem ShR.imp{R R':Nat->D->Value->Prop}(h:∀i d v,R i d v->R' i d v){n:Nat}{s:Sh}{x:s.t.den}{u:Value}(hh:ShR R n s x u):ShR R' n s x u:=by
 unfold ShR at *;split at hh
 ·obtain⟨vs,e,hc⟩:=hh;exact⟨vs,e,hc.imp h⟩
 ·exact aV.imp h hh
theorem jG.imp{R R':Nat->D->Value->Prop}(h:∀i d v,R i d v->R' i d v):∀ {n:Nat} {ss:List Sh} {y:Tup ss} {us:List Value},jG R n ss y us->jG R' n ss y us
 | n,[],y,[],_=>trivial
 | n,[s],y,[u],hh=>ShR.imp h hh
 | n,s::s'::r,y,u::us,hh=>⟨ShR.imp h hh.1,jG.imp h hh.2⟩
section ops
variable {P:Program} {w0:Bs} {G:Gh} {S:St} {a:Act} {w:World} {o:Oper} {K:Act->World->Prop} {Q:Exit->Act->World->Prop}
theorem Be{d:Nat}{ex:Bool}{R:Nat->D->Value->Prop}(a:∀i x v,R i x v->l9 G w (abZ d ex i x) v):∀ {n:Nat} {ds:List D} {vs:List Value},aV R n ds vs->cu G w (Jh d ex n ds) vs
 | n,[],[],_=>trivial
 | n,x::ds,v::vs,h=>⟨a _ _ _ h.1,Be a h.2⟩
theorem WC{d:Nat}{ex:Bool}{R:Nat->D->Value->Prop}(b:∀i x v,R i x v->l9 G w (abZ d ex i x) v){n:Nat}{s:Sh}{y:s.t.den}{u:Value}(h:ShR R n s y u):qV G w (mkV' s.agg (Jh d ex n (s.t.cells y))) u:=by
 unfold ShR at h;split at h
 ·rename_i a;obtain⟨vs,rfl,hc⟩:=h;rw[a];exact⟨vs,rfl,Be b hc⟩
 ·rename_i a;rw[a];have hc:=Be b h;match e:Jh d ex n (s.t.cells y),hc with
  | [c],hc=>exact hc.1
theorem mF{d:Nat}{ex:Bool}{R:Nat->D->Value->Prop}(a:∀i x v,R i x v->l9 G w (abZ d ex i x) v):∀ {n:Nat} {ss:List Sh} {y:Tup ss} {us:List Value},jG R n ss y us->kz G w (pM d ex n ss y) us
 | n,[],y,[],_=>trivial
 | n,[s],y,[u],h=>⟨WC a h,trivial⟩
 | n,s::s'::r,y,u::us,h=>⟨WC a h.1,mF a h.2⟩
theorem oq{vs:List V}{us:List Value}(h:kz G w vs us):jc G w (qC vs) (pack us):=by
 match vs,us,h with
 | [],[],_=>exact⟨[],rfl,trivial⟩
 | [v],[u],h=>exact rf h.1
 | v::v'::r,u::u'::r',h=>exact⟨u::u'::r',rfl,h⟩
def Dh(s:Sh)(u:Value):List Value:=match s.agg with
 | true=>u.cells.toList
 | false=>[u]
def qH:List Sh->List Value->List Value
 | s::r,u::us=>Dh s u++qH r us
 | _,_=>[]
theorem aV.app{R:Nat->D->Value->Prop}{n:Nat}{ds ds':List D}{vs vs':List Value}(a:aV R n ds vs)(b:aV R (n+ds.length) ds' vs'):aV R n (ds++ds') (vs++vs'):=by
 induction ds generalizing n vs with
 | nil=>cases vs with
  | nil=>simpa using b
  | cons=>exact a.elim
 | cons d ds ih=>cases vs with
  | nil=>exact a.elim
  | cons v vs=>exact⟨a.1,ih a.2 (by rw[show n+1+ds.length=n+(d::ds).length by simp;omega];exact b)⟩
theorem ShR.cells{R:Nat->D->Value->Prop}{n:Nat}{s:Sh}{x:s.t.den}{u:Value}(h:ShR R n s x u):aV R n (s.t.cells x) (Dh s u):=by
 unfold ShR at h;unfold Dh;split at h
 ·rename_i a;obtain⟨vs,rfl,hc⟩:=h;rw[a];exact hc
 ·rename_i a;rw[a];exact h
theorem jG.cells{R:Nat->D->Value->Prop}:∀ {n:Nat} {ss:List Sh} {y:Tup ss} {us:List Value},jG R n ss y us->aV R n (dF ss y) (qH ss us)
 | n,[],y,[],_=>trivial
 | n,[s],y,[u],h=>by
  have a:ShR R n s y u:=h;show aV R n (s.t.cells y) (Dh s u++[])
  rw[List.append_nil];exact a.cells
 | n,s::s'::r,y,u::us,h=>by
  refine aV.app h.1.cells ?_;rw[Ty.bn];exact jG.cells h.2
theorem aV.at{R:Nat->D->Value->Prop}{all:List Value}:∀ {n:Nat} {ds:List D} {vs pre post:List Value},aV R n ds vs->pre.length=n->all=pre++vs++post->aV (λi d u=>R i d u/\all[i]?=some u) n ds vs
 | n,[],[],_,_,_,_,_=>trivial
 | n,d::ds,v::vs,pre,post,h,a,b=>by
  refine⟨⟨h.1,?_⟩,aV.at (pre:=pre++[v]) (post:=post) h.2 (by simp[a]) (by rw[b];simp)⟩;rw[b,a7,List.getElem?_append_right (by omega),a];simp
theorem aV.length{R:Nat->D->Value->Prop}{n:Nat}{ds:List D}{vs:List Value}(h:aV R n ds vs):ds.length=vs.length:=h.get.1
theorem ShR.at{R:Nat->D->Value->Prop}{all:List Value}{n:Nat}{s:Sh}{x:s.t.den}{u:Value}{pre post:List Value}(h:ShR R n s x u)(b:pre.length=n)(a:all=pre++Dh s u++post):ShR (λi d u=>R i d u/\all[i]?=some u) n s x u:=by
 unfold ShR at *;unfold Dh at a;cases c:s.agg with
 | true=>
  rw[c]at h a;obtain⟨vs,rfl,hc⟩:=h;exact⟨vs,rfl,hc.at b a⟩
 | false=>
  rw[c]at h a;exact aV.at h b a
theorem jG.at{R:Nat->D->Value->Prop}{all:List Value}:∀ {n:Nat} {ss:List Sh} {y:Tup ss} {us pre post:List Value},jG R n ss y us->pre.length=n->all=pre++qH ss us++post->jG (λi d u=>R i d u/\all[i]?=some u) n ss y us
 | n,[],y,[],_,_,_,_,_=>trivial
 | n,[s],y,[u],pre,post,h,b,c=>ShR.at (post:=post) h b (by rw[c];simp[qH])
 | n,s::s'::r,y,u::us,pre,post,h,b,c=>by
  have a:=h.1.cells.length;rw[Ty.bn]at a;refine⟨ShR.at (post:=qH (s'::r) us++post) h.1 b (by rw[c];simp[qH]),jG.at (pre:=pre++Dh s u) (post:=post) h.2 (by simp[b,a]) (by rw[c];simp[qH])⟩
theorem WS(tr:Bool)(ds:List D)(j:Nat):aZ (EZ tr ds) j=match ds[j]? with
  | some (.list t xs)=>if tr then .tree t xs else .own t xs true true
  | _=>.dead:=by
 simp only[aZ,EZ,zE,List.getElem?_map];cases ds[j]? with
 | none=>rfl
 | some x=>cases x<;>rfl
theorem Inv.ru:∀(keys:List (Nat×Nat)) {G:Gh} {S:St},Inv w0 G S a w->nodupB keys=true ->
  ∃G',Inv w0 G' (S.puts (keys.map λq=>.nomut q.1 q.2)) a w/\More G G' (AK G S keys)
 | [],G,S,h,_=>⟨G,h,⟨rfl,rfl,rfl,rfl,rfl,λb o=>⟨.inl,λhh=>hh.elim id λ⟨_,_,_,_,_,_,c,_⟩=>by cases c⟩⟩⟩
 | (k,j)::r,G,S,h,p=>by
  obtain⟨u,l⟩:=gQ p;obtain⟨A,v,d⟩:=h.Tj k j;obtain⟨x,y,i⟩:=Inv.ru r v l;have hput:∀k' j',(k',j')∈r->aZ ((S.put (.nomut k j)).aI k') j'=aZ (S.aI k') j':=λk' j' c=>by
   show aZ ((S.bI k ((S.aI k).set j (aZ (S.aI k) j).Ad)).aI k') j'=_
   rw[bg];split
   ·rename_i hk;rw[gu];split
    ·rename_i z;have:(k,j)=(k',j'):=by rw[hk.1,z.1]
     exact absurd (this▸c) u
    ·rw[hk.1]
   ·rfl
  refine⟨x,y,⟨i.ow.trans d.ow,i.ov.trans d.ov,i.bk.trans d.bk,i.lk.trans d.lk,i.lb.trans d.lb,λb o=>?_⟩⟩;rw[i.s,d.s];constructor
  ·rintro ((n | ⟨k',j',t,xs,deep,m,c,g⟩) | ⟨k',j',t,xs,deep,m,c,g,e,f⟩)
   ·exact .inl n
   ·simp only[List.mem_singleton]at c;exact .inr ⟨k',j',t,xs,deep,m,by rw[c];exact aq,g⟩
   ·rw[hput k' j' c]at g;exact .inr ⟨k',j',t,xs,deep,m,ao _ c,g,by rw[<- d.ow];exact e,by rw[<- d.ov];exact f⟩
  ·rintro (n | ⟨k',j',t,xs,deep,m,c,g,e,f⟩)
   ·exact .inl (.inl n)
   ·rcases ba.1 c with c | c
    ·exact .inl (.inr ⟨k',j',t,xs,deep,m,by simp[c],g,e,f⟩)
    ·exact .inr ⟨k',j',t,xs,deep,m,c,by rw[hput k' j' c];exact g,by rw[d.ow];exact e,by rw[d.ov];exact f⟩
theorem mJ{vs:List V}{k j:Nat}{x:V}(a:x∈vs)(h:C.own k j∈x.cells):(k,j)∈aP (vs.flatMap V.cells):=
 fD (List.mem_flatMap.2 ⟨x,a,h⟩)
theorem Inv.Vp(h:Inv w0 G S a w)(i:Nat){cs cs':List C}(u:S.fJ i=some cs){w':World}(hoff:jL (λc=>c=G.bk i) w.heap.size w w')(B:jr w w' (G.bk i)){vs':List Value}{Et:TypeId}(hh:w'.heap[G.bk i]?=some (.cells vs'.toArray Et (0,0)))
  (hc:cu G w' cs' vs'):Inv w0 G (S.setB i (some cs')) a w':=by
 obtain⟨q,_⟩:=h.box i cs u;have D:=h.olt _ _ q;have hcell:∀b o,G.S b o->w'.cell? ⟨b,o,none⟩=w.cell? ⟨b,o,none⟩:=λb o f=>
  World.cell?_of_block (w:=w) (hoff.block b (h.sok b o f).1 λe=>(h.sok b o f).2 i (e▸q))
 have z:Mv G G w w':=⟨λb o f=>⟨f,hcell b o f⟩,λk hk=>⟨hk,λ_=>rfl⟩,λi u=>⟨u,rfl⟩⟩;have hilt:i<S.boxes.length:=by
  rcases Nat.lt_or_ge i S.boxes.length with p | p
  ·exact p
  ·simp[St.fJ,zE,zJ p]at u
 have H:=h.below.size;refine⟨h.below.trans ⟨hoff.os,hoff.tape,hoff.output,hoff.size,λk hk r=>hoff.block k (by omega) λe=>?_⟩,h.nodef,h.tsz,by simp[St.setB,h.bsz],by simp[St.setB,h.osz],λx v I=>(h.tmps x v I).move z,?_,?_,?_,?_,h.lk,?_,h.sfr,h.Px z,λb y l=>⟨(h.fx b y l).1,λF p=>by
   by_cases eb:b=G.bk i
   ·subst eb;exact ((h.fx _ y l).2 F p).trans B
   ·exact ((h.fx b y l).2 F p).same (hoff.block b (by omega) eb)⟩⟩
 ·subst e;rcases D.1 with (A | A) | ⟨_,A⟩
  ·omega
  ·exact r A.1
  ·exact r A
 ·intro x y l;exact⟨(h.olt x y l).1,aD (h.olt x y l).2 hoff.size⟩
 ·intro x o f;exact⟨aD (h.sok x o f).1 hoff.size,(h.sok x o f).2⟩
 ·intro x cs'' hcs'';rw[gy]at hcs'';by_cases d:i=x
  ·subst d;rw[if_pos ⟨rfl,hilt⟩]at hcs'';cases hcs''
   exact⟨q,vs',Et,hh,hc⟩
  ·rw[if_neg (λe=>d e.1)]at hcs'';obtain⟨n,vs'',E',E,g⟩:=h.box x cs'' hcs'';refine⟨n,vs'',E',(hoff.block _ (h.olt _ _ n).2 λe=>?_).trans E,g.move z⟩;rw[e,q]at n;cases n
   exact d rfl
 ·intro k j;have keep:∀c,fM G k j c->fM G k j c/\w'.heap[c]?=w.heap[c]?:=λc g=>⟨g,hoff.block c (h.olt _ _ g).2 λe=>by
   have hc'':G.ow c=some (.own k j):=g;rw[e,q]at hc'';cases hc''⟩
  exact (h.owns k j).same rfl z.s (λt xs deep m l=>⟨keep,λ_ _ _ _ _ o f=>.inl f⟩) λt xs l c hc=>⟨(keep c hc).1,(keep c hc).2,λo f=>f⟩
 ·intro x l;rw[gy];by_cases d:i=x
  ·rw[if_pos ⟨d,hilt⟩];simp
  ·rw[if_neg (λe=>d e.1)];exact h.lb x l
theorem Inv.TG(h:Inv w0 G S a w)(i:Nat){cs cs':List C}(b:S.fJ i=some cs){vs:List Value}{Et:TypeId}(hh:w.heap[G.bk i]?=some (.cells vs.toArray Et (0,0)))(hc:cu G w cs' vs) :
  Inv w0 G (S.setB i (some cs')) a w:=by
 have c:=h.Vp i b (w':=w) ⟨rfl,rfl,rfl,ar _,λ_ _ _=>rfl⟩ (.refl _ _) hh hc;exact c
theorem jJ:∀(keys:List (Nat×Nat)) (S:St) (b:Nat),(S.puts (keys.map λq=>W.nomut q.1 q.2)).fJ b=S.fJ b
 | [],S,b=>rfl
 | q::r,S,b=>by
  show ((S.put (.nomut q.1 q.2)).puts (r.map λq=>W.nomut q.1 q.2)).fJ b=_
  rw[jJ r];rfl
theorem gZ:∀(keys:List (Nat×Nat)) (S:St) (d:Nat),S.aI d=[]->(S.puts (keys.map λq=>W.nomut q.1 q.2)).aI d=[]
 | [],S,d,h=>h
 | q::r,S,d,h=>by
  show ((S.put (.nomut q.1 q.2)).puts (r.map λq=>W.nomut q.1 q.2)).aI d=[]
  refine gZ r _ d ?_;show (S.bI q.1 ((S.aI q.1).set q.2 (aZ (S.aI q.1) q.2).Ad)).aI d=[]
  rw[bg];split
  ·rename_i hk;rw[hk.1,h];rfl
  ·exact h
theorem jG.cellsAll{R:Nat->D->Value->Prop}{Q:D->Prop}:∀ {n:Nat} {ss:List Sh} {y:Tup ss} {us:List Value},jG R n ss y us->(∀d,d∈dF ss y->Q d)->jG (λi d u=>R i d u/\Q d) n ss y us:=by
 have key:∀ {n:Nat} {ds:List D} {vs:List Value},aV R n ds vs->(∀d,d∈ds->Q d)->aV (λi d u=>R i d u/\Q d) n ds vs:=by
  intro n ds;induction ds generalizing n with
  | nil=>intro vs b _;cases vs with
   | nil=>trivial
   | cons=>exact b.elim
  | cons d ds ih=>intro vs b f;cases vs with
   | nil=>exact b.elim
   | cons v vs=>exact⟨⟨b.1,f d aq⟩,ih b.2 λdd a=>f dd (ao _ a)⟩
 have keyS:∀ {n:Nat} {s':Sh} {x:s'.t.den} {u:Value},ShR R n s' x u->(∀d,d∈s'.t.cells x->Q d)->ShR (λi d u=>R i d u/\Q d) n s' x u:=by
  intro n s' x u hh a;unfold ShR at *;split at hh
  ·obtain⟨vs,e,hc⟩:=hh;exact⟨vs,e,key hc a⟩
  ·exact key hh a
 intro n ss;induction ss generalizing n with
 | nil=>intro y us hh _;cases us with
  | nil=>trivial
  | cons=>exact hh.elim
 | cons s0 r ih=>
  intro y us hh a;cases r with
  | nil=>cases us with
   | nil=>exact hh.elim
   | cons u us=>cases us with
    | nil=>exact keyS hh a
    | cons=>exact hh.elim
  | cons g r=>cases us with
   | nil=>exact hh.elim
   | cons u us=>exact⟨keyS hh.1 λdd c=>a dd (List.mem_append_left _ c),ih hh.2 λdd c=>a dd (List.mem_append_right _ c)⟩
theorem aei(ds:List D)(j:Nat):aZ (acd ds) j=match ds[j]? with
  | some (.list t xs)=>.own t xs false true
  | _=>.dead:=by
 simp only[aZ,acd,zE,List.getElem?_map];cases ds[j]? with
 | none=>rfl
 | some x=>cases x<;>rfl
theorem OwT.rest{w:World}{S S':Nat->Nat->Prop}{deep m:Bool}{t:Ty}{xs:List t.den}{v:Value}{fp fp':Nat->Prop}(h:OwT w S deep m t xs v fp)(p:∀b o,S b o->S' b o)
  (q:∀b,fp b->∀o,S' b o->S b o) (hf:∀b,fp b->fp' b):OwT w S' deep m t xs v fp':=by
 rcases h with h | ⟨b,cap,arr,E,vs,fps,rfl,r,hcap,hmax,g,a,hc,k,e,hdis,l⟩
 ·exact .inl h
 ·exact .inr ⟨b,cap,arr,E,vs,fps,rfl,r,hcap,hmax,g,hf _ a,hc,λi x j d s u=>(k i x j d s u).move (λb o n=>⟨p b o n,rfl⟩) λ_ _=>rfl,λi j c f=>⟨hf _ (e i j c f).1,(e i j c f).2⟩,hdis,λo n=>l o (q b a o n)⟩
theorem Inv.ahP(h:Inv w0 G S a w){B:Nat}(L:∀c x,G.ow c=some x->c<B)(N:w0.w.heap.size<=B){S':Nat->Nat->Prop}{sh:Bool}{rs:List Sh}{y:Tup rs}{us:List Value}(hres:SH B w S' sh rs y us)
  (p:∀b o,S' b o->G.S b o) (hSB:∀b o,B<=b->G.S b o->S' b o) {o:Oper} {S0:St} (O:∀d,S0.aI d=[]->S.aI d=[]) {ws:List W} (g:(aaB o sh rs y).val S0=some ws) :
  ∃G',Inv w0 G' (S.puts ws) (a.put o.dst (pack us)) w:=by
 unfold aaB at g;cases hdst:o.dst with
 | none=>
  rw[hdst]at g;simp only[Rd.val,zD]at g;subst g;exact⟨G,h⟩
 | some d=>
  rw[hdst]at g;simp only at g;split at g
  case isFalse hcond=>
   simp only[Rd.val,zD]at g
   subst g
   refine⟨G,h.iV d (av:=qC (pM d false 0 rs y)) ?_⟩
   cases sh with
   | false=>
    refine oq (mF (R:=λ_ dd u=>Rep w S' dd u) (λi dd u q=>?_) hres)
    have l:Rep w G.S dd u:=q.move λb o f=>⟨p b o f,rfl⟩
    cases dd with
    | list t xs=>exact l
    | int=>exact l
    | bool=>exact l
    | str=>exact l
   | true=>
    obtain⟨fps,C,_⟩:=hres
    refine oq (mF (R:=λi dd u=>J5 w S' dd u (fps i)/\mr dd=none) (λi dd u q=>?_) (C.cellsAll λdd P=>?_))
    ·obtain⟨q,Q⟩:=q;cases dd with
     | list t xs=>cases Q
     | int k n=>exact Rep.move (S:=S') q λb o f=>⟨p b o f,rfl⟩
     | bool b=>exact Rep.move (S:=S') q λb o f=>⟨p b o f,rfl⟩
     | str v=>exact Rep.move (S:=S') q λb o f=>⟨p b o f,rfl⟩
    ·cases dd with
     | list t xs=>exact absurd (by rw[Bool.true_and];exact List.any_eq_true.2 ⟨_,P,rfl⟩) hcond
     | _=>rfl
  case isTrue hcond=>
   rw[zI]at hcond
   obtain⟨rfl,hany⟩:=hcond
   obtain⟨fps,C,r,E⟩:=hres
   simp only[Rd.aH,zB,Rd.val,zD]at g
   obtain⟨ws',T,rfl⟩:=g
   obtain⟨F,rfl⟩:=fG T
   by_cases m:d<S.tmps.length
   case neg=>
    refine⟨G,?_⟩
    show Inv w0 G ((S.bI d _).iV d _) _ _
    rw[Bl h.tsz m,vI (by rw[h.osz];exact m),vH m]
    exact h
   generalize hvals0:qH rs us=vals at *
   have hvals:aV (λi d u=>J5 w S' d u (fps i)) 0 (dF rs y) vals:=hvals0▸C.cells
   obtain⟨H,I⟩:=hvals.get
   classical
   have J:acd (dF rs y)≠[]:=by
    intro e;have:dF rs y=[]:=by
     simp only[acd,List.map_eq_nil_iff]at e;exact e
    rw[this]at hany;cases hany
   obtain⟨U,V,K,X,Y⟩:=h.UX d (acd (dF rs y)) (λi=>vals.getD i undef) (λc=>if hh:∃i,fps i c then some hh.choose else none) (O d F) m J
    (λc i hc=>by
     split at hc
     ·rename_i hh;obtain⟨Z,f2⟩:=r _ _ hh.choose_spec;refine⟨.inl (Nat.le_trans N Z),f2,λi z=>?_,λk' j' _ _ _ _ z=>?_⟩
      ·exact absurd (L _ _ z) (by omega)
      ·exact absurd (L _ _ z) (by omega)
     ·cases hc)
    (λj=>by
     rw[aei];cases M:(dF rs y)[j]? with
     | none=>trivial
     | some dd=>
      cases dd with
      | int=>trivial
      | bool=>trivial
      | str=>trivial
      | list t xs=>
       have A:j<vals.length:=by rw[<- H];exact (zC.1 M).1
       have:=I j _ vals[j] M (by simp[A]);rw[Nat.zero_add]at this;have e:vals.getD j undef=vals[j]:=by simp[A]
       have q1:∀c,fps j c->(if hh:∃i,fps i c then some hh.choose else none)=some j:=λc hc=>by
        have hh:∃i,fps i c:=⟨j,hc⟩;rw[dif_pos hh];exact congrArg some (E _ _ _ hh.choose_spec hc)
       show OwT w G.S false true t xs (vals.getD j undef) _
       rw[e];exact OwT.rest (S:=S') this p (λb z o f=>hSB b o (r _ _ z).1 f) q1)
   have hTa:=C.at (all:=vals) (pre:=[]) (post:=[]) rfl (by rw[<- hvals0];simp)
   have hTa':jG (λi d u=>(J5 w S' d u (fps i)/\vals[i]?=some u)) 0 rs y us:=hTa
   refine⟨U,V.iV d (av:=qC (pM d true 0 rs y)) (oq (mF (R:=λi d u=>(J5 w S' d u (fps i)/\vals[i]?=some u)) ?_ hTa'))⟩
   rintro i dd u ⟨D,hu⟩
   cases dd with
   | list t xs=>
    refine⟨X,?_,(OwT.ow D).one⟩
    rw[Y]
    simp[hu]
   | int k n=>exact Rep.move (S:=S') D λb o f=>⟨(K.s b o (p b o f)).1,rfl⟩
   | bool b=>exact Rep.move (S:=S') D λb o f=>⟨(K.s b o (p b o f)).1,rfl⟩
   | str v=>exact Rep.move (S:=S') D λb o f=>⟨(K.s b o (p b o f)).1,rfl⟩
theorem Inv.ahQ(h:Inv w0 G S a w){B:Nat}(I:∀c x,G.ow c=some x->c<B)(N:w0.w.heap.size<=B)(hSB:∀b o,G.S b o->b<B){tr:Bool}{rs:List Sh}{y:Tup rs}{us:List Value}(hres:ajD B w rs y us)
  {o:Oper} {S0:St} (O:∀d,S0.aI d=[]->S.aI d=[]) {ws:List W} (g:(aff o tr rs y).val S0=some ws) :
  ∃G',Inv w0 G' (S.puts ws) (a.put o.dst (pack us)) w:=by
 obtain⟨fps,s,p,z⟩:=hres;have scalar:∀ {G':Gh} {d:Nat} {ex:Bool} {i:Nat} {dd:D} {u:Value},mr dd=none->(∃S' fp,Ow w S' true dd u fp)->l9 G' w (abZ d ex i dd) u:=by
  rintro G' d ex i dd u J ⟨S',fp,m⟩;cases m with
  | int k n=>exact Rep.int _ _
  | bool b=>exact Rep.bool _
  | str v=>exact Rep.str _
  | nil=>cases J
  | ro _ _ _ A=>cases A
  | list=>cases J
 unfold aff at g;cases hdst:o.dst with
 | none=>
  rw[hdst]at g;simp only[Rd.val,zD]at g;subst g;exact⟨G,h⟩
 | some d=>
  rw[hdst]at g;simp only at g;by_cases hany:(dF rs y).any isList=true
  ·rw[if_pos hany]at g;simp only[Rd.aH,zB,Rd.val,zD]at g;obtain⟨ws',P,rfl⟩:=g;obtain⟨C,rfl⟩:=fG P;by_cases l:d<S.tmps.length
   case neg=>
    refine⟨G,?_⟩
    show Inv w0 G ((S.bI d _).iV d _) _ _
    rw[Bl h.tsz l,vI (by rw[h.osz];exact l),vH l]
    exact h
   generalize hvals0:qH rs us=vals at *;have hvals:aV (λi d u=>Ow w (λ_ _=>False) true d u (fps i)) 0 (dF rs y) vals:=hvals0▸s.cells;obtain⟨E,F⟩:=hvals.get;classical
   have H:EZ tr (dF rs y)≠[]:=by
    intro e;have:dF rs y=[]:=by
     simp only[EZ,List.map_eq_nil_iff]at e;exact e
    rw[this]at hany;cases hany
   obtain⟨Q,T,m7,U,V⟩:=h.UX d (EZ tr (dF rs y)) (λi=>vals.getD i undef) (λc=>if hh:∃i,fps i c then some hh.choose else none) (O d C) l H
    (λc i hc=>by
     split at hc
     ·rename_i hh;obtain⟨X,Y⟩:=p _ _ hh.choose_spec;refine⟨.inl (Nat.le_trans N X),Y,λi q=>?_,λk' j' _ _ _ _ q=>?_⟩
      ·exact absurd (I _ _ q) (by omega)
      ·exact absurd (I _ _ q) (by omega)
     ·cases hc)
    (λj=>by
     rw[WS];cases K:(dF rs y)[j]? with
     | none=>trivial
     | some dd=>
      cases dd with
      | int=>trivial
      | bool=>trivial
      | str=>trivial
      | list t xs=>
       have r:j<vals.length:=by rw[<- E];exact (zC.1 K).1
       have:=F j _ vals[j] K (by simp[r]);rw[Nat.zero_add]at this;have e:vals.getD j undef=vals[j]:=by simp[r]
       have L:∀c,fps j c->(if hh:∃i,fps i c then some hh.choose else none)=some j:=λc hc=>by
        have hh:∃i,fps i c:=⟨j,hc⟩;rw[dif_pos hh];exact congrArg some (z _ _ _ hh.choose_spec hc)
       have M:∀b oo,G.S b oo->¬fps j b:=λb oo Z q=>by
        have:=hSB b oo Z;have:=(p _ _ q).1;omega
       cases htr:tr with
       | false=>
        show OwT w G.S true true t xs (vals.getD j undef) _
        rw[e];exact aeg this L M
       | true=>
        refine⟨fps j,L,?_,M⟩;rw[e];exact this)
   have hTa:=s.at (all:=vals) (pre:=[]) (post:=[]) rfl (by rw[<- hvals0];simp);have hTa':jG (λi d u=>(Ow w (λ_ _=>False) true d u (fps i)/\vals[i]?=some u)) 0 rs y us:=hTa;refine⟨Q,T.iV d (av:=qC (pM d true 0 rs y)) (oq (mF (R:=λi d u=>(Ow w (λ_ _=>False) true d u (fps i)/\vals[i]?=some u)) ?_ hTa'))⟩;rintro i dd u ⟨m,hu⟩;cases f:mr dd with
   | none=>exact scalar f ⟨_,_,m⟩
   | some t=>
    cases dd with
    | int=>cases f
    | bool=>cases f
    | str=>cases f
    | list t' xs=>
     refine⟨U,?_,m.one⟩;rw[V];simp[hu]
  ·rw[if_neg hany]at g;simp only[Rd.val,zD]at g;subst g;refine⟨G,h.iV d (av:=qC (pM d true 0 rs y)) (oq (mF (R:=λi dd u=>Ow w (λ_ _=>False) true dd u (fps i)/\mr dd=none) (λi dd u m=>scalar m.2 ⟨_,_,m.1⟩) (s.cellsAll λdd hm=>?_)))⟩;cases dd with
   | list t xs=>exact absurd (List.any_eq_true.2 ⟨_,hm,rfl⟩) hany
   | _=>rfl
theorem aew(h:Inv w0 G S a w){c:Call}{f:FuncId}(r:o.op=.call c)(hc:c.callee=.value (.func f)){E:Env}(q:oM P E w0){ws:List W}(d:(aku E o c f).val S=some ws)
  (u:∀a' w' G',Inv w0 G' (S.puts ws) a' w'->K a' w'):o.wp P a w K Q:=by
 unfold aku at d;split at d
 case h_2=>cases d
 rename_i s x l y;have hfid:s.fid=f:=by have:=List.find?_some l;simpa using this
 obtain⟨hcall,hsound⟩:=q.2.2.2.2.2.2.2.1 s (List.mem_of_find?_eq_some l);simp only[Rd.aH,zB]at d;obtain⟨ax,z,v,A,d⟩:=d;split at d
 case h_2=>cases d
 rename_i k j;simp only[Rd.val]at d;split at d
 case h_2=>cases d
 rename_i t xs deep hown;split at d
 case isFalse=>cases d
 rename_i m;subst m;simp only[Rd.val,zB,zD]at d;obtain⟨ys,B,rfl⟩:=d;have n:qV G w (.one (.own k j)) (a.eval x):=oW A (aY h z);have g:a.eval x=G.ov k j:=n.2.1;have p:OwT w G.S deep true s.t xs (a.eval x) (fM G k j):=by
  have:=h.owns k j;rw[hown]at this;rw[g];exact this
 have hargs:c.args.map a.eval = #[a.eval x]:=by
  have:c.args = #[x]:=Dc y;rw[this];simp
 unfold Oper.wp;rw[jf r hc (hfid▸hcall),<- hfid,hargs];refine Calls.mono (hsound w G.S deep (a.eval x) xs ys (fM G k j) B (q.am.keep w h.below) p (λc hc=>(h.olt _ _ hc).2) (λb o l=>(h.sok b o l).1)) λe w' C=>?_
 obtain⟨rfl,hoff,i⟩:=C;rw[g]at i;have D:=WR h hown hoff i;refine u _ _ G ?_;exact D.dst (o:=o) (av:=.tup []) (v:=.tuple #[]) ⟨[],rfl,trivial⟩
theorem Ny:∀ {vs:List V} {cs:List C} {us:List Value},agR vs=some cs->kz G w vs us->cu G w cs us
 | [],cs,us,h,a=>by
  cases h
  cases us with
  | nil=>trivial
  | cons=>exact a.elim
 | .one c::r,cs,us,h,a=>by
  simp only[agR,zB,zD]at h;obtain⟨q,b,rfl⟩:=h;cases us with
  | nil=>exact a.elim
  | cons u us=>exact⟨a.1,Ny b a.2⟩
 | .agg _::r,cs,us,h,a=>by cases h
theorem Tn{cs:List C}{us:List Value}(h:cu G w cs us):∀ {tm:List (Int⊕Nat)} {q:List C},tmC cs tm=some q->cu G w q (tmV us tm)
 | [],q,a=>by cases a;trivial
 | .inl n::r,q,a=>by
  simp only[tmC,zB,zD]at a;obtain⟨q',b,rfl⟩:=a;exact⟨Rep.int _ _,Tn h b⟩
 | .inr i::r,q,a=>by
  unfold tmC at a;cases hc:cs[i]? with
  | none=>rw[hc]at a;cases a
  | some c=>
   rw[hc]at a;simp only[zB,zD]at a;obtain⟨q',b,rfl⟩:=a;obtain⟨f,d⟩:=h.get;have e:i<us.length:=by have:=(zC.1 hc).1;omega
   refine⟨d i c _ hc ?_,Tn h b⟩;rw[zE,zF e];rfl
theorem OX{S:St}{b:Nat}{v:Option (List C)}(x:Operand):(dM x).val (S.setB b v)=(dM x).val S:=by
 cases x with
 | const v=>simp only[dM];split<;>rfl
 | _=>rfl
theorem ace(h:Inv w0 G S a w){c:Call}{f:FuncId}(ho:o.op=.call c)(hc:c.callee=.value (.func f)){E:Env}(I:oM P E w0){ws:List W}(g:(afk E o c f).val S=some ws)
  (hK:∀a' w' G',Inv w0 G' (S.puts ws) a' w'->K a' w'):o.wp P a w K Q:=by
 unfold afk at g;split at g
 ·rename_i s l;have hfid:s.fid=f:=by have:=List.find?_some l;simpa using this
  obtain⟨hcall,hsound⟩:=I.ps s (List.mem_of_find?_eq_some l);simp only[Rd.aH,zB]at g;obtain⟨vs,L,g⟩:=g;split at g
  case h_2=>cases g
  rename_i cs n;split at g
  case isFalse=>cases g
  rename_i hn;split at g
  case h_2=>cases g
  rename_i q hq;simp only[Rd.val,zD]at g;subst g;have J:=Ny n (kL h L);have hargs:(c.args.map a.eval)=(c.args.toList.map a.eval).toArray:=by cases c.args;simp
  unfold Oper.wp;rw[jf ho hc (hfid▸hcall),<- hfid,hargs];refine Calls.mono (hsound w (c.args.toList.map a.eval) (J.length▸hn) J.one) λe w' he=>?_
  obtain⟨rfl,hbel⟩:=he;have h5:=h.grow hbel;have hr5:=Ny n (kL h5 L);exact hK _ _ _ (h5.dst (av:=.v (.agg q)) ⟨_,rfl,Tn hr5 hq⟩)
 ·split at g
  case h_2=>exact aew h ho hc I g hK
  rename_i s x y z l hxs;have hfid:s.fid=f:=by have:=List.find?_some l;simpa using this
  obtain⟨hcall,hsound⟩:=I.ks s (List.mem_of_find?_eq_some l);simp only[Rd.aH,zB]at g;obtain⟨ap,h1,g⟩:=g;have hpr:=aY h h1;split at g
  case h_2=>cases g
  rename_i b;simp only[Rd.val]at g;split at g
  case h_2=>cases g
  rename_i cs n;split at g
  case isFalse=>cases g
  rename_i B;obtain⟨B,hagg,hsz⟩:=B;simp only[Rd.aH,zB]at g;obtain⟨ay,L,g⟩:=g;split at g
  case h_2=>cases g
  rename_i cy;simp only[Rd.aH,zB]at g;obtain⟨az,h3,g⟩:=g;split at g
  case h_2=>cases g
  rename_i cz;split at g
  case isFalse=>cases g
  rename_i hn;simp only[Rd.aH,zB]at g;obtain⟨q,h4,g⟩:=g;simp only[Rd.val,zB]at g;obtain⟨r,h5,g⟩:=g;obtain⟨M,F,E0,hh0,N⟩:=h.box b cs n;have hptr:a.eval x=.pointer (some ⟨G.bk b,0,none⟩):=hpr.2;obtain⟨us,O,R⟩:∃us:List Value,a.eval y=.agg us.toArray/\cu G w cy us:=aY h L;obtain⟨us',T,U⟩:∃us:List Value,a.eval z=.agg us.toArray/\cu G w cz us:=aY h h3;have hargs:(c.args.map a.eval) = #[Value.pointer (some ⟨G.bk b,0,none⟩),.agg us.toArray,.agg us'.toArray]:=by
   have:c.args.map a.eval=(c.args.toList.map a.eval).toArray:=by cases c.args;simp
   rw[this,hxs];simp[hptr,O,T]
  have hT:=mQ (ss:=[s.c]) (xs:=[.agg cs]) (us:=[.agg F.toArray]) h [] 0 h4 ⟨⟨F,rfl,N⟩,trivial⟩ (λk j x V hm=>by
   have V:x=.agg cs:=by simpa using V
   subst V;have:(k,j)∈aP cs:=fD hm;rw[B]at this;cases this)
  have hT':=hT.imp (R':=λ_ d u=>Rep w G.S d u) λi d v J=>J.move λbb oo l=>⟨l.elim id λ⟨_,_,_,_,_,_,hm,_⟩=>(by cases hm),rfl⟩
  unfold Oper.wp;rw[jf ho hc (hfid▸hcall),<- hfid,hargs];refine Calls.mono (hsound w G.S (G.bk b) F E0 us us' q r h5 (I.am.keep w h.below) (by rcases (h.olt _ _ M).1 with hh | hh;exact I.am.nw hh;exact I.am.rows _ hh.2) hh0 hT'
   (λbb oo l=>⟨(h.sok bb oo l).1,λe=>(h.sok bb oo l).2 b (by rw[e];exact M)⟩) (R.length▸hn.1) (U.length▸hn.2) R.one U.one) λe w' he=>?_
  obtain⟨rfl,hoff,hkl,S2,vs',Et',X,hcont,Y⟩:=he;obtain⟨hcl,Z⟩:=hcont.get;have h6:Inv w0 G (S.setB b (some (List.replicate vs'.length .undef))) a w':=by
   refine h.Vp b n hoff hkl X (cu.mk (by simp) λi c1 v1 p A=>?_);have:c1=.undef:=by
    have:=zG p;exact (List.mem_replicate.1 this).2
   subst this;have hl:i<(s.c.t.cells r.1).length:=by
    have:=(zC.1 A).1;omega
   exact (Z i _ v1 (zF hl) A).one
  have H:∀bb,w.heap.size<=bb->∀x,G.ow bb≠some x:=λbb hb x V=>by
   have:=(h.olt _ _ V).2;omega
  obtain⟨h7,m7⟩:=h6.VI (λbb oo=>w.heap.size<=bb/\S2 bb oo) (λbb oo hh=>⟨(Y bb oo hh.2).2,λi=>H bb hh.1 _,λk j t xs deep m _ len cap _ how=>absurd how (H bb hh.1 _)⟩)
   (λbb oo hh=>.inl (Nat.le_trans h.below.size hh.1)) (λbb oo hh k j t xs _=>H bb hh.1 _)
  have hmv:∀ {dd:D} {u:Value},Rep w' S2 dd u->Rep w' (λbb oo=>G.S bb oo\/(w.heap.size<=bb/\S2 bb oo)) dd u:=λJ=>J.move λbb oo l=>⟨(Y bb oo l).1.imp id λhb=>⟨hb,l⟩,rfl⟩
  have hblt:b<S.boxes.length:=by
   rcases Nat.lt_or_ge b S.boxes.length with hl | hl
   ·exact hl
   ·have:=n;simp[St.fJ,zE,zJ hl]at this
  have h8:=h7.TG b (cs':=(s.c.t.cells r.1).map .d) (vs:=vs') (Et:=Et') (by rw[gy,if_pos ⟨rfl,hblt⟩]) X
   (cu.mk (by simp[hcl]) λi c1 v1 p A=>by
    rw[List.getElem?_map,Option.map_eq_some_iff]at p;obtain⟨d1,hd1,rfl⟩:=p;exact hmv (Z i d1 v1 hd1 A))
  have eS:(S.setB b (some (List.replicate vs'.length C.undef))).setB b (some ((s.c.t.cells r.1).map .d))=S.setB b (some ((s.c.t.cells r.1).map .d)):=by
   simp[St.setB]
  rw[eS]at h8;cases hr2:r.2 with
  | true=>
   rw[hr2]at g;simp only[ab,zD]at g;subst g;have:=h8.dst (o:=o) (av:=.v (.agg cy)) (v:=a.eval y) (aY h8 (by rw[OX];exact L));rw[O]at this;exact hK _ _ _ this
  | false=>
   rw[hr2]at g;simp only[aa,zD]at g;subst g;have:=h8.dst (o:=o) (av:=.v (.agg cz)) (v:=a.eval z) (aY h8 (by rw[OX];exact h3));rw[T]at this;exact hK _ _ _ this
theorem aeu(h:Inv w0 G S a w){c:Call}{f:FuncId}(I:o.op=.call c)(hc:c.callee=.value (.func f)){E:Env}(r:oM P E w0){ws:List W}(l:(akt E o c f).val S=some ws)
  (u:∀a' w' G',Inv w0 G' (S.puts ws) a' w'->K a' w'):o.wp P a w K Q:=by
 unfold akt at l;split at l
 case h_2=>exact ace h I hc r l u
 rename_i s g;have hfid:s.fid=f:=by have:=List.find?_some g;simpa using this
 obtain⟨hcall,hsound⟩:=r.2.2.2.2.2.1 s (List.mem_of_find?_eq_some g);simp only[Rd.aH,zB]at l;obtain⟨vs,L,z,M,l⟩:=l;simp only[Rd.val,zB]at l;obtain⟨y,N,l⟩:=l;split at l
 case isFalse=>cases l
 rename_i A;simp only[Rd.aH,zB,Rd.val,zD]at l;obtain⟨ws',O,rfl⟩:=l;have C:=kL h L;generalize hkeys:aP (vs.flatMap V.cells)=keys at *;have hargs:(c.args.map a.eval)=(c.args.toList.map a.eval).toArray:=by cases c.args;simp
 have R:=mQ h keys 0 M C λk j z' T U=>by rw[<- hkeys];exact mJ T U
 obtain⟨J,p,X⟩:=Inv.ru keys h A;unfold Oper.wp;rw[jf I hc (hfid▸hcall),<- hfid,hargs];refine Calls.mono (hsound w J.S (c.args.toList.map a.eval) z y N (r.am.keep w h.below) (R.imp λi d v Y=>Y.move λbb oo g=>⟨(X.s bb oo).2 g,rfl⟩) λbb oo g=>(p.sok bb oo g).1) λe w' Z=>?_
 obtain⟨v,rfl,hbel,S2,us,rfl,hres,q⟩:=Z;have h6:=p.grow hbel;have n:∀bb,w.heap.size<=bb->∀x,J.ow bb≠some x:=λbb D x F=>by
  have:=(p.olt _ _ F).2;omega
 obtain⟨h7,m7⟩:=h6.VI (λbb oo=>w.heap.size<=bb/\S2 bb oo) (λbb oo hh=>⟨(q bb oo hh.2).2,λi=>n bb hh.1 _,λk j t xs deep m _ len cap _ H=>absurd H (n bb hh.1 _)⟩)
  (λbb oo hh=>.inl (Nat.le_trans h.below.size hh.1)) (λbb oo hh k j t xs _=>n bb hh.1 _)
 obtain⟨G8,h8⟩:=h7.ahP (B:=w.heap.size) (λc x F=>(p.olt _ _ F).2) h.below.size hres (λb o g=>(q b o g).1.imp id λD=>⟨D,g⟩) (λb o D g=>g.elim (λg=>absurd (p.sok b o g).1 (by omega)) λg=>g.2)
  (S0:=S) (λd hd=>gZ keys S d hd) O
 simp only[eP]at u;exact u _ _ _ h8
theorem aex(h:Inv w0 G S a w){c:Call}{f:FuncId}(ho:o.op=.call c)(hc:c.callee=.value (.func f)){E:Env}(U:oM P E w0){ws:List W}(l:(akv E o c f).val S=some ws)
  (hK:∀a' w' G',Inv w0 G' (S.puts ws) a' w'->K a' w'):o.wp P a w K Q:=by
 unfold akv at l;split at l
 ·rename_i s x xs g hxs;have hfid:s.fid=f:=by have:=List.find?_some g;simpa using this
  obtain⟨hcall,hsound⟩:=U.2.2.2.1 s (List.mem_of_find?_eq_some g);simp only[Rd.aH,zB]at l;obtain⟨ap,h1,l⟩:=l;have hpr:=aY h h1;split at l
  case h_2=>cases l
  rename_i b;simp only[Rd.val]at l;split at l
  case h_2=>cases l
  rename_i cs hcs;simp only[Rd.aH,zB]at l;obtain⟨vs,h2,z,h3,l⟩:=l;simp only[Rd.val,zB]at l;obtain⟨y,h4,l⟩:=l;obtain⟨hob,X,E0,hh0,hcs0⟩:=h.box b cs hcs;have hptr:a.eval x=.pointer (some ⟨G.bk b,0,none⟩):=hpr.2;have Y:=kL h h2;have hvs':kz G w (.agg cs::vs) (.agg X.toArray::xs.map a.eval):=⟨⟨X,rfl,hcs0⟩,Y⟩;have hargs:(c.args.map a.eval)=(Value.pointer (some ⟨G.bk b,0,none⟩)::xs.map a.eval).toArray:=by
   have:c.args.map a.eval=(c.args.toList.map a.eval).toArray:=by cases c.args;simp
   rw[this,hxs];simp[hptr]
  generalize hkeys:aP ((V.agg cs::vs).flatMap V.cells)=keys at *;have main:∀(rs:List Sh) (y:Tup rs),(afD o s.ex E.trees s.sh b cs.length keys rs y).val S=some ws ->
    (∀(S1:Nat->Nat->Prop),(∀bb oo,(G.S bb oo\/AK G S keys bb oo)->S1 bb oo)->(∀bb oo,S1 bb oo->bb<w.heap.size/\bb≠G.bk b) ->
     Calls P f (c.args.map a.eval) w λe w'=>∃v,e=.returned v/\jL (λc=>c=G.bk b) w.heap.size w w'/\jr w w' (G.bk b)/\ahL w.heap.size w' S1 (G.bk b) s.ex s.sh rs y v)->o.wp P a w K Q:=by
   intro rs y l hcalls;cases rs with
   | nil=>cases l
   | cons c0 rs=>
   rw[afD]at l;split at l
   case isFalse=>cases l
   split at l
   case isFalse=>cases l
   split at l
   case isFalse=>cases l
   rename_i hca hct Z;simp only[Rd.aH,zB,Rd.val,zD]at l;obtain⟨ws',A,rfl⟩:=l;obtain⟨I,F,m5⟩:=Inv.ru keys h Z;have J:∀bb oo,I.S bb oo->bb<w.heap.size/\bb≠G.bk b:=λbb oo g=>⟨(F.sok bb oo g).1,λe=>(F.sok bb oo g).2 b (by rw[m5.ow,e];exact hob)⟩
   unfold Oper.wp;rw[jf ho hc (hfid▸hcall)];refine Calls.mono (hcalls I.S (λbb oo hh=>(m5.s bb oo).2 hh) J) λe w' he=>?_
   obtain⟨v,rfl,hoff,hkl,S2,vs',Et',us,rfl,L,hcont,R,n⟩:=he;have M:I.bk b=G.bk b:=by rw[m5.bk]
   have hgb:(S.puts (keys.map λq=>W.nomut q.1 q.2)).fJ b=some cs:=by rw[jJ];exact hcs
   obtain⟨hcl,N⟩:=hcont.get;have h6:Inv w0 I ((S.puts (keys.map λq=>W.nomut q.1 q.2)).setB b (some (List.replicate vs'.length .undef))) a w':=by
    refine F.Vp b hgb (by rw[M];exact hoff) (by rw[M];exact hkl) (by rw[M];exact L) (cu.mk (by simp) λi c1 v1 r H=>?_);have:c1=.undef:=by
     have:=zG r;exact (List.mem_replicate.1 this).2
    subst this;have hl:i<(c0.t.cells (jV y)).length:=by
     have:=(zC.1 H).1;omega
    exact (N i _ v1 (zF hl) H).one
   have hw':=hoff.size;have p:∀bb,w.heap.size<=bb->∀x,I.ow bb≠some x:=λbb T x O=>by
    have:=(F.olt _ _ O).2;omega
   obtain⟨h7,m7⟩:=h6.VI (λbb oo=>w.heap.size<=bb/\S2 bb oo) (λbb oo hh=>⟨(n bb oo hh.2).2,λi=>p bb hh.1 _,λk j t xs deep m _ len cap _ how=>absurd how (p bb hh.1 _)⟩)
    (λbb oo hh=>.inl (Nat.le_trans h.below.size hh.1)) (λbb oo hh k j t xs _=>p bb hh.1 _)
   have hmv:∀ {dd:D} {u:Value},Rep w' S2 dd u->Rep w' (λbb oo=>I.S bb oo\/(w.heap.size<=bb/\S2 bb oo)) dd u:=λhr=>hr.move λbb oo g=>⟨(n bb oo g).1.imp id λT=>⟨T.2,g⟩,rfl⟩
   have hblt:b<(S.puts (keys.map λq=>W.nomut q.1 q.2)).boxes.length:=by
    rcases Nat.lt_or_ge b (S.puts (keys.map λq=>W.nomut q.1 q.2)).boxes.length with hl | hl
    ·exact hl
    ·have:=hgb;simp[St.fJ,zE,zJ hl]at this
   have h8:=h7.TG b (cs':=(c0.t.cells (jV y)).map .d) (vs:=vs') (Et:=Et') (by
     rw[gy,if_pos ⟨rfl,hblt⟩]) (by show w'.heap[I.bk b]?=_;rw[M];exact L)
    (cu.mk (by simp[hcl]) λi c1 v1 r H=>by
     rw[List.getElem?_map,Option.map_eq_some_iff]at r;obtain⟨d1,hd1,rfl⟩:=r;exact hmv (N i d1 v1 hd1 H))
   have eS:((S.puts (keys.map λq=>W.nomut q.1 q.2)).setB b (some (List.replicate vs'.length C.undef))).setB b (some ((c0.t.cells (jV y)).map .d))=(S.puts (keys.map λq=>W.nomut q.1 q.2)).setB b (some ((c0.t.cells (jV y)).map .d)):=by
    simp[St.setB]
   rw[eS]at h8;have hO:∀d,S.aI d=[]->((S.puts (keys.map λq=>W.nomut q.1 q.2)).setB b (some ((c0.t.cells (jV y)).map .d))).aI d=[]:=λd hd=>by rw[Rz];exact gZ keys S d hd
   simp only[eP]at hK;cases hex:s.ex with
   | false=>
    rw[hex]at R A;obtain⟨G8,h10⟩:=h8.ahP (B:=w.heap.size) (λc x O=>(F.olt _ _ O).2) h.below.size R (λb o g=>(n b o g).1.imp id λT=>⟨T.2,g⟩) (λb o T g=>g.elim (λg=>absurd (F.sok b o g).1 (by omega)) λg=>g.2)
     (S0:=S) hO A
    exact hK _ _ _ h10
   | true=>
    rw[hex]at R A;obtain⟨G8,h10⟩:=h8.ahQ (B:=w.heap.size) (λc x O=>(F.olt _ _ O).2) h.below.size (λb o g=>g.elim (λg=>(F.sok b o g).1) λg=>((n b o g.2).1.elim (λq=>(J b o q).1) λq=>by rw[hex]at q;cases q.1)) R (S0:=S) hO A;exact hK _ _ _ h10
  refine main s.rs y l λS1 J hlt=>?_
  have R:=mQ h keys 0 h3 hvs' λk j z' hz hm=>by
   rw[<- hkeys];exact mJ hz hm
  rw[<- hfid,hargs];exact hsound w S1 (G.bk b) X E0 (xs.map a.eval) z y h4 (U.am.keep w h.below) (by rcases (h.olt _ _ hob).1 with hh | hh;exact U.am.nw hh;exact U.am.rows _ hh.2) hh0 (R.imp λi d v hr=>hr.move λbb oo g=>⟨J bb oo g,rfl⟩) hlt
 ·split at l
  case h_2=>exact aeu h ho hc U l hK
  rename_i s d g hd;have hfid:s.fid=f:=by have:=List.find?_some g;simpa using this
  obtain⟨hcall,hsound⟩:=U.2.2.2.2.1 s (List.mem_of_find?_eq_some g);simp only[Rd.aH,zB]at l;obtain⟨vs,h2,z,h3,l⟩:=l;simp only[Rd.val,zB]at l;obtain⟨y,h4,l⟩:=l;split at l
  case isFalse=>cases l
  rename_i Z;simp only[Rd.aH,zB,Rd.val,zD]at l;obtain⟨ws',A,rfl⟩:=l;unfold xW at A;split at A
  case isTrue=>cases A
  rename_i hd0;simp only[Rd.val]at A;split at A
  case h_2=>cases A
  rename_i hgB;simp only[Rd.val,zD]at A;subst A;have Y:=kL h h2;generalize hkeys:aP (vs.flatMap V.cells)=keys at *;have hargs:(c.args.map a.eval)=(c.args.toList.map a.eval).toArray:=by cases c.args;simp
  have R:=mQ h keys 0 h3 Y λk j z' hz hm=>by rw[<- hkeys];exact mJ hz hm
  obtain⟨I,F,m5⟩:=Inv.ru keys h Z;unfold Oper.wp;rw[jf ho hc (hfid▸hcall),<- hfid,hargs];refine Calls.mono (hsound w I.S (c.args.toList.map a.eval) z y h4 (U.am.keep w h.below) (R.imp λi d v hr=>hr.move λbb oo g=>⟨(m5.s bb oo).2 g,rfl⟩) λbb oo g=>(F.sok bb oo g).1) λe w' he=>?_
  obtain⟨bb,rfl,hbel,hbb,vs',Et',S2,L,hcont,n⟩:=he;have h6:=F.grow hbel;have p:∀bb,w.heap.size<=bb->∀x,I.ow bb≠some x:=λbb T x O=>by
   have:=(F.olt _ _ O).2;omega
  obtain⟨h7,m7⟩:=h6.VI (λbb oo=>w.heap.size<=bb/\S2 bb oo) (λbb oo hh=>⟨(n bb oo hh.2).2.1,λi=>p bb hh.1 _,λk j t xs deep m _ len cap _ how=>absurd how (p bb hh.1 _)⟩)
   (λbb oo hh=>.inl (Nat.le_trans h.below.size hh.1)) (λbb oo hh k j t xs _=>p bb hh.1 _)
  obtain⟨hcl,N⟩:=hcont.get;obtain⟨G8,h8⟩:=h7.xW d bb hd0 (by rw[jJ];exact hgB) (Nat.le_trans h.below.size hbb)
   (by
    show I.ow bb=none
    cases O:I.ow bb with
     | none=>rfl
     | some x=>exact absurd O (p bb hbb x))
   (λoo g=>by
    rcases g with g | ⟨_,g⟩
    ·have:=(F.sok bb oo g).1;omega
    ·exact (n bb oo g).2.2 rfl) L (cs:=(dF s.rs y).map .d) (cu.mk (by simp[hcl]) λi c1 v1 r H=>by
     rw[List.getElem?_map,Option.map_eq_some_iff]at r;obtain⟨d1,hd1,rfl⟩:=r;exact (N i d1 v1 hd1 H).move λbb oo g=>⟨(n bb oo g).1.imp id λT=>⟨T,g⟩,rfl⟩)
  rw[hd];simp only[eP]at hK;exact hK _ _ _ h8
theorem GU{S:St}{c:Sh}{rs:List Sh}{x:V}{xs:List V}{y:Tup (c::rs)}(a:(vTs (c::rs) (x::xs)).val S=some y):(vT c x).val S=some (jV y)/\(vTs rs xs).val S=some (yG y):=by
 cases rs with
 | nil=>cases xs with
  | nil=>exact⟨a,rfl⟩
  | cons=>simp[vTs,Rd.val]at a
 | cons s r=>
  simp only[vTs,Rd.aH,zB,Rd.val,zD]at a;obtain⟨p,b,q,d,rfl⟩:=a;exact⟨b,d⟩
theorem ada{S:St}{p:Sh}{cs:List C}{y:p.t.den}(h:(vT p (.agg cs)).val S=some y):p.agg=true/\cs.length=p.t.size/\(cDs p.t.tys cs).val S=some (p.t.cells y):=by
 simp only[vT]at h;split at h
 ·rename_i a;simp only[Rd.aH,zB,Rd.val]at h;obtain⟨ds,c,z,d,b⟩:=h;simp only[zD]at b;subst b;exact⟨a.1.symm,a.2,by rw[Ty.dU d];exact c⟩
 ·cases h
theorem aV.of{R:Nat->D->Value->Prop}:∀ {n:Nat} {ds:List D} {vs:List Value},ds.length=vs.length->(∀(i:Nat) (d:D) (v:Value),ds[i]?=some d->vs[i]?=some v->R (n+i) d v)->aV R n ds vs
 | n,[],[],_,_=>trivial
 | n,d::ds,v::vs,a,h=>⟨h 0 d v rfl rfl,aV.of (by simpa using a) λi d' v' b c=>by
   have:=h (i+1) d' v' b c;rwa [show n+(i+1)=n+1+i by omega]at this⟩
theorem aV.pt{R:Nat->D->Value->Prop}:∀ {n:Nat} {ds:List D} {vs:List Value},aV R n ds vs->ds.length=vs.length/\∀(i:Nat) (d:D) (v:Value),ds[i]?=some d->vs[i]?=some v->R (n+i) d v
 | n,[],[],_=>⟨rfl,λi d v h=>by simp at h⟩
 | n,d::ds,v::vs,h=>by
  obtain⟨c,e⟩:=aV.pt h.2;refine⟨by simp[c],λi d' v' a b=>?_⟩;cases i with
  | zero=>cases a;cases b;exact h.1
  | succ i=>
   have:=e i d' v' a b;rwa [show n+1+i=n+(i+1) by omega]at this
theorem OwT.app{w:World}{S:Nat->Nat->Prop}{deep m:Bool}{t:Ty}{xs:List t.den}{v:Value}{fp:Nat->Prop}(h:OwT w S deep m t xs v fp):OwT w S false false t xs v fp:=by
 rcases h with h | ⟨b,cap,arr,E,vs,fps,e,f,g,k,l,n,p,q,r,a,c⟩
 ·exact .inl h
 ·exact .inr ⟨b,cap,arr,E,vs,fps,e,f,g,k,l,n,p,λi x j d s u=>(q i x j d s u).sub (λ_ y=>y) (by simp),r,a,λo z=>⟨rfl,(c o z).2⟩⟩
theorem Jk:∀(keys:List (Nat×Nat)) (S:St) {k j:Nat},(k,j)∉keys->aZ ((S.puts (keys.map λq=>W.nomut q.1 q.2)).aI k) j=aZ (S.aI k) j
 | [],S,k,j,_=>rfl
 | q::r,S,k,j,h=>by
  show aZ (((S.put (.nomut q.1 q.2)).puts (r.map λq=>W.nomut q.1 q.2)).aI k) j=_
  rw[Jk r _ λa=>h (ao _ a)];show aZ ((S.bI q.1 ((S.aI q.1).set q.2 (aZ (S.aI q.1) q.2).Ad)).aI k) j=_
  rw[bg];split
  ·rename_i hk;rw[gu];split
   ·rename_i b;exact absurd (by rw[<- hk.1,<- b.1];exact aq) h
   ·rw[hk.1]
  ·rfl
theorem Inv.alj(h:Inv w0 G S a w)(i:Nat){cs cs':List C}(z:S.fJ i=some cs){R:Nat->Prop}{w':World}(hoff:jL (λc=>c=G.bk i\/R c) w.heap.size w w')(H:∀b o,G.S b o->w'.cell? ⟨b,o,none⟩=w.cell? ⟨b,o,none⟩)
  (A:∀c,R c->w0.nw c/\(∀i,G.ow c≠some (.box i))/\∀k j t xs deep m,G.ow c=some (.own k j)->(aZ (S.aI k) j).dY≠.own t xs deep m) (l:∀b,w0.bx≠some (b,true))
  {vs':List Value} {Et:TypeId} (hh:w'.heap[G.bk i]?=some (.cells vs'.toArray Et (0,0))) (hc:cu G w' cs' vs'):Inv w0 G (S.setB i (some cs')) a w':=by
 obtain⟨r,_⟩:=h.box i cs z;have D:=h.olt _ _ r;have B:Mv G G w w':=⟨λb o n=>⟨n,H b o n⟩,λk hk=>⟨hk,λ_=>rfl⟩,λi z=>⟨z,rfl⟩⟩;have hilt:i<S.boxes.length:=by
  rcases Nat.lt_or_ge i S.boxes.length with E | E
  ·exact E
  ·simp[St.fJ,zE,zJ E]at z
 have I:=h.below.size;refine⟨h.below.trans ⟨hoff.os,hoff.tape,hoff.output,hoff.size,λk hk p=>hoff.block k (by omega) λe=>?_⟩,h.nodef,h.tsz,by simp[St.setB,h.bsz],by simp[St.setB,h.osz],λx v J=>(h.tmps x v J).move B,?_,?_,?_,?_,h.lk,?_,h.sfr,h.Px B,λb y u=>⟨(h.fx b y u).1,λK _=>absurd (K▸u) (l b)⟩⟩
 ·rcases e with e | e
  ·subst e;rcases D.1 with (q | q) | ⟨_,q⟩
   ·omega
   ·exact p q.1
   ·exact p q
  ·rcases (A k e).1 with q | q
   ·omega
   ·exact p q.1
 ·intro x y l;exact⟨(h.olt x y l).1,aD (h.olt x y l).2 hoff.size⟩
 ·intro x o n;exact⟨aD (h.sok x o n).1 hoff.size,(h.sok x o n).2⟩
 ·intro x cs'' hcs'';rw[gy]at hcs'';by_cases f:i=x
  ·subst f;rw[if_pos ⟨rfl,hilt⟩]at hcs'';cases hcs''
   exact⟨r,vs',Et,hh,hc⟩
  ·rw[if_neg (λe=>f e.1)]at hcs'';obtain⟨g,vs'',E',F,d⟩:=h.box x cs'' hcs'';refine⟨g,vs'',E',(hoff.block _ (h.olt _ _ g).2 λe=>?_).trans F,d.move B⟩;rcases e with e | e
   ·rw[e,r]at g;cases g
    exact f rfl
   ·exact (A _ e).2.1 x g
 ·intro k j;refine (h.owns k j).same rfl B.s (λt xs deep m l=>⟨λc d=>⟨d,hoff.block c (h.olt _ _ d).2 λe=>?_⟩,λ_ _ _ _ _ o n=>.inl n⟩) λt xs l c d=>⟨d,hoff.block c (h.olt _ _ d).2 λe=>?_,λo n=>n⟩
  ·rcases e with e | e
   ·have hc'':G.ow c=some (.own k j):=d;rw[e,r]at hc'';cases hc''
   ·exact (A c e).2.2 k j t xs deep m d (by rw[l];rfl)
  ·rcases e with e | e
   ·have hc'':G.ow c=some (.own k j):=d;rw[e,r]at hc'';cases hc''
   ·exact (A c e).2.2 k j t xs true true d l.aef
 ·intro x l;rw[gy];by_cases f:i=x
  ·rw[if_pos ⟨f,hilt⟩];simp
  ·rw[if_neg (λe=>f e.1)];exact h.lb x l
theorem aeE(h:Inv w0 G S a w){cs:List C}{vs:List V}{f args:List Value}{ap:Nat}{keys:List (Nat×Nat)}(hkeys:aP (cs.set ap .nil++vs.flatMap V.cells)=keys)(n:cu G w cs f)(q:kz G w vs args)
  {r:Nat->Nat->Prop} (g:∀b o,G.S b o\/AK G S keys b o->r b o) {R:Nat->Prop} (s:∀(c:C) (ty:Option Ty) (d:D) (v:Value),cs[ap]?=some c->(cD ty c).val S=some d->l9 G w c v->afQ w r R d v) :
  ∀(ps:List Sh) (z:Tup ps),(vTs ps (.agg cs::vs)).val S=some z->abe w r R ap f args ps z
 | [],z,t=>by simp[vTs,Rd.val]at t
 | p::ps,z,t=>by
  obtain⟨A,B⟩:=GU t;obtain⟨E,F,H⟩:=ada A;obtain⟨I,J⟩:=n.get;obtain⟨K,L⟩:=Gq H (by rw[kE];exact F.symm);refine⟨E,.of (by rw[K,I]) λi d v M N=>?_,(mQ h keys 0 B q λk j x O P=>?_).imp λi d v Q=>Q.move λb o u=>⟨g b o u,rfl⟩⟩
  ·rw[Nat.zero_add];obtain⟨c,ty,hc,l⟩:=L i d M;have m:=J i c v hc N;split
   ·rename_i y;exact s c ty d v (y▸hc) l m
   ·rename_i y;refine (Eg h l m keys λk j e=>?_).move λb o u=>⟨g b o u,rfl⟩
    rw[<- hkeys,zY];refine List.mem_append_left _ (fD (zG (i:=i) ?_));rw[List.getElem?_set_ne (λe=>y e.symm),hc,e]
  ·rw[<- hkeys,zY];exact List.mem_append_right _ (mJ O P)
theorem aev(h:Inv w0 G S a w){c:Call}{f:FuncId}(ho:o.op=.call c)(hc:c.callee=.value (.func f)){E:Env}(hE:oM P E w0){ws:List W}(g:(afl E o c f).val S=some ws)
  (hK:∀a' w' G',Inv w0 G' (S.puts ws) a' w'->K a' w'):o.wp P a w K Q:=by
 unfold afl at g;split at g
 case h_2=>exact aex h ho hc hE g hK
 rename_i sq x xs r hxs;obtain⟨s,ap⟩:=sq;have hfid:s.fid=f:=by have:=List.find?_some r;simpa using this
 obtain⟨hcall,hsound⟩:=hE.mb (s,ap) (List.mem_of_find?_eq_some r);split at g
 case isFalse=>cases g
 rename_i hma;have hbx:=hE.ma hma;simp only[Rd.aH,zB]at g;obtain⟨apv,h1,g⟩:=g;have hpr:=aY h h1;split at g
 case h_2=>cases g
 rename_i b;simp only[Rd.val]at g;split at g
 case h_2=>cases g
 rename_i cs hcs;simp only[Rd.aH,zB]at g;obtain⟨vs,h2,z,h3,g⟩:=g;simp only[Rd.val,zB]at g;obtain⟨y,h4,g⟩:=g;obtain⟨hob,vs0,E0,hh0,hcs0⟩:=h.box b cs hcs;have hptr:a.eval x=.pointer (some ⟨G.bk b,0,none⟩):=hpr.2;have hvs:=kL h h2;have hargs:(c.args.map a.eval)=(Value.pointer (some ⟨G.bk b,0,none⟩)::xs.map a.eval).toArray:=by
  have:c.args.map a.eval=(c.args.toList.map a.eval).toArray:=by cases c.args;simp
  rw[this,hxs];simp[hptr]
 generalize hkeys:aP (cs.set ap .nil++vs.flatMap V.cells)=keys at *;have hamb:qi<=G.bk b:=by rcases (h.olt _ _ hob).1 with hh | hh;exact hE.am.nw hh;exact hE.am.rows _ hh.2
 have main:∀(rs:List Sh) (y:Tup rs),(Zq o b ap cs keys rs y).val S=some ws ->
   (∀(S1:Nat->Nat->Prop) (R:Nat->Prop),abe w S1 R ap vs0 (xs.map a.eval) s.ps z->(∀bb oo,S1 bb oo->bb<w.heap.size/\bb≠G.bk b)->(∀c,R c->qi<=c/\c<w.heap.size/\c≠G.bk b) ->
    Calls P f (c.args.map a.eval) w λe w'=>∃v,e=.returned v/\jL (λc=>c=G.bk b\/R c) w.heap.size w w'/\(∀b o,S1 b o->w'.cell? ⟨b,o,none⟩=w.cell? ⟨b,o,none⟩)/\ahJ w.heap.size w' S1 R (G.bk b) ap v rs y)->o.wp P a w K Q:=by
  intro rs y g hcalls;cases rs with
  | nil=>cases g
  | cons c0 rs=>
  rw[Zq]at g;split at g
  case isFalse=>cases g
  rename_i hcc;obtain⟨hca,hct⟩:=hcc;split at g
  case h_2=>cases g
  rename_i d t ys hd hys;simp only[Rd.aH,zB,Rd.val]at g;obtain⟨w1,H,w2,h6,g⟩:=g;split at g
  case isFalse=>cases g
  rename_i hdl;simp only[Rd.val,zD]at g;subst g;obtain⟨hdO,rfl⟩:=fG h6;have pre:∃(n:Gh) (R:Nat->Prop),Inv w0 n ((S.puts (keys.map λq=>W.nomut q.1 q.2)).puts w1) a w/\More G n (AK G S keys) /\
    ((S.puts (keys.map λq=>W.nomut q.1 q.2)).puts w1).fJ b=some cs/\((S.puts (keys.map λq=>W.nomut q.1 q.2)).puts w1).aI d=[] /\
    (∀c,R c->w0.nw c/\c<w.heap.size/\(∀i,n.ow c≠some (.box i))/\∀k j t xs deep m,n.ow c=some (.own k j)->(aZ (((S.puts (keys.map λq=>W.nomut q.1 q.2)).puts w1).aI k) j).dY≠.own t xs deep m) /\
    ∀(c:C) (ty:Option Ty) (d:D) (v:Value),cs[ap]?=some c->(cD ty c).val S=some d->l9 G w c v->afQ w n.S R d v:=by
   unfold ahU at H;split at H
   ·rename_i k j hcell;split at H
    case isFalse=>cases H
    rename_i M;obtain⟨hkn,M⟩:=gQ M;simp only[Rd.val]at H;split at H
    case h_2=>cases H
    rename_i Y F deep1 m1 hown;simp only[Rd.val,zD]at H;subst H;obtain⟨n,J,U⟩:=Inv.ru keys h M;have ho2:=(Jk keys S hkn).trans hown;have hO:OwT w n.S deep1 m1 Y F (n.ov k j) (fM n k j):=by
     have:=J.owns k j;rw[ho2]at this;exact this
    have h8:=J.tJ k j .dead trivial;refine⟨n,fM n k j,h8,U,by rw[<- hcs];exact jJ keys S b,jR (gZ keys S d hdO),λc0 B=>?_,λc1 ty Z N l A p=>?_⟩
    ·have B:n.ow c0=some (.own k j):=B;refine⟨(J.iR B).1,(J.iR B).2,λi hi=>(by rw[B]at hi;cases hi),λk' j' t2 xs2 d2 m2 I=>?_⟩;rw[B]at I;cases I
     show (aZ (((S.puts (keys.map λq=>W.nomut q.1 q.2)).bI k (((S.puts (keys.map λq=>W.nomut q.1 q.2)).aI k).set j .dead)).aI k) j).dY≠_
     rw[mG];simp[O.dY]
    ·rw[hcell]at l;cases l
     simp only[cD,Rd.val,hown,zD]at A;subst A;have:N=n.ov k j:=by rw[U.ov];exact p.2.1
     rw[this];exact hO.app
   ·rename_i hcell;split at H
    case isFalse=>cases H
    rename_i M;simp only[Rd.val,zD]at H;subst H;obtain⟨n,J,U⟩:=Inv.ru keys h M;refine⟨n,λ_=>False,J,U,by rw[<- hcs];exact jJ keys S b,gZ keys S d hdO,λc0 B=>B.elim,λc1 ty Z N l A p=>?_⟩;rw[hcell]at l;cases l
    cases ty with
    | none=>cases A
    | some Y=>
     simp only[cD,Rd.val,zD]at A;subst A;exact .inl ⟨p,rfl⟩
   ·cases H
  obtain⟨n,R,J,U,hgb,hgd,hR,hap⟩:=pre;generalize hS2:(S.puts (keys.map λq=>W.nomut q.1 q.2)).puts w1=L at *;have hbk:n.bk b=G.bk b:=by rw[U.bk]
  have hlen2:L.tmps.length=S.tmps.length:=by rw[<- J.tsz,h.tsz]
  unfold Oper.wp;rw[jf ho hc (hfid▸hcall)];refine Calls.mono (hcalls n.S R (aeE h hkeys hcs0 hvs (λb o r=>(U.s b o).2 r) hap s.ps z h3) (λbb oo r=>⟨(J.sok bb oo r).1,λe=>(J.sok bb oo r).2 b (by rw[U.ow,e];exact hob)⟩)
   λc hc=>⟨hE.am.nw (hR c hc).1,(hR c hc).2.1,λe=>(hR c hc).2.2.1 b (by rw[U.ow,e];exact hob)⟩) λe w' he=>?_
  obtain⟨v,rfl,hoff,hkeep,T,R',vs',Et',us,rfl,hh',hcont,hT,hS13,hS3,hR'⟩:=he;obtain⟨hcl,hcg⟩:=hcont.pt;have hw':=hoff.size;have hone:∀(i:Nat) (Z:D) (N:Value),(c0.t.cells (jV y))[i]?=some Z->vs'[i]?=some N->N.oneCell'=true:=by
   intro i Z N A p;have hh:=hcg i Z N A p;split at hh
   ·cases Z with
    | list Y F=>exact (OwT.ow hh).one
    | int=>exact Rep.one hh
    | bool=>exact Rep.one hh
    | str=>exact Rep.one hh
   ·exact hh.one
  have h8:Inv w0 n (L.setB b (some (List.replicate vs'.length .undef))) a w':=by
   refine J.alj b hgb (by rw[hbk];exact hoff) hkeep (λc hc=>⟨(hR c hc).1,(hR c hc).2.2⟩) hbx (by rw[hbk];exact hh') (cu.mk (by simp) λi c1 N l p=>?_);have:c1=.undef:=(List.mem_replicate.1 (zG l)).2;subst this;have hl:i<(c0.t.cells (jV y)).length:=by
    have:=(zC.1 p).1;omega
   exact hone i _ N (zF hl) p
  have hno:∀bb,w.heap.size<=bb->∀x,n.ow bb≠some x:=λbb I x hx=>by
   have:=(J.olt _ _ hx).2;omega
  have hfree:∀c,w.heap.size<=c\/R c->w0.nw c/\(∀i,n.ow c≠some (.box i))/\∀k j t xs deep m,n.ow c=some (.own k j)->(aZ (L.aI k) j).dY≠.own t xs deep m:=λc hc=>hc.elim
   (λI=>⟨.inl (Nat.le_trans h.below.size I),λi=>hno c I _,λk j t xs deep m hh=>absurd hh (hno c I _)⟩) λI=>⟨(hR c I).1,(hR c I).2.2⟩
  obtain⟨h9,m9⟩:=h8.VI (λbb oo=>(w.heap.size<=bb\/R bb)/\T bb oo) (λbb oo hh=>⟨(hS3 bb oo hh.2).2,(hfree bb hh.1).2.1,λk j Y F deep1 m1 hx len cap _ how=>absurd (show (aZ (L.aI k) j).dY=.own Y F deep1 m1 by
    have hx:aZ (L.aI k) j=.own Y F deep1 m1:=hx;rw[hx];rfl) ((hfree bb hh.1).2.2 k j _ _ _ _ how)⟩)
   (λbb oo hh=>(hfree bb hh.1).1) (λbb oo hh k j Y F hx how=>absurd (show (aZ (L.aI k) j).dY=.own Y F true true from O.IsT.aef hx) ((hfree bb hh.1).2.2 k j _ _ _ _ how))
  have hS39:∀bb oo,T bb oo->n.S bb oo\/((w.heap.size<=bb\/R bb)/\T bb oo):=λbb oo r=>(hS3 bb oo r).1.imp id λI=>⟨I,r⟩
  have hS93:∀bb oo,n.S bb oo\/((w.heap.size<=bb\/R bb)/\T bb oo)->T bb oo:=λbb oo r=>r.elim (hS13 bb oo) (·.2)
  have hmv:∀ {dd:D} {u:Value},Rep w' T dd u->Rep w' (λbb oo=>n.S bb oo\/((w.heap.size<=bb\/R bb)/\T bb oo)) dd u:=λhr=>hr.move λbb oo r=>⟨hS39 bb oo r,rfl⟩
  obtain⟨u,hu⟩:∃u,vs'[ap]?=some u:=⟨_,zF (by have:=(zC.1 hys).1;omega)⟩;have hOw:OwT w' T false false t ys u R':=by
   have:=hcg ap _ u hys hu;rw[Nat.zero_add,if_pos rfl]at this;exact this
  classical
  obtain⟨G4,h10,m10,hlk,hov,hbk4,hS4,_⟩:=h9.nC d [.own t ys false false] (λ_=>u) (λc=>if R' c then some 0 else none) (by rw[Rz];exact hgd) (by show d<L.tmps.length;rw[hlen2];exact hdl) (by simp)
   (λc j hc=>by
    by_cases hl:R' c
    ·have:=hR' c hl;exact⟨(hfree c this.1).1,this.2,(hfree c this.1).2⟩
    ·rw[if_neg hl]at hc;cases hc)
   (λj=>by
    cases j with
    | zero=>
     show OwT w' _ false false t ys u _
     exact hOw.move (λbb oo r=>⟨hS39 bb oo r,rfl⟩) (λbb I=>⟨if_pos I,rfl⟩) λbb len cap _ _ oo r=>.inl (hS93 bb oo r)
    | succ j=>trivial)
  have hblt:b<L.boxes.length:=by
   rcases Nat.lt_or_ge b L.boxes.length with hl | hl
   ·exact hl
   ·have:=hgb;simp[St.fJ,zE,zJ hl]at this
  have hG4:∀bb oo,G4.S bb oo↔(n.S bb oo\/((w.heap.size<=bb\/R bb)/\T bb oo)):=λbb oo=>by rw[hS4]
  have h11:=h10.TG b (cs':=((c0.t.cells (jV y)).map .d).set ap (.own d 0)) (vs:=vs') (Et:=Et') (by
    rw[acJ,gy,if_pos ⟨rfl,hblt⟩]) (by rw[hbk4];show w'.heap[n.bk b]?=_;rw[hbk];exact hh')
   (cu.mk (by simp[hcl]) λi c1 N l p=>by
    rw[List.getElem?_set]at l;split at l
    ·rename_i hi;subst hi;split at l
     ·cases l
      rw[hu]at p;cases p
      exact⟨hlk,(hov 0).symm,(OwT.ow hOw).one⟩
     ·cases l
    ·rename_i hi;rw[List.getElem?_map,Option.map_eq_some_iff]at l;obtain⟨Z,A,rfl⟩:=l;have:=hcg i Z N A p;rw[Nat.zero_add,if_neg (λe=>hi e.symm)]at this;exact this.move λbb oo r=>⟨(hG4 bb oo).2 (hS39 bb oo r),rfl⟩)
  have h12:=h11.iV d (av:=qC (pM d false 0 rs (yG y))) (v:=pack us) (oq (mF (R:=λ_ dd u=>Rep w' T dd u) (λi dd u hr=>by
   have X:Rep w' G4.S dd u:=hr.move λbb oo r=>⟨(hG4 bb oo).2 (hS39 bb oo r),rfl⟩
   cases dd with
   | list t xs=>exact X
   | int=>exact X
   | bool=>exact X
   | str=>exact X) hT))
  have eS:S.puts (keys.map (λq=>W.nomut q.1 q.2)++(w1++([W.o d [.own t ys false false]]++[.b b (((c0.t.cells (jV y)).map .d).set ap (.own d 0)),.t d (qC (pM d false 0 rs (yG y)))]))) =
    (((L.bI d [.own t ys false false]).setB b (some (((c0.t.cells (jV y)).map .d).set ap (.own d 0)))).iV d (qC (pM d false 0 rs (yG y)))):=by
   rw[eP,eP,hS2];rfl
  have eB:(((L.setB b (some (List.replicate vs'.length C.undef))).bI d [.own t ys false false]).setB b (some (((c0.t.cells (jV y)).map .d).set ap (.own d 0))))=((L.bI d [.own t ys false false]).setB b (some (((c0.t.cells (jV y)).map .d).set ap (.own d 0)))):=by
   simp[St.setB,St.bI]
  rw[eB]at h12;rw[eS]at hK;have hK2:=hK _ _ _ h12;rw[hd];exact hK2
 refine main s.rs y g λS1 R hM hlt hRR=>?_
 rw[<- hfid,hargs];exact hsound w S1 R (G.bk b) vs0 E0 (xs.map a.eval) z y h4 (hE.am.keep w h.below) hamb hh0 hM hlt hRR
theorem agO(h:Inv w0 G S a w){c:Call}{f:FuncId}(H:o.op=.call c)(hc:c.callee=.value (.func f)){E:Env}(r:oM P E w0){ws:List W}(g:(eff E o).val S=some ws)
  (A:∀a' w' G',Inv w0 G' (S.puts ws) a' w'->K a' w'):o.wp P a w K Q:=by
 unfold eff at g;rw[H]at g;simp only[hc]at g;split at g
 ·split at g
  ·rename_i m x y I L;obtain⟨M,N⟩:=r.2.2.1 m (List.mem_of_find?_eq_some I);have hfid:m.fid=f:=by have:=List.find?_some I;simpa using this
   exact agK h H hc hfid (hfid▸M) r.am N L g A
  ·exact aev h H hc r g A
 rename_i s l;have hfid:s.fid=f:=by have:=List.find?_some l;simpa using this
 obtain⟨hcall,hsound⟩:=r.2.1 s (List.mem_of_find?_eq_some l);simp only[Rd.aH,zB]at g;obtain⟨vs,M,x,N,g⟩:=g;simp only[Rd.val,zB]at g;obtain⟨y,h3,g⟩:=g;split at g
 case isFalse=>cases g
 rename_i O;have T:=kL h M;have hargs:(c.args.map a.eval)=(c.args.toList.map a.eval).toArray:=by
  cases c.args;simp
 have upon:∀ {R:Value->World->Prop},Calls P f (c.args.map a.eval) w (λe w'=>∃v,e=.returned v/\R v w')->(∀v w',R v w'->K (a.put o.dst v) w')->o.wp P a w K Q:=by
  intro R hC hR;unfold Oper.wp;rw[jf H hc (hfid▸hcall)];refine Calls.mono hC λe w' he=>?_
  obtain⟨v,rfl,C⟩:=he;exact hR v w' C
 have hcalls:∀(S':Nat->Nat->Prop),(∀b oo,(G.S b oo\/AK G S (aP (vs.flatMap V.cells)) b oo)->S' b oo)->(∀b oo,S' b oo->b<w.heap.size) ->
   Calls P f (c.args.map a.eval) w (λe w'=>∃v,e=.returned v/\(Below w.heap.size w w'/\Yq w.heap.size w' S' s.ex s.rs y v)):=by
  intro S' p U;have:=mQ h (aP (vs.flatMap V.cells)) 0 N T λk j z hz I=>mJ hz I
  rw[<- hfid,hargs];exact hsound w S' _ x y h3 (r.am.keep w h.below) (this.imp λi d v C=>C.move λb oo l=>⟨p b oo l,rfl⟩) U
 have hAlt:∀b oo,AK G S (aP (vs.flatMap V.cells)) b oo->b<w.heap.size:=by
  rintro b oo ⟨k,j,t,xs,deep,m,_,_,n,_⟩;exact (h.olt _ _ n).2
 cases hexs:s.ex with
 | true=>
  refine upon (hcalls (λb oo=>G.S b oo\/AK G S (aP (vs.flatMap V.cells)) b oo) (λ_ _ hh=>hh) (λb oo hh=>hh.elim (λl=>(h.sok b oo l).1) (hAlt b oo))) ?_;rintro v w' ⟨hbel,us,rfl,hres⟩;rw[hexs]at hres;have X:(aff o E.trees s.rs y).val S=some ws:=by
   rw[<- g];unfold aff;simp only[hexs,Bool.true_and];cases o.dst with
   | none=>rfl
   | some d=>by_cases hany:(dF s.rs y).any isList=true<;>simp[hany]
  obtain⟨G8,Y⟩:=(h.grow hbel).ahQ (B:=w.heap.size) (λc x Z=>(h.olt _ _ Z).2) h.below.size (λb o l=>(h.sok b o l).1) hres (S0:=S) (λ_ hd=>hd) X;exact A _ _ _ Y
 | false=>
  have hnk:nodupB (aP (vs.flatMap V.cells))=true:=by simpa [hexs] using O
  obtain⟨D,J,m5⟩:=Inv.ru (aP (vs.flatMap V.cells)) h hnk;refine upon (hcalls D.S (λb oo hh=>(m5.s b oo).2 hh) (λb oo hh=>(J.sok b oo hh).1)) ?_;rintro v w' ⟨hbel,us,rfl,hres⟩;rw[hexs]at hres;obtain⟨S',hT,p⟩:=hres;have h6:=J.grow hbel;obtain⟨h7,m7⟩:=h6.VI (λb oo=>S' b oo/\w.heap.size<=b) (λb oo hh=>by
   have F:∀x,D.ow b≠some x:=λx Z=>by
    have:=(J.olt _ _ Z).2;omega
   exact⟨(p b oo hh.1).2,λi=>F _,λk j t xs deep m _ len cap _ n=>absurd n (F _)⟩) (λb oo hh=>.inl (Nat.le_trans h.below.size hh.2)) (λb oo hh k j t xs _ n=>by
   have:=(J.olt _ _ n).2;have:=hh.2;omega)
  simp only[hexs,aE,if_false,Bool.false_and]at g;cases hdst:o.dst with
  | none=>
   rw[hdst]at g;simp only[Rd.val,zD]at g;subst g;exact A _ _ _ h7
  | some d=>
   rw[hdst]at g;simp only[Rd.val,zD]at g;subst g;have h8:=h7.iV d (av:=qC (pM d false 0 s.rs y)) (oq (mF (R:=λ_ dd u=>Rep w' S' dd u) (λi dd u C=>?_) hT))
   ·refine A _ _ _ (?_:Inv w0 { D with S:=λb o=>D.S b o\/(S' b o/\w.heap.size<=b) } _ _ _);rw[eP];exact h8
   have q:Rep w' (λb oo=>D.S b oo\/(S' b oo/\w.heap.size<=b)) dd u:=C.move λb oo l=>⟨(p b oo l).1.imp id λhb=>⟨l,hb⟩,rfl⟩
   cases dd with
   | list t xs=>exact q
   | int=>exact q
   | bool=>exact q
   | str=>exact q
theorem af8{G':Gh}{w':World}{d:Nat}{ex:Bool}{i:Nat}{dd:D}{u:Value}{S':Nat->Nat->Prop}{fp:Nat->Prop}(c:mr dd=none)(e:Ow w' S' true dd u fp):l9 G' w' (abZ d ex i dd) u:=by
 cases e with
 | int k n=>exact Rep.int _ _
 | bool b=>exact Rep.bool _
 | str v=>exact Rep.str _
 | nil=>cases c
 | ro _ _ _ a=>cases a
 | list=>cases c
theorem agI(h:Inv w0 G S a w){t:TypeId}{p:Operand}(ho:o.op=.load t p){E:Env}(hT:E.tt.ok P=true){agg:Bool}{n k j i sz off:Nat}{ty:Ty}{xs:List ty.den}{m:Nat}
  (hs:lk E.tt.shape t=some (agg,n)) (h1:(dM p).val S=some (.oelt k j i sz off)) (hown:aZ (S.aI k) j=.part ty xs m) {ws:List W} (B:(Tv o agg n k j i sz off ty xs m).val S=some ws)
  (hK:∀a' w' G',Inv w0 G' (S.puts ws) a' w'->K a' w'):o.wp P a w K Q:=by
 obtain⟨hlk,b,len,cap,C,hpv⟩:=aY h h1;unfold Tv at B;split at B
 case h_2=>cases B
 rename_i d hd;split at B
 case isFalse=>cases B
 rename_i hcond;obtain⟨hagg,hoff,hn,hsz⟩:=hcond;subst hagg;subst hoff;simp only[Rd.val,zB,Rd.aH,zD]at B;obtain⟨x,M,ws',h6,rfl⟩:=B;obtain⟨N,rfl⟩:=fG h6;split at M
 case isFalse=>cases M
 rename_i him;subst him;have hO:=h.owns k j;rw[hown]at hO;rcases hO with ⟨he,_⟩ | ⟨b',cap',arr,e,vs,fps,T,hb,hcap,hmax,hasz,hfb,hc,F,hf,hdis⟩
 ·rw[C]at he;cases he
 rw[C]at T;injection T with U e2 e3;injection U with U;injection U with U _ _;subst U;obtain⟨V,H⟩:=UJ hown (by intro e;cases e);have I:k≠d:=λe=>by rw[e,N]at H;simp at H
 obtain⟨td,ti,hu,hi,htsz,htd⟩:=TT.vG hT hs;have s:(ty.cells x).length=ty.size:=Ty.bn ty x;let vals:List Value:=(List.range ty.size).map λq=>vs i q
 have y:vals.length=ty.size:=by simp[vals]
 have J:∀q,q<ty.size->vals[q]?=some (vs i q):=λq r=>by simp[vals,r]
 have hrun:(execOp a.eval o).run P w=.ok (.value (.agg vals.toArray)) w:=by
  have hcell:∀q v,vals[q]?=some v->w.cell? ⟨b,i*sz+0+q,none⟩=some v:=λq v r=>by
   have l:q<ty.size:=by rw[<- y];exact (zC.1 r).1
   rw[J q l]at r;cases r
   obtain⟨dd,hdd⟩:∃dd,(ty.cells x)[q]?=some dd:=⟨_,zF (by rw[s];exact l)⟩;rw[cell_of_row w _ _ _ _ _ hb,Nat.add_zero,<- hsz];exact hc i x q dd M hdd
  have:=ql (P:=P) (w:=w) t b (i*sz+0) td ti hu hi htd vals (by rw[y];omega) hcell;unfold execOp;simp only[ho,hpv,Instr.loadAt,Instr.sureAddr,Sem.run_bind,Sem.run_pure,Result.andThen_ok,this]
 have hcells:aV (λq dd u=>Ow w (λ_ _=>False) true dd u (fps i q)/\vals[q]?=some u) 0 (ty.cells x) vals:=by
  have key:∀(ds:List D) (us:List Value) (q:Nat),ds.length=us.length->(∀p dd u,ds[p]?=some dd->us[p]?=some u->Ow w (λ_ _=>False) true dd u (fps i (q+p))/\vals[q+p]?=some u)->aV (λq dd u=>Ow w (λ_ _=>False) true dd u (fps i q)/\vals[q]?=some u) q ds us:=by
   intro ds;induction ds with
   | nil=>intro us q hl _;cases us with
    | nil=>trivial
    | cons _ _=>simp at hl
   | cons dd ds ih=>intro us q hl hg;cases us with
    | nil=>simp at hl
    | cons u us=>exact⟨hg 0 dd u rfl rfl,ih us (q+1) (by simpa using hl) λp dd' u' h1 A=>by
      have:=hg (p+1) dd' u' (by simpa using h1) (by simpa using A);rwa [show q+(p+1)=q+1+p by omega]at this⟩
  refine key _ _ 0 (by rw[s,y]) λq dd u A h3=>?_
  have l:q<ty.size:=by rw[<- y];exact (zC.1 h3).1
  rw[Nat.zero_add];refine⟨?_,h3⟩;rw[J q l]at h3;cases h3
  exact F i x q dd (ar _) M A
 have hpart:tq G w k j (.part ty xs (i+1)):=iD.succ (by have:=h.owns k j;rw[hown]at this;exact this);refine aW hrun ?_;by_cases z:d<S.tmps.length
 case neg=>
  refine hK _ _ G ?_
  have A:=h.tJ k j _ hpart
  rw[hd]
  show Inv w0 G (((S.bI k ((S.aI k).set j (.part ty xs (i+1)))).bI d _).iV d _) _ _
  rw[Bl h.tsz z,vI (by show ¬d<(S.bI k _).owns.length;rw[A.osz];exact z),vH (S:=S.bI k _) z]
  exact A
 classical
 have A:=h.tJ k j .dead trivial;have X:(S.bI k ((S.aI k).set j .dead)).aI d=[]:=by
  rw[bg,if_neg (λe=>I e.1)];exact N
 have hdead:aZ ((S.bI k ((S.aI k).set j .dead)).aI k) j=.dead:=by
  rw[bg,if_pos ⟨rfl,V⟩,gu,if_pos ⟨rfl,H⟩]
 have hne:EZ true (ty.cells x)≠[]:=by
  intro e;have:ty.cells x=[]:=by simp only[EZ,List.map_eq_nil_iff]at e;exact e
  have hp:=ty.size_pos;rw[<- s,this]at hp;simp at hp
 have hlabd:∀c q,fps i q c->(if hh:∃q,fps i q c then some hh.choose else none)=some q:=λc q hc=>by
  have hh:∃q,fps i q c:=⟨q,hc⟩;rw[dif_pos hh];exact congrArg some (hdis _ _ _ _ _ (ar _) (ar _) hh.choose_spec hc).2
 obtain⟨L,h7,m7,l7,o7,_,s7,w7⟩:=A.nC d (EZ true (ty.cells x)) (λq=>vals.getD q undef) (λc=>if hh:∃q,fps i q c then some hh.choose else none) X z hne
  (λc q hc=>by
   split at hc
   ·rename_i hh;obtain⟨Y,f2,f3⟩:=hf _ _ _ (ar _) hh.choose_spec;have Z:=h.iR Y;refine⟨Z.1,Z.2,λi' f=>?_,λk' j' _ _ _ _ f=>?_⟩
    ·rw[show G.ow c=_ from Y]at f;cases f
    ·rw[show G.ow c=_ from Y]at f;cases f
     rw[hdead];simp[O.dY]
   ·cases hc)
  (λq=>by
   rw[WS];cases r:(ty.cells x)[q]? with
   | none=>trivial
   | some dd=>
    cases dd with
    | int=>trivial
    | bool=>trivial
    | str=>trivial
    | list t' xs'=>
     have l:q<ty.size:=by rw[<- s];exact (zC.1 r).1
     have e:vals.getD q undef=vs i q:=by simp only[zE,J q l,Option.getD_some]
     refine⟨fps i q,λc hc=>hlabd c q hc,?_,λb' oo hs' f=>(hf _ _ _ (ar _) f).2.2 oo hs'⟩;rw[e];exact F i x q _ (ar _) M r)
 have hg2:((S.bI k ((S.aI k).set j .dead)).bI d (EZ true (ty.cells x))).aI k=(S.aI k).set j .dead:=by
  rw[bg,if_neg (λe=>I e.1.symm),bg,if_pos ⟨rfl,V⟩]
 have hpart2:tq L w k j (.part ty xs (i+1)):=by
  show iD w L.S ty xs (i+1) (L.ov k j) (fM L k j)
  rw[(m7.k k hlk).2 j,C,s7];have hkeep:∀c,G.ow c=some (.own k j)->(¬ ∃q,fps i q c)->L.ow c=some (.own k j):=λc hc hn=>by
   rw[w7,dif_neg hn];exact hc
  refine .inr ⟨b,cap,arr,e,vs,fps,by rw[e2,e3],hb,by omega,by omega,by rw[e3];exact hasz,hkeep b hfb (λ⟨q,r⟩=>(hf _ _ _ (ar _) r).2.1 rfl),hc,λi' x' q dd hi'=>F i' x' q dd (by omega),λi' q c hi' hcc=>?_,λi1 q1 i2 q2 c hi1 hi2=>hdis i1 q1 i2 q2 c (by omega) (by omega)⟩;obtain⟨Y,f2,f3⟩:=hf _ _ _ (by omega) hcc;refine⟨hkeep c Y ?_,f2,f3⟩;rintro⟨q',hq'⟩;have:=(hdis _ _ _ _ _ (ar _) (by omega) hq' hcc).1;omega
 have h8:=h7.tJ k j _ hpart2;rw[hg2]at h8;have hst:((S.bI k ((S.aI k).set j .dead)).bI d (EZ true (ty.cells x))).bI k (((S.aI k).set j .dead).set j (.part ty xs (i+1)))=(S.bI k ((S.aI k).set j (.part ty xs (i+1)))).bI d (EZ true (ty.cells x)):=by
  simp only[St.bI,List.set_set];rw[List.set_comm _ _ (Ne.symm I),List.set_set]
 rw[hst]at h8;have h9:=h8.iV d (av:=.v (.agg (Jh d true 0 (ty.cells x)))) (v:=.agg vals.toArray) ⟨vals,rfl,Be (R:=λq dd u=>Ow w (λ_ _=>False) true dd u (fps i q)/\vals[q]?=some u) (λq dd u hw=>by
  cases g:mr dd with
  | none=>exact af8 g hw.1
  | some t'=>
   cases dd with
   | int=>cases g
   | bool=>cases g
   | str=>cases g
   | list t' xs'=>
    refine⟨l7,?_,hw.1.one⟩;rw[o7];simp[hw.2]) hcells⟩
 refine hK _ _ L ?_;rw[hd];exact h9
theorem agM(h:Inv w0 G S a w){t:TypeId}{p:Operand}(ho:o.op=.load t p){E:Env}(hT:E.tt.ok P=true){agg:Bool}{n k j i sz off:Nat}{ty:Ty}{xs:List ty.den}{hm:Bool}
  (hs:lk E.tt.shape t=some (agg,n)) (h1:(dM p).val S=some (.oelt k j i sz off)) (hown:aZ (S.aI k) j=.tree ty xs) {ws:List W} (g:(Vm o agg n k j i sz off ty xs hm).val S=some ws)
  (hK:∀a' w' G',Inv w0 G' (S.puts ws) a' w'->K a' w'):o.wp P a w K Q:=by
 obtain⟨R,b,len,cap,A,T⟩:=aY h h1;unfold Vm at g;split at g
 case h_2=>cases g
 rename_i d hd;split at g
 case isFalse=>cases g
 rename_i hcond;obtain⟨hagg,U,V,_⟩:=hcond;subst hagg;subst U;simp only[Rd.val,zB]at g;obtain⟨x,hx,g⟩:=g;split at g
 case h_2=>cases g
 rename_i B ys C;split at g
 case isFalse=>cases g
 rename_i hfl;simp only[Rd.aH,zB,Rd.val,zD]at g;obtain⟨ws',h6,rfl⟩:=g;obtain⟨F,rfl⟩:=fG h6;have hO:=h.owns k j;rw[hown]at hO;obtain⟨fp,X,Y,q3⟩:=hO;generalize Z:D.list ty xs=dd at Y;rw[A]at Y;cases Y with
 | ro _ _ _ s=>cases s
 | list ty' xs' b' cap' arr e vs fps _ hb hcap hmax hasz hfb hc H hf hdis=>
 cases Z
 obtain⟨I,u⟩:=UJ hown (by intro e;cases e);have y:k≠d:=λe=>by rw[e,F]at u;simp at u
 obtain⟨td,ti,hu,hi,htsz,htd⟩:=TT.vG hT hs;have hcell:w.cell? ⟨b,i*sz+off,none⟩=some (vs i off):=by
  rw[cell_of_row w _ _ _ _ _ hb,<- V];exact hc i x off _ hx C
 have hrun:(execOp a.eval o).run P w=.ok (.value (vs i off)) w:=by
  have:=qj (P:=P) (w:=w) t b (i*sz+off) td hu htd (vs i off) hcell;unfold execOp;simp only[ho,T,Instr.loadAt,Instr.sureAddr,Sem.run_bind,Sem.run_pure,Result.andThen_ok,this]
 have J:Ow w (λ_ _=>False) true (.list B ys) (vs i off) (fps i off):=H i x off _ hx C;have hole:∀r:Gh,(∀c,fp c->¬fps i off c->r.ow c=some (.own k j))->r.ov k j=G.ov k j->r.S=G.S->tq r w k j (.hole ty xs i off):=λr g1 g2 g3=>by
  refine⟨λc=>fp c/\¬fps i off c,λc hc=>g1 c hc.1 hc.2,?_,λb' oo z f=>q3 b' oo (g3▸z) f.1⟩;refine⟨b,cap,arr,e,vs,λi' q c=>¬(i'=i/\q=off)/\fps i' q c,by rw[g2,A],hb,hcap,hmax,hasz,⟨hfb,λhh=>(hf _ _ _ hh).2 rfl⟩,hc,λi' x' q dd hx' s hne=>(H i' x' q dd hx' s).sub (λc l=>⟨hne,l⟩) id,λi' q c l=>⟨⟨(hf _ _ _ l.2).1,λhh=>?_⟩,(hf _ _ _ l.2).2⟩,λi1 j1 i2 j2 c hc1 hc2=>hdis _ _ _ _ _ hc1.2 hc2.2⟩;exact l.1 (hdis _ _ _ _ _ l.2 hh)
 refine aW hrun ?_;by_cases m:d<S.tmps.length
 case neg=>
  refine hK _ _ G ?_
  have N:=h.tJ k j _ (hole G (λc hc _=>X c hc) rfl rfl)
  rw[hd]
  show Inv w0 G (((S.bI k ((S.aI k).set j (.hole ty xs i off))).bI d _).iV d _) _ _
  rw[Bl h.tsz m,vI (by show ¬d<(S.bI k _).owns.length;rw[N.osz];exact m),vH (S:=S.bI k _) m]
  exact N
 classical
 have N:=h.tJ k j .dead trivial;have L:(S.bI k ((S.aI k).set j .dead)).aI d=[]:=by
  rw[bg,if_neg (λe=>y e.1)];exact F
 have hdead:aZ ((S.bI k ((S.aI k).set j .dead)).aI k) j=.dead:=by
  rw[bg,if_pos ⟨rfl,I⟩,gu,if_pos ⟨rfl,u⟩]
 obtain⟨r,h7,m7,l7,o7,_,s7,w7⟩:=N.nC d [.own B ys true true] (λ_=>vs i off) (λc=>if fps i off c then some 0 else none) L m (by simp)
  (λc q hc=>by
   by_cases hh:fps i off c
   ·have f1:=X c (hf _ _ _ hh).1;have M:=h.iR f1;refine⟨M.1,M.2,λi' f=>?_,λk' j' _ _ _ _ f=>?_⟩
    ·rw[show G.ow c=_ from f1]at f;cases f
    ·rw[show G.ow c=_ from f1]at f;cases f
     rw[hdead];simp[O.dY]
   ·rw[if_neg hh]at hc;cases hc)
  (λq=>by
   cases q with
   | zero=>exact OwT.DT J (λc hc=>if_pos hc) λb' oo z f=>q3 b' oo z (hf _ _ _ f).1
   | succ q=>trivial)
 have hg2:((S.bI k ((S.aI k).set j .dead)).bI d [.own B ys true true]).aI k=(S.aI k).set j .dead:=by
  rw[bg,if_neg (λe=>y e.1.symm),bg,if_pos ⟨rfl,I⟩]
 have h8:=h7.tJ k j _ (hole r (λc hc U=>by rw[w7,if_neg U];exact X c hc) ((m7.k k R).2 j) s7);rw[hg2]at h8;have hst:((S.bI k ((S.aI k).set j .dead)).bI d [.own B ys true true]).bI k (((S.aI k).set j .dead).set j (.hole ty xs i off))=(S.bI k ((S.aI k).set j (.hole ty xs i off))).bI d [.own B ys true true]:=by
  simp only[St.bI,List.set_set];rw[List.set_comm _ _ (Ne.symm y),List.set_set]
 rw[hst]at h8;have h9:=h8.iV d (av:=.v (.one (.own d 0))) (v:=vs i off) ⟨l7,(o7 0).symm,J.one⟩;refine hK _ _ r ?_;rw[hd];exact h9
theorem acN(h:Inv w0 G S a w){E:Env}(A:oM P E w0){ws:List W}(d:(eff E o).val S=some ws)
  (u:∀a' w' G',Inv w0 G' (S.puts ws) a' w'->K a' w'):o.wp P a w K Q:=by
 have z:=A.1;cases q:o.op with
 | move x=>exact aaJ h (.inl q) d u
 | assign x=>exact aaJ h (.inr q) d u
 | pick c x y=>exact agJ h q d u
 | alloc e=>exact aeB h q z d u
 | box e x=>exact agP h q d u
 | build t ps=>exact aey h q z d u
 | buildSlice t n ps=>exact Qh h q z d u
 | load t p=>exact agL h q z d (λagg n k j i sz off ty xs m B C D F=>agI h q z B C D F u) (λagg n k j i sz off ty xs B C D F=>agM h q z B C D F u) u
 | store t p x=>exact aeo h q z A.ma d u
 | nilCheck x=>exact WW h q d u
 | convert H t x=>exact Zk h q z d u
 | binOp bo t x y t'=>exact aeA h q z d u
 | unOp uo t x=>exact agH h q d u
 | makeSlice t l c=>exact UG h q z d u
 | slice t x lo I mx=>exact aep h q z d u
 | fieldAddr s p f=>exact UI h q z d u
 | field t x f=>exact aes h q z d u
 | indexAddr t x i=>exact UH h q z d u
 | index t x i=>exact aer h q z d u
 | extract x i=>exact Zj h q d u
 | call c=>
  cases hc:c.callee with
  | builtin b=>
   cases b<;>first
    | exact aj2 h q hc z d u
    | exact acf h q hc z d u
    | exact Q9 h q (.inl hc) d u
    | exact Q9 h q (.inr hc) d u
    | (unfold eff at d;rw[q]at d;simp only[hc]at d;cases d)
  | value x=>
   cases x with
   | func f=>exact agO h q hc A d u
   | tmp t=>unfold eff at d;rw[q]at d;simp only[hc]at d;cases d
   | const v=>unfold eff at d;rw[q]at d;simp only[hc]at d;cases d
   | global g=>unfold eff at d;rw[q]at d;simp only[hc]at d;cases d
  | invoke r m=>unfold eff at d;rw[q]at d;simp only[hc]at d;cases d
 | _=>unfold eff at d;rw[q]at d;cases d
end ops
