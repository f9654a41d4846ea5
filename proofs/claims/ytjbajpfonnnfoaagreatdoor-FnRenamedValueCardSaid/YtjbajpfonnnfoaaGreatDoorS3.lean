import Derived.Test.YtjbajpfonnnfoaaGreatDoorS2
import Derived.Deep.AppendSrc
set_option linter.unusedSimpArgs false
set_option linter.unusedVariables false
/- Operations: append, stores, slices, calls. -/
namespace Go.Abs
open Go.RowKit
theorem Ow.anyS{w:World}{S S':Nat->Nat->Prop}{dp:Bool}{d:D}{v:Value}{fp:Nat->Prop}(h:Ow w S dp d v fp)(f:dp=true):Ow w S' dp d v fp:=by
 induction h with
 | int k n fp=>exact .int k n fp
 | bool b fp=>exact .bool b fp
 | str v fp=>exact .str v fp
 | nil t fp=>exact .nil t fp
 | ro d v fp a h=>rw[a]at f;cases f
 | list t xs b cap arr E vs fps fp g hcap hmax c e hc i hf hdis ih=>exact .list t xs b cap arr E vs fps fp g hcap hmax c e hc ih hf hdis
section ops
variable {P:Program} {w0:Bs} {G:Gh} {S:St} {a:Act} {w:World} {o:Oper} {K:Act->World->Prop} {Q:Exit->Act->World->Prop}
theorem lW{n:Nat}{u:Unit}(h:gd n=some u):n<=34359738368:=by
 unfold gd at h;split at h
 ·assumption
 ·cases h
theorem OwT.weaken{S:Nat->Nat->Prop}{deep deep' m:Bool}{t:Ty}{xs:List t.den}{v:Value}{fp fp':Nat->Prop}(h:OwT w S deep m t xs v fp)(k:deep'=true->deep=true)(hf:∀c,fp c->fp' c):OwT w S deep' m t xs v fp':=by
 rcases h with h | ⟨b,cap,arr,E,vs,fps,rfl,l,hcap,hmax,e,f,hc,n,a,hdis,o⟩
 ·exact .inl h
 ·exact .inr ⟨b,cap,arr,E,vs,fps,rfl,l,hcap,hmax,e,hf _ f,hc,λi x j d p g=>(n i x j d p g).sub (λ_ hc=>hc) k,λi j c hc=>⟨hf _ (a i j c hc).1,(a i j c hc).2⟩,hdis,o⟩
theorem IA{S S':Nat->Nat->Prop}{dp:Bool}{d:D}{v:Value}{fp fp':Nat->Prop}(a:qw d=none)(h:Ow w S dp d v fp):Ow w S' dp d v fp':=by
 cases h with
 | int k n=>exact .int k n _
 | bool b=>exact .bool b _
 | str v=>exact .str v _
 | nil t fp=>cases a
 | ro d v fp hd'' h''=>exact Rw a h''
 | list=>cases a
theorem JV(t tx ty e:TypeId)(i:TypeInfo)(b:P.underlying t=some (.slice e))(hi:P.info? e=some i)(base:Option Addr)(n cap:Nat)(c:n<=cap)(x:Value)(a:Src P i.size tx x 0 [] w) :
  (Builtin.append_ #[t,tx] ty #[.slice base n cap,x]).run P w=.ok (.slice base n cap) w:=by
 rcases a.kind with ⟨e',hk⟩ | hk<;>cases base<;>simp[Builtin.append_,run_underlying b,run_underlying hk,sizeOf,typeInfo,hi,a.len,c,a.cells,storeCells]
theorem run_append_room'(t tx ty e E:TypeId)(i:TypeInfo)(c:P.underlying t=some (.slice e))(hi:P.info? e=some i)
  (g sLen sCap:Nat) (cur:Array Value) (d:w.heap[g]?=some (.cells cur E (0,0)))
  (x:Value) (m:Nat) (news:List Value) (b:Src P i.size tx x m news w)
  (hroom:sLen+m<=sCap) (hfit:sLen*i.size+news.length<=cur.size) :
  (Builtin.append_ #[t,tx] ty #[.slice (some ⟨g,0,none⟩) sLen sCap,x]).run P w =
   .ok (.slice (some ⟨g,0,none⟩) (sLen+m) sCap) (w.setRow g (cur.toList.take (sLen*i.size)++news++cur.toList.drop (sLen*i.size+news.length)).toArray):=by
 have a:=run_storeCells_at P g (sLen*i.size) E news 0 cur w d (by simpa using hfit) b.one;simp only[Nat.add_zero]at a;rcases b.kind with ⟨e',hk⟩ | hk<;>simp[Builtin.append_,run_underlying c,run_underlying hk,sizeOf,typeInfo,hi,b.len,hroom,b.cells,Addr.add_lit,a]
theorem src_of{T:TypeId}{TT0:TT}(g:TT0.ok P=true){t:Ty}(h:lk TT0.elem T=some t){v:Value}{ys:List t.den}{S':Nat->Nat->Prop}{dp:Bool}{labS:Nat->Prop}
  (k:((∃(ad:Option Addr) (cap:Nat),v=.slice ad 0 cap/\(ad=none->cap=0))/\ys=[])\/∃b off cap news,v=.slice (some ⟨b,off,none⟩) ys.length cap/\(∀p u,news[p]?=some u->w.cell? ⟨b,off+p,none⟩=some u)/\nX w S' dp t ys news labS) :
  ∃news,(∀size,size=t.size->Src P size T v ys.length news w)/\nX w S' dp t ys news labS:=by
 obtain⟨e,inf,z,a,hi,l,m,y,n,o⟩:=TT.jG g h;rcases k with ⟨⟨ad,cap,rfl,c⟩,rfl⟩ | ⟨b,off,cap,news,rfl,q,f⟩
 ·refine⟨[],λsize _=>?_,by simp,by simp,λ_ _=>undef,λ_ _ _=>False,λi x j d r=>by simp at r,λ_ _ _ hh=>hh.elim,λ_ _ _ _ _ hh=>hh.elim⟩;cases ad with
  | none=>rw[c rfl];exact Src.ofNil w a 0
  | some b=>exact Src.ofSlice w a b 0 cap [] (by simp) (by simp) (by simp)
 ·refine⟨news,λsize s=>?_,f⟩;subst s;exact Src.ofSlice w a _ _ cap news f.1 (λj u a=>by rw[addr_add];exact q j u a) f.2.1
theorem mQ(h:Inv w0 G S a w){c:Call}(ho:o.op=.call c)(Y:c.callee=.builtin .append){x y:Operand}{T TX:TypeId}(hargs:c.args = #[x,y])(htys:c.argTypes = #[T,TX])
  {TT0:TT} (hT:TT0.ok P=true) {t:Ty} (ht:lk TT0.elem T=some t) {d:Nat} (hd:o.dst=some d) (Z:S.aQ d=[])
  {xs ys:List t.den} {deep dp m:Bool} {labD labS:Nat->Prop} (hD:OwT w G.S deep m t xs (a.eval x) labD)
  (hY:∃news,(∀size,size=t.size->Src P size TX (a.eval y) ys.length news w)/\nX w G.S dp t ys news labS)
  (s:∀c,labD c->labS c->False)
  (hfree:∀c,labD c\/labS c->w0.nw c/\c<w.heap.size/\(∀i,G.ow c≠some (.box i))/\∀k' j' t xs deep m,G.ow c=some (.own k' j')->(bC (S.aQ k') j').fU≠.own t xs deep m)
  (hgd:xs.length+ys.length<=34359738368)
  (hK:∀a' w' G',Inv w0 G' ((S.cO d [.own t (xs++ys) (deep&&dp) m]).jh d (.v (.one (.own d 0)))) a' w'->K a' w'):o.wp P a w K Q:=by
 obtain⟨e,inf,z,A,hi,f,hby,hz,hzs,hzm⟩:=TT.jG hT ht;have hrun:∀ {v' w'},(Builtin.append_ #[T,TX] o.type #[a.eval x,a.eval y]).run P w=.ok v' w'->(execOp a.eval o).run P w=.ok (.value v') w':=by
  intro v' w' b;refine kX ho Y ?_;simp[builtin,hargs,htys,b]
 have hb47:∀k,k<=34359738368->k*inf.bytes<=140737488355328:=λk hk=>by
  have:=Nat.mul_le_mul hk hby
  omega
 have fin:∀ {v':Value} {w':World} {lab:Nat->Prop},Inv w0 G S a w'->(execOp a.eval o).run P w=.ok (.value v') w'->OwT w' G.S (deep&&dp) m t (xs++ys) v' lab ->
   (∀c,lab c->w0.nw c/\c<w'.heap.size/\(∀i,G.ow c≠some (.box i))/\∀k' j' t xs deep m,G.ow c=some (.own k' j')->(bC (S.aQ k') j').fU≠.own t xs deep m)->o.wp P a w K Q:=by
  intro v' w' lab h' b hO hl;obtain⟨G2,h7⟩:=h'.KU d (v:=v') lab Z hl hO;refine aW b (hK _ _ G2 ?_);rw[hd];exact h7
 have new_free:∀c,c=w.heap.size->w0.nw c/\(∀i,G.ow c≠some (.box i))/\∀k' j' t xs deep m,G.ow c=some (.own k' j')->(bC (S.aQ k') j').fU≠.own t xs deep m:=by
  rintro c rfl;exact⟨.inl h.below.size,λi B=>absurd (h.olt _ _ B).2 (Nat.lt_irrefl _),λk' j' _ _ _ _ B=>absurd (h.olt _ _ B).2 (Nat.lt_irrefl _)⟩
 obtain⟨news,hsrc0,V⟩:=hY;have hsrc:=hsrc0 inf.size f;have q:=V.1;have hone:=V.2.1;by_cases N:ys.length=0
 ·have hyn:=amB N;subst hyn;have hn0:news=[]:=amB (by rw[q];simp);subst hn0;have C:∃base n cap,a.eval x=.slice base n cap/\n<=cap:=by
   rcases hD with ⟨D,_⟩ | ⟨g,cap,arr,E,vs,fps,D,_,hcap,_⟩
   ·exact⟨_,_,_,D,aD _⟩
   ·exact⟨_,_,_,D,hcap⟩
  obtain⟨base,n,cap,D,hn⟩:=C;refine fin (v':=a.eval x) (lab:=labD) h (hrun ?_) ?_ λc hc=>hfree c (.inl hc)
  ·rw[D];exact JV T TX o.type e inf A hi base n cap hn _ hsrc
  ·rw[amA];exact hD.weaken (λe=>(zI _ _▸e).1) λ_ hc=>hc
 ·have hm:ys.length≠0:=N;have grown:∀ {olds:List Value} {cap':Nat} {old:Nat},nX w G.S deep t xs olds labD->xs.length+ys.length<=cap'->cap'=grownCap w (xs.length+ys.length) old e ->
    (Builtin.append_ #[T,TX] o.type #[a.eval x,a.eval y]).run P w=.ok (.slice (some ⟨w.heap.size,0,none⟩) (xs.length+ys.length) cap')
     (w.drew.alloc (.cells (olds.toArray++news.toArray++Builtin.zeroCells z.cells (cap'-(xs.length+ys.length))) e))->o.wp P a w K Q:=by
   intro olds cap' old hLD C hcap' b;have hbel:Below w.heap.size w (w.drew.alloc (.cells (olds.toArray++news.toArray++Builtin.zeroCells z.cells (cap'-(xs.length+ys.length))) e)):=((Below.refl _ _).drew).alloc (by simp) _;have hnew:=heap_alloc_new w.drew (.cells (olds.toArray++news.toArray++Builtin.zeroCells z.cells (cap'-(xs.length+ys.length))) e);refine fin (lab:=λc=>c=w.heap.size\/labD c\/labS c) (h.grow hbel) (hrun b) ?_ ?_
   ·refine Jw hLD V s hnew (rest:=(Builtin.zeroCells z.cells (cap'-(xs.length+ys.length))).toList) ?_ C ?_ ?_ (.inl rfl) ?_ ?_ ?_
    ·simp
    ·rw[hcap'];exact grownCap_le_maxLen w _ _ _ (by unfold maxLen;omega)
    ·simp only[Array.size_append,List.size_toArray,size_zeroCells,hzs,hLD.1,q,<- Nat.add_mul];congr 1;omega
    ·intro c hc;have:=(hfree c hc).2.1;exact⟨.inr hc,Nat.ne_of_lt this,hbel.block c this⟩
    ·intro b' o' l;exact⟨l,hbel.cell (p:=⟨b',o',none⟩) (h.sok b' o' l).1⟩
    ·intro oo l;exact absurd (h.sok _ oo l).1 (Nat.lt_irrefl _)
   ·intro c hc;rcases hc with hc | hc
    ·obtain⟨n1,n2,n3⟩:=new_free c hc;exact⟨n1,by subst hc;simp,n2,n3⟩
    ·obtain⟨n1,n2,n3,n4⟩:=hfree c hc;exact⟨n1,by simp;omega,n3,n4⟩
  rcases hD.laid with ⟨r,rfl⟩ | ⟨g,cap,arr,E,rest,olds,r,W,hcap,hmax,hasz,F,harr,hLD,H⟩
  ·have B:=hb47 ys.length (by omega);have b:=run_append_grow_src (P:=P) w T TX o.type e inf z A hi hz none 0 0 [] (run_firstCells_none w.drew inf.size 0 0 0) _ ys.length news hsrc (by omega) (by omega) (growslice_fits (by omega) (by simpa using B));have I:=grownCap_ge w ys.length 0 e;refine grown (olds:=[]) (cap':=grownCap w ys.length 0 e) (old:=0) ⟨by simp,by simp,λ_ _=>undef,λ_ _ _=>False,λi x j d D=>by simp at D,λ_ _ _ hh=>hh.elim,λ_ _ _ _ _ hh=>hh.elim⟩ (by simpa using I) (by simp) ?_;rw[r];simpa using b
  ·have J:olds.length=xs.length*t.size:=hLD.1;by_cases hroom:xs.length+ys.length<=cap
   ·have hfit:xs.length*inf.size+news.length<=arr.size:=by rw[f,q,<- Nat.add_mul,hasz];exact Nat.mul_le_mul_right _ hroom
    have b:=run_append_room' (P:=P) (w:=w) T TX o.type e E inf A hi g xs.length cap arr W _ ys.length news hsrc hroom hfit;have htake:arr.toList.take (xs.length*inf.size)=olds:=by rw[f,<- J,harr];exact List.take_left
    rw[htake]at b;have O:=setRow_heap w g arr (olds++news++arr.toList.drop (xs.length*inf.size+news.length)).toArray E (0,0) W;have hoth:∀c,c≠g->(w.setRow g (olds++news++arr.toList.drop (xs.length*inf.size+news.length)).toArray).heap[c]?=w.heap[c]?:=λc hc=>setRow_other w g c _ hc
    have L:=hfree g (.inl F);have hcellg:∀oo,oo<xs.length*t.size->(w.setRow g (olds++news++arr.toList.drop (xs.length*inf.size+news.length)).toArray).cell? ⟨g,oo,none⟩=w.cell? ⟨g,oo,none⟩:=by
     intro oo hoo;rw[cell_of_row _ _ _ _ _ _ O,cell_of_row _ _ _ _ _ _ W];rw[List.getElem?_toArray,<- Array.getElem?_toList,harr,ba,amE (by omega),amE (by omega)]
    have h':=h.TY g (w':=w.setRow g (olds++news++arr.toList.drop (xs.length*inf.size+news.length)).toArray) L.1 L.2.2.1 L.2.2.2 rfl rfl rfl (by simp) (λc _ hc=>hoth c hc) (λoo l=>hcellg oo (H oo l).2);refine fin (lab:=λc=>labD c\/labS c) h' (hrun (by rw[r];exact b)) ?_ λc hc=>by simpa using hfree c hc
    refine Jw (labD:=λc=>labD c/\c≠g) hLD V (λc M X=>s c M.1 X) O (rest:=arr.toList.drop (xs.length*inf.size+news.length)) (by simp) hroom hmax ?_ (.inl F) ?_ ?_ ?_
    ·have e1:arr.toList.length=arr.size:=Array.length_toList;simp only[List.size_toArray,a8,amx];rw[e1,hasz,J,q,f];have:xs.length*t.size+ys.length*t.size<=cap*t.size:=by rw[<- Nat.add_mul];exact Nat.mul_le_mul_right _ hroom
     omega
    ·intro c hc;rcases hc with ⟨M,X⟩ | M
     ·exact⟨.inl M,X,hoth c X⟩
     ·have R:c≠g:=λe=>s g F (e▸M)
      exact⟨.inr M,R,hoth c R⟩
    ·intro b' o' l;refine⟨l,?_⟩;by_cases U:b'=g
     ·subst U;exact hcellg o' (H o' l).2
     ·exact World.cell?_of_block (w:=w) (hoth b' U)
    ·intro oo l;have:=H oo l;refine⟨this.1,?_⟩;have:xs.length*t.size<=(xs.length+ys.length)*t.size:=Nat.mul_le_mul_right _ (by omega);omega
   ·have B:=hb47 (xs.length+ys.length) hgd;have holds:∀j u,olds[j]?=some u->w.cell? ((⟨g,0,none⟩:Addr).add j)=some u:=by
     intro j u A;have hj:=(zC.1 A).1;rw[addr_add,amw,cell_of_row _ _ _ _ _ _ W,<- Array.getElem?_toList,harr,amE hj];exact A
    have b:=run_append_grow_src (P:=P) w T TX o.type e inf z A hi hz (some ⟨g,0,none⟩) xs.length cap olds (run_firstCells_some w.drew inf.size xs.length ⟨g,0,none⟩ xs.length cap olds (by rw[f];exact J) (by simpa using holds)) _ ys.length news hsrc (by omega) (by omega) (growslice_fits (by omega) B);have I:=grownCap_ge w (xs.length+ys.length) cap e;refine grown (olds:=olds) (cap':=grownCap w (xs.length+ys.length) cap e) (old:=cap) ?_ I rfl (by rw[r];simpa using b);obtain⟨l1,l2,vs,fps,l3,l4,l5⟩:=hLD;exact⟨l1,l2,vs,fps,l3,λi j c hc=>(l4 i j c hc).1,l5⟩
theorem QT{S:St}{k j d:Nat}{x:O}(a:S.aQ d=[]):(S.cO k ((S.aQ k).set j x)).aQ d=[]:=by
 rw[bK];split
 ·rename_i b;rw[b.1,a];rfl
 ·exact a
theorem BN{S:St}{k j:Nat}:bC ((S.cO k ((S.aQ k).set j .dead)).aQ k) j=.dead:=by
 rw[bK];split
 ·rw[iV];split
  ·rfl
  ·rename_i a b;have:¬j<(S.aQ k).length:=λc=>b ⟨rfl,c⟩
   simp only[bC,zE];rw[zJ (by omega)];rfl
 ·rename_i a;have:¬k<S.owns.length:=λc=>a ⟨rfl,c⟩
  have d:S.aQ k=[]:=by
   simp only[St.aQ,zE];rw[zJ (by omega)];rfl
  rw[d];rfl
theorem U0{S:St}{k j k' j':Nat}:bC ((S.cO k ((S.aQ k).set j .dead)).aQ k') j'=.dead\/bC ((S.cO k ((S.aQ k).set j .dead)).aQ k') j'=bC (S.aQ k') j':=by
 rw[bK];split
 ·rename_i a;rw[iV];split
  ·exact .inl rfl
  ·rw[a.1];exact .inr rfl
 ·exact .inr rfl
theorem aeU{w':World}{S':Nat->Nat->Prop}{t:Ty}{xs:List t.den}{v:Value}{fp fp':Nat->Prop}(h:Ow w' (λ_ _=>False) true (.list t xs) v fp)(hf:∀c,fp c->fp' c)(m:∀b o,S' b o->¬fp b):OwT w' S' true true t xs v fp':=by
 generalize a:D.list t xs=dd at h;cases h with
 | int=>cases a
 | bool=>cases a
 | str=>cases a
 | nil t'=>cases a;exact .inl ⟨rfl,rfl⟩
 | ro _ _ _ k=>cases k
 | list t' xs' b cap arr E vs fps _ n hcap hmax l e hc p f hdis=>
  cases a
  exact .inr ⟨b,cap,arr,E,vs,fps,rfl,n,hcap,hmax,l,hf _ e,hc,λi x j d q k=>(p i x j d q k).move (λ_ _ h=>h.elim) λ_ _=>rfl,λi j c g=>⟨hf _ (f i j c g).1,(f i j c g).2⟩,hdis,λo r=>absurd e (m b o r)⟩
theorem xH.sZ{G:Gh}{w:World}{k j:Nat}{x:O}(h:xH G w k j x){t:Ty}{xs:List t.den}{deep m:Bool}(e:x.sZ=.own t xs deep m):OwT w G.S deep m t xs (G.ov k j) (iZ G k j):=by
 cases x with
 | own t' xs' deep' m'=>cases e;exact h
 | tree t' xs'=>
  cases e
  obtain⟨fp,a,b,c⟩:=h;exact aeU b a c
 | _=>cases e
theorem Qy(h:Inv w0 G S a w){c:Call}(j:o.op=.call c)(e:c.callee=.builtin .append){x y:Operand}{T TX:TypeId}(hargs:c.args = #[x,y])(htys:c.argTypes = #[T,TX])
  {TT0:TT} (k:TT0.ok P=true) {t:Ty} (l:lk TT0.elem T=some t) (f:lk TT0.elem TX=some t) {d:Nat} (m:o.dst=some d) {ax:AV} {b:Nat} (g:ja G w ax (a.eval x)) (i:ja G w (.seg b) (a.eval y))
  {ws:List W} (hv:(ad4 d t ax b).val S=some ws) (n:∀a' w' G',Inv w0 G' (S.puts ws) a' w'->K a' w'):o.wp P a w K Q:=by
 unfold ad4 at hv;cases hv
theorem OwT.aaM{S:Nat->Nat->Prop}{deep:Bool}{t:Ty}{xs:List t.den}{v v':Value}{n:Nat}{fp:Nat->Prop}(h:OwT w S deep true t xs v fp)
  (hv:(v'=.slice none 0 0/\n=0/\v=.slice none 0 0)\/∃b len cap,v=.slice (some ⟨b,0,none⟩) len cap/\n<=len/\v'=.slice (some ⟨b,0,none⟩) n cap):OwT w S deep true t (xs.take n) v' fp:=by
 rcases h with ⟨e,rfl⟩ | ⟨b,cap,arr,E,vs,fps,a,l,C,m,p,r,s,u,y,f,g⟩
 ·rcases hv with ⟨a,_,_⟩ | ⟨b,len,cap,a,_⟩
  ·exact .inl ⟨a,by simp⟩
  ·rw[e]at a;cases a
 ·rcases hv with ⟨_,_,q⟩ | ⟨b',len,cap',k,D,z⟩
  ·rw[a]at q;cases q
  ·rw[a]at k;cases k
   have A:(xs.take n).length=n:=by rw[bc];omega
   refine .inr ⟨b,cap,arr,E,vs,fps,by rw[A];exact z,l,by omega,m,p,r,λi x j d c=>s i x j d ?_,λi x j d c=>u i x j d ?_,y,f,λo B=>?_⟩
   ·rw[amo]at c;split at c<;>simp_all
   ·rw[amo]at c;split at c<;>simp_all
   ·exact absurd (g o B).1 (by simp)
theorem PO(h:Inv w0 G S a w){c:Call}(ho:o.op=.call c)(J:c.callee=.builtin .append){x y:Operand}{T:TypeId}(hargs:c.args = #[x,y])(htys:c.argTypes = #[T,T])
  {TT0:TT} (hT:TT0.ok P=true) {t':Ty} (ht:lk TT0.elem T=some t') {d:Nat} (hd:o.dst=some d) (L:S.aQ d=[]) {k j:Nat} {xs ys:List t'.den} {deep m dp:Bool}
  (M:OwT w G.S deep m t' xs (a.eval x) (iZ G k j)) {cy:C} (N:mV G w cy (a.eval y)) (h6:(cD (some t') cy).val S=some (.list t' ys)) (h5:(if t'.flat=true then Rd.ret true else Dq cy).val S=some dp)
  (hnd:nodupB ((k,j)::aO [cy])=true) (R:xs.length+ys.length<=34359738368)
  (hK:∀a' w' G',Inv w0 G' (S.puts (.upd k j .dead::(if t'.flat=true then []else (aO [cy]).map λq=>W.ro q.1 q.2)++[.o d [.own t' (xs++ys) (deep&&dp) m]]++[.t d (.v (.one (.own d 0)))])) a' w'->K a' w'):o.wp P a w K Q:=by
 let keys:List (Nat×Nat):=if t'.flat then []else aO [cy]
 have hros:(if t'.flat=true then []else (aO [cy]).map λq=>W.ro q.1 q.2)=keys.map λq=>W.ro q.1 q.2:=by
  simp only[keys];split<;>rfl
 obtain⟨B,hnk⟩:=gJ hnd;have U:nodupB keys=true:=by
  by_cases X:t'.flat=true
  ·simp[keys,X,nodupB]
  ·simp only[keys,if_neg X];exact hnk
 have Y:=h.EJ k j .dead trivial;have A:(S.cO k ((S.aQ k).set j .dead)).aQ d=[]:=by
  rw[bK];split
  ·rename_i hkd;rw[hkd.1,L];rfl
  ·exact L
 have hdead:bC ((S.cO k ((S.aQ k).set j .dead)).aQ k) j=.dead:=by
  rw[bK];split
  ·rw[iV];split
   ·rfl
   ·rename_i Z hjl;have:¬j<(S.aQ k).length:=λhl=>hjl ⟨rfl,hl⟩
    simp only[bC,zE];rw[zJ (by omega)];rfl
  ·rename_i Z;have:¬k<S.owns.length:=λhl=>Z ⟨rfl,hl⟩
   have hg0:S.aQ k=[]:=by
    simp only[St.aQ,zE];rw[zJ (by omega)];rfl
   rw[hg0];rfl
 have hsame:∀k' j',(k',j')≠(k,j)->bC ((S.cO k ((S.aQ k).set j .dead)).aQ k') j'=bC (S.aQ k') j':=by
  intro k' j' hne;rw[bK];split
  ·rename_i hkk;rw[iV];split
   ·rename_i hjj;exact absurd (by rw[hkk.1,hjj.1]) hne
   ·rw[hkk.1]
  ·rfl
 by_cases hf:t'.flat=true
 ·have hY:=EM h h6 N h5 (S':=λx o=>G.S x o\/AK G S (aO [cy]) x o) (λx o z=>z);have hY':((∃(ad:Option Addr) (cap:Nat),a.eval y=.slice ad 0 cap/\(ad=none->cap=0))/\ys=[])\/∃b off cap news,a.eval y=.slice (some ⟨b,off,none⟩) ys.length cap/\(∀p u,news[p]?=some u->w.cell? ⟨b,off+p,none⟩=some u)/\nX w G.S dp t' ys news (λ_=>False):=by
   rcases hY with hY | ⟨b,off,cap,news,e1,e2,l1,l2,vs,fps,l3,l4,l5⟩
   ·exact .inl hY
   ·refine .inr ⟨b,off,cap,news,e1,e2,l1,l2,vs,λ_ _ _=>False,λi x j d D E=>⟨(l3 i x j d D E).1,?_⟩,λ_ _ _ hh=>hh.elim,λ_ _ _ _ _ hh=>hh.elim⟩;have z:=uK hf E;exact IA z (l3 i x j d D E).2
  refine mQ Y ho J hargs htys hT ht hd A (labD:=iZ G k j) (labS:=λ_=>False) M (src_of hT ht hY') (λ_ _ hh=>hh.elim) (λc hc=>?_) R λa' w' G' h'=>hK a' w' G' ?_
  ·rcases hc with hc | hc
   ·have l:=h.kY hc;refine⟨l.1,l.2,λi f=>?_,λk' j' F r H I f=>?_⟩
    ·rw[show G.ow c=_ from hc]at f;cases f
    ·rw[show G.ow c=_ from hc]at f;cases f
     rw[hdead];simp[O.fU]
   ·exact hc.elim
  ·rw[hros];simp only[keys,hf,if_true];exact h'
 ·have hk:keys=aO [cy]:=by simp only[keys];rw[if_neg hf]
  obtain⟨G1,h11,n,e11,n11⟩:=Inv.V9 keys Y U;have hAK:∀x o,AK G S (aO [cy]) x o->AK G (S.cO k ((S.aQ k).set j .dead)) keys x o:=by
   rintro x o ⟨k',j',F,r,H,I,hmem,D,rest⟩;exact⟨k',j',F,r,H,I,by rw[hk];exact hmem,by rw[hsame k' j' λe=>B (e▸hmem)];exact D,rest⟩
  have hY:=EM h h6 N h5 (S':=G1.S) (λx o z=>(n.s x o).2 (z.imp id (hAK x o)));have hO1:OwT w G1.S deep m t' xs (a.eval x) (iZ G k j):=by
   refine OwT.move M (λb o z=>⟨(n.s b o).2 (.inl z),rfl⟩) (λb f=>⟨f,rfl⟩) λb len cap hv f o z=>?_
   rcases (n.s b o).1 z with z | ⟨k',j',F,r,H,I,hmem,D,g,_⟩
   ·exact .inl z
   ·have:G.ow b=some (.own k j):=f;rw[this]at g;cases g
    rw[hdead]at D;cases D
  refine mQ h11 ho J hargs htys hT ht hd (n11 d A) (labD:=iZ G k j) hO1 (src_of hT ht hY) (λc hc hc'=>?_) (λc hc=>?_) R λa' w' G' h'=>hK a' w' G' ?_
  ·obtain⟨_,k',j',rfl,g,_⟩:=hc';rw[show G.ow c=_ from hc]at g;cases g
   exact B (by simp[aO])
  ·rcases hc with hc | ⟨_,k',j',rfl,g,F,r,H,I,hown2⟩
   ·have l:=h.kY hc;refine⟨l.1,l.2,λi f=>?_,λk' j' F r H I f=>?_⟩
    ·rw[n.ow,show G.ow c=_ from hc]at f;cases f
    ·rw[n.ow,show G.ow c=_ from hc]at f;cases f
     rw[e11,hdead];split<;>simp[O.CU,O.fU]
   ·have l:=h.kY g;refine⟨l.1,l.2,λi f=>?_,λk'' j'' F r H I f=>?_⟩
    ·rw[n.ow,g]at f;cases f
    ·rw[n.ow,g]at f;cases f
     rw[e11,if_pos (by rw[hk];simp[aO])];rw[hsame k' j' λe=>B (by rw[<- e];simp[aO])];exact O.LP hown2 _ _ _ _
  ·rw[hros];show Inv w0 G' ((S.put (.upd k j .dead)).puts ((keys.map λq=>W.ro q.1 q.2)++[W.o d [O.own t' (xs++ys) (deep&&dp) m]]++[W.t d (AV.v (V.one (C.own d 0)))])) a' w'
   rw[fM,fM];exact h'
theorem Qx(h:Inv w0 G S a w){c:Call}(m:o.op=.call c)(i:c.callee=.builtin .append){x y:Operand}{T TX:TypeId}(hargs:c.args = #[x,y])(htys:c.argTypes = #[T,TX])
  {TT0:TT} (n:TT0.ok P=true) {t:Ty} (p:lk TT0.elem T=some t) (j:lk TT0.elem TX=some t) {d:Nat} (q:o.dst=some d) {ax:AV} {b:Ty} {e f g:Nat} (k:ja G w ax (a.eval x)) (l:ja G w (.suf b e f g) (a.eval y))
  {ws:List W} (hv:(adS d t ax b e f g).val S=some ws) (r:∀a' w' G',Inv w0 G' (S.puts ws) a' w'->K a' w'):o.wp P a w K Q:=by
 unfold adS at hv;cases hv
theorem acM(h:Inv w0 G S a w){c:Call}(J:o.op=.call c)(g:c.callee=.builtin .append){E:Env}(C:E.tt.ok P=true){ws:List W}(hv:(eff E o).val S=some ws)
  (N:∀a' w' G',Inv w0 G' (S.puts ws) a' w'->K a' w'):o.wp P a w K Q:=by
 unfold eff at hv;rw[J]at hv;simp only[g]at hv;split at hv
 case h_2=>cases hv
 rename_i d x y T T' B hxy hTT;have hargs:=xK hxy;split at hv
 case isFalse=>
  split at hv
  case isFalse=>cases hv
  rename_i hTU
  obtain⟨A,hstr⟩:=hTU
  have htys:=xK hTT
  have hsu:=TT.LW C hstr
  simp only[Rd.aK,zB]at hv
  obtain⟨ax,h1,ay,h2,dy,h3,hv⟩:=hv
  have r:=aY h h1
  have V:=qQ h3 (aY h h2)
  split at hv
  case h_2=>cases hv
  rename_i s
  generalize hdd:D.str s=dd at V
  have hsv:∃v:ByteArray,a.eval y=.string v/\s=v.data.toList:=by
   generalize a.eval y=yv at V;cases V<;>cases hdd
   exact⟨_,rfl,rfl⟩
  obtain⟨sv,hyv,rfl⟩:=hsv
  have R:∃news,(∀size,size=(Ty.base .u8).size->Src P size T' (a.eval y) (NU sv.data.toList).length news w)/\nX w G.S true (.base .u8) (NU sv.data.toList) news (λ_=>False):=by
   have hbl:(NU sv.data.toList).length=sv.size:=by unfold NU;rw[amv,Array.length_toList];rfl
   refine⟨byteCells sv,λsize X=>?_,?_,?_,λi _=>((byteCells sv)[i]?).getD undef,λ_ _ _=>False,λi x j d hx B=>?_,λ_ _ _ hh=>hh.elim,λ_ _ _ _ _ hh=>hh.elim⟩
   ·subst X;rw[hyv,hbl];exact Src.ofString w hsu sv
   ·rw[byteCells_length,hbl];exact (Nat.mul_one _).symm
   ·intro u hu;obtain⟨_,_,rfl⟩:=List.mem_map.1 hu;rfl
   ·cases j with
    | succ j=>simp[Ty.cells,Base.cells]at B
    | zero=>
     simp only[Ty.cells,Base.cells,List.getElem?_cons_zero,zD]at B;subst B;unfold NU at hx;rw[amh,ami]at hx;obtain⟨c,hc,rfl⟩:=hx;have e:(byteCells sv)[i*(Ty.base .u8).size+0]?=some (Value.int .u8 c.toNat):=by
      show (byteCells sv)[i*1+0]?=_
      unfold byteCells;rw[Nat.mul_one,Nat.add_zero,amh,hc];rfl
     have e':(byteCells sv)[i]?=some (Value.int .u8 c.toNat):=by
      unfold byteCells;rw[amh,hc];rfl
     refine⟨e.trans (by simp only[e',Option.getD_some]),?_⟩;simp only[e',Option.getD_some];exact .int _ _ _
  split at hv
  ·simp only[Rd.val,zB,Rd.aK,zD]at hv;obtain⟨_,L,ws',l,rfl⟩:=hv;obtain⟨f,rfl⟩:=iP l;refine mQ h J g hargs htys C A B f (xs:=[]) (deep:=true) (m:=true) (labD:=λ_=>False) (labS:=λ_=>False) (.inl ⟨r,rfl⟩) R (λ_ hh=>hh.elim) (λc hc=>(hc.elim id id).elim) (by simpa using lW L) λa' w' G' U=>N a' w' G' ?_
   exact U
  ·rename_i k j;simp only[Rd.val]at hv;split at hv
   case h_2=>cases hv
   rename_i t' xs deep m hown;split at hv
   case isFalse=>cases hv
   rename_i F;subst F;simp only[Rd.val,zB,Rd.aK,zD]at hv;obtain⟨_,L,ws',l,rfl⟩:=hv;obtain⟨f,rfl⟩:=iP l;have hO:=h.owns k j;rw[hown]at hO;have z:OwT w G.S deep m (.base .u8) xs (G.ov k j) (iZ G k j):=hO;rw[<- r.2.1]at z;have h12:=h.EJ k j .dead trivial;have hdO1:(S.cO k ((S.aQ k).set j .dead)).aQ d=[]:=by
    rw[bK];split
    ·rename_i hkd;rw[hkd.1,f];rfl
    ·exact f
   have hdead:bC ((S.cO k ((S.aQ k).set j .dead)).aQ k) j=.dead:=by
    rw[bK];split
    ·rw[iV];split
     ·rfl
     ·rename_i hkl hjl;have:¬j<(S.aQ k).length:=λhl=>hjl ⟨rfl,hl⟩
      simp only[bC,zE];rw[zJ (by omega)];rfl
    ·rename_i hkl;have:¬k<S.owns.length:=λhl=>hkl ⟨rfl,hl⟩
     have hg0:S.aQ k=[]:=by
      simp only[St.aQ,zE];rw[zJ (by omega)];rfl
     rw[hg0];rfl
   have hdp:(deep&&true)=deep:=by simp
   refine mQ h12 J g hargs htys C A B hdO1 (labD:=iZ G k j) (labS:=λ_=>False) z R (λ_ _ hh=>hh.elim) (λc hc=>?_) (lW L) λa' w' G' U=>N a' w' G' ?_
   ·rcases hc with hc | hc
    ·have H:=h.kY hc;refine⟨H.1,H.2,λi I=>?_,λk' j' t2 xs2 d2 m2 I=>?_⟩
     ·rw[show G.ow c=_ from hc]at I;cases I
     ·rw[show G.ow c=_ from hc]at I;cases I
      rw[hdead];simp[O.fU]
    ·exact hc.elim
   ·rw[hdp]at U;exact U
  ·cases hv
 rename_i hTe;subst hTe;have htys:=xK hTT;split at hv
 ·cases hv
 rename_i t A;simp only[Rd.aK,zB]at hv;obtain⟨ax,h1,ay,h2,hv⟩:=hv;split at hv
 ·exact Qy h J g hargs htys C A A B (aY h h1) (aY h h2) hv N
 ·exact Qx h J g hargs htys C A A B (aY h h1) (aY h h2) hv N
 simp only[Rd.aK,zB]at hv;obtain⟨vy,h3,hv⟩:=hv;split at hv
 ·cases hv
 rename_i cy;simp only[Rd.aK,zB]at hv;obtain⟨ys,h4,dp,h5,hv⟩:=hv;have r:=aY h h1;have M:mV G w cy (a.eval y):=yQ h3 (aY h h2);simp only[listOf,Rd.aK,zB,Rd.val,zD]at h4;obtain⟨d0,h6,ys',h7,h8⟩:=h4;have h8':=h8.symm;subst h8';have h9:=D.bD h7;subst h9;let keys:List (Nat×Nat):=if t.flat then []else aO [cy]
 have hros:(if t.flat=true then []else (aO [cy]).map λq=>W.ro q.1 q.2)=keys.map λq=>W.ro q.1 q.2:=by
  simp only[keys];split<;>rfl
 split at hv
 ·simp only[Rd.val,zB,Rd.aK,zD]at hv;obtain⟨_,L,ws',l,rfl⟩:=hv;obtain⟨f,rfl⟩:=iP l;have hgd:ys.length<=34359738368:=lW L;have hnk:nodupB (aO [cy])=true:=by cases cy<;>rfl
  have hnk':nodupB keys=true:=by
   by_cases hff:t.flat=true
   ·simp[keys,hff,nodupB]
   ·simp only[keys,if_neg hff];exact hnk
  by_cases hf:t.flat=true
  ·have R:=EM h h6 M h5 (S':=λx o=>G.S x o\/AK G S (aO [cy]) x o) (λx o X=>X);have hY':((∃(ad:Option Addr) (cap:Nat),a.eval y=.slice ad 0 cap/\(ad=none->cap=0))/\ys=[])\/∃b off cap news,a.eval y=.slice (some ⟨b,off,none⟩) ys.length cap/\(∀p u,news[p]?=some u->w.cell? ⟨b,off+p,none⟩=some u)/\nX w G.S dp t ys news (λ_=>False):=by
    rcases R with R | ⟨b,off,cap,news,e1,e2,l1,l2,vs,fps,l3,l4,l5⟩
    ·exact .inl R
    ·refine .inr ⟨b,off,cap,news,e1,e2,l1,l2,vs,λ_ _ _=>False,λi x j d hx Y=>⟨(l3 i x j d hx Y).1,?_⟩,λ_ _ _ hh=>hh.elim,λ_ _ _ _ _ hh=>hh.elim⟩;have X:=uK hf Y;exact IA X (l3 i x j d hx Y).2
   refine mQ h J g hargs htys C A B f (xs:=[]) (deep:=true) (m:=true) (labD:=λ_=>False) (labS:=λ_=>False) (.inl ⟨r,rfl⟩) (src_of C A hY') (λ_ hh=>hh.elim) (λc hc=>(hc.elim id id).elim) (by simpa using hgd) λa' w' G' U=>N a' w' G' ?_
   rw[hros];simp only[keys,hf,if_true];exact U
  ·have hk:keys=aO [cy]:=by simp only[keys];rw[if_neg hf]
   obtain⟨G1,h11,Z,e11,n11⟩:=Inv.V9 keys h hnk';have R:=EM h h6 M h5 (S':=G1.S) (λx o X=>(Z.s x o).2 (by rw[hk];exact X));refine mQ h11 J g hargs htys C A B (n11 d f) (xs:=[]) (deep:=true) (m:=true) (labD:=λ_=>False) (.inl ⟨r,rfl⟩) (src_of C A R) (λ_ hh=>hh.elim) (λc hc=>?_) (by simpa using hgd) λa' w' G' U=>N a' w' G' ?_
   ·rcases hc with hc | ⟨_,k,j,rfl,how,t',xs',deep',m',hown⟩
    ·exact hc.elim
    ·have H:=h.kY how;refine⟨H.1,H.2,λi I=>?_,λk' j' t2 xs2 d2 m2 I=>?_⟩
     ·rw[Z.ow,how]at I;cases I
     ·rw[Z.ow,how]at I;cases I
      rw[e11,if_pos (by rw[hk];simp[aO])];exact O.LP hown _ _ _ _
   ·rw[hros,fM,fM];exact U
 ·rename_i k j;simp only[Rd.val]at hv;split at hv
  case h_2=>cases hv
  rename_i t' xs deep m hown;split at hv
  case isFalse=>cases hv
  rename_i F;subst F;split at hv
  case isFalse=>cases hv
  rename_i hnd;simp only[Rd.val,zB,Rd.aK,zD]at hv;obtain⟨_,L,ws',l,rfl⟩:=hv;obtain⟨f,rfl⟩:=iP l;have z:OwT w G.S deep m t' xs (G.ov k j) (iZ G k j):=(h.owns k j).sZ hown;rw[<- r.2.1]at z;exact PO h J g hargs htys C A B f z M h6 h5 hnd (lW L) N
 ·rename_i k j n;simp only[Rd.val]at hv;split at hv
  case h_2=>cases hv
  rename_i t' xs deep hown;split at hv
  case isFalse=>cases hv
  rename_i F;subst F;split at hv
  case isFalse=>cases hv
  rename_i hnd;simp only[Rd.val,zB,Rd.aK,zD]at hv;obtain⟨_,L,ws',l,rfl⟩:=hv;obtain⟨f,rfl⟩:=iP l;have hO:=h.owns k j;rw[hown]at hO;have z:OwT w G.S deep true t' xs (G.ov k j) (iZ G k j):=hO;exact PO h J g hargs htys C A B f (z.aaM r.2) M h6 h5 hnd (lW L) N
 ·cases hv
end ops
section ops
variable {P:Program} {w0:Bs} {G:Gh} {S:St} {a:Act} {w:World} {o:Oper} {K:Act->World->Prop} {Q:Exit->Act->World->Prop}
theorem xU{T:TypeId}{i:TypeInfo}(hi:P.info? T=some i){g off:Nat}{cur:Array Value}{E:TypeId}(a:w.heap[g]?=some (.cells cur E (0,0))){v:Value}{vs:List Value}(hv:v.cells=vs.toArray)(b:vs.length=i.size)
  (c:off+vs.length<=cur.size) (d:∀u∈vs,u.oneCell'=true) :
  (storeVar T ⟨g,off,none⟩ v).run P w=.ok () (w.setRow g (dO cur.toList off vs).toArray):=by
 have:=run_storeCells_at P g off E vs 0 cur w a (by simpa using c) d;simp only[Nat.add_zero]at this;have e:(storeVar T ⟨g,off,none⟩ v).run P w=(storeCells ⟨g,off,none⟩ vs).run P w:=by simp[storeVar,sizeOf,typeInfo,hi,hv,b]
 rw[e];exact this
theorem yt{t:TypeId}{p x:Operand}(b:o.op=.store t p x){ad:Addr}(hp:a.eval p=.pointer (some ad)){w':World}(c:(storeVar t ad (a.eval x)).run P w=.ok () w') :
  (execOp a.eval o).run P w=.ok .skip w':=by
 unfold execOp;simp[b,hp,Instr.storeAt,Instr.sureAddr,c]
theorem Ru(S:St)(k:Nat)(l l':List O):(S.cO k l).cO k l'=S.cO k l':=by simp[St.cO]
theorem GK:∀ {tys:List (Option Ty)} {cs:List C} {ds:List D},(cDs tys cs).val S=some ds->tys.length=cs.length->ds.length=cs.length/\∀(j:Nat) (d:D),ds[j]?=some d->∃c ty,cs[j]?=some c/\(cD ty c).val S=some d
 | [],[],ds,h,_=>by
  simp only[cDs,Rd.val,zD]at h;subst h;exact⟨rfl,λj d a=>by simp at a⟩
 | ty::tys,c::cs,ds,h,b=>by
  simp only[cDs,Rd.aK,zB,Rd.val,zD]at h;obtain⟨l,e,f,g,rfl⟩:=h;obtain⟨i,k⟩:=GK g (by simpa using b);refine⟨by simp[i],λj d a=>?_⟩;cases j with
  | zero=>simp at a;subst a;exact⟨c,ty,rfl,e⟩
  | succ j=>exact k j d (by simpa using a)
theorem afB{cs:List C}{vs us:List Value}{off:Nat}(hc:dh G w cs vs)(hp:(seg cs off us.length).all C.plain=true)(m:off+us.length<=vs.length):∀(n:Nat) p l c,vs[n]?=some (Value.slice p l c)->(dO vs off us)[n]?=some (Value.slice p l c):=by
 intro n p l c b;obtain⟨f,e⟩:=hc.get;have g:n<vs.length:=(zC.1 b).1;unfold dO;by_cases h:n<off
 ·rw[ba,amE (by rw[bc];omega),amo,if_pos h];exact b
 by_cases o:n<off+us.length
 ·exfalso;have a:n<cs.length:=by omega
  have j:=e n cs[n] _ (by simp[a]) b;have k:cs[n]∈seg cs off us.length:=by
   unfold seg;refine zG (i:=n-off) ?_;rw[amo,if_pos (by omega),amn,show off+(n-off)=n by omega];simp[a]
  have:=List.all_eq_true.1 hp _ k;generalize cs[n]=cc at *;cases cc with
  | d x=>cases x with
   | list=>cases this
   | _=>cases j
  | _=>cases this
 ·rw[amD (by simp;omega),amn];rw[show off+us.length+(n-(vs.take off++us).length)=n by simp;omega];exact b
theorem abd{S:St}{k j:Nat}{x:O}(h:bC (S.aQ k) j=x)(b:x≠.dead):k<S.owns.length/\j<(S.aQ k).length:=by
 have a:j<(S.aQ k).length:=by
  rcases Nat.lt_or_ge j (S.aQ k).length with q | q
  ·exact q
  ·simp only[bC,zE]at h;rw[zJ q]at h;exact absurd h.symm b
 refine⟨?_,a⟩;rcases Nat.lt_or_ge k S.owns.length with q | q
 ·exact q
 ·simp only[St.aQ,zE]at a;rw[zJ q]at a;simp at a
theorem aht(h:Inv w0 G S a w){t:TypeId}{p x:Operand}(ho:o.op=.store t p x){E:Env}(hT:E.tt.ok P=true){agg:Bool}{n:Nat}(Y:lk E.tt.shape t=some (agg,n)){v:V}(hn:v.cells.length=n){av:AV}(hav:(avV av).val S=some v)(hr:tN G w v (a.eval x))
  {k j i sz off:Nat} (hrp:ja G w (.oelt k j i sz off) (a.eval p)) {ty:Ty} {xs:List ty.den} {i0 q0:Nat} (hown:bC (S.aQ k) j=.hole ty xs i0 q0) {ws:List W}
  (hv:(VK o v n k j i sz off ty xs i0 q0).val S=some ws)
  (hK:∀a' w' G',Inv w0 G' (S.puts ws) a' w'->K a' w'):o.wp P a w K Q:=by
 obtain⟨f,r,rfl⟩:∃f r,v=.one (.own f r):=by
  unfold VK at hv;split at hv
  ·exact⟨_,_,rfl⟩
  ·cases hv
 unfold VK at hv;simp only[Rd.val]at hv;split at hv
 case h_2=>cases hv
 rename_i t1 ys hown2;simp only[Rd.val,zB]at hv;obtain⟨x0,L,_,hg,hv⟩:=hv;split at hg
 case isFalse=>cases hg
 rename_i hiq;obtain⟨rfl,rfl⟩:=hiq;split at hv
 case isFalse=>cases hv
 rename_i hcond;obtain⟨M,hn1,hoff,hfl,hnd⟩:=hcond;simp only[Rd.val,zB,zD]at hv;obtain⟨y,hy,rfl⟩:=hv;obtain⟨hkn,_⟩:=gJ hnd;have Z:(k,j)≠(f,r):=λe=>hkn (by simp[e])
 obtain⟨d,ti,hu,hi,htsz,hd⟩:=TT.zy hT Y;obtain⟨hlk,b,len,cap,hov,hpv⟩:=hrp;have hxv:a.eval x=G.ov f r:=hr.2.1;have hO:=h.owns k j;rw[hown]at hO;obtain⟨fp,q1,⟨b',cap',arr,e,vs,fps,hv',hb,hcap,hmax,hasz,N,hc,hrr,hf,hdis⟩,q3⟩:=hO;rw[hov]at hv';injection hv' with e1 e2 e3;injection e1 with e1;injection e1 with e1 _ _;subst e1;have hO2:=h.owns f r;rw[hown2]at hO2;have hii:i<xs.length:=(zC.1 L).1;have hidx:i*sz+off<arr.size:=by
  rw[hasz,<- M];have:(i+1)*ty.size<=cap'*ty.size:=Nat.mul_le_mul_right _ (by omega);rw[Nat.succ_mul]at this;omega
 let arr':Array Value:=(dO arr.toList (i*sz+off) [a.eval x]).toArray;have hsr:=setRow_heap w b arr arr' e (0,0) hb;have hoth:∀c,c≠b->(w.setRow b arr').heap[c]?=w.heap[c]?:=λc hc=>setRow_other w b c _ hc
 have C:G.ow b=some (.own k j):=q1 b N;have hlen0:arr.toList.length=arr.size:=Array.length_toList;obtain⟨R,F,hR2,hR3⟩:∃R:Nat->Prop,(∀c,R c->iZ G f r c/\∀oo,¬G.S c oo)/\(∀w':World,(∀c,R c->w'.heap[c]?=w.heap[c]?)->Ow w' (λ_ _=>False) true (.list t1 ys) (G.ov f r) R)/\(∀c,R c->c<w.heap.size):=by
  rcases hO2 with ⟨hnil,hys⟩ | ⟨g,cg,ag,eg,vg,fg,g1,g2,g3,g4,g5,g6,g7,g8,g9,g10,g11⟩
  ·exact⟨λ_=>False,λ_ hc=>hc.elim,λw' _=>by rw[hnil,hys];exact .nil _ _,λ_ hc=>hc.elim⟩
  ·refine⟨λc=>c=g,λc hc=>by subst hc;exact⟨g6,λoo Y=>absurd (g11 oo Y).1 (by simp)⟩,λw' T=>?_,λc hc=>by subst hc;exact (h.olt _ _ g6).2⟩;rw[g1];exact .list t1 ys g cg ag eg vg (λ_ _ _=>False) _ ((T g rfl).trans g2) g3 g4 g5 rfl g7 (λi' x' q dd s l=>(IA (S':=λ_ _=>False) (fp':=λ_=>False) (uK hfl l) (g8 i' x' q dd s l)).move (λ_ _ h=>h.elim) λ_ h=>h.elim) (λ_ _ _ hh=>hh.elim) λ_ _ _ _ _ hh=>hh.elim
 have hRb:¬R b:=λhh=>by
  have:=(F b hh).1;rw[show G.ow b=some (.own f r)from this]at C;cases C
  exact Z rfl
 obtain⟨hkl,hjl⟩:=abd hown (by intro e;cases e);have h2:=h.EJ f r .dead trivial;have h3:=h2.EJ k j .dead trivial;have hdead:∀k' j' t' xs' d' m',(k',j')=(k,j)\/(k',j')=(f,r)->(bC (((S.cO f ((S.aQ f).set r .dead)).cO k (((S.cO f ((S.aQ f).set r .dead)).aQ k).set j .dead)).aQ k') j').fU≠.own t' xs' d' m':=by
  intro k' j' t' xs' d' m' hh;have:bC (((S.cO f ((S.aQ f).set r .dead)).cO k (((S.cO f ((S.aQ f).set r .dead)).aQ k).set j .dead)).aQ k') j'=.dead:=by
   rcases hh with hh | hh
   ·cases hh;exact BN
   ·cases hh
    rcases U0 (S:=S.cO f ((S.aQ f).set r .dead)) (k:=k) (j:=j) (k':=f) (j':=r)with hh | hh
    ·exact hh
    ·rw[hh];exact BN
  rw[this];simp[O.fU]
 have h4:=h3.TY b (w':=w.setRow b arr') (h.kY C).1 (λi' m=>by rw[C]at m;cases m) (λk' j' t' xs' d' m' m=>by
   rw[C]at m;cases m;exact hdead k j t' xs' d' m' (.inl rfl)) rfl rfl rfl (by simp) (λc _ hc=>hoth c hc) (λoo Y=>absurd N (q3 b oo Y))
 classical
 have h5:=h4.aiA R k j (λc U=>by
  have z:=(F c U).1;refine⟨(h.kY z).1,by simpa using (h.kY z).2,λi' m=>?_,λk' j' t' xs' d' m' m _=>?_⟩
  ·rw[show G.ow c=_ from z]at m;cases m
  ·rw[show G.ow c=_ from z]at m;cases m
   exact hdead f r t' xs' d' m' (.inr rfl))
 have hfR:∀c,fp c->¬R c:=λc hc hh=>by
  have h6:G.ow c=some (.own f r):=(F c hh).1;rw[show G.ow c=some (.own k j)from q1 c hc]at h6;cases h6
  exact Z rfl
 have hnew:xH { G with ow:=λc=>if R c then some (.own k j)else G.ow c } (w.setRow b arr') k j (.tree ty (xs.set i y)):=by
  refine⟨λc=>fp c\/R c,λc hc=>?_,?_,λb' oo hs' m=>m.elim (q3 b' oo hs') λhh=>(F b' hh).2 oo hs'⟩
  ·show (if R c then some (tu.own k j)else G.ow c)=_
   split
   ·rfl
   ·rename_i hh;exact q1 c (hc.resolve_right hh)
  ·show Ow _ _ true (.list ty (xs.set i y)) (G.ov k j) _
   rw[hov,e2,e3,<- @List.length_set _ xs i y];refine .list ty (xs.set i y) b cap' arr' e (λi' j'=>if i'=i/\j'=off then a.eval x else vs i' j') (λi' j' c=>if i'=i/\j'=off then R c else fps i' j' c) _ hsr (by simpa using hcap) hmax ?_ (.inl N) ?_ ?_ ?_ ?_
   ·show (dO arr.toList (i*sz+off) [a.eval x]).length=_
    rw[uU _ _ _ (by simp;omega),hlen0,hasz]
   ·intro i' x' j' d' s l;have hj':j'<ty.size:=by
     have:=(zC.1 l).1;rwa [Ty.bn]at this
    rw[<- Array.getElem?_toList];show (dO arr.toList (i*sz+off) [a.eval x])[i'*ty.size+j']?=some (if i'=i/\j'=off then a.eval x else vs i' j')
    have hss:(dO arr.toList (i*sz+off) [a.eval x])=arr.toList.set (i*sz+off) (a.eval x):=by
     rw[List.set_eq_take_append_cons_drop];simp[dO,hidx]
    rw[hss,amz];by_cases A:i'=i/\j'=off
    ·obtain⟨rfl,rfl⟩:=A;rw[M,if_pos rfl,if_pos (by omega)];simp
    ·have hneq:i*sz+off≠i'*ty.size+j':=λee=>A (by
      rw[<- M]at ee;have:=Ri hoff hj' ee;exact⟨this.1.symm,this.2.symm⟩)
     rw[if_neg hneq,if_neg A,Array.getElem?_toList];by_cases B:i'=i
     ·subst B;obtain⟨d0,hd0⟩:∃d0,(ty.cells x0)[j']?=some d0:=⟨_,zF (by rw[Ty.bn];exact hj')⟩;exact hc i' x0 j' d0 L hd0
     ·rw[amz,if_neg (Ne.symm B)]at s;exact hc i' x' j' d' s l
   ·intro i' x' j' d' s l;by_cases A:i'=i/\j'=off
    ·obtain⟨rfl,rfl⟩:=A;rw[amz,if_pos rfl,if_pos hii]at s;cases s
     rw[Ty.eH hy]at l;have hdd:d'=.list t1 ys:=by
      simp only[dO,List.getElem?_append,amo,a8,bc,Ty.bn]at l;have m1:min j' ty.size=j':=by omega
      rw[m1]at l;simp at l;exact l.symm
     subst hdd;simp only[and_self,if_true];rw[hxv];exact hR2 _ λc U=>hoth c λee=>hRb (ee▸U)
    ·simp only[if_neg A];have T:Ow w (λ_ _=>False) true d' (vs i' j') (fps i' j'):=by
      by_cases B:i'=i
      ·subst B;rw[amz,if_pos rfl,if_pos hii]at s;cases s
       rw[Ty.eH hy]at l;have hjo:j'≠off:=λee=>A ⟨rfl,ee⟩
       refine hrr i' x0 j' d' L ?_ A;simp only[dO,List.getElem?_append,amo,amn,a8,bc,Ty.bn]at l;have m1:min off ty.size=off:=by omega
       rw[m1]at l;by_cases hl:j'<off
       ·have a1:j'<off+1:=by omega
        simpa [a1,hl] using l
       ·have a1:¬j'<off+1:=by omega
        have a2:off+1+(j'-(off+1))=j':=by omega
        simpa [a1,a2] using l
      ·rw[amz,if_neg (Ne.symm B)]at s;exact hrr i' x' j' d' s l A
     refine (T.move (λ_ _ h=>h.elim) λc X=>hoth c (hf i' j' c X).2).sub (λc X=>?_) id;exact X
   ·intro i' j' c D;split at D
    ·exact⟨.inr D,λee=>hRb (ee▸D)⟩
    ·exact⟨.inl (hf i' j' c D).1,(hf i' j' c D).2⟩
   ·intro i1 j1 i2 j2' c H z;split at H
    ·rename_i I;split at z
     ·rename_i J;exact⟨I.1.trans J.1.symm,I.2.trans J.2.symm⟩
     ·exact absurd H (hfR c (hf _ _ _ z).1)
    ·split at z
     ·exact absurd z (hfR c (hf _ _ _ H).1)
     ·exact hdis _ _ _ _ _ H z
 have h6:=h5.EJ k j _ hnew;have hst:((S.cO f ((S.aQ f).set r .dead)).cO k (((S.cO f ((S.aQ f).set r .dead)).aQ k).set j .dead)).cO k ((((S.cO f ((S.aQ f).set r .dead)).cO k (((S.cO f ((S.aQ f).set r .dead)).aQ k).set j .dead)).aQ k).set j (.tree ty (xs.set i y)))=(S.put (.upd f r .dead)).put (.upd k j (.tree ty (xs.set i y))):=by
  show _=(S.cO f ((S.aQ f).set r .dead)).cO k (((S.cO f ((S.aQ f).set r .dead)).aQ k).set j _)
  rw[Ru,bK,if_pos ⟨rfl,by simpa [St.cO] using hkl⟩,List.set_set]
 rw[hst]at h6;have h7:=h6.dst (o:=o) (Bv (G:=_) (w:=_));have hcs1:∀u∈[a.eval x],u.oneCell'=true:=λu hu=>by
  rw[amd]at hu;subst hu;exact hr.2.2
 refine Du (yt ho hpv (xU (vs:=[a.eval x]) hi hb (GI hr.2.2) (by rw[htsz,hn1];rfl) (by simp;omega) hcs1)) (hK _ _ _ h7)
theorem ae3(h:Inv w0 G S a w){t:TypeId}{p x:Operand}(ho:o.op=.store t p x){E:Env}(hT:E.tt.ok P=true)(hma:E.ma=true->∀b,w0.bx≠some (b,true)){ws:List W}(hv:(eff E o).val S=some ws)
  (hK:∀a' w' G',Inv w0 G' (S.puts ws) a' w'->K a' w'):o.wp P a w K Q:=by
 unfold eff at hv;rw[ho]at hv;simp only at hv;split at hv
 ·cases hv
 rename_i agg n B;obtain⟨d,i,hu,hi,hsz,hd⟩:=TT.zy hT B;simp only[Rd.aK,zB]at hv;obtain⟨av,h1,v,h2,hv⟩:=hv;have hr:=yQ h2 (aY h h1);obtain⟨us,hus,V⟩:=hr.TF;split at hv
 case isFalse=>cases hv
 rename_i hn;have hul:us.length=n:=by rw[<- V.length];exact hn
 simp only[Rd.aK,zB]at hv;obtain⟨ap,h3,hv⟩:=hv;have hrp:=aY h h3;split at hv
 ·rename_i b off;simp only[Rd.val]at hv;split at hv
  ·rename_i cs hcsb;split at hv
   ·rename_i hle';obtain⟨hle,hpl⟩:=hle';simp only[Rd.val,zD]at hv;subst hv;obtain⟨_,vs,e,hh,hc⟩:=h.box b cs hcsb;have hvl:=hc.length;refine Du (yt ho hrp.2 (xU hi hh hus (by omega) (by simp;omega) V.one)) (hK _ _ G ?_);have h':=h.akv b hcsb (hc.dO V off) λ⟨q0,hq0⟩ e0 vs2 E2 hh2=>(by
     rw[hh]at hh2;cases hh2;have hm0:E.ma=false:=by
      cases D:E.ma with
      | false=>rfl
      | true=>exact absurd hq0 (hma D q0)
     exact afB hc (by simpa [e0,hul,hm0] using hpl) (by omega))
    exact h'.dst Bv
   ·cases hv
  ·cases hv
 ·rename_i k j ii sz off;simp only[Rd.val]at hv;split at hv
  case h_3=>cases hv
  case h_2 ty xs i0 q0 hown=>exact aht h ho hT B hn h2 hr hrp hown hv hK
  rename_i ty xs deep hown;simp only[Rd.val,zB]at hv;obtain⟨x0,hx0,hv⟩:=hv;split at hv
  case isFalse=>cases hv
  rename_i hoff;simp only[Rd.aK,zB]at hv;obtain⟨ds,h4,dp,h5,hv⟩:=hv;simp only[Rd.val,zB]at hv;obtain⟨y,h6,hv⟩:=hv;split at hv
  case isFalse=>cases hv
  rename_i hnd;simp only[Rd.val,zD]at hv;subst hv;obtain⟨hlk,b,len,cap,hov,hpv⟩:=hrp;obtain⟨hkn,hnk⟩:=gJ hnd;have hO:=h.owns k j;rw[hown]at hO;rcases hO with ⟨he,_⟩ | ⟨b',cap',arr,e,vs,fps,hv',hb,hcap,hmax,hasz,hfb,hc,hrr,hf,hdis,hsS⟩
  ·rw[hov]at he;cases he
  rw[hov]at hv';injection hv' with e1 e2 e3;injection e1 with e1;injection e1 with e1 _ _;subst e1;have hii:ii<xs.length:=(zC.1 hx0).1;obtain⟨F,hon⟩:=hoff;have htl:(seg ty.tys off n).length=v.cells.length:=by simp[Abs.seg,lY];omega
  obtain⟨X,hdg⟩:=GK h4 htl;obtain⟨G1,h7,m7,e7,n7⟩:=Inv.V9 (aO v.cells) h hnk;have hS2:∀k' j',bC ((S.puts ((aO v.cells).map λq=>W.ro q.1 q.2)).aQ k') j'=if (k',j')∈aO v.cells then (bC (S.aQ k') j').CU else bC (S.aQ k') j':=e7
  have h8:=h7.EJ k j .dead trivial;generalize hS1:S.puts ((aO v.cells).map λq=>W.ro q.1 q.2)=M at *;have hnq:∀k' j',(k',j')∈aO v.cells->∀t' xs',bC (S.aQ k') j'≠.seg t' xs':=λk' j' D t' xs' he=>by
   obtain⟨q,U⟩:=List.getElem?_of_mem (pV D);have Y:q<ds.length:=by rw[X];exact (zC.1 U).1
   obtain⟨c,ty',g,f⟩:=hdg q _ (zF Y);rw[U]at g;cases g
   simp only[cD,Rd.val,he]at f;cases f
  have hnh:∀k' j',(k',j')∈aO v.cells->∀t' xs' i' q',bC (S.aQ k') j'≠.hole t' xs' i' q':=λk' j' D t' xs' i' q' he=>by
     obtain⟨q,U⟩:=List.getElem?_of_mem (pV D);have Y:q<ds.length:=by rw[X];exact (zC.1 U).1
     obtain⟨c,ty',g,f⟩:=hdg q _ (zF Y);rw[U]at g;cases g
     simp only[cD,Rd.val,he]at f;cases f
  have hnp:∀k' j',(k',j')∈aO v.cells->∀t' xs' i',bC (S.aQ k') j'≠.part t' xs' i':=λk' j' D t' xs' i' he=>by
   obtain⟨q,U⟩:=List.getElem?_of_mem (pV D);have Y:q<ds.length:=by rw[X];exact (zC.1 U).1
   obtain⟨c,ty',g,f⟩:=hdg q _ (zF Y);rw[U]at g;cases g
   simp only[cD,Rd.val,he]at f;cases f
  have hdead:∀k' j' t' xs' d' m',(bC ((M.cO k ((M.aQ k).set j .dead)).aQ k') j').fU=.own t' xs' d' m'->(k',j')≠(k,j)/\(k',j')∉aO v.cells:=by
   intro k' j' t' xs' d' m' z;rw[bK]at z;split at z
   ·rename_i hkk;obtain⟨rfl,hkl⟩:=hkk;rw[iV]at z;split at z
    ·cases z
    ·rename_i hjj;refine⟨λe=>?_,λD=>?_⟩
     ·cases e
      have:¬j<(M.aQ k).length:=λR=>hjj ⟨rfl,R⟩
      have:bC (M.aQ k) j=.dead:=by
       simp only[bC,zE];rw[zJ (by omega)];rfl
      rw[this]at z;cases z
     ·rw[hS2,if_pos D]at z;cases A:bC (S.aQ k) j'<;>rw[A]at z<;>simp[O.CU,O.fU]at z
      ·exact hnp _ _ D _ _ _ A
      ·exact hnq _ _ D _ _ A
      ·exact hnh _ _ D _ _ _ _ A
   ·rename_i hkk;refine⟨λe=>?_,λD=>?_⟩
    ·cases e
     have:¬k<M.owns.length:=λR=>hkk ⟨rfl,R⟩
     have hg0:M.aQ k=[]:=by
      simp only[St.aQ,zE];rw[zJ (by omega)];rfl
     rw[hg0]at z;cases z
    ·rw[hS2,if_pos D]at z;cases A:bC (S.aQ k') j'<;>rw[A]at z<;>simp[O.CU,O.fU]at z
     ·exact hnp _ _ D _ _ _ A
     ·exact hnq _ _ D _ _ A
     ·exact hnh _ _ D _ _ _ _ A
  let arr':Array Value:=(dO arr.toList (ii*sz+off) us).toArray;have hidx:ii*sz+off+us.length<=arr.toList.length:=by
   have e1:arr.toList.length=arr.size:=Array.length_toList;rw[e1,hasz,<- F];have:(ii+1)*ty.size<=cap'*ty.size:=Nat.mul_le_mul_right _ (by omega);rw[Nat.succ_mul]at this;omega
  have hsr:=setRow_heap w b arr arr' e (0,0) hb;have hoth:∀c,c≠b->(w.setRow b arr').heap[c]?=w.heap[c]?:=λc hc=>setRow_other w b c _ hc
  have hbo:G1.ow b=some (.own k j):=by rw[m7.ow];exact hfb
  have hSb:∀oo,¬G1.S b oo:=by
   intro oo B;rcases (m7.s b oo).1 B with B | ⟨k',j',t2,xs2,d2,m2,hmem,_,H,_⟩
   ·exact absurd (hsS oo B).1 (by simp)
   ·rw[show G.ow b=some (.own k j)from hfb]at H;cases H
    exact hkn hmem
  have h9:=h8.TY b (w':=w.setRow b arr') (h7.kY hbo).1 (λi r=>by rw[hbo]at r;cases r) (λk' j' t' xs' d' m' r z=>by
    rw[hbo]at r;cases r;exact (hdead k j t' xs' d' m' z).1 rfl) rfl rfl rfl (by simp) (λc _ hc=>hoth c hc) (λoo B=>absurd B (hSb oo))
  classical
  have h10:=h9.aiA (λc=>∃(q:Nat) (cc:C),v.cells[q]?=some cc/\rowsOf G S cc c) k j (λc hc=>by
   obtain⟨q,cc,U,k',j',rfl,H,t2,xs2,d2,m2,hown2⟩:=hc;have Z:=h.kY H;refine⟨Z.1,by simpa using Z.2,λi r=>?_,λk'' j'' t' xs' d' m' r _ z=>?_⟩
   ·rw[m7.ow,H]at r;cases r
   ·rw[m7.ow,H]at r;cases r
    exact (hdead _ _ t' xs' d' m' z).2 (fE (zG U)))
  have hrows_ne:∀(q:Nat) (cc:C) (c:Nat),v.cells[q]?=some cc->rowsOf G S cc c->G.ow c≠some (.own k j):=by
   rintro q cc c U ⟨k',j',rfl,H,_⟩ hcj;rw[H]at hcj;cases hcj
   exact hkn (fE (zG U))
  have hnew:xH { G1 with ow:=λc=>if ∃(q:Nat) (cc:C),v.cells[q]?=some cc/\rowsOf G S cc c then some (.own k j)else G1.ow c } (w.setRow b arr') k j (.own ty (xs.set ii y) (deep&&dp) true):=by
   refine .inr ⟨b,cap',arr',e,λi' j'=>if i'=ii/\off<=j'/\j'<off+n then us.getD (j'-off) undef else vs i' j',
    λi' j' c=>if i'=ii/\off<=j'/\j'<off+n then ∃cc,v.cells[j'-off]?=some cc/\rowsOf G S cc c else fps i' j' c,?_,hsr,by simpa using hcap,hmax,?_,?_,?_,?_,?_,?_,?_⟩
   ·rw[List.length_set];show G1.ov k j=_
    rw[m7.ov,hov,e2,e3]
   ·show (dO arr.toList (ii*sz+off) us).length=_
    rw[uU _ _ _ hidx];have e1:arr.toList.length=arr.size:=Array.length_toList;rw[e1,hasz]
   ·show (if _ then some (tu.own k j)else G1.ow b)=_
    split
    ·rfl
    ·exact hbo
   ·intro i' x' j' d' u l;have hj':j'<ty.size:=by
     have:=(zC.1 l).1;rwa [Ty.bn]at this
    have hi':i'<xs.length:=by have:=(zC.1 u).1;simpa using this
    rw[<- Array.getElem?_toList];show (dO arr.toList (ii*sz+off) us)[i'*ty.size+j']?=some (if i'=ii/\off<=j'/\j'<off+n then us.getD (j'-off) undef else vs i' j')
    simp only[dO,List.getElem?_append,amo,amn,a8,bc];have m1:min (ii*sz+off) arr.toList.length=ii*sz+off:=by omega
    rw[m1];by_cases I:i'=ii/\off<=j'/\j'<off+n
    ·obtain⟨rfl,T,N⟩:=I;have a1:i'*ty.size+j'<i'*sz+off+us.length:=by rw[F];omega
     have a2:¬i'*ty.size+j'<i'*sz+off:=by rw[F];omega
     have a3:i'*ty.size+j'-(i'*sz+off)=j'-off:=by rw[F];omega
     have a4:j'-off<us.length:=by omega
     simp[a1,a2,a3,T,N,a4]
    ·have hold:arr.toList[i'*ty.size+j']?=some (vs i' j'):=by
      by_cases m:i'=ii
      ·subst m;have hd0:∃d0,(ty.cells x0)[j']?=some d0:=by
        have:j'<(ty.cells x0).length:=by rw[Ty.bn];exact hj'
        exact⟨_,zF this⟩
       obtain⟨d0,hd0⟩:=hd0;simpa using hc i' x0 j' d0 hx0 hd0
      ·rw[amz,if_neg (Ne.symm m)]at u;simpa using hc i' x' j' d' u l
     rw[if_neg I];have hcase:i'*ty.size+j'<ii*sz+off\/ii*sz+off+us.length<=i'*ty.size+j':=by
      rw[<- F,hul];by_cases m:i'=ii
      ·subst m;have:¬(off<=j'/\j'<off+n):=λhh=>I ⟨rfl,hh⟩
       omega
      ·rcases Nat.lt_or_gt_of_ne m with R | R
       ·have:(i'+1)*ty.size<=ii*ty.size:=Nat.mul_le_mul_right _ R;rw[Nat.succ_mul]at this;omega
       ·have:(ii+1)*ty.size<=i'*ty.size:=Nat.mul_le_mul_right _ R;rw[Nat.succ_mul]at this;omega
     rcases hcase with R | R
     ·have a1:i'*ty.size+j'<ii*sz+off+us.length:=by omega
      rw[if_pos a1,if_pos R,if_pos R];exact hold
     ·have a1:¬i'*ty.size+j'<ii*sz+off+us.length:=by omega
      rw[if_neg a1];have a2:ii*sz+off+us.length+(i'*ty.size+j'-(ii*sz+off+us.length))=i'*ty.size+j':=by omega
      rw[a2];exact hold
   ·intro i' x' j' d' u l;have hmv:∀b' oo,G.S b' oo->G1.S b' oo/\(w.setRow b arr').cell? ⟨b',oo,none⟩=w.cell? ⟨b',oo,none⟩:=λb' oo B=>
     ⟨(m7.s b' oo).2 (.inl B),World.cell?_of_block (w:=w) (hoth b' λeb=>hSb oo (eb▸(m7.s b' oo).2 (.inl B)))⟩
    by_cases I:i'=ii/\off<=j'/\j'<off+n
    ·obtain⟨rfl,T,N⟩:=I;rw[amz,if_pos rfl,if_pos hii]at u;cases u
     rw[Ty.eH h6]at l;have hdd:ds[j'-off]?=some d':=by
      simp only[dO,List.getElem?_append,amo,amn,a8,bc,Ty.bn,X,hn]at l;have m1:min off ty.size=off:=by omega
      rw[m1]at l;have a1:j'<off+n:=N;have a2:¬j'<off:=by omega
      simpa [a1,a2] using l
     obtain⟨cc,tyc,J,hcd⟩:=hdg _ _ hdd;obtain⟨bb,hb1,hb2⟩:=yO h5 _ cc J;have Z:j'-off<us.length:=by omega
     have hcr:=V.get.2 _ cc us[j'-off] J (by simp[Z]);have:=VO h hcd hcr hb1 hb2 (S':=G1.S) (keys:=aO v.cells) (λxx oo B=>(m7.s xx oo).2 B) λk' j'' ec=>fE (ec▸zG J)
     simp only[T,N,and_self,if_true];have hg:us.getD (j'-off) undef=us[j'-off]:=by simp[Z]
     rw[hg];refine (this.move (λb' oo B=>⟨B,World.cell?_of_block (w:=w) (hoth b' λeb=>hSb oo (eb▸B))⟩) λc L=>hoth c λeb=>?_).sub (λc L=>⟨cc,J,L⟩) λee=>(zI _ _▸ee).2
     exact hrows_ne _ cc c J L (by rw[eb];exact hfb)
    ·simp only[if_neg I];have hw':Ow w G.S deep d' (vs i' j') (fps i' j'):=by
      by_cases m:i'=ii
      ·subst m;rw[amz,if_pos rfl,if_pos hii]at u;cases u
       rw[Ty.eH h6]at l;refine hrr i' x0 j' d' hx0 ?_;have hno:¬(off<=j'/\j'<off+n):=λhh=>I ⟨rfl,hh⟩
       simp only[dO,List.getElem?_append,amo,amn,a8,bc,Ty.bn,X,hn]at l;have m1:min off ty.size=off:=by omega
       rw[m1]at l;by_cases R:j'<off
       ·have a1:j'<off+n:=by omega
        simpa [a1,R] using l
       ·have a1:¬j'<off+n:=by omega
        have a2:off+n+(j'-(off+n))=j':=by omega
        simpa [a1,a2] using l
      ·rw[amz,if_neg (Ne.symm m)]at u;exact hrr i' x' j' d' u l
     refine (hw'.move hmv λc L=>hoth c (hf i' j' c L).2).sub (λc L=>?_) λee=>(zI _ _▸ee).1
     first | exact L | (rw[if_neg I];exact L)
   ·intro i' j' c hcf;split at hcf
    ·obtain⟨cc,J,hrow⟩:=hcf;refine⟨?_,λeb=>hrows_ne _ cc c J hrow (by rw[eb];exact hfb)⟩;show (if _ then some (tu.own k j)else G1.ow c)=_
     rw[if_pos ⟨_,cc,J,hrow⟩]
    ·refine⟨?_,(hf i' j' c hcf).2⟩;show (if _ then some (tu.own k j)else G1.ow c)=_
     split
     ·rfl
     ·rw[m7.ow];exact (hf i' j' c hcf).1
   ·intro i1 j1 i2 j2 c g f;split at g
    ·rename_i hin1;obtain⟨cc1,hcc1,hrow1⟩:=g;split at f
     ·rename_i hin2;obtain⟨cc2,hcc2,hrow2⟩:=f;obtain⟨k1,l1,rfl,how1,_⟩:=hrow1;obtain⟨k2,l2,rfl,how2,_⟩:=hrow2;rw[how1]at how2;cases how2
      have:=jk hnk hcc1 hcc2;omega
     ·exact absurd (hf i2 j2 c f).1 (hrows_ne _ cc1 c hcc1 hrow1)
    ·split at f
     ·obtain⟨cc2,hcc2,hrow2⟩:=f;exact absurd (hf i1 j1 c g).1 (hrows_ne _ cc2 c hcc2 hrow2)
     ·exact hdis _ _ _ _ _ g f
   ·intro oo B;exact absurd B (hSb oo)
  have T:=h10.EJ k j _ hnew;have hpv':a.eval p=.pointer (some ⟨b,ii*sz+off,none⟩):=hpv;have e1:arr.toList.length=arr.size:=Array.length_toList;have hst:(M.cO k ((M.aQ k).set j .dead)).cO k (((M.cO k ((M.aQ k).set j .dead)).aQ k).set j (.own ty (xs.set ii y) (deep&&dp) true))=M.put (.upd k j (.own ty (xs.set ii y) (deep&&dp) true)):=by
   show _=M.cO k ((M.aQ k).set j _)
   by_cases hkl:k<M.owns.length
   ·rw[Ru,bK,if_pos ⟨rfl,hkl⟩,List.set_set]
   ·simp only[zL hkl]
  rw[hst]at T;have N:=T.dst (o:=o) (Bv (G:=_) (w:=_));have hpu:S.puts (((aO v.cells).map λq=>W.ro q.1 q.2)++(.upd k j (.own ty (xs.set ii y) (deep&&dp) true)::fQ o (.tup [])))=(M.put (.upd k j (.own ty (xs.set ii y) (deep&&dp) true))).puts (fQ o (.tup [])):=by
   rw[fM,hS1];rfl
  rw[<- hpu]at N;exact Du (yt ho hpv' (xU hi hb hus (by omega) (by omega) V.one)) (hK _ _ _ N)
 ·cases hv
end ops
theorem SV{α:Type}{xs r:List α}{lo hi:Option Int}(h:eff.cutL xs lo hi=some r) :
  0<=lo.getD 0/\lo.getD 0<=hi.getD xs.length/\hi.getD xs.length<=xs.length/\r=(xs.take (hi.getD xs.length).toNat).drop (lo.getD 0).toNat:=by
 simp only[eff.cutL]at h;split at h
 ·rename_i hc;exact⟨hc.1,hc.2.1,hc.2.2,(a7 h).symm⟩
 ·cases h
section ops
variable {P:Program} {w0:Bs} {G:Gh} {S:St} {a:Act} {w:World} {o:Oper} {K:Act->World->Prop} {Q:Exit->Act->World->Prop}
theorem dR(isSlice:Bool)(len cap:Nat)(lo hi:Option Value)(l h:Int)(a:lo=none/\l=0\/∃k,lo=some (.int k l))(b:hi=none/\h=len\/∃k,hi=some (.int k h))
  (c:0<=l) (d:l<=h) (e:h<=cap):(Instr.sliceBounds isSlice len cap lo hi none).run P w=.ok (l.toNat,h.toNat,cap) w:=by
 rcases a with ⟨rfl,rfl⟩ | ⟨k,rfl⟩<;>rcases b with ⟨rfl,rfl⟩ | ⟨k',rfl⟩
 ·simp[Instr.sliceBounds]
 ·simp[Instr.sliceBounds,Instr.sliceBound,asIntOf,d,e]
 ·simp[Instr.sliceBounds,Instr.sliceBound,asIntOf,c,d]
 ·have f:(0:Int)<=h:=by omega
  have g:max h 0=h:=by omega
  have i:¬h<l:=by omega
  simp[Instr.sliceBounds,Instr.sliceBound,asIntOf,c,e,f,g,i]
theorem abx(h:Inv w0 G S a w){x:Option Operand}{b:Option Int}(hv:(eff.bnd x).val S=some b)(d:Int):(x.map a.eval=none/\b.getD d=d)\/∃k,x.map a.eval=some (.int k (b.getD d)):=by
 cases x with
 | none=>
  simp only[eff.bnd,Rd.val,zD]at hv;subst hv;exact .inl ⟨rfl,rfl⟩
 | some x=>
  simp only[eff.bnd,Rd.aK,zB,Rd.val,zD]at hv;obtain⟨av,c,n,e,rfl⟩:=hv;obtain⟨k,hk⟩:=xC e (aY h c);exact .inr ⟨k,by simp[hk]⟩
theorem Inv.TM(h:Inv w0 G S a w)(k j:Nat):∃G',Inv w0 G' (S.put (.nomut k j)) a w/\More G G' (AK G S [(k,j)]):=by
 have l:=h.owns k j;have R:Inv w0 G (S.put (.nomut k j)) a w:=by
  refine h.EJ k j _ ?_;cases c:bC (S.aQ k) j with
  | dead=>trivial
  | ro t xs=>rw[c]at l;exact l
  | part t xs i=>rw[c]at l;exact l
  | seg t xs=>rw[c]at l;exact l
  | hole t xs i q=>rw[c]at l;exact l
  | tree t xs=>
   rcases h.aeS (k:=k) (j:=j) (by rw[c];rfl)with x | ⟨b,cap,arr,E,vs,fps,y,z,A,B,C,D,F,H,I,n,J⟩
   ·exact .inl x
   ·exact .inr ⟨b,cap,arr,E,vs,fps,y,z,A,B,C,D,F,H,I,n,λoo K=>⟨rfl,(J oo K).2⟩⟩
  | own t xs deep m=>
   rw[c]at l;rcases l with x | ⟨b,cap,arr,E,vs,fps,y,z,A,B,C,D,F,H,I,n,J⟩
   ·exact .inl x
   ·exact .inr ⟨b,cap,arr,E,vs,fps,y,z,A,B,C,D,F,H,I,n,λoo K=>⟨rfl,(J oo K).2⟩⟩
 have hent:∀k' j' t xs deep m,bC ((S.put (.nomut k j)).aQ k') j'=.own t xs deep m->∃m',(bC (S.aQ k') j').sZ=.own t xs deep m'/\((k',j')=(k,j)->m=false):=by
  intro k' j' t xs deep m c;change bC ((S.cO k ((S.aQ k).set j (bC (S.aQ k) j).Aw)).aQ k') j'=_ at c;rw[bK]at c;split at c
  ·rename_i hk;obtain⟨rfl,T⟩:=hk;rw[iV]at c;split at c
   ·rename_i s;obtain⟨rfl,_⟩:=s;cases d:bC (S.aQ k) j with
    | dead=>rw[d]at c;cases c
    | ro t' xs'=>rw[d]at c;cases c
    | part t' xs' i'=>rw[d]at c;cases c
    | seg t' xs'=>rw[d]at c;cases c
    | hole=>rw[d]at c;cases c
    | own t' xs' deep' m'=>
     rw[d]at c;simp only[O.Aw,O.own.injEq]at c;obtain⟨rfl,u,rfl,rfl⟩:=c;cases u
     exact⟨m',rfl,λ_=>rfl⟩
    | tree t' xs'=>
     rw[d]at c;simp only[O.Aw,O.own.injEq]at c;obtain⟨rfl,u,rfl,rfl⟩:=c;cases u
     exact⟨true,rfl,λ_=>rfl⟩
   ·rename_i s;refine⟨m,by rw[c];rfl,λe=>?_⟩;cases e
    have:¬j<(S.aQ k).length:=λo=>s ⟨rfl,o⟩
    have:bC (S.aQ k) j=.dead:=by
     simp only[bC,zE];rw[zJ (by omega)];rfl
    rw[this]at c;cases c
  ·rename_i hk;refine⟨m,by rw[c];rfl,λe=>?_⟩;cases e
   have:¬k<S.owns.length:=λo=>hk ⟨rfl,o⟩
   have p:S.aQ k=[]:=by
    simp only[St.aQ,zE];rw[zJ (by omega)];rfl
   rw[p]at c;cases c
 have L:∀t xs,(bC ((S.put (.nomut k j)).aQ k) j).IsT t xs->∀t' xs' d' m',(bC (S.aQ k) j).sZ≠.own t' xs' d' m':=by
  intro t xs c t' xs' d' m';change (bC ((S.cO k ((S.aQ k).set j (bC (S.aQ k) j).Aw)).aQ k) j).IsT t xs at c;rw[bK]at c;split at c
  ·rw[iV]at c;split at c
   ·cases d:bC (S.aQ k) j<;>rw[d]at c<;>simp[O.Aw,O.IsT,O.sZ]at c ⊢
   ·rename_i s;have:¬j<(S.aQ k).length:=λo=>s ⟨rfl,o⟩
    have:bC (S.aQ k) j=.dead:=by
     simp only[bC,zE];rw[zJ (by omega)];rfl
    rw[this]at c;rcases c with c | ⟨_,c⟩ | c | ⟨_,_,c⟩<;>cases c
  ·rename_i hk;have:¬k<S.owns.length:=λo=>hk ⟨rfl,o⟩
   have p:S.aQ k=[]:=by
    simp only[St.aQ,zE];rw[zJ (by omega)];rfl
   rw[p]at c;rcases c with c | ⟨_,c⟩ | c | ⟨_,_,c⟩<;>cases c
 obtain⟨u,_⟩:=R.YE (AK G S [(k,j)]) (by
  rintro b oo ⟨k',j',t,xs,deep,m,hmem,hown,g,r⟩;simp only[amd,Prod.mk.injEq]at hmem;obtain⟨rfl,rfl⟩:=hmem;refine⟨(h.olt _ _ g).2,λi N=>(by rw[g]at N;cases N),λU V P v X Y c len cap M f=>?_⟩;rw[g]at f;cases f
  obtain⟨m',Q,W⟩:=hent _ _ _ _ _ _ c;rw[hown]at Q;cases Q
  exact⟨W rfl,r len cap M⟩) (by
  rintro b oo ⟨k',j',t,xs,deep,m,hmem,hown,g,r⟩;exact (h.kY g).1) (by
  rintro b oo ⟨k',j',t,xs,deep,m,hmem,hown,g,r⟩ U V P v c f;simp only[amd,Prod.mk.injEq]at hmem;obtain⟨rfl,rfl⟩:=hmem;rw[g]at f;cases f
  exact L P v c _ _ _ _ hown)
 exact⟨_,u,rfl,rfl,rfl,rfl,rfl,λb oo=>Iff.rfl⟩
theorem Ht{S0:Nat->Nat->Prop}{t:Ty}{xs r:List t.den}{v:Value}(hrep:Rep w S0 (.list t xs) v){T e:TypeId}{i:TypeInfo}(s:P.underlying T=some (.slice e))(hi:P.info? e=some i)(u:i.size=t.size)
  {lo c:Option Value} {blo bhi:Option Int} (h:(lo=none/\blo.getD 0=0)\/∃k,lo=some (.int k (blo.getD 0))) (m:(c=none/\bhi.getD xs.length=xs.length)\/∃k,c=some (.int k (bhi.getD xs.length)))
  (C:eff.cutL xs blo bhi=some r):∃v',(Instr.sliceAt T v lo c none).run P w=.ok v' w/\Rep w S0 (.list t r) v':=by
 obtain⟨E,F,B,rfl⟩:=SV C;generalize H:blo.getD 0=l at *;generalize hh:bhi.getD (xs.length:Int)=hv at *;have p:((xs.take hv.toNat).drop l.toNat).length=hv.toNat-l.toNat:=by simp;omega
 generalize f:D.list t xs=dd at hrep;cases hrep with
 | int=>cases f
 | bool=>cases f
 | str=>cases f
 | nil t'=>
  cases f
  have n:hv=0:=by simp at B;omega
  subst n;have o:l=0:=by omega
  subst o;have a:=dR (P:=P) (w:=w) true 0 0 lo c 0 0 (h.imp id id) (by simpa using m) (by omega) (by omega) (by omega);refine⟨.slice none 0 0,?_,?_⟩
  ·simp only[Int.toNat_zero]at a;simp[Instr.sliceAt,Instr.slice,run_underlying s,a,sizeOf,typeInfo,hi]
  ·simp;exact .nil _
 | emp t' ad cap=>
  cases f
  have n:hv=0:=by simp at B;omega
  subst n;have o:l=0:=by omega
  subst o;have a:=dR (P:=P) (w:=w) true 0 cap lo c 0 0 (h.imp id id) (by simpa using m) (by omega) (by omega) (by omega);have y:ad.add 0=ad:=rfl;refine⟨.slice (some ad) 0 cap,?_,?_⟩
  ·simp only[Int.toNat_zero]at a;simp[Instr.sliceAt,Instr.slice,run_underlying s,a,sizeOf,typeInfo,hi,y]
  ·simp;exact .emp _ _ _
 | list t' xs' b off cap vs hcap hc z=>
  cases f
  have a:=dR (P:=P) (w:=w) true xs.length cap lo c l hv h m E F (by omega);by_cases q:cap=l.toNat
  ·refine⟨.slice (some ⟨b,off,none⟩) (hv.toNat-l.toNat) (cap-l.toNat),?_,?_⟩
   ·simp[Instr.sliceAt,Instr.slice,run_underlying s,a,sizeOf,typeInfo,hi,if_pos q]
   ·have y:(xs.take hv.toNat).drop l.toNat=[]:=amB (by omega);have G:hv.toNat-l.toNat=0:=by omega
    rw[y,G];exact .list t [] b off _ (λ_ _=>undef) (by simp) (λi x j d g=>by simp at g) (λi x j d g=>by simp at g)
  ·refine⟨.slice (some ⟨b,off+l.toNat*t.size,none⟩) (hv.toNat-l.toNat) (cap-l.toNat),?_,?_⟩
   ·simp[Instr.sliceAt,Instr.slice,run_underlying s,a,sizeOf,typeInfo,hi,q,u,addr_add]
   ·have hget:∀(i:Nat) (x:t.den),((xs.take hv.toNat).drop l.toNat)[i]?=some x->xs[l.toNat+i]?=some x:=by
     intro i x g;rw[amn,amo]at g;split at g
     ·exact g
     ·cases g
    rw[<- p];refine .list t _ b _ _ (λi j=>vs (l.toNat+i) j) (by rw[p];omega) (λi x j d g A=>?_) (λi x j d g A=>z _ x j d (hget i x g) A);have:=hc _ x j d (hget i x g) A;rw[Nat.add_mul,Nat.add_assoc,<- Nat.add_assoc off]at this;exact this
theorem Nu{S:St}{k j:Nat}{t:Ty}{xs:List t.den}{deep:Bool}(h:bC (S.aQ k) j=.own t xs deep false):S.put (.nomut k j)=S:=by
 show S.cO k ((S.aQ k).set j (bC (S.aQ k) j).Aw)=S
 have b:j<(S.aQ k).length:=by
  rcases Nat.lt_or_ge j (S.aQ k).length with a | a
  ·exact a
  ·simp[bC,zE,zJ a]at h
 have hk:k<S.owns.length:=by
  rcases Nat.lt_or_ge k S.owns.length with a | a
  ·exact a
  ·simp[St.aQ,zE,zJ a]at b
 have d:(S.aQ k).set j (bC (S.aQ k) j).Aw=S.aQ k:=by
  rw[h];show (S.aQ k).set j (.own t xs deep false)=_
  rw[<- h];refine List.ext_getElem (by simp) λi f c=>?_
  rw[List.getElem_set];split
  ·rename_i e;subst e;simp[bC,zE,b]
  ·rfl
 rw[d];cases S with
 | mk tm bx ow=>
  show St.mk tm bx (ow.set k _)=St.mk tm bx ow
  congr 1;refine List.ext_getElem (by simp) λi f c=>?_
  rw[List.getElem_set];split
  ·rename_i e;subst e;simp[St.aQ,zE,c]
  ·rfl
theorem ae4(h:Inv w0 G S a w){T:TypeId}{x:Operand}{lo hi mx:Option Operand}(ho:o.op=.slice T x lo hi mx){E:Env}(hT:E.tt.ok P=true){ws:List W}(hv:(eff E o).val S=some ws)
  (R:∀a' w' G',Inv w0 G' (S.puts ws) a' w'->K a' w'):o.wp P a w K Q:=by
 unfold eff at hv;rw[ho]at hv;simp only at hv;split at hv
 ·cases hv
 simp only[Rd.aK,zB]at hv;obtain⟨av,h1,blo,h2,bhi,V,hv⟩:=hv;have M:=aY h h1;have B:=abx h h2;have H:=abx h V;have run:∀ {v':Value},(Instr.sliceAt T (a.eval x) (lo.map a.eval) (hi.map a.eval) none).run P w=.ok v' w->(execOp a.eval o).run P w=.ok (.value v') w:=by
  intro v' hr';unfold execOp;simp[ho,hr']
 split at hv
 ·rename_i s;split at hv
  case isFalse=>cases hv
  rename_i hs;have F:=TT.LW hT hs;simp only[Rd.val,zB,zD]at hv;obtain⟨r,A,rfl⟩:=hv;obtain⟨c0,c1,c2,rfl⟩:=SV A;have B:=B 0;have H:=H (s.length:Int);generalize hl:blo.getD 0=l at *;generalize hh:bhi.getD (s.length:Int)=hv' at *;generalize hxv:a.eval x=xv at *;generalize y:D.str s=dd at M;cases M with
  | int=>cases y
  | bool=>cases y
  | nil=>cases y
  | emp=>cases y
  | list=>cases y
  | str v=>
   cases y
   rw[oM]at c2 H;have f:=dR (P:=P) (w:=w) false v.size v.size (lo.map a.eval) (hi.map a.eval) l hv' B H c0 c1 c2;refine aW (v:=.string (v.extract l.toNat hv'.toNat)) (w':=w) (run ?_) (R _ _ _ (h.dst (av:=.v (.one (.d (.str _)))) ?_))
   ·simp[Instr.sliceAt,Instr.slice,run_underlying F,f]
   ·have e:(v.data.toList.take hv'.toNat).drop l.toNat=(v.extract l.toNat hv'.toNat).data.toList:=by
     simp[List.drop_take]
    rw[e];exact Rep.str _
 ·rename_i t xs;split at hv
  case isFalse=>cases hv
  rename_i X;obtain⟨e,inf,z,F,p,C,_⟩:=TT.jG hT X;simp only[Rd.val,zB,zD]at hv;obtain⟨r,A,rfl⟩:=hv;obtain⟨v',h5,h6⟩:=Ht (P:=P) M F p C (B 0) (H xs.length) A;exact aW (run h5) (R _ _ _ (h.dst h6))
 ·rename_i k j;by_cases hpre:akh E o=true
  ·rw[if_pos hpre]at hv;unfold aeK at hv;split at hv
   case h_3=>cases hv
   case h_2 hh=>
    simp only[Rd.val]at hv
    split at hv
    case h_2=>cases hv
    rename_i t xs deep mm hown
    split at hv
    case isFalse=>cases hv
    rename_i X
    obtain⟨e,inf,z,F,p,C,_⟩:=TT.jG hT X
    simp only[Rd.val,zB,zD]at hv
    obtain⟨m,A,rfl⟩:=hv
    have hmn:hh=(m:Int)/\m<=xs.length:=by
     unfold cutAt at A;split at A
     ·rename_i hc;cases A;omega
     ·cases A
    obtain⟨rfl,hml⟩:=hmn
    have g:=B 0
    simp only[Option.getD_some]at g
    have I:∃k,lo.map a.eval=some (.int k (m:Int)):=by
     rcases g with ⟨q,q2⟩ | q
     ·cases lo with
      | none=>simp[eff.bnd,Rd.val]at h2
      | some x=>simp at q
     ·exact q
    have u:hi.map a.eval=none:=by
     cases hi with
     | none=>rfl
     | some x=>
      simp only[eff.bnd,Rd.aK,zB,Rd.val,zD]at V;obtain⟨_,_,_,_,V⟩:=V;cases V
    have hO:=h.owns k j
    rw[hown]at hO
    rcases hO with ⟨ev,rfl⟩ | ⟨b,cap,arr,E0,vs,fps,ev,_,hcap,_⟩
    ·have Y:m=0:=by simpa using hml
     subst Y;have f:=dR (P:=P) (w:=w) true 0 0 (lo.map a.eval) (hi.map a.eval) 0 0 (.inr I) (.inl ⟨u,rfl⟩) (by omega) (by omega) (by omega);refine aW (v:=.slice none 0 0) (run ?_) (R _ _ _ (h.dst (av:=.suf t k j 0) ⟨M.1,λw' S' xs' U=>by rw[ev]at U;exact U⟩));rw[M.2.1,ev];simp only[Int.toNat_zero]at f;simp[Instr.sliceAt,Instr.slice,run_underlying F,f,sizeOf,typeInfo,p]
    ·have f:=dR (P:=P) (w:=w) true xs.length cap (lo.map a.eval) (hi.map a.eval) m xs.length (.inr I) (.inl ⟨u,rfl⟩) (by omega) (by omega) (by omega);refine aW (v:=.slice (some ⟨b,if cap=m then 0 else m*t.size,none⟩) (xs.length-m) (cap-m)) (run ?_) (R _ _ _ (h.dst (av:=.suf t k j m) ⟨M.1,λw' S' xs' U=>?_⟩))
     ·rw[M.2.1,ev];simp only[aE]at f;by_cases hcm:cap=m
      ·subst hcm;simp[Instr.sliceAt,Instr.slice,run_underlying F,f,sizeOf,typeInfo,p]
      ·simp[Instr.sliceAt,Instr.slice,run_underlying F,f,sizeOf,typeInfo,p,hcm,addr_add,C]
     ·rw[ev]at U;generalize y:D.list t xs'=dd at U;generalize Z:Value.slice (some ⟨b,0,none⟩) xs.length cap=vv at U;cases U with
      | int=>cases y
      | bool=>cases y
      | str=>cases y
      | nil=>cases Z
      | emp t' ad cap'=>
       cases y
       simp only[Value.slice.injEq,zD]at Z;obtain⟨rfl,hle,rfl⟩:=Z;have Y:m=0:=by omega
       subst Y;simp only[List.drop_nil,Nat.zero_mul,ite_self,Nat.sub_zero];rw[hle];exact Rep.emp _ _ _
      | list t' xs2 b' off cap' vs' hcap' hc' hrr'=>
       cases y
       simp only[Value.slice.injEq,zD,Addr.mk.injEq]at Z;obtain⟨⟨rfl,rfl,_⟩,hle,rfl⟩:=Z;by_cases hmx:m=xs.length
       ·have e0:xs'.drop m=[]:=List.drop_eq_nil_of_le (by omega);rw[e0,show xs.length-m=0 by omega];exact .emp _ _ _
       ·have hcm:cap≠m:=by omega
        rw[if_neg hcm];have e1:xs.length-m=(xs'.drop m).length:=by rw[amx];omega
        rw[e1];refine .list t (xs'.drop m) b (m*t.size) (cap-m) (λi j=>vs' (m+i) j) (by rw[amx];omega) (λi x j d U hd=>?_) (λi x j d U hd=>?_)
        ·rw[amn]at U;have:=hc' _ _ _ _ U hd;rw[Nat.add_mul]at this;simpa [Nat.add_assoc] using this
        ·rw[amn]at U;exact hrr' _ _ _ _ U hd
   rename_i hh;simp only[Rd.val]at hv;split at hv
   case h_2=>cases hv
   rename_i t xs deep hown;split at hv
   case isFalse=>cases hv
   rename_i X;obtain⟨e,inf,z,F,p,C,_⟩:=TT.jG hT X;simp only[Rd.val,zB]at hv;obtain⟨m,A,hv⟩:=hv;have hmn:hh=(m:Int)/\m<=xs.length:=by
    unfold cutAt at A;split at A
    ·rename_i hc;cases A;omega
    ·cases A
   obtain⟨rfl,hml⟩:=hmn;have g:=B 0;have J:=H 0;simp only[Option.getD_some,Option.getD_none]at g J;have u:∃k,hi.map a.eval=some (.int k (m:Int)):=by
    rcases J with ⟨q,q2⟩ | q
    ·cases hi with
     | none=>simp[eff.bnd,Rd.val]at V
     | some x=>simp at q
    ·exact q
   have hO:=h.owns k j;rw[hown]at hO;have hO':OwT w G.S deep true t xs (G.ov k j) (iZ G k j):=hO;obtain⟨v',hrun,hrel⟩:∃v',(execOp a.eval o).run P w=.ok (.value v') w/\((v'=.slice none 0 0/\m=0/\G.ov k j=.slice none 0 0)\/∃b len cap,G.ov k j=.slice (some ⟨b,0,none⟩) len cap/\m<=len/\v'=.slice (some ⟨b,0,none⟩) m cap):=by
    rcases hO with ⟨ev,rfl⟩ | ⟨b,cap,arr,E0,vs,fps,ev,_,hcap,_⟩
    ·have Y:m=0:=by simpa using hml
     subst Y;have f:=dR (P:=P) (w:=w) true 0 0 (lo.map a.eval) (hi.map a.eval) 0 0 (g.imp (λq=>⟨q.1,rfl⟩) id) (.inr u) (by omega) (by omega) (by omega);refine⟨.slice none 0 0,run ?_,.inl ⟨rfl,rfl,ev⟩⟩;rw[M.2.1,ev];simp only[Int.toNat_zero]at f;simp[Instr.sliceAt,Instr.slice,run_underlying F,f,sizeOf,typeInfo,p]
    ·have f:=dR (P:=P) (w:=w) true xs.length cap (lo.map a.eval) (hi.map a.eval) 0 m (g.imp (λq=>⟨q.1,rfl⟩) id) (.inr u) (by omega) (by omega) (by omega);refine⟨.slice (some ⟨b,0,none⟩) m cap,run ?_,.inr ⟨b,xs.length,cap,ev,hml,rfl⟩⟩;rw[M.2.1,ev];simp only[Int.toNat_zero,aE]at f;simp[Instr.sliceAt,Instr.slice,run_underlying F,f,sizeOf,typeInfo,p,addr_add]
   cases L:afD E o with
   | none=>
    rw[L]at hv;simp only[Rd.val,zD]at hv;subst hv;exact aW hrun (R _ _ _ (h.dst (av:=.pre k j m) ⟨M.1,hrel⟩))
   | some d=>
    rw[L]at hv;simp only[Rd.aK,zB,Rd.val,zD]at hv;obtain⟨ws',h10,rfl⟩:=hv;obtain⟨hdO,rfl⟩:=iP h10;have hd:o.dst=some d:=by
     unfold afD at L;split at L
     ·rename_i d' hd';split at L
      ·cases L;exact hd'
      ·cases L
     ·cases L
    have h12:=h.EJ k j .dead trivial;have hdO1:(S.cO k ((S.aQ k).set j .dead)).aQ d=[]:=by
     rw[bK];split
     ·rename_i hkd;rw[hkd.1,hdO];rfl
     ·exact hdO
    obtain⟨G2,h7⟩:=h12.KU d (v:=v') (iZ G k j) hdO1 (λc hc=>by
     have hlt:=h.kY hc;refine⟨hlt.1,hlt.2,λi hb=>?_,λk' j' t2 xs2 d2 m2 hb=>?_⟩
     ·rw[show G.ow c=_ from hc]at hb;cases hb
     ·rw[show G.ow c=_ from hc]at hb;cases hb
      rw[BN];simp[O.fU]) (hO'.aaM hrel)
    refine aW hrun (R _ _ G2 ?_);rw[hd];exact h7
  rw[if_neg hpre]at hv;simp only[Rd.val]at hv;split at hv
  ·rename_i t xs deep m hown;split at hv
   case isFalse=>cases hv
   rename_i X;obtain⟨e,inf,z,F,p,C,_⟩:=TT.jG hT X;simp only[Rd.val,zB,zD]at hv;obtain⟨r,A,rfl⟩:=hv;have hrep:=h.KN hown [(k,j)] (by simp);rw[<- M.2.1]at hrep;obtain⟨v',h5,h6⟩:=Ht (P:=P) hrep F p C (B 0) (H xs.length) A;obtain⟨G1,h7,m7⟩:=h.TM k j;have h8:=h7.dst (o:=o) (av:=.v (.one (.d (.list t r)))) (v:=v') (h6.move λb oo hs=>⟨(m7.s b oo).2 hs,rfl⟩);cases m with
   | true=>exact aW (run h5) (R _ _ _ h8)
   | false=>
    rw[Nu hown]at h8;exact aW (run h5) (R _ _ _ h8)
  ·rename_i t xs hown;split at hv
   case isFalse=>cases hv
   rename_i X;obtain⟨e,inf,z,F,p,C,_⟩:=TT.jG hT X;simp only[Rd.val,zB,zD]at hv;obtain⟨r,A,rfl⟩:=hv;have hrep:=h.UM hown;rw[<- M.2.1]at hrep;obtain⟨v',h5,h6⟩:=Ht (P:=P) hrep F p C (B 0) (H xs.length) A;exact aW (run h5) (R _ _ _ (h.dst h6))
  ·cases hv
 ·rename_i t len n k1 k2;split at hv
  case isFalse=>cases hv
  rename_i X;obtain⟨e,inf,z,F,p,C,_⟩:=TT.jG hT X;obtain⟨hl1,hl2,M⟩:=M;split at hv
  ·rename_i hh;simp only[Rd.val,zB,zD]at hv;obtain⟨_,A,rfl⟩:=hv;split at A
   case isFalse=>cases A
   rename_i hhn;subst hhn;have g:=B 0;have J:=H 0;simp only[Option.getD_some,Option.getD_none]at g J;have u:∃k,hi.map a.eval=some (.int k (n:Int)):=by
    rcases J with ⟨q,q2⟩ | q
    ·cases hi with
     | none=>simp[eff.bnd,Rd.val]at V
     | some x=>simp at q
    ·exact q
   rcases M with ⟨N,hn0,o1,o2⟩ | ⟨b,cap,N,hlc,hnl,o1,o2⟩
   ·subst hn0;have f:=dR (P:=P) (w:=w) true 0 0 (lo.map a.eval) (hi.map a.eval) 0 0 (g.imp (λq=>⟨q.1,rfl⟩) id) (.inr u) (by omega) (by omega) (by omega);refine aW (v:=.slice none 0 0) (run ?_) (R _ _ _ (h.dst (av:=.seg k1) ⟨hl1,o1.symm⟩));rw[N];simp only[Int.toNat_zero]at f;simp[Instr.sliceAt,Instr.slice,run_underlying F,f,sizeOf,typeInfo,p]
   ·have f:=dR (P:=P) (w:=w) true len cap (lo.map a.eval) (hi.map a.eval) 0 n (g.imp (λq=>⟨q.1,rfl⟩) id) (.inr u) (by omega) (by omega) (by omega);refine aW (v:=.slice (some ⟨b,0,none⟩) n cap) (run ?_) (R _ _ _ (h.dst (av:=.seg k1) ⟨hl1,o1.symm⟩));rw[N];simp only[Int.toNat_zero,aE]at f;simp[Instr.sliceAt,Instr.slice,run_underlying F,f,sizeOf,typeInfo,p,addr_add]
  ·rename_i l;simp only[Rd.val,zB,zD]at hv;obtain⟨_,A,rfl⟩:=hv;split at A
   case isFalse=>cases A
   rename_i hln;subst hln;have g:=B 0;have I:∃k,lo.map a.eval=some (.int k (n:Int)):=by
    rcases g with ⟨q,q2⟩ | q
    ·cases lo with
     | none=>simp[eff.bnd,Rd.val]at h2
     | some x=>simp at q
    ·exact q
   have u:hi.map a.eval=none:=by
    cases hi with
    | none=>rfl
    | some x=>
     simp only[eff.bnd,Rd.aK,zB,Rd.val,zD]at V;obtain⟨_,_,_,_,V⟩:=V;cases V
   rcases M with ⟨N,hn0,o1,o2⟩ | ⟨b,cap,N,hlc,hnl,o1,o2⟩
   ·subst hn0;have f:=dR (P:=P) (w:=w) true 0 0 (lo.map a.eval) (hi.map a.eval) 0 0 (.inr I) (.inl ⟨u,rfl⟩) (by omega) (by omega) (by omega);refine aW (v:=.slice none 0 0) (run ?_) (R _ _ _ (h.dst (av:=.seg k2) ⟨hl2,o2.symm⟩));rw[N];simp only[Int.toNat_zero]at f;simp[Instr.sliceAt,Instr.slice,run_underlying F,f,sizeOf,typeInfo,p]
   ·have f:=dR (P:=P) (w:=w) true len cap (lo.map a.eval) (hi.map a.eval) n len (.inr I) (.inl ⟨u,rfl⟩) (by omega) (by omega) (by omega);refine aW (v:=.slice (some ⟨b,if cap=n then 0 else n*t.size,none⟩) (len-n) (cap-n)) (run ?_) (R _ _ _ (h.dst (av:=.seg k2) ⟨hl2,o2.symm⟩));rw[N];simp only[aE]at f;by_cases hcn:cap=n
    ·subst hcn;simp[Instr.sliceAt,Instr.slice,run_underlying F,f,sizeOf,typeInfo,p,addr_add]
    ·simp[Instr.sliceAt,Instr.slice,run_underlying F,f,sizeOf,typeInfo,p,addr_add,hcn,C]
  ·cases hv
 ·cases hv
end ops
def callable(P:Program)(f:FuncId):Bool:=match P.funcs[f]? with
 | some fn => !(fn.name == "runtime.NumGoroutine") && fn.body.isSome
 | none=>false
abbrev Off(F:Nat->Prop)(w w':World):Prop:=jJ F w.heap.size w w'
def akl(w:World)(s:Sh)(x:s.t.den)(u:Value)(fps:Nat->Nat->Prop):Prop:=
 ShR (λi d v=>Ow w (λ_ _=>False) true d v (fps i)) 0 s x u
def aay(P:Program)(m:Msp):Prop:=∀(w:World) (u:Value) (x:m.sh.t.den) (n:Int) (r:m.sh.t.den×Int) (fps:Nat->Nat->Prop),m.fn x n=some r->amb w ->
 akl w m.sh x u fps->(∀i c,fps i c->nT<=c/\c<w.heap.size)->(∀i i' c,fps i c->fps i' c->i=i') ->
 Calls P m.fid #[u,.int .i64 n] w λe w'=>e=.returned (.int .i64 r.2)/\Off (λc=>∃i,fps i c) w w'/\akl w' m.sh r.1 u fps
def G5(P:Program)(s:Srt):Prop:=∀(w:World) (S:Nat->Nat->Prop) (deep:Bool) (bb:Nat) (E:TypeId) (u:Value) (xs ys:List s.t.den) (fp:Nat->Prop),s.fn xs=some ys->amb w ->
 OwT w S deep true s.t xs u fp->(∀c,fp c->c<w.heap.size)->(∀b o,S b o->b<w.heap.size)->w.heap[bb]?=some (.cells #[u] E (0,0))->¬fp bb ->
 Calls P s.fid #[.iface s.T u,.func (.func s.g) #[] #[.pointer (some ⟨bb,0,none⟩)]] w λe w'=>e=.returned (.tuple #[])/\Off (λc=>fp c/\∀o,¬S c o) w w'/\OwT w' S deep true s.t ys u fp
theorem aV.get{R:Nat->D->Value->Prop}:∀ {n:Nat} {ds:List D} {vs:List Value},aV R n ds vs->ds.length=vs.length/\∀(i:Nat) (d:D) (v:Value),ds[i]?=some d->vs[i]?=some v->R (n+i) d v
 | n,[],[],_=>⟨rfl,λi d v h=>by simp at h⟩
 | n,d::ds,v::vs,h=>by
  obtain⟨b,c⟩:=aV.get h.2;refine⟨by simp[b],λi d' v' a hv=>?_⟩;cases i with
  | zero=>simp at a hv;subst a;subst hv;exact h.1
  | succ i=>simp at a hv;have:=c i d' v' a hv;rwa [show n+1+i=n+(i+1) by omega]at this
section ops
variable {P:Program} {w0:Bs} {G:Gh} {S:St} {a:Act} {w:World} {o:Oper} {K:Act->World->Prop} {Q:Exit->Act->World->Prop}
theorem mg{c:Call}{f:FuncId}(ho:o.op=.call c)(hc:c.callee=.value (.func f))(hf:callable P f=true) :
  (execOp a.eval o).run P w=.ok (.enter f (c.args.map a.eval)) w:=by
 unfold callable at hf;split at hf
 ·rename_i fn hfn;simp only[zI,Bool.not_eq_true']at hf;have hn : ¬ fn.name = "runtime.NumGoroutine" := by simpa using hf.1
  have hb:¬fn.body=none:=by
   have:=hf.2;cases hbb:fn.body<;>simp_all
  unfold execOp;simp[ho,resolve,hc,Act.eval,Deferred.ofValue,invoke,callFunc,hfn,hn,hb]
 ·cases hf
end ops
def pack:List Value->Value
 | [v]=>v
 | vs=>.tuple vs.toArray
def Tq(B:Nat)(w':World)(S:Nat->Nat->Prop)(ex:Bool)(rs:List Sh)(y:Tup rs)(v:Value):Prop:=
 ∃us:List Value,v=pack us/\match ex with
  | true=>∃fps:Nat->Nat->Prop,jI (λi d u=>Ow w' (λ_ _=>False) true d u (fps i)) 0 rs y us/\(∀i c,fps i c->B<=c/\c<w'.heap.size)/\∀i i' c,fps i c->fps i' c->i=i'
  | false=>∃S':Nat->Nat->Prop,jI (λ_ d u=>Rep w' S' d u) 0 rs y us/\∀b o,S' b o->(S b o\/B<=b)/\b<w'.heap.size
def Sound(P:Program)(s:Fsp):Prop:=∀(w:World) (S:Nat->Nat->Prop) (args:List Value) (x:Tup s.ps) (y:Tup s.rs),s.fn x=some y->amb w ->
 jI (λ_ d u=>Rep w S d u) 0 s.ps x args->(∀b o,S b o->b<w.heap.size) ->
 Calls P s.fid args.toArray w λe w'=>∃v,e=.returned v/\Below w.heap.size w w'/\Tq w.heap.size w' S s.ex s.rs y v
def Ku(w:World)(S:Nat->Nat->Prop)(d:D)(u:Value)(fp:Nat->Prop):Prop:=match d with
 | .list t xs=>OwT w S false true t xs u fp
 | d=>Rep w S d u
def Tn(B:Nat)(w':World)(S':Nat->Nat->Prop)(sh:Bool)(rs:List Sh)(y:Tup rs)(us:List Value):Prop:=match sh with
 | true=>∃fps:Nat->Nat->Prop,jI (λi d u=>Ku w' S' d u (fps i)) 0 rs y us/\(∀i c,fps i c->B<=c/\c<w'.heap.size)/\∀i i' c,fps i c->fps i' c->i=i'
 | false=>jI (λ_ d u=>Rep w' S' d u) 0 rs y us
def PV(P:Program)(s:Fsp):Prop:=∀(w:World) (S:Nat->Nat->Prop) (args:List Value) (x:Tup s.ps) (y:Tup s.rs),s.fn x=some y->amb w ->
 jI (λ_ d u=>Rep w S d u) 0 s.ps x args->(∀b o,S b o->b<w.heap.size) ->
 Calls P s.fid args.toArray w λe w'=>∃v,e=.returned v/\Below w.heap.size w w'/\∃(S':Nat->Nat->Prop) (us:List Value),v=pack us/\Tn w.heap.size w' S' true s.rs y us /\
  ∀b o,S' b o->(S b o\/w.heap.size<=b)/\b<w'.heap.size
def akm(B:Nat)(w':World)(rs:List Sh)(y:Tup rs)(us:List Value):Prop:=
 ∃fps:Nat->Nat->Prop,jI (λi d u=>Ow w' (λ_ _=>False) true d u (fps i)) 0 rs y us/\(∀i c,fps i c->B<=c/\c<w'.heap.size)/\∀i i' c,fps i c->fps i' c->i=i'
def aiu(B:Nat)(w':World)(S:Nat->Nat->Prop)(bb:Nat)(ex sh:Bool):(rs:List Sh)->Tup rs->Value->Prop
 | [],_,_=>False
 | c::rs,y,v=>∃(S':Nat->Nat->Prop) (vs':List Value) (Et:TypeId) (us:List Value),v=pack us/\w'.heap[bb]?=some (.cells vs'.toArray Et (0,0)) /\
   aV (λ_ d u=>Rep w' S' d u) 0 (c.t.cells (jX y)) vs'/\(match ex with
    | true=>akm B w' rs (yS y) us
    | false=>Tn B w' S' sh rs (yS y) us)/\∀b o,S' b o->(S b o\/(ex=false/\B<=b))/\b<w'.heap.size
def jw(P:Program)(s:Fsp):Prop:=∀(w:World) (S:Nat->Nat->Prop) (bb:Nat) (vs:List Value) (Et:TypeId) (args:List Value) (x:Tup s.ps) (y:Tup s.rs),s.fn x=some y->amb w->nT<=bb ->
 w.heap[bb]?=some (.cells vs.toArray Et (0,0))->jI (λ_ d u=>Rep w S d u) 0 s.ps x (.agg vs.toArray::args)->(∀b o,S b o->b<w.heap.size/\b≠bb) ->
 Calls P s.fid (Value.pointer (some ⟨bb,0,none⟩)::args).toArray w λe w'=>∃v,e=.returned v/\jJ (λc=>c=bb) w.heap.size w w'/\jv w w' bb/\aiu w.heap.size w' S bb s.ex s.sh s.rs y v
def PX(P:Program)(s:Fsp):Prop:=∀(w:World) (S:Nat->Nat->Prop) (args:List Value) (x:Tup s.ps) (y:Tup s.rs),s.fn x=some y->amb w ->
 jI (λ_ d u=>Rep w S d u) 0 s.ps x args->(∀b o,S b o->b<w.heap.size) ->
 Calls P s.fid args.toArray w λe w'=>∃bb,e=.returned (.pointer (some ⟨bb,0,none⟩))/\Below w.heap.size w w'/\w.heap.size<=bb /\
  ∃(vs':List Value) (Et:TypeId) (S':Nat->Nat->Prop),w'.heap[bb]?=some (.cells vs'.toArray Et (0,0))/\aV (λ_ d u=>Rep w' S' d u) 0 (dI s.rs y) vs'/\∀b o,S' b o->(S b o\/w.heap.size<=b)/\b<w'.heap.size/\b≠bb
def agC(P:Program)(s:Isp):Prop:=∀(w:World) (S:Nat->Nat->Prop) (deep:Bool) (u:Value) (xs ys:List s.t.den) (fp:Nat->Prop),s.fn xs=some ys->amb w ->
 OwT w S deep true s.t xs u fp->(∀c,fp c->c<w.heap.size)->(∀b o,S b o->b<w.heap.size) ->
 Calls P s.fid #[u] w λe w'=>e=.returned (.tuple #[])/\Off (λc=>fp c/\∀o,¬S c o) w w'/\OwT w' S deep true s.t ys u fp
def agD(w:World)(S:Nat->Nat->Prop)(R:Nat->Prop)(d:D)(u:Value):Prop:=match d with
 | .list t xs=>OwT w S false false t xs u R
 | d=>Rep w S d u
def abI(w:World)(S:Nat->Nat->Prop)(R:Nat->Prop)(ap:Nat)(vs:List Value)(args:List Value):(ps:List Sh)->Tup ps->Prop
 | [],_=>False
 | c::ps,x=>c.agg=true/\aV (λi d u=>if i=ap then agD w S R d u else Rep w S d u) 0 (c.t.cells (jX x)) vs/\jI (λ_ d u=>Rep w S d u) 0 ps (yS x) args
def ais(B:Nat)(w':World)(S:Nat->Nat->Prop)(R:Nat->Prop)(bb ap:Nat)(v:Value):(rs:List Sh)->Tup rs->Prop
 | [],_=>False
 | c::rs,y=>∃(S':Nat->Nat->Prop) (R':Nat->Prop) (vs':List Value) (Et:TypeId) (us:List Value),v=pack us/\w'.heap[bb]?=some (.cells vs'.toArray Et (0,0)) /\
   aV (λi d u=>if i=ap then agD w' S' R' d u else Rep w' S' d u) 0 (c.t.cells (jX y)) vs'/\jI (λ_ d u=>Rep w' S' d u) 0 rs (yS y) us /\
   (∀b o,S b o->S' b o)/\(∀b o,S' b o->(S b o\/B<=b\/R b)/\b<w'.heap.size)/\∀c,R' c->(B<=c\/R c)/\c<w'.heap.size
def fH(P:Program)(s:Fsp)(ap:Nat):Prop:=∀(w:World) (S:Nat->Nat->Prop) (R:Nat->Prop) (bb:Nat) (vs:List Value) (Et:TypeId) (args:List Value) (x:Tup s.ps) (y:Tup s.rs),s.fn x=some y->amb w->nT<=bb ->
 w.heap[bb]?=some (.cells vs.toArray Et (0,0))->abI w S R ap vs args s.ps x->(∀b o,S b o->b<w.heap.size/\b≠bb)->(∀c,R c->nT<=c/\c<w.heap.size/\c≠bb) ->
 Calls P s.fid (Value.pointer (some ⟨bb,0,none⟩)::args).toArray w λe w'=>∃v,e=.returned v/\jJ (λc=>c=bb\/R c) w.heap.size w w'/\(∀b o,S b o->w'.cell? ⟨b,o,none⟩=w.cell? ⟨b,o,none⟩)/\ais w.heap.size w' S R bb ap v s.rs y
def tmV(us:List Value):List (Int⊕Nat)->List Value
 | []=>[]
 | .inl n::r=>.int .i64 n::tmV us r
 | .inr i::r=>us.getD i undef::tmV us r
def PW(P:Program)(s:Psp):Prop:=∀(w:World) (us:List Value),us.length=s.n->(∀u,u∈us->u.oneCell'=true) ->
 Calls P s.fid us.toArray w λe w'=>e=.returned (.agg (tmV us s.tm).toArray)/\Below w.heap.size w w'
def PY(P:Program)(s:Ksp):Prop:=∀(w:World) (S:Nat->Nat->Prop) (bb:Nat) (vs:List Value) (Et:TypeId) (us us':List Value) (x:s.c.t.den) (y:s.c.t.den×Bool),s.fn x=some y->amb w->nT<=bb ->
 w.heap[bb]?=some (.cells vs.toArray Et (0,0))->jI (ss:=[s.c]) (λ_ d u=>Rep w S d u) 0 x [.agg vs.toArray]->(∀b o,S b o->b<w.heap.size/\b≠bb)->us.length=s.n->us'.length=s.n ->
 (∀u,u∈us->u.oneCell'=true)->(∀u,u∈us'->u.oneCell'=true) ->
 Calls P s.fid #[.pointer (some ⟨bb,0,none⟩),.agg us.toArray,.agg us'.toArray] w λe w'=>e=.returned (.agg (bif y.2 then us else us').toArray)/\jJ (λc=>c=bb) w.heap.size w w'/\jv w w' bb /\
  ∃(S':Nat->Nat->Prop) (vs':List Value) (Et':TypeId),w'.heap[bb]?=some (.cells vs'.toArray Et' (0,0))/\aV (λ_ d u=>Rep w' S' d u) 0 (s.c.t.cells y.1) vs'/\∀b o,S' b o->(S b o\/w.heap.size<=b)/\b<w'.heap.size
def jd(P:Program)(E:Env):Prop:=E.tt.ok P=true/\(∀s,s∈E.fs->callable P s.fid=true/\Sound P s)/\(∀m,m∈E.ms->callable P m.fid=true/\aay P m) /\
 (∀s,s∈E.bs->callable P s.fid=true/\jw P s)/\(∀s,s∈E.ns->callable P s.fid=true/\PX P s)/\(∀s,s∈E.ss->callable P s.fid=true/\PV P s) /\
 (∀s,s∈E.so->callable P s.fid=true/\G5 P s/\∃d,P.underlying s.T=some d/\∀ms,d≠.interface ms) /\
 (∀s,s∈E.is->callable P s.fid=true/\agC P s)/\(∀q,q∈E.mb->callable P q.1.fid=true/\fH P q.1 q.2)/\(∀s,s∈E.ps->callable P s.fid=true/\PW P s)/\∀s,s∈E.ks->callable P s.fid=true/\PY P s
def oP(P:Program)(E:Env)(w0:Bs):Prop:=E.tt.ok P=true/\(∀s,s∈E.fs->callable P s.fid=true/\Sound P s)/\(∀m,m∈E.ms->callable P m.fid=true/\aay P m) /\
 (∀s,s∈E.bs->callable P s.fid=true/\jw P s)/\(∀s,s∈E.ns->callable P s.fid=true/\PX P s)/\(∀s,s∈E.ss->callable P s.fid=true/\PV P s) /\
 (∀s,s∈E.so->callable P s.fid=true/\G5 P s/\∃d,P.underlying s.T=some d/\∀ms,d≠.interface ms)/\(∀s,s∈E.is->callable P s.fid=true/\agC P s)/\lq w0/\(E.ma=true->∀b,w0.bx≠some (b,true))/\(∀q,q∈E.mb->callable P q.1.fid=true/\fH P q.1 q.2)/\(∀s,s∈E.ps->callable P s.fid=true/\PW P s)/\∀s,s∈E.ks->callable P s.fid=true/\PY P s
theorem jd.at{P:Program}{E:Env}{w0:Bs}(h:jd P E)(a:lq w0)(c:E.ma=true->∀b,w0.bx≠some (b,true)):oP P E w0:=⟨h.1,h.2.1,h.2.2.1,h.2.2.2.1,h.2.2.2.2.1,h.2.2.2.2.2.1,h.2.2.2.2.2.2.1,h.2.2.2.2.2.2.2.1,a,c,h.2.2.2.2.2.2.2.2⟩
theorem oP.am{P:Program}{E:Env}{w0:Bs}(h:oP P E w0):lq w0:=h.2.2.2.2.2.2.2.2.1
theorem oP.ma{P:Program}{E:Env}{w0:Bs}(h:oP P E w0):E.ma=true->∀b,w0.bx≠some (b,true):=h.2.2.2.2.2.2.2.2.2.1
theorem oP.mb{P:Program}{E:Env}{w0:Bs}(h:oP P E w0):∀q,q∈E.mb->callable P q.1.fid=true/\fH P q.1 q.2:=h.2.2.2.2.2.2.2.2.2.2.1
theorem oP.ps{P:Program}{E:Env}{w0:Bs}(h:oP P E w0):∀s,s∈E.ps->callable P s.fid=true/\PW P s:=h.2.2.2.2.2.2.2.2.2.2.2.1
theorem oP.ks{P:Program}{E:Env}{w0:Bs}(h:oP P E w0):∀s,s∈E.ks->callable P s.fid=true/\PY P s:=h.2.2.2.2.2.2.2.2.2.2.2.2
theorem aV.imp{R R':Nat->D->Value->Prop}(h:∀i d v,R i d v->R' i d v):∀ {n:Nat} {ds:List D} {vs:List Value},aV R n ds vs->aV R' n ds vs
 | n,[],[],_=>trivial
 | n,d::ds,v::vs,hh=>⟨h _ _ _ hh.1,aV.imp h hh.2⟩
theorem ShR.imp{R R':Nat->D->Value->Prop}(h:∀i d v,R i d v->R' i d v){n:Nat}{s:Sh}{x:s.t.den}{u:Value}(hh:ShR R n s x u):ShR R' n s x u:=by
 unfold ShR at *;split at hh
 ·obtain⟨vs,e,hc⟩:=hh;exact⟨vs,e,hc.imp h⟩
 ·exact aV.imp h hh
theorem jI.imp{R R':Nat->D->Value->Prop}(h:∀i d v,R i d v->R' i d v):∀ {n:Nat} {ss:List Sh} {y:Tup ss} {us:List Value},jI R n ss y us->jI R' n ss y us
 | n,[],y,[],_=>trivial
 | n,[s],y,[u],hh=>ShR.imp h hh
 | n,s::s'::r,y,u::us,hh=>⟨ShR.imp h hh.1,jI.imp h hh.2⟩
section ops
variable {P:Program} {w0:Bs} {G:Gh} {S:St} {a:Act} {w:World} {o:Oper} {K:Act->World->Prop} {Q:Exit->Act->World->Prop}
theorem Iq{d:Nat}{ex:Bool}{R:Nat->D->Value->Prop}(a:∀i x v,R i x v->mV G w (aeC d ex i x) v):∀ {n:Nat} {ds:List D} {vs:List Value},aV R n ds vs->dh G w (Rz d ex n ds) vs
 | n,[],[],_=>trivial
 | n,x::ds,v::vs,h=>⟨a _ _ _ h.1,Iq a h.2⟩
theorem WY{d:Nat}{ex:Bool}{R:Nat->D->Value->Prop}(b:∀i x v,R i x v->mV G w (aeC d ex i x) v){n:Nat}{s:Sh}{y:s.t.den}{u:Value}(h:ShR R n s y u):tN G w (mkV' s.agg (Rz d ex n (s.t.cells y))) u:=by
 unfold ShR at h;split at h
 ·rename_i a;obtain⟨vs,rfl,hc⟩:=h;rw[a];exact⟨vs,rfl,Iq b hc⟩
 ·rename_i a;rw[a];have hc:=Iq b h;match e:Rz d ex n (s.t.cells y),hc with
  | [c],hc=>exact hc.1
theorem mJ{d:Nat}{ex:Bool}{R:Nat->D->Value->Prop}(a:∀i x v,R i x v->mV G w (aeC d ex i x) v):∀ {n:Nat} {ss:List Sh} {y:Tup ss} {us:List Value},jI R n ss y us->kE G w (pM d ex n ss y) us
 | n,[],y,[],_=>trivial
 | n,[s],y,[u],h=>⟨WY a h,trivial⟩
 | n,s::s'::r,y,u::us,h=>⟨WY a h.1,mJ a h.2⟩
theorem oC{vs:List V}{us:List Value}(h:kE G w vs us):ja G w (qy vs) (pack us):=by
 match vs,us,h with
 | [],[],_=>exact⟨[],rfl,trivial⟩
 | [v],[u],h=>exact qX h.1
 | v::v'::r,u::u'::r',h=>exact⟨u::u'::r',rfl,h⟩
def Dy(s:Sh)(u:Value):List Value:=match s.agg with
 | true=>u.cells.toList
 | false=>[u]
def qC:List Sh->List Value->List Value
 | s::r,u::us=>Dy s u++qC r us
 | _,_=>[]
theorem aV.app{R:Nat->D->Value->Prop}{n:Nat}{ds ds':List D}{vs vs':List Value}(a:aV R n ds vs)(b:aV R (n+ds.length) ds' vs'):aV R n (ds++ds') (vs++vs'):=by
 induction ds generalizing n vs with
 | nil=>cases vs with
  | nil=>simpa using b
  | cons=>exact a.elim
 | cons d ds ih=>cases vs with
  | nil=>exact a.elim
  | cons v vs=>exact⟨a.1,ih a.2 (by rw[show n+1+ds.length=n+(d::ds).length by simp;omega];exact b)⟩
theorem ShR.cells{R:Nat->D->Value->Prop}{n:Nat}{s:Sh}{x:s.t.den}{u:Value}(h:ShR R n s x u):aV R n (s.t.cells x) (Dy s u):=by
 unfold ShR at h;unfold Dy;split at h
 ·rename_i a;obtain⟨vs,rfl,hc⟩:=h;rw[a];exact hc
 ·rename_i a;rw[a];exact h
theorem jI.cells{R:Nat->D->Value->Prop}:∀ {n:Nat} {ss:List Sh} {y:Tup ss} {us:List Value},jI R n ss y us->aV R n (dI ss y) (qC ss us)
 | n,[],y,[],_=>trivial
 | n,[s],y,[u],h=>by
  have a:ShR R n s y u:=h;show aV R n (s.t.cells y) (Dy s u++[])
  rw[amA];exact a.cells
 | n,s::s'::r,y,u::us,h=>by
  refine aV.app h.1.cells ?_;rw[Ty.bn];exact jI.cells h.2
theorem aV.at{R:Nat->D->Value->Prop}{all:List Value}:∀ {n:Nat} {ds:List D} {vs pre post:List Value},aV R n ds vs->pre.length=n->all=pre++vs++post->aV (λi d u=>R i d u/\all[i]?=some u) n ds vs
 | n,[],[],_,_,_,_,_=>trivial
 | n,d::ds,v::vs,pre,post,h,a,b=>by
  refine⟨⟨h.1,?_⟩,aV.at (pre:=pre++[v]) (post:=post) h.2 (by simp[a]) (by rw[b];simp)⟩;rw[b,ba,amD (by omega),a];simp
theorem aV.length{R:Nat->D->Value->Prop}{n:Nat}{ds:List D}{vs:List Value}(h:aV R n ds vs):ds.length=vs.length:=h.get.1
theorem ShR.at{R:Nat->D->Value->Prop}{all:List Value}{n:Nat}{s:Sh}{x:s.t.den}{u:Value}{pre post:List Value}(h:ShR R n s x u)(b:pre.length=n)(a:all=pre++Dy s u++post):ShR (λi d u=>R i d u/\all[i]?=some u) n s x u:=by
 unfold ShR at *;unfold Dy at a;cases c:s.agg with
 | true=>
  rw[c]at h a;obtain⟨vs,rfl,hc⟩:=h;exact⟨vs,rfl,hc.at b a⟩
 | false=>
  rw[c]at h a;exact aV.at h b a
theorem jI.at{R:Nat->D->Value->Prop}{all:List Value}:∀ {n:Nat} {ss:List Sh} {y:Tup ss} {us pre post:List Value},jI R n ss y us->pre.length=n->all=pre++qC ss us++post->jI (λi d u=>R i d u/\all[i]?=some u) n ss y us
 | n,[],y,[],_,_,_,_,_=>trivial
 | n,[s],y,[u],pre,post,h,b,c=>ShR.at (post:=post) h b (by rw[c];simp[qC])
 | n,s::s'::r,y,u::us,pre,post,h,b,c=>by
  have a:=h.1.cells.length;rw[Ty.bn]at a;refine⟨ShR.at (post:=qC (s'::r) us++post) h.1 b (by rw[c];simp[qC]),jI.at (pre:=pre++Dy s u) (post:=post) h.2 (by simp[b,a]) (by rw[c];simp[qC])⟩
theorem aeX(tr:Bool)(ds:List D)(j:Nat):bC (Zz tr ds) j=match ds[j]? with
  | some (.list t xs)=>if tr then .tree t xs else .own t xs true true
  | _=>.dead:=by
 simp only[bC,Zz,zE,amh];cases ds[j]? with
 | none=>rfl
 | some x=>cases x<;>rfl
theorem Inv.qY:∀(keys:List (Nat×Nat)) {G:Gh} {S:St},Inv w0 G S a w->nodupB keys=true ->
  ∃G',Inv w0 G' (S.puts (keys.map λq=>.nomut q.1 q.2)) a w/\More G G' (AK G S keys)
 | [],G,S,h,_=>⟨G,h,⟨rfl,rfl,rfl,rfl,rfl,λb o=>⟨.inl,λhh=>hh.elim id λ⟨_,_,_,_,_,_,c,_⟩=>by cases c⟩⟩⟩
 | (k,j)::r,G,S,h,p=>by
  obtain⟨u,l⟩:=gJ p;obtain⟨A,v,d⟩:=h.TM k j;obtain⟨x,y,i⟩:=Inv.qY r v l;have hput:∀k' j',(k',j')∈r->bC ((S.put (.nomut k j)).aQ k') j'=bC (S.aQ k') j':=λk' j' c=>by
   show bC ((S.cO k ((S.aQ k).set j (bC (S.aQ k) j).Aw)).aQ k') j'=_
   rw[bK];split
   ·rename_i hk;rw[iV];split
    ·rename_i z;have:(k,j)=(k',j'):=by rw[hk.1,z.1]
     exact absurd (this▸c) u
    ·rw[hk.1]
   ·rfl
  refine⟨x,y,⟨i.ow.trans d.ow,i.ov.trans d.ov,i.bk.trans d.bk,i.lk.trans d.lk,i.lb.trans d.lb,λb o=>?_⟩⟩;rw[i.s,d.s];constructor
  ·rintro ((n | ⟨k',j',t,xs,deep,m,c,g⟩) | ⟨k',j',t,xs,deep,m,c,g,e,f⟩)
   ·exact .inl n
   ·simp only[amd]at c;exact .inr ⟨k',j',t,xs,deep,m,by rw[c];exact aw,g⟩
   ·rw[hput k' j' c]at g;exact .inr ⟨k',j',t,xs,deep,m,ar _ c,g,by rw[<- d.ow];exact e,by rw[<- d.ov];exact f⟩
  ·rintro (n | ⟨k',j',t,xs,deep,m,c,g,e,f⟩)
   ·exact .inl (.inl n)
   ·rcases bh.1 c with c | c
    ·exact .inl (.inr ⟨k',j',t,xs,deep,m,by simp[c],g,e,f⟩)
    ·exact .inr ⟨k',j',t,xs,deep,m,c,by rw[hput k' j' c];exact g,by rw[d.ow];exact e,by rw[d.ov];exact f⟩
theorem mM{vs:List V}{k j:Nat}{x:V}(a:x∈vs)(h:C.own k j∈x.cells):(k,j)∈aO (vs.flatMap V.cells):=
 fE (List.mem_flatMap.2 ⟨x,a,h⟩)
theorem Inv.VF(h:Inv w0 G S a w)(i:Nat){cs cs':List C}(hi:S.fK i=some cs){w':World}(hoff:jJ (λc=>c=G.bk i) w.heap.size w w')(A:jv w w' (G.bk i)){vs':List Value}{Et:TypeId}(hh:w'.heap[G.bk i]?=some (.cells vs'.toArray Et (0,0)))
  (hc:dh G w' cs' vs'):Inv w0 G (S.setB i (some cs')) a w':=by
 obtain⟨q,_⟩:=h.box i cs hi;have B:=h.olt _ _ q;have hcell:∀b o,G.S b o->w'.cell? ⟨b,o,none⟩=w.cell? ⟨b,o,none⟩:=λb o f=>
  World.cell?_of_block (w:=w) (hoff.block b (h.sok b o f).1 λe=>(h.sok b o f).2 i (e▸q))
 have u:Mv G G w w':=⟨λb o f=>⟨f,hcell b o f⟩,λk hk=>⟨hk,λ_=>rfl⟩,λi hi=>⟨hi,rfl⟩⟩;have hilt:i<S.boxes.length:=by
  rcases Nat.lt_or_ge i S.boxes.length with p | p
  ·exact p
  ·simp[St.fK,zE,zJ p]at hi
 have F:=h.below.size;refine⟨h.below.trans ⟨hoff.os,hoff.tape,hoff.output,hoff.size,λk hk r=>hoff.block k (by omega) λe=>?_⟩,h.nodef,h.tsz,by simp[St.setB,h.bsz],by simp[St.setB,h.osz],λx v hv=>(h.tmps x v hv).move u,?_,?_,?_,?_,h.lk,?_,h.sfr,h.Wh u,λb y l=>⟨(h.fx b y l).1,λE p=>by
   by_cases eb:b=G.bk i
   ·subst eb;exact ((h.fx _ y l).2 E p).trans A
   ·exact ((h.fx b y l).2 E p).same (hoff.block b (by omega) eb)⟩⟩
 ·subst e;rcases B.1 with (z | z) | ⟨_,z⟩
  ·omega
  ·exact r z.1
  ·exact r z
 ·intro x y l;exact⟨(h.olt x y l).1,aL (h.olt x y l).2 hoff.size⟩
 ·intro x o f;exact⟨aL (h.sok x o f).1 hoff.size,(h.sok x o f).2⟩
 ·intro x cs'' hcs'';rw[gu]at hcs'';by_cases d:i=x
  ·subst d;rw[if_pos ⟨rfl,hilt⟩]at hcs'';cases hcs''
   exact⟨q,vs',Et,hh,hc⟩
  ·rw[if_neg (λe=>d e.1)]at hcs'';obtain⟨n,vs'',E',D,g⟩:=h.box x cs'' hcs'';refine⟨n,vs'',E',(hoff.block _ (h.olt _ _ n).2 λe=>?_).trans D,g.move u⟩;rw[e,q]at n;cases n
   exact d rfl
 ·intro k j;have keep:∀c,iZ G k j c->iZ G k j c/\w'.heap[c]?=w.heap[c]?:=λc g=>⟨g,hoff.block c (h.olt _ _ g).2 λe=>by
   have hc'':G.ow c=some (.own k j):=g;rw[e,q]at hc'';cases hc''⟩
  exact (h.owns k j).same rfl u.s (λt xs deep m l=>⟨keep,λ_ _ _ _ _ o f=>.inl f⟩) λt xs l c hc=>⟨(keep c hc).1,(keep c hc).2,λo f=>f⟩
 ·intro x l;rw[gu];by_cases d:i=x
  ·rw[if_pos ⟨d,hilt⟩];simp
  ·rw[if_neg (λe=>d e.1)];exact h.lb x l
theorem Inv.Ua(h:Inv w0 G S a w)(i:Nat){cs cs':List C}(hi:S.fK i=some cs){vs:List Value}{Et:TypeId}(hh:w.heap[G.bk i]?=some (.cells vs.toArray Et (0,0)))(hc:dh G w cs' vs) :
  Inv w0 G (S.setB i (some cs')) a w:=by
 have b:=h.VF i hi (w':=w) ⟨rfl,rfl,rfl,aD _,λ_ _ _=>rfl⟩ (.refl _ _) hh hc;exact b
theorem jO:∀(keys:List (Nat×Nat)) (S:St) (b:Nat),(S.puts (keys.map λq=>W.nomut q.1 q.2)).fK b=S.fK b
 | [],S,b=>rfl
 | q::r,S,b=>by
  show ((S.put (.nomut q.1 q.2)).puts (r.map λq=>W.nomut q.1 q.2)).fK b=_
  rw[jO r];rfl
theorem gX:∀(keys:List (Nat×Nat)) (S:St) (d:Nat),S.aQ d=[]->(S.puts (keys.map λq=>W.nomut q.1 q.2)).aQ d=[]
 | [],S,d,h=>h
 | q::r,S,d,h=>by
  show ((S.put (.nomut q.1 q.2)).puts (r.map λq=>W.nomut q.1 q.2)).aQ d=[]
  refine gX r _ d ?_;show (S.cO q.1 ((S.aQ q.1).set q.2 (bC (S.aQ q.1) q.2).Aw)).aQ d=[]
  rw[bK];split
  ·rename_i hk;rw[hk.1,h];rfl
  ·exact h
theorem jI.cellsAll{R:Nat->D->Value->Prop}{Q:D->Prop}:∀ {n:Nat} {ss:List Sh} {y:Tup ss} {us:List Value},jI R n ss y us->(∀d,d∈dI ss y->Q d)->jI (λi d u=>R i d u/\Q d) n ss y us:=by
 have key:∀ {n:Nat} {ds:List D} {vs:List Value},aV R n ds vs->(∀d,d∈ds->Q d)->aV (λi d u=>R i d u/\Q d) n ds vs:=by
  intro n ds;induction ds generalizing n with
  | nil=>intro vs b _;cases vs with
   | nil=>trivial
   | cons=>exact b.elim
  | cons d ds ih=>intro vs b f;cases vs with
   | nil=>exact b.elim
   | cons v vs=>exact⟨⟨b.1,f d aw⟩,ih b.2 λdd a=>f dd (ar _ a)⟩
 have keyS:∀ {n:Nat} {s':Sh} {x:s'.t.den} {u:Value},ShR R n s' x u->(∀d,d∈s'.t.cells x->Q d)->ShR (λi d u=>R i d u/\Q d) n s' x u:=by
  intro n s' x u hh a;unfold ShR at *;split at hh
  ·obtain⟨vs,e,hc⟩:=hh;exact⟨vs,e,key hc a⟩
  ·exact key hh a
 intro n ss;induction ss generalizing n with
 | nil=>intro y us hh _;cases us with
  | nil=>trivial
  | cons=>exact hh.elim
 | cons s0 r ih=>
  intro y us hh a;cases r with
  | nil=>cases us with
   | nil=>exact hh.elim
   | cons u us=>cases us with
    | nil=>exact keyS hh a
    | cons=>exact hh.elim
  | cons g r=>cases us with
   | nil=>exact hh.elim
   | cons u us=>exact⟨keyS hh.1 λdd c=>a dd (amk _ c),ih hh.2 λdd c=>a dd (amj _ c)⟩
theorem aeW(ds:List D)(j:Nat):bC (acJ ds) j=match ds[j]? with
  | some (.list t xs)=>.own t xs false true
  | _=>.dead:=by
 simp only[bC,acJ,zE,amh];cases ds[j]? with
 | none=>rfl
 | some x=>cases x<;>rfl
theorem OwT.rest{w:World}{S S':Nat->Nat->Prop}{deep m:Bool}{t:Ty}{xs:List t.den}{v:Value}{fp fp':Nat->Prop}(h:OwT w S deep m t xs v fp)(p:∀b o,S b o->S' b o)
  (q:∀b,fp b->∀o,S' b o->S b o) (hf:∀b,fp b->fp' b):OwT w S' deep m t xs v fp':=by
 rcases h with h | ⟨b,cap,arr,E,vs,fps,rfl,r,hcap,hmax,g,a,hc,k,e,hdis,l⟩
 ·exact .inl h
 ·exact .inr ⟨b,cap,arr,E,vs,fps,rfl,r,hcap,hmax,g,hf _ a,hc,λi x j d s u=>(k i x j d s u).move (λb o n=>⟨p b o n,rfl⟩) λ_ _=>rfl,λi j c f=>⟨hf _ (e i j c f).1,(e i j c f).2⟩,hdis,λo n=>l o (q b a o n)⟩
theorem Inv.aiy(h:Inv w0 G S a w){B:Nat}(K:∀c x,G.ow c=some x->c<B)(M:w0.w.heap.size<=B){S':Nat->Nat->Prop}{sh:Bool}{rs:List Sh}{y:Tup rs}{us:List Value}(hres:Tn B w S' sh rs y us)
  (m:∀b o,S' b o->G.S b o) (hSB:∀b o,B<=b->G.S b o->S' b o) {o:Oper} {S0:St} (N:∀d,S0.aQ d=[]->S.aQ d=[]) {ws:List W} (hv:(aa1 o sh rs y).val S0=some ws) :
  ∃G',Inv w0 G' (S.puts ws) (a.put o.dst (pack us)) w:=by
 unfold aa1 at hv;cases hdst:o.dst with
 | none=>
  rw[hdst]at hv;simp only[Rd.val,zD]at hv;subst hv;exact⟨G,h⟩
 | some d=>
  rw[hdst]at hv;simp only at hv;split at hv
  case isFalse hcond=>
   simp only[Rd.val,zD]at hv
   subst hv
   refine⟨G,h.jh d (av:=qy (pM d false 0 rs y)) ?_⟩
   cases sh with
   | false=>
    refine oC (mJ (R:=λ_ dd u=>Rep w S' dd u) (λi dd u p=>?_) hres)
    have g:Rep w G.S dd u:=p.move λb o f=>⟨m b o f,rfl⟩
    cases dd with
    | list t xs=>exact g
    | int=>exact g
    | bool=>exact g
    | str=>exact g
   | true=>
    obtain⟨fps,A,_⟩:=hres
    refine oC (mJ (R:=λi dd u=>Ku w S' dd u (fps i)/\qw dd=none) (λi dd u p=>?_) (A.cellsAll λdd O=>?_))
    ·obtain⟨p,P⟩:=p;cases dd with
     | list t xs=>cases P
     | int k n=>exact Rep.move (S:=S') p λb o f=>⟨m b o f,rfl⟩
     | bool b=>exact Rep.move (S:=S') p λb o f=>⟨m b o f,rfl⟩
     | str v=>exact Rep.move (S:=S') p λb o f=>⟨m b o f,rfl⟩
    ·cases dd with
     | list t xs=>exact absurd (by rw[amy];exact List.any_eq_true.2 ⟨_,O,rfl⟩) hcond
     | _=>rfl
  case isTrue hcond=>
   rw[zI]at hcond
   obtain⟨rfl,hany⟩:=hcond
   obtain⟨fps,A,q,D⟩:=hres
   simp only[Rd.aK,zB,Rd.val,zD]at hv
   obtain⟨ws',Q,rfl⟩:=hv
   obtain⟨E,rfl⟩:=iP Q
   by_cases l:d<S.tmps.length
   case neg=>
    refine⟨G,?_⟩
    show Inv w0 G ((S.cO d _).jh d _) _ _
    rw[FB h.tsz l,zL (by rw[h.osz];exact l),zK l]
    exact h
   generalize hvals0:qC rs us=vals at *
   have hvals:aV (λi d u=>Ku w S' d u (fps i)) 0 (dI rs y) vals:=hvals0▸A.cells
   obtain⟨F,H⟩:=hvals.get
   classical
   have I:acJ (dI rs y)≠[]:=by
    intro e;have:dI rs y=[]:=by
     simp only[acJ,List.map_eq_nil_iff]at e;exact e
    rw[this]at hany;cases hany
   obtain⟨T,U,J,V,X⟩:=h.Vd d (acJ (dI rs y)) (λi=>vals.getD i undef) (λc=>if hh:∃i,fps i c then some hh.choose else none) (N d E) l I
    (λc i hc=>by
     split at hc
     ·rename_i hh;obtain⟨Y,Z⟩:=q _ _ hh.choose_spec;refine⟨.inl (amq M Y),Z,λi r=>?_,λk' j' _ _ _ _ r=>?_⟩
      ·exact absurd (K _ _ r) (by omega)
      ·exact absurd (K _ _ r) (by omega)
     ·cases hc)
    (λj=>by
     rw[aeW];cases L:(dI rs y)[j]? with
     | none=>trivial
     | some dd=>
      cases dd with
      | int=>trivial
      | bool=>trivial
      | str=>trivial
      | list t xs=>
       have z:j<vals.length:=by rw[<- F];exact (zC.1 L).1
       have:=H j _ vals[j] L (by simp[z]);rw[amw]at this;have e:vals.getD j undef=vals[j]:=by simp[z]
       have q1:∀c,fps j c->(if hh:∃i,fps i c then some hh.choose else none)=some j:=λc hc=>by
        have hh:∃i,fps i c:=⟨j,hc⟩;rw[dif_pos hh];exact congrArg some (D _ _ _ hh.choose_spec hc)
       show OwT w G.S false true t xs (vals.getD j undef) _
       rw[e];exact OwT.rest (S:=S') this m (λb r o f=>hSB b o (q _ _ r).1 f) q1)
   have hTa:=A.at (all:=vals) (pre:=[]) (post:=[]) rfl (by rw[<- hvals0];simp)
   have hTa':jI (λi d u=>(Ku w S' d u (fps i)/\vals[i]?=some u)) 0 rs y us:=hTa
   refine⟨T,U.jh d (av:=qy (pM d true 0 rs y)) (oC (mJ (R:=λi d u=>(Ku w S' d u (fps i)/\vals[i]?=some u)) ?_ hTa'))⟩
   rintro i dd u ⟨C,hu⟩
   cases dd with
   | list t xs=>
    refine⟨V,?_,(OwT.ow C).one⟩
    rw[X]
    simp[hu]
   | int k n=>exact Rep.move (S:=S') C λb o f=>⟨(J.s b o (m b o f)).1,rfl⟩
   | bool b=>exact Rep.move (S:=S') C λb o f=>⟨(J.s b o (m b o f)).1,rfl⟩
   | str v=>exact Rep.move (S:=S') C λb o f=>⟨(J.s b o (m b o f)).1,rfl⟩
theorem Inv.aiz(h:Inv w0 G S a w){B:Nat}(H:∀c x,G.ow c=some x->c<B)(M:w0.w.heap.size<=B)(hSB:∀b o,G.S b o->b<B){tr:Bool}{rs:List Sh}{y:Tup rs}{us:List Value}(hres:akm B w rs y us)
  {o:Oper} {S0:St} (N:∀d,S0.aQ d=[]->S.aQ d=[]) {ws:List W} (hv:(af0 o tr rs y).val S0=some ws) :
  ∃G',Inv w0 G' (S.puts ws) (a.put o.dst (pack us)) w:=by
 obtain⟨fps,r,m,s⟩:=hres;have scalar:∀ {G':Gh} {d:Nat} {ex:Bool} {i:Nat} {dd:D} {u:Value},qw dd=none->(∃S' fp,Ow w S' true dd u fp)->mV G' w (aeC d ex i dd) u:=by
  rintro G' d ex i dd u I ⟨S',fp,l⟩;cases l with
  | int k n=>exact Rep.int _ _
  | bool b=>exact Rep.bool _
  | str v=>exact Rep.str _
  | nil=>cases I
  | ro _ _ _ z=>cases z
  | list=>cases I
 unfold af0 at hv;cases hdst:o.dst with
 | none=>
  rw[hdst]at hv;simp only[Rd.val,zD]at hv;subst hv;exact⟨G,h⟩
 | some d=>
  rw[hdst]at hv;simp only at hv;by_cases hany:(dI rs y).any isList=true
  ·rw[if_pos hany]at hv;simp only[Rd.aK,zB,Rd.val,zD]at hv;obtain⟨ws',O,rfl⟩:=hv;obtain⟨A,rfl⟩:=iP O;by_cases g:d<S.tmps.length
   case neg=>
    refine⟨G,?_⟩
    show Inv w0 G ((S.cO d _).jh d _) _ _
    rw[FB h.tsz g,zL (by rw[h.osz];exact g),zK g]
    exact h
   generalize hvals0:qC rs us=vals at *;have hvals:aV (λi d u=>Ow w (λ_ _=>False) true d u (fps i)) 0 (dI rs y) vals:=hvals0▸r.cells;obtain⟨C,E⟩:=hvals.get;classical
   have F:Zz tr (dI rs y)≠[]:=by
    intro e;have:dI rs y=[]:=by
     simp only[Zz,List.map_eq_nil_iff]at e;exact e
    rw[this]at hany;cases hany
   obtain⟨P,Q,m7,T,U⟩:=h.Vd d (Zz tr (dI rs y)) (λi=>vals.getD i undef) (λc=>if hh:∃i,fps i c then some hh.choose else none) (N d A) g F
    (λc i hc=>by
     split at hc
     ·rename_i hh;obtain⟨V,X⟩:=m _ _ hh.choose_spec;refine⟨.inl (amq M V),X,λi p=>?_,λk' j' _ _ _ _ p=>?_⟩
      ·exact absurd (H _ _ p) (by omega)
      ·exact absurd (H _ _ p) (by omega)
     ·cases hc)
    (λj=>by
     rw[aeX];cases J:(dI rs y)[j]? with
     | none=>trivial
     | some dd=>
      cases dd with
      | int=>trivial
      | bool=>trivial
      | str=>trivial
      | list t xs=>
       have q:j<vals.length:=by rw[<- C];exact (zC.1 J).1
       have:=E j _ vals[j] J (by simp[q]);rw[amw]at this;have e:vals.getD j undef=vals[j]:=by simp[q]
       have K:∀c,fps j c->(if hh:∃i,fps i c then some hh.choose else none)=some j:=λc hc=>by
        have hh:∃i,fps i c:=⟨j,hc⟩;rw[dif_pos hh];exact congrArg some (s _ _ _ hh.choose_spec hc)
       have L:∀b oo,G.S b oo->¬fps j b:=λb oo Y p=>by
        have:=hSB b oo Y;have:=(m _ _ p).1;omega
       cases Z:tr with
       | false=>
        show OwT w G.S true true t xs (vals.getD j undef) _
        rw[e];exact aeU this K L
       | true=>
        refine⟨fps j,K,?_,L⟩;rw[e];exact this)
   have hTa:=r.at (all:=vals) (pre:=[]) (post:=[]) rfl (by rw[<- hvals0];simp);have hTa':jI (λi d u=>(Ow w (λ_ _=>False) true d u (fps i)/\vals[i]?=some u)) 0 rs y us:=hTa;refine⟨P,Q.jh d (av:=qy (pM d true 0 rs y)) (oC (mJ (R:=λi d u=>(Ow w (λ_ _=>False) true d u (fps i)/\vals[i]?=some u)) ?_ hTa'))⟩;rintro i dd u ⟨l,hu⟩;cases f:qw dd with
   | none=>exact scalar f ⟨_,_,l⟩
   | some t=>
    cases dd with
    | int=>cases f
    | bool=>cases f
    | str=>cases f
    | list t' xs=>
     refine⟨T,?_,l.one⟩;rw[U];simp[hu]
  ·rw[if_neg hany]at hv;simp only[Rd.val,zD]at hv;subst hv;refine⟨G,h.jh d (av:=qy (pM d true 0 rs y)) (oC (mJ (R:=λi dd u=>Ow w (λ_ _=>False) true dd u (fps i)/\qw dd=none) (λi dd u l=>scalar l.2 ⟨_,_,l.1⟩) (r.cellsAll λdd hm=>?_)))⟩;cases dd with
   | list t xs=>exact absurd (List.any_eq_true.2 ⟨_,hm,rfl⟩) hany
   | _=>rfl
theorem ae9(h:Inv w0 G S a w){c:Call}{f:FuncId}(b:o.op=.call c)(hc:c.callee=.value (.func f)){E:Env}(d:oP P E w0){ws:List W}(hv:(ala E o c f).val S=some ws)
  (e:∀a' w' G',Inv w0 G' (S.puts ws) a' w'->K a' w'):o.wp P a w K Q:=by
 unfold ala at hv;cases hv
theorem NP:∀ {vs:List V} {cs:List C} {us:List Value},ahx vs=some cs->kE G w vs us->dh G w cs us
 | [],cs,us,h,a=>by
  cases h
  cases us with
  | nil=>trivial
  | cons=>exact a.elim
 | .one c::r,cs,us,h,a=>by
  simp only[ahx,zB,zD]at h;obtain⟨q,b,rfl⟩:=h;cases us with
  | nil=>exact a.elim
  | cons u us=>exact⟨a.1,NP b a.2⟩
 | .agg _::r,cs,us,h,a=>by cases h
theorem TN{cs:List C}{us:List Value}(h:dh G w cs us):∀ {tm:List (Int⊕Nat)} {q:List C},tmC cs tm=some q->dh G w q (tmV us tm)
 | [],q,a=>by cases a;trivial
 | .inl n::r,q,a=>by
  simp only[tmC,zB,zD]at a;obtain⟨q',b,rfl⟩:=a;exact⟨Rep.int _ _,TN h b⟩
 | .inr i::r,q,a=>by
  unfold tmC at a;cases hc:cs[i]? with
  | none=>rw[hc]at a;cases a
  | some c=>
   rw[hc]at a;simp only[zB,zD]at a;obtain⟨q',b,rfl⟩:=a;obtain⟨e,d⟩:=h.get;have hi:i<us.length:=by have:=(zC.1 hc).1;omega
   refine⟨d i c _ hc ?_,TN h b⟩;rw[zE,zF hi];rfl
theorem Ph{S:St}{b:Nat}{v:Option (List C)}(x:Operand):(dZ x).val (S.setB b v)=(dZ x).val S:=by
 cases x with
 | const v=>simp only[dZ];split<;>rfl
 | _=>rfl
theorem acL(h:Inv w0 G S a w){c:Call}{f:FuncId}(ho:o.op=.call c)(hc:c.callee=.value (.func f)){E:Env}(H:oP P E w0){ws:List W}(hv:(af6 E o c f).val S=some ws)
  (hK:∀a' w' G',Inv w0 G' (S.puts ws) a' w'->K a' w'):o.wp P a w K Q:=by
 unfold af6 at hv;split at hv
 ·rename_i s g;have hfid:s.fid=f:=by have:=List.find?_some g;simpa using this
  obtain⟨hcall,hsound⟩:=H.ps s (amC g);simp only[Rd.aK,zB]at hv;obtain⟨vs,J,hv⟩:=hv;split at hv
  case h_2=>cases hv
  rename_i cs l;split at hv
  case isFalse=>cases hv
  rename_i hn;split at hv
  case h_2=>cases hv
  rename_i q hq;simp only[Rd.val,zD]at hv;subst hv;have I:=NP l (kQ h J);have hargs:(c.args.map a.eval)=(c.args.toList.map a.eval).toArray:=by cases c.args;simp
  unfold Oper.wp;rw[mg ho hc (hfid▸hcall),<- hfid,hargs];refine Calls.mono (hsound w (c.args.toList.map a.eval) (I.length▸hn) I.one) λe w' he=>?_
  obtain⟨rfl,hbel⟩:=he;have h5:=h.grow hbel;have hr5:=NP l (kQ h5 J);exact hK _ _ _ (h5.dst (av:=.v (.agg q)) ⟨_,rfl,TN hr5 hq⟩)
 ·split at hv
  case h_2=>exact ae9 h ho hc H hv hK
  rename_i s x y z g hxs;have hfid:s.fid=f:=by have:=List.find?_some g;simpa using this
  obtain⟨hcall,hsound⟩:=H.ks s (amC g);simp only[Rd.aK,zB]at hv;obtain⟨ap,h1,hv⟩:=hv;have hpr:=aY h h1;split at hv
  case h_2=>cases hv
  rename_i b;simp only[Rd.val]at hv;split at hv
  case h_2=>cases hv
  rename_i cs l;split at hv
  case isFalse=>cases hv
  rename_i A;obtain⟨A,hagg,hsz⟩:=A;simp only[Rd.aK,zB]at hv;obtain⟨ay,J,hv⟩:=hv;split at hv
  case h_2=>cases hv
  rename_i cy;simp only[Rd.aK,zB]at hv;obtain⟨az,h3,hv⟩:=hv;split at hv
  case h_2=>cases hv
  rename_i cz;split at hv
  case isFalse=>cases hv
  rename_i hn;simp only[Rd.aK,zB]at hv;obtain⟨q,h4,hv⟩:=hv;simp only[Rd.val,zB]at hv;obtain⟨r,h5,hv⟩:=hv;obtain⟨L,B,E0,hh0,M⟩:=h.box b cs l;have hptr:a.eval x=.pointer (some ⟨G.bk b,0,none⟩):=hpr.2;obtain⟨us,N,O⟩:∃us:List Value,a.eval y=.agg us.toArray/\dh G w cy us:=aY h J;obtain⟨us',R,T⟩:∃us:List Value,a.eval z=.agg us.toArray/\dh G w cz us:=aY h h3;have hargs:(c.args.map a.eval) = #[Value.pointer (some ⟨G.bk b,0,none⟩),.agg us.toArray,.agg us'.toArray]:=by
   have:c.args.map a.eval=(c.args.toList.map a.eval).toArray:=by cases c.args;simp
   rw[this,hxs];simp[hptr,N,R]
  have hT:=mY (ss:=[s.c]) (xs:=[.agg cs]) (us:=[.agg B.toArray]) h [] 0 h4 ⟨⟨B,rfl,M⟩,trivial⟩ (λk j x U hm=>by
   have U:x=.agg cs:=by simpa using U
   subst U;have:(k,j)∈aO cs:=fE hm;rw[A]at this;cases this)
  have hT':=hT.imp (R':=λ_ d u=>Rep w G.S d u) λi d v I=>I.move λbb oo g=>⟨g.elim id λ⟨_,_,_,_,_,_,hm,_⟩=>(by cases hm),rfl⟩
  unfold Oper.wp;rw[mg ho hc (hfid▸hcall),<- hfid,hargs];refine Calls.mono (hsound w G.S (G.bk b) B E0 us us' q r h5 (H.am.keep w h.below) (by rcases (h.olt _ _ L).1 with hh | hh;exact H.am.nw hh;exact H.am.rows _ hh.2) hh0 hT'
   (λbb oo g=>⟨(h.sok bb oo g).1,λe=>(h.sok bb oo g).2 b (by rw[e];exact L)⟩) (O.length▸hn.1) (T.length▸hn.2) O.one T.one) λe w' he=>?_
  obtain⟨rfl,hoff,hkl,S2,vs',Et',V,hcont,X⟩:=he;obtain⟨hcl,Y⟩:=hcont.get;have h6:Inv w0 G (S.setB b (some (List.replicate vs'.length .undef))) a w':=by
   refine h.VF b l hoff hkl V (dh.mk (by simp) λi c1 v1 n p=>?_);have:c1=.undef:=by
    have:=zG n;exact (List.mem_replicate.1 this).2
   subst this;have Z:i<(s.c.t.cells r.1).length:=by
    have:=(zC.1 p).1;omega
   exact (Y i _ v1 (zF Z) p).one
  have F:∀bb,w.heap.size<=bb->∀x,G.ow bb≠some x:=λbb hb x U=>by
   have:=(h.olt _ _ U).2;omega
  obtain⟨h7,m7⟩:=h6.YE (λbb oo=>w.heap.size<=bb/\S2 bb oo) (λbb oo hh=>⟨(X bb oo hh.2).2,λi=>F bb hh.1 _,λk j t xs deep m _ len cap _ how=>absurd how (F bb hh.1 _)⟩)
   (λbb oo hh=>.inl (amq h.below.size hh.1)) (λbb oo hh k j t xs _=>F bb hh.1 _)
  have hmv:∀ {dd:D} {u:Value},Rep w' S2 dd u->Rep w' (λbb oo=>G.S bb oo\/(w.heap.size<=bb/\S2 bb oo)) dd u:=λI=>I.move λbb oo g=>⟨(X bb oo g).1.imp id λhb=>⟨hb,g⟩,rfl⟩
  have hblt:b<S.boxes.length:=by
   rcases Nat.lt_or_ge b S.boxes.length with Z | Z
   ·exact Z
   ·have:=l;simp[St.fK,zE,zJ Z]at this
  have h8:=h7.Ua b (cs':=(s.c.t.cells r.1).map .d) (vs:=vs') (Et:=Et') (by rw[gu,if_pos ⟨rfl,hblt⟩]) V
   (dh.mk (by simp[hcl]) λi c1 v1 n p=>by
    rw[amh,ami]at n;obtain⟨d1,hd1,rfl⟩:=n;exact hmv (Y i d1 v1 hd1 p))
  have eS:(S.setB b (some (List.replicate vs'.length C.undef))).setB b (some ((s.c.t.cells r.1).map .d))=S.setB b (some ((s.c.t.cells r.1).map .d)):=by
   simp[St.setB]
  rw[eS]at h8;cases hr2:r.2 with
  | true=>
   rw[hr2]at hv;simp only[ac,zD]at hv;subst hv;have:=h8.dst (o:=o) (av:=.v (.agg cy)) (v:=a.eval y) (aY h8 (by rw[Ph];exact J));rw[N]at this;exact hK _ _ _ this
  | false=>
   rw[hr2]at hv;simp only[aa,zD]at hv;subst hv;have:=h8.dst (o:=o) (av:=.v (.agg cz)) (v:=a.eval z) (aY h8 (by rw[Ph];exact h3));rw[R]at this;exact hK _ _ _ this
theorem ae7(h:Inv w0 G S a w){c:Call}{f:FuncId}(H:o.op=.call c)(hc:c.callee=.value (.func f)){E:Env}(q:oP P E w0){ws:List W}(hv:(ak9 E o c f).val S=some ws)
  (r:∀a' w' G',Inv w0 G' (S.puts ws) a' w'->K a' w'):o.wp P a w K Q:=by
 unfold ak9 at hv;split at hv
 case h_2=>exact acL h H hc q hv r
 rename_i s g;have hfid:s.fid=f:=by have:=List.find?_some g;simpa using this
 obtain⟨hcall,hsound⟩:=q.2.2.2.2.2.1 s (amC g);simp only[Rd.aK,zB]at hv;obtain⟨vs,J,z,L,hv⟩:=hv;simp only[Rd.val,zB]at hv;obtain⟨y,M,hv⟩:=hv;split at hv
 case isFalse=>cases hv
 rename_i u;simp only[Rd.aK,zB,Rd.val,zD]at hv;obtain⟨ws',N,rfl⟩:=hv;have A:=kQ h J;generalize hkeys:aO (vs.flatMap V.cells)=keys at *;have hargs:(c.args.map a.eval)=(c.args.toList.map a.eval).toArray:=by cases c.args;simp
 have O:=mY h keys 0 L A λk j z' R T=>by rw[<- hkeys];exact mM R T
 obtain⟨I,n,U⟩:=Inv.qY keys h u;unfold Oper.wp;rw[mg H hc (hfid▸hcall),<- hfid,hargs];refine Calls.mono (hsound w I.S (c.args.toList.map a.eval) z y M (q.am.keep w h.below) (O.imp λi d v X=>X.move λbb oo g=>⟨(U.s bb oo).2 g,rfl⟩) λbb oo g=>(n.sok bb oo g).1) λe w' Y=>?_
 obtain⟨v,rfl,hbel,Z,us,rfl,hres,p⟩:=Y;have h6:=n.grow hbel;have l:∀bb,w.heap.size<=bb->∀x,I.ow bb≠some x:=λbb C x D=>by
  have:=(n.olt _ _ D).2;omega
 obtain⟨h7,m7⟩:=h6.YE (λbb oo=>w.heap.size<=bb/\Z bb oo) (λbb oo hh=>⟨(p bb oo hh.2).2,λi=>l bb hh.1 _,λk j t xs deep m _ len cap _ F=>absurd F (l bb hh.1 _)⟩)
  (λbb oo hh=>.inl (amq h.below.size hh.1)) (λbb oo hh k j t xs _=>l bb hh.1 _)
 obtain⟨G8,h8⟩:=h7.aiy (B:=w.heap.size) (λc x D=>(n.olt _ _ D).2) h.below.size hres (λb o g=>(p b o g).1.imp id λC=>⟨C,g⟩) (λb o C g=>g.elim (λg=>absurd (n.sok b o g).1 (by omega)) λg=>g.2)
  (S0:=S) (λd hd=>gX keys S d hd) N
 simp only[fM]at r;exact r _ _ _ h8
theorem afa(h:Inv w0 G S a w){c:Call}{f:FuncId}(ho:o.op=.call c)(hc:c.callee=.value (.func f)){E:Env}(T:oP P E w0){ws:List W}(hv:(alb E o c f).val S=some ws)
  (hK:∀a' w' G',Inv w0 G' (S.puts ws) a' w'->K a' w'):o.wp P a w K Q:=by
 unfold alb at hv;split at hv
 ·rename_i s x xs g hxs;have hfid:s.fid=f:=by have:=List.find?_some g;simpa using this
  obtain⟨hcall,hsound⟩:=T.2.2.2.1 s (amC g);simp only[Rd.aK,zB]at hv;obtain⟨ap,h1,hv⟩:=hv;have hpr:=aY h h1;split at hv
  case h_2=>cases hv
  rename_i b;simp only[Rd.val]at hv;split at hv
  case h_2=>cases hv
  rename_i cs hcs;simp only[Rd.aK,zB]at hv;obtain⟨vs,h2,z,h3,hv⟩:=hv;simp only[Rd.val,zB]at hv;obtain⟨y,h4,hv⟩:=hv;obtain⟨hob,U,E0,hh0,hcs0⟩:=h.box b cs hcs;have hptr:a.eval x=.pointer (some ⟨G.bk b,0,none⟩):=hpr.2;have X:=kQ h h2;have hvs':kE G w (.agg cs::vs) (.agg U.toArray::xs.map a.eval):=⟨⟨U,rfl,hcs0⟩,X⟩;have hargs:(c.args.map a.eval)=(Value.pointer (some ⟨G.bk b,0,none⟩)::xs.map a.eval).toArray:=by
   have:c.args.map a.eval=(c.args.toList.map a.eval).toArray:=by cases c.args;simp
   rw[this,hxs];simp[hptr]
  generalize hkeys:aO ((V.agg cs::vs).flatMap V.cells)=keys at *;have main:∀(rs:List Sh) (y:Tup rs),(agq o s.ex E.trees s.sh b cs.length keys rs y).val S=some ws ->
    (∀(S1:Nat->Nat->Prop),(∀bb oo,(G.S bb oo\/AK G S keys bb oo)->S1 bb oo)->(∀bb oo,S1 bb oo->bb<w.heap.size/\bb≠G.bk b) ->
     Calls P f (c.args.map a.eval) w λe w'=>∃v,e=.returned v/\jJ (λc=>c=G.bk b) w.heap.size w w'/\jv w w' (G.bk b)/\aiu w.heap.size w' S1 (G.bk b) s.ex s.sh rs y v)->o.wp P a w K Q:=by
   intro rs y hv hcalls;cases rs with
   | nil=>cases hv
   | cons c0 rs=>
   rw[agq]at hv;split at hv
   case isFalse=>cases hv
   split at hv
   case isFalse=>cases hv
   split at hv
   case isFalse=>cases hv
   rename_i hca hct Y;simp only[Rd.aK,zB,Rd.val,zD]at hv;obtain⟨ws',r,rfl⟩:=hv;obtain⟨H,A,m5⟩:=Inv.qY keys h Y;have I:∀bb oo,H.S bb oo->bb<w.heap.size/\bb≠G.bk b:=λbb oo g=>⟨(A.sok bb oo g).1,λe=>(A.sok bb oo g).2 b (by rw[m5.ow,e];exact hob)⟩
   unfold Oper.wp;rw[mg ho hc (hfid▸hcall)];refine Calls.mono (hcalls H.S (λbb oo hh=>(m5.s bb oo).2 hh) I) λe w' he=>?_
   obtain⟨v,rfl,hoff,hkl,S2,vs',Et',us,rfl,J,hcont,O,l⟩:=he;have L:H.bk b=G.bk b:=by rw[m5.bk]
   have hgb:(S.puts (keys.map λq=>W.nomut q.1 q.2)).fK b=some cs:=by rw[jO];exact hcs
   obtain⟨Z,M⟩:=hcont.get;have h6:Inv w0 H ((S.puts (keys.map λq=>W.nomut q.1 q.2)).setB b (some (List.replicate vs'.length .undef))) a w':=by
    refine A.VF b hgb (by rw[L];exact hoff) (by rw[L];exact hkl) (by rw[L];exact J) (dh.mk (by simp) λi c1 v1 p F=>?_);have:c1=.undef:=by
     have:=zG p;exact (List.mem_replicate.1 this).2
    subst this;have hl:i<(c0.t.cells (jX y)).length:=by
     have:=(zC.1 F).1;omega
    exact (M i _ v1 (zF hl) F).one
   have hw':=hoff.size;have n:∀bb,w.heap.size<=bb->∀x,H.ow bb≠some x:=λbb R x N=>by
    have:=(A.olt _ _ N).2;omega
   obtain⟨h7,m7⟩:=h6.YE (λbb oo=>w.heap.size<=bb/\S2 bb oo) (λbb oo hh=>⟨(l bb oo hh.2).2,λi=>n bb hh.1 _,λk j t xs deep m _ len cap _ how=>absurd how (n bb hh.1 _)⟩)
    (λbb oo hh=>.inl (amq h.below.size hh.1)) (λbb oo hh k j t xs _=>n bb hh.1 _)
   have hmv:∀ {dd:D} {u:Value},Rep w' S2 dd u->Rep w' (λbb oo=>H.S bb oo\/(w.heap.size<=bb/\S2 bb oo)) dd u:=λhr=>hr.move λbb oo g=>⟨(l bb oo g).1.imp id λR=>⟨R.2,g⟩,rfl⟩
   have hblt:b<(S.puts (keys.map λq=>W.nomut q.1 q.2)).boxes.length:=by
    rcases Nat.lt_or_ge b (S.puts (keys.map λq=>W.nomut q.1 q.2)).boxes.length with hl | hl
    ·exact hl
    ·have:=hgb;simp[St.fK,zE,zJ hl]at this
   have h8:=h7.Ua b (cs':=(c0.t.cells (jX y)).map .d) (vs:=vs') (Et:=Et') (by
     rw[gu,if_pos ⟨rfl,hblt⟩]) (by show w'.heap[H.bk b]?=_;rw[L];exact J)
    (dh.mk (by simp[Z]) λi c1 v1 p F=>by
     rw[amh,ami]at p;obtain⟨d1,hd1,rfl⟩:=p;exact hmv (M i d1 v1 hd1 F))
   have eS:((S.puts (keys.map λq=>W.nomut q.1 q.2)).setB b (some (List.replicate vs'.length C.undef))).setB b (some ((c0.t.cells (jX y)).map .d))=(S.puts (keys.map λq=>W.nomut q.1 q.2)).setB b (some ((c0.t.cells (jX y)).map .d)):=by
    simp[St.setB]
   rw[eS]at h8;have hO:∀d,S.aQ d=[]->((S.puts (keys.map λq=>W.nomut q.1 q.2)).setB b (some ((c0.t.cells (jX y)).map .d))).aQ d=[]:=λd hd=>by rw[Sz];exact gX keys S d hd
   simp only[fM]at hK;cases hex:s.ex with
   | false=>
    rw[hex]at O r;obtain⟨G8,h10⟩:=h8.aiy (B:=w.heap.size) (λc x N=>(A.olt _ _ N).2) h.below.size O (λb o g=>(l b o g).1.imp id λR=>⟨R.2,g⟩) (λb o R g=>g.elim (λg=>absurd (A.sok b o g).1 (by omega)) λg=>g.2)
     (S0:=S) hO r
    exact hK _ _ _ h10
   | true=>
    rw[hex]at O r;obtain⟨G8,h10⟩:=h8.aiz (B:=w.heap.size) (λc x N=>(A.olt _ _ N).2) h.below.size (λb o g=>g.elim (λg=>(A.sok b o g).1) λg=>((l b o g.2).1.elim (λq=>(I b o q).1) λq=>by rw[hex]at q;cases q.1)) O (S0:=S) hO r;exact hK _ _ _ h10
  refine main s.rs y hv λS1 I hlt=>?_
  have O:=mY h keys 0 h3 hvs' λk j z' hz hm=>by
   rw[<- hkeys];exact mM hz hm
  rw[<- hfid,hargs];exact hsound w S1 (G.bk b) U E0 (xs.map a.eval) z y h4 (T.am.keep w h.below) (by rcases (h.olt _ _ hob).1 with hh | hh;exact T.am.nw hh;exact T.am.rows _ hh.2) hh0 (O.imp λi d v hr=>hr.move λbb oo g=>⟨I bb oo g,rfl⟩) hlt
 ·split at hv
  case h_2=>exact ae7 h ho hc T hv hK
  rename_i s d g hd;have hfid:s.fid=f:=by have:=List.find?_some g;simpa using this
  obtain⟨hcall,hsound⟩:=T.2.2.2.2.1 s (amC g);simp only[Rd.aK,zB]at hv;obtain⟨vs,h2,z,h3,hv⟩:=hv;simp only[Rd.val,zB]at hv;obtain⟨y,h4,hv⟩:=hv;split at hv
  case isFalse=>cases hv
  rename_i Y;simp only[Rd.aK,zB,Rd.val,zD]at hv;obtain⟨ws',r,rfl⟩:=hv;unfold yA at r;split at r
  case isTrue=>cases r
  rename_i hd0;simp only[Rd.val]at r;split at r
  case h_2=>cases r
  rename_i hgB;simp only[Rd.val,zD]at r;subst r;have X:=kQ h h2;generalize hkeys:aO (vs.flatMap V.cells)=keys at *;have hargs:(c.args.map a.eval)=(c.args.toList.map a.eval).toArray:=by cases c.args;simp
  have O:=mY h keys 0 h3 X λk j z' hz hm=>by rw[<- hkeys];exact mM hz hm
  obtain⟨H,A,m5⟩:=Inv.qY keys h Y;unfold Oper.wp;rw[mg ho hc (hfid▸hcall),<- hfid,hargs];refine Calls.mono (hsound w H.S (c.args.toList.map a.eval) z y h4 (T.am.keep w h.below) (O.imp λi d v hr=>hr.move λbb oo g=>⟨(m5.s bb oo).2 g,rfl⟩) λbb oo g=>(A.sok bb oo g).1) λe w' he=>?_
  obtain⟨bb,rfl,hbel,hbb,vs',Et',S2,J,hcont,l⟩:=he;have h6:=A.grow hbel;have n:∀bb,w.heap.size<=bb->∀x,H.ow bb≠some x:=λbb R x N=>by
   have:=(A.olt _ _ N).2;omega
  obtain⟨h7,m7⟩:=h6.YE (λbb oo=>w.heap.size<=bb/\S2 bb oo) (λbb oo hh=>⟨(l bb oo hh.2).2.1,λi=>n bb hh.1 _,λk j t xs deep m _ len cap _ how=>absurd how (n bb hh.1 _)⟩)
   (λbb oo hh=>.inl (amq h.below.size hh.1)) (λbb oo hh k j t xs _=>n bb hh.1 _)
  obtain⟨Z,M⟩:=hcont.get;obtain⟨G8,h8⟩:=h7.yA d bb hd0 (by rw[jO];exact hgB) (amq h.below.size hbb)
   (by
    show H.ow bb=none
    cases N:H.ow bb with
     | none=>rfl
     | some x=>exact absurd N (n bb hbb x))
   (λoo g=>by
    rcases g with g | ⟨_,g⟩
    ·have:=(A.sok bb oo g).1;omega
    ·exact (l bb oo g).2.2 rfl) J (cs:=(dI s.rs y).map .d) (dh.mk (by simp[Z]) λi c1 v1 p F=>by
     rw[amh,ami]at p;obtain⟨d1,hd1,rfl⟩:=p;exact (M i d1 v1 hd1 F).move λbb oo g=>⟨(l bb oo g).1.imp id λR=>⟨R,g⟩,rfl⟩)
  rw[hd];simp only[fM]at hK;exact hK _ _ _ h8
theorem He{S:St}{c:Sh}{rs:List Sh}{x:V}{xs:List V}{y:Tup (c::rs)}(a:(vTs (c::rs) (x::xs)).val S=some y):(vT c x).val S=some (jX y)/\(vTs rs xs).val S=some (yS y):=by
 cases rs with
 | nil=>cases xs with
  | nil=>exact⟨a,rfl⟩
  | cons=>simp[vTs,Rd.val]at a
 | cons s r=>
  simp only[vTs,Rd.aK,zB,Rd.val,zD]at a;obtain⟨p,b,q,d,rfl⟩:=a;exact⟨b,d⟩
theorem adG{S:St}{p:Sh}{cs:List C}{y:p.t.den}(h:(vT p (.agg cs)).val S=some y):p.agg=true/\cs.length=p.t.size/\(cDs p.t.tys cs).val S=some (p.t.cells y):=by
 simp only[vT]at h;split at h
 ·rename_i a;simp only[Rd.aK,zB,Rd.val]at h;obtain⟨ds,c,z,d,b⟩:=h;simp only[zD]at b;subst b;exact⟨a.1.symm,a.2,by rw[Ty.eH d];exact c⟩
 ·cases h
theorem aV.of{R:Nat->D->Value->Prop}:∀ {n:Nat} {ds:List D} {vs:List Value},ds.length=vs.length->(∀(i:Nat) (d:D) (v:Value),ds[i]?=some d->vs[i]?=some v->R (n+i) d v)->aV R n ds vs
 | n,[],[],_,_=>trivial
 | n,d::ds,v::vs,a,h=>⟨h 0 d v rfl rfl,aV.of (by simpa using a) λi d' v' b c=>by
   have:=h (i+1) d' v' b c;rwa [show n+(i+1)=n+1+i by omega]at this⟩
theorem aV.pt{R:Nat->D->Value->Prop}:∀ {n:Nat} {ds:List D} {vs:List Value},aV R n ds vs->ds.length=vs.length/\∀(i:Nat) (d:D) (v:Value),ds[i]?=some d->vs[i]?=some v->R (n+i) d v
 | n,[],[],_=>⟨rfl,λi d v h=>by simp at h⟩
 | n,d::ds,v::vs,h=>by
  obtain⟨c,e⟩:=aV.pt h.2;refine⟨by simp[c],λi d' v' a b=>?_⟩;cases i with
  | zero=>cases a;cases b;exact h.1
  | succ i=>
   have:=e i d' v' a b;rwa [show n+1+i=n+(i+1) by omega]at this
theorem OwT.app{w:World}{S:Nat->Nat->Prop}{deep m:Bool}{t:Ty}{xs:List t.den}{v:Value}{fp:Nat->Prop}(h:OwT w S deep m t xs v fp):OwT w S false false t xs v fp:=by
 rcases h with h | ⟨b,cap,arr,E,vs,fps,e,f,g,k,l,n,p,q,r,a,c⟩
 ·exact .inl h
 ·exact .inr ⟨b,cap,arr,E,vs,fps,e,f,g,k,l,n,p,λi x j d s u=>(q i x j d s u).sub (λ_ y=>y) (by simp),r,a,λo z=>⟨rfl,(c o z).2⟩⟩
theorem Jv:∀(keys:List (Nat×Nat)) (S:St) {k j:Nat},(k,j)∉keys->bC ((S.puts (keys.map λq=>W.nomut q.1 q.2)).aQ k) j=bC (S.aQ k) j
 | [],S,k,j,_=>rfl
 | q::r,S,k,j,h=>by
  show bC (((S.put (.nomut q.1 q.2)).puts (r.map λq=>W.nomut q.1 q.2)).aQ k) j=_
  rw[Jv r _ λa=>h (ar _ a)];show bC ((S.cO q.1 ((S.aQ q.1).set q.2 (bC (S.aQ q.1) q.2).Aw)).aQ k) j=_
  rw[bK];split
  ·rename_i hk;rw[iV];split
   ·rename_i b;exact absurd (by rw[<- hk.1,<- b.1];exact aw) h
   ·rw[hk.1]
  ·rfl
theorem Inv.al5(h:Inv w0 G S a w)(i:Nat){cs cs':List C}(hi:S.fK i=some cs){R:Nat->Prop}{w':World}(hoff:jJ (λc=>c=G.bk i\/R c) w.heap.size w w')(F:∀b o,G.S b o->w'.cell? ⟨b,o,none⟩=w.cell? ⟨b,o,none⟩)
  (z:∀c,R c->w0.nw c/\(∀i,G.ow c≠some (.box i))/\∀k j t xs deep m,G.ow c=some (.own k j)->(bC (S.aQ k) j).fU≠.own t xs deep m) (l:∀b,w0.bx≠some (b,true))
  {vs':List Value} {Et:TypeId} (hh:w'.heap[G.bk i]?=some (.cells vs'.toArray Et (0,0))) (hc:dh G w' cs' vs'):Inv w0 G (S.setB i (some cs')) a w':=by
 obtain⟨r,_⟩:=h.box i cs hi;have B:=h.olt _ _ r;have A:Mv G G w w':=⟨λb o n=>⟨n,F b o n⟩,λk hk=>⟨hk,λ_=>rfl⟩,λi hi=>⟨hi,rfl⟩⟩;have hilt:i<S.boxes.length:=by
  rcases Nat.lt_or_ge i S.boxes.length with D | D
  ·exact D
  ·simp[St.fK,zE,zJ D]at hi
 have H:=h.below.size;refine⟨h.below.trans ⟨hoff.os,hoff.tape,hoff.output,hoff.size,λk hk p=>hoff.block k (by omega) λe=>?_⟩,h.nodef,h.tsz,by simp[St.setB,h.bsz],by simp[St.setB,h.osz],λx v hv=>(h.tmps x v hv).move A,?_,?_,?_,?_,h.lk,?_,h.sfr,h.Wh A,λb y u=>⟨(h.fx b y u).1,λI _=>absurd (I▸u) (l b)⟩⟩
 ·rcases e with e | e
  ·subst e;rcases B.1 with (q | q) | ⟨_,q⟩
   ·omega
   ·exact p q.1
   ·exact p q
  ·rcases (z k e).1 with q | q
   ·omega
   ·exact p q.1
 ·intro x y l;exact⟨(h.olt x y l).1,aL (h.olt x y l).2 hoff.size⟩
 ·intro x o n;exact⟨aL (h.sok x o n).1 hoff.size,(h.sok x o n).2⟩
 ·intro x cs'' hcs'';rw[gu]at hcs'';by_cases f:i=x
  ·subst f;rw[if_pos ⟨rfl,hilt⟩]at hcs'';cases hcs''
   exact⟨r,vs',Et,hh,hc⟩
  ·rw[if_neg (λe=>f e.1)]at hcs'';obtain⟨g,vs'',E',E,d⟩:=h.box x cs'' hcs'';refine⟨g,vs'',E',(hoff.block _ (h.olt _ _ g).2 λe=>?_).trans E,d.move A⟩;rcases e with e | e
   ·rw[e,r]at g;cases g
    exact f rfl
   ·exact (z _ e).2.1 x g
 ·intro k j;refine (h.owns k j).same rfl A.s (λt xs deep m l=>⟨λc d=>⟨d,hoff.block c (h.olt _ _ d).2 λe=>?_⟩,λ_ _ _ _ _ o n=>.inl n⟩) λt xs l c d=>⟨d,hoff.block c (h.olt _ _ d).2 λe=>?_,λo n=>n⟩
  ·rcases e with e | e
   ·have hc'':G.ow c=some (.own k j):=d;rw[e,r]at hc'';cases hc''
   ·exact (z c e).2.2 k j t xs deep m d (by rw[l];rfl)
  ·rcases e with e | e
   ·have hc'':G.ow c=some (.own k j):=d;rw[e,r]at hc'';cases hc''
   ·exact (z c e).2.2 k j t xs true true d l.aeT
 ·intro x l;rw[gu];by_cases f:i=x
  ·rw[if_pos ⟨f,hilt⟩];simp
  ·rw[if_neg (λe=>f e.1)];exact h.lb x l
theorem afo(h:Inv w0 G S a w){cs:List C}{vs:List V}{f args:List Value}{ap:Nat}{keys:List (Nat×Nat)}(hkeys:aO (cs.set ap .nil++vs.flatMap V.cells)=keys)(n:dh G w cs f)(q:kE G w vs args)
  {r:Nat->Nat->Prop} (g:∀b o,G.S b o\/AK G S keys b o->r b o) {R:Nat->Prop} (s:∀(c:C) (ty:Option Ty) (d:D) (v:Value),cs[ap]?=some c->(cD ty c).val S=some d->mV G w c v->agD w r R d v) :
  ∀(ps:List Sh) (z:Tup ps),(vTs ps (.agg cs::vs)).val S=some z->abI w r R ap f args ps z
 | [],z,t=>by simp[vTs,Rd.val]at t
 | p::ps,z,t=>by
  obtain⟨y,A⟩:=He t;obtain⟨B,E,F⟩:=adG y;obtain⟨H,I⟩:=n.get;obtain⟨J,K⟩:=GK F (by rw[lY];exact E.symm);refine⟨B,.of (by rw[J,H]) λi d v L hv=>?_,(mY h keys 0 A q λk j x M N=>?_).imp λi d v O=>O.move λb o u=>⟨g b o u,rfl⟩⟩
  ·rw[amw];obtain⟨c,ty,hc,l⟩:=K i d L;have m:=I i c v hc hv;split
   ·rename_i hi;exact s c ty d v (hi▸hc) l m
   ·rename_i hi;refine (EC h l m keys λk j e=>?_).move λb o u=>⟨g b o u,rfl⟩
    rw[<- hkeys,Ap];refine amk _ (fE (zG (i:=i) ?_));rw[List.getElem?_set_ne (λe=>hi e.symm),hc,e]
  ·rw[<- hkeys,Ap];exact amj _ (mM M N)
theorem ae8(h:Inv w0 G S a w){c:Call}{f:FuncId}(ho:o.op=.call c)(hc:c.callee=.value (.func f)){E:Env}(hE:oP P E w0){ws:List W}(hv:(af7 E o c f).val S=some ws)
  (hK:∀a' w' G',Inv w0 G' (S.puts ws) a' w'->K a' w'):o.wp P a w K Q:=by
 unfold af7 at hv;split at hv
 case h_2=>exact afa h ho hc hE hv hK
 rename_i sq x xs p hxs;obtain⟨s,ap⟩:=sq;have hfid:s.fid=f:=by have:=List.find?_some p;simpa using this
 obtain⟨hcall,hsound⟩:=hE.mb (s,ap) (amC p);split at hv
 case isFalse=>cases hv
 rename_i hma;have hbx:=hE.ma hma;simp only[Rd.aK,zB]at hv;obtain⟨apv,h1,hv⟩:=hv;have hpr:=aY h h1;split at hv
 case h_2=>cases hv
 rename_i b;simp only[Rd.val]at hv;split at hv
 case h_2=>cases hv
 rename_i cs hcs;simp only[Rd.aK,zB]at hv;obtain⟨vs,h2,z,h3,hv⟩:=hv;simp only[Rd.val,zB]at hv;obtain⟨y,h4,hv⟩:=hv;obtain⟨hob,vs0,E0,hh0,hcs0⟩:=h.box b cs hcs;have hptr:a.eval x=.pointer (some ⟨G.bk b,0,none⟩):=hpr.2;have hvs:=kQ h h2;have hargs:(c.args.map a.eval)=(Value.pointer (some ⟨G.bk b,0,none⟩)::xs.map a.eval).toArray:=by
  have:c.args.map a.eval=(c.args.toList.map a.eval).toArray:=by cases c.args;simp
  rw[this,hxs];simp[hptr]
 generalize hkeys:aO (cs.set ap .nil++vs.flatMap V.cells)=keys at *;have hamb:nT<=G.bk b:=by rcases (h.olt _ _ hob).1 with hh | hh;exact hE.am.nw hh;exact hE.am.rows _ hh.2
 have main:∀(rs:List Sh) (y:Tup rs),(ZL o b ap cs keys rs y).val S=some ws ->
   (∀(S1:Nat->Nat->Prop) (R:Nat->Prop),abI w S1 R ap vs0 (xs.map a.eval) s.ps z->(∀bb oo,S1 bb oo->bb<w.heap.size/\bb≠G.bk b)->(∀c,R c->nT<=c/\c<w.heap.size/\c≠G.bk b) ->
    Calls P f (c.args.map a.eval) w λe w'=>∃v,e=.returned v/\jJ (λc=>c=G.bk b\/R c) w.heap.size w w'/\(∀b o,S1 b o->w'.cell? ⟨b,o,none⟩=w.cell? ⟨b,o,none⟩)/\ais w.heap.size w' S1 R (G.bk b) ap v rs y)->o.wp P a w K Q:=by
  intro rs y hv hcalls;cases rs with
  | nil=>cases hv
  | cons c0 rs=>
  rw[ZL]at hv;split at hv
  case isFalse=>cases hv
  rename_i hcc;obtain⟨hca,hct⟩:=hcc;split at hv
  case h_2=>cases hv
  rename_i d t ys hd hys;simp only[Rd.aK,zB,Rd.val]at hv;obtain⟨w1,F,w2,h6,hv⟩:=hv;split at hv
  case isFalse=>cases hv
  rename_i hdl;simp only[Rd.val,zD]at hv;subst hv;obtain⟨hdO,rfl⟩:=iP h6;have pre:∃(l:Gh) (R:Nat->Prop),Inv w0 l ((S.puts (keys.map λq=>W.nomut q.1 q.2)).puts w1) a w/\More G l (AK G S keys) /\
    ((S.puts (keys.map λq=>W.nomut q.1 q.2)).puts w1).fK b=some cs/\((S.puts (keys.map λq=>W.nomut q.1 q.2)).puts w1).aQ d=[] /\
    (∀c,R c->w0.nw c/\c<w.heap.size/\(∀i,l.ow c≠some (.box i))/\∀k j t xs deep m,l.ow c=some (.own k j)->(bC (((S.puts (keys.map λq=>W.nomut q.1 q.2)).puts w1).aQ k) j).fU≠.own t xs deep m) /\
    ∀(c:C) (ty:Option Ty) (d:D) (v:Value),cs[ap]?=some c->(cD ty c).val S=some d->mV G w c v->agD w l.S R d v:=by
   unfold aiB at F;split at F
   ·rename_i k j hcell;split at F
    case isFalse=>cases F
    rename_i L;obtain⟨hkn,L⟩:=gJ L;simp only[Rd.val]at F;split at F
    case h_2=>cases F
    rename_i X B deep1 m1 hown;simp only[Rd.val,zD]at F;subst F;obtain⟨l,I,T⟩:=Inv.qY keys h L;have ho2:=(Jv keys S hkn).trans hown;have hO:OwT w l.S deep1 m1 X B (l.ov k j) (iZ l k j):=by
     have:=I.owns k j;rw[ho2]at this;exact this
    have h8:=I.EJ k j .dead trivial;refine⟨l,iZ l k j,h8,T,by rw[<- hcs];exact jO keys S b,QT (gX keys S d hdO),λc0 A=>?_,λc1 ty Y M g r n=>?_⟩
    ·have A:l.ow c0=some (.own k j):=A;refine⟨(I.kY A).1,(I.kY A).2,λi hi=>(by rw[A]at hi;cases hi),λk' j' t2 xs2 d2 m2 H=>?_⟩;rw[A]at H;cases H
     show (bC (((S.puts (keys.map λq=>W.nomut q.1 q.2)).cO k (((S.puts (keys.map λq=>W.nomut q.1 q.2)).aQ k).set j .dead)).aQ k) j).fU≠_
     rw[BN];simp[O.fU]
    ·rw[hcell]at g;cases g
     simp only[cD,Rd.val,hown,zD]at r;subst r;have:M=l.ov k j:=by rw[T.ov];exact n.2.1
     rw[this];exact hO.app
   ·rename_i hcell;split at F
    case isFalse=>cases F
    rename_i L;simp only[Rd.val,zD]at F;subst F;obtain⟨l,I,T⟩:=Inv.qY keys h L;refine⟨l,λ_=>False,I,T,by rw[<- hcs];exact jO keys S b,gX keys S d hdO,λc0 A=>A.elim,λc1 ty Y M g r n=>?_⟩;rw[hcell]at g;cases g
    cases ty with
    | none=>cases r
    | some X=>
     simp only[cD,Rd.val,zD]at r;subst r;exact .inl ⟨n,rfl⟩
   ·cases F
  obtain⟨l,R,I,T,hgb,hgd,hR,hap⟩:=pre;generalize hS2:(S.puts (keys.map λq=>W.nomut q.1 q.2)).puts w1=J at *;have hbk:l.bk b=G.bk b:=by rw[T.bk]
  have hlen2:J.tmps.length=S.tmps.length:=by rw[<- I.tsz,h.tsz]
  unfold Oper.wp;rw[mg ho hc (hfid▸hcall)];refine Calls.mono (hcalls l.S R (afo h hkeys hcs0 hvs (λb o p=>(T.s b o).2 p) hap s.ps z h3) (λbb oo p=>⟨(I.sok bb oo p).1,λe=>(I.sok bb oo p).2 b (by rw[T.ow,e];exact hob)⟩)
   λc hc=>⟨hE.am.nw (hR c hc).1,(hR c hc).2.1,λe=>(hR c hc).2.2.1 b (by rw[T.ow,e];exact hob)⟩) λe w' he=>?_
  obtain⟨v,rfl,hoff,hkeep,N,R',vs',Et',us,rfl,hh',hcont,hT,hS13,hS3,hR'⟩:=he;obtain⟨hcl,hcg⟩:=hcont.pt;have hw':=hoff.size;have hone:∀(i:Nat) (Y:D) (M:Value),(c0.t.cells (jX y))[i]?=some Y->vs'[i]?=some M->M.oneCell'=true:=by
   intro i Y M r n;have hh:=hcg i Y M r n;split at hh
   ·cases Y with
    | list X B=>exact (OwT.ow hh).one
    | int=>exact Rep.one hh
    | bool=>exact Rep.one hh
    | str=>exact Rep.one hh
   ·exact hh.one
  have h8:Inv w0 l (J.setB b (some (List.replicate vs'.length .undef))) a w':=by
   refine I.al5 b hgb (by rw[hbk];exact hoff) hkeep (λc hc=>⟨(hR c hc).1,(hR c hc).2.2⟩) hbx (by rw[hbk];exact hh') (dh.mk (by simp) λi c1 M g n=>?_);have:c1=.undef:=(List.mem_replicate.1 (zG g)).2;subst this;have Z:i<(c0.t.cells (jX y)).length:=by
    have:=(zC.1 n).1;omega
   exact hone i _ M (zF Z) n
  have hno:∀bb,w.heap.size<=bb->∀x,l.ow bb≠some x:=λbb H x hx=>by
   have:=(I.olt _ _ hx).2;omega
  have hfree:∀c,w.heap.size<=c\/R c->w0.nw c/\(∀i,l.ow c≠some (.box i))/\∀k j t xs deep m,l.ow c=some (.own k j)->(bC (J.aQ k) j).fU≠.own t xs deep m:=λc hc=>hc.elim
   (λH=>⟨.inl (amq h.below.size H),λi=>hno c H _,λk j t xs deep m hh=>absurd hh (hno c H _)⟩) λH=>⟨(hR c H).1,(hR c H).2.2⟩
  obtain⟨h9,m9⟩:=h8.YE (λbb oo=>(w.heap.size<=bb\/R bb)/\N bb oo) (λbb oo hh=>⟨(hS3 bb oo hh.2).2,(hfree bb hh.1).2.1,λk j X B deep1 m1 hx len cap _ how=>absurd (show (bC (J.aQ k) j).fU=.own X B deep1 m1 by
    have hx:bC (J.aQ k) j=.own X B deep1 m1:=hx;rw[hx];rfl) ((hfree bb hh.1).2.2 k j _ _ _ _ how)⟩)
   (λbb oo hh=>(hfree bb hh.1).1) (λbb oo hh k j X B hx how=>absurd (show (bC (J.aQ k) j).fU=.own X B true true from O.IsT.aeT hx) ((hfree bb hh.1).2.2 k j _ _ _ _ how))
  have hS39:∀bb oo,N bb oo->l.S bb oo\/((w.heap.size<=bb\/R bb)/\N bb oo):=λbb oo p=>(hS3 bb oo p).1.imp id λH=>⟨H,p⟩
  have hS93:∀bb oo,l.S bb oo\/((w.heap.size<=bb\/R bb)/\N bb oo)->N bb oo:=λbb oo p=>p.elim (hS13 bb oo) (·.2)
  have hmv:∀ {dd:D} {u:Value},Rep w' N dd u->Rep w' (λbb oo=>l.S bb oo\/((w.heap.size<=bb\/R bb)/\N bb oo)) dd u:=λhr=>hr.move λbb oo p=>⟨hS39 bb oo p,rfl⟩
  obtain⟨u,hu⟩:∃u,vs'[ap]?=some u:=⟨_,zF (by have:=(zC.1 hys).1;omega)⟩;have hOw:OwT w' N false false t ys u R':=by
   have:=hcg ap _ u hys hu;rw[amw,if_pos rfl]at this;exact this
  classical
  obtain⟨G4,h10,m10,hlk,hov,hbk4,hS4,_⟩:=h9.wK d [.own t ys false false] (λ_=>u) (λc=>if R' c then some 0 else none) (by rw[Sz];exact hgd) (by show d<J.tmps.length;rw[hlen2];exact hdl) (by simp)
   (λc j hc=>by
    by_cases Z:R' c
    ·have:=hR' c Z;exact⟨(hfree c this.1).1,this.2,(hfree c this.1).2⟩
    ·rw[if_neg Z]at hc;cases hc)
   (λj=>by
    cases j with
    | zero=>
     show OwT w' _ false false t ys u _
     exact hOw.move (λbb oo p=>⟨hS39 bb oo p,rfl⟩) (λbb H=>⟨if_pos H,rfl⟩) λbb len cap _ _ oo p=>.inl (hS93 bb oo p)
    | succ j=>trivial)
  have hblt:b<J.boxes.length:=by
   rcases Nat.lt_or_ge b J.boxes.length with Z | Z
   ·exact Z
   ·have:=hgb;simp[St.fK,zE,zJ Z]at this
  have hG4:∀bb oo,G4.S bb oo↔(l.S bb oo\/((w.heap.size<=bb\/R bb)/\N bb oo)):=λbb oo=>by rw[hS4]
  have h11:=h10.Ua b (cs':=((c0.t.cells (jX y)).map .d).set ap (.own d 0)) (vs:=vs') (Et:=Et') (by
    rw[ada,gu,if_pos ⟨rfl,hblt⟩]) (by rw[hbk4];show w'.heap[l.bk b]?=_;rw[hbk];exact hh')
   (dh.mk (by simp[hcl]) λi c1 M g n=>by
    rw[amz]at g;split at g
    ·rename_i hi;subst hi;split at g
     ·cases g
      rw[hu]at n;cases n
      exact⟨hlk,(hov 0).symm,(OwT.ow hOw).one⟩
     ·cases g
    ·rename_i hi;rw[amh,ami]at g;obtain⟨Y,r,rfl⟩:=g;have:=hcg i Y M r n;rw[amw,if_neg (λe=>hi e.symm)]at this;exact this.move λbb oo p=>⟨(hG4 bb oo).2 (hS39 bb oo p),rfl⟩)
  have h12:=h11.jh d (av:=qy (pM d false 0 rs (yS y))) (v:=pack us) (oC (mJ (R:=λ_ dd u=>Rep w' N dd u) (λi dd u hr=>by
   have U:Rep w' G4.S dd u:=hr.move λbb oo p=>⟨(hG4 bb oo).2 (hS39 bb oo p),rfl⟩
   cases dd with
   | list t xs=>exact U
   | int=>exact U
   | bool=>exact U
   | str=>exact U) hT))
  have eS:S.puts (keys.map (λq=>W.nomut q.1 q.2)++(w1++([W.o d [.own t ys false false]]++[.b b (((c0.t.cells (jX y)).map .d).set ap (.own d 0)),.t d (qy (pM d false 0 rs (yS y)))]))) =
    (((J.cO d [.own t ys false false]).setB b (some (((c0.t.cells (jX y)).map .d).set ap (.own d 0)))).jh d (qy (pM d false 0 rs (yS y)))):=by
   rw[fM,fM,hS2];rfl
  have eB:(((J.setB b (some (List.replicate vs'.length C.undef))).cO d [.own t ys false false]).setB b (some (((c0.t.cells (jX y)).map .d).set ap (.own d 0))))=((J.cO d [.own t ys false false]).setB b (some (((c0.t.cells (jX y)).map .d).set ap (.own d 0)))):=by
   simp[St.setB,St.cO]
  rw[eB]at h12;rw[eS]at hK;have hK2:=hK _ _ _ h12;rw[hd];exact hK2
 refine main s.rs y hv λS1 R hM hlt hRR=>?_
 rw[<- hfid,hargs];exact hsound w S1 R (G.bk b) vs0 E0 (xs.map a.eval) z y h4 (hE.am.keep w h.below) hamb hh0 hM hlt hRR
theorem ahu(h:Inv w0 G S a w){c:Call}{f:FuncId}(F:o.op=.call c)(hc:c.callee=.value (.func f)){E:Env}(H:oP P E w0){ws:List W}(hv:(eff E o).val S=some ws)
  (C:∀a' w' G',Inv w0 G' (S.puts ws) a' w'->K a' w'):o.wp P a w K Q:=by
 unfold eff at hv;rw[F]at hv;simp only[hc]at hv;split at hv
 ·exact ae8 h F hc H hv C
 rename_i s g;have hfid:s.fid=f:=by have:=List.find?_some g;simpa using this
 obtain⟨hcall,hsound⟩:=H.2.1 s (amC g);simp only[Rd.aK,zB]at hv;obtain⟨vs,X,x,Y,hv⟩:=hv;simp only[Rd.val,zB]at hv;obtain⟨y,Z,hv⟩:=hv;split at hv
 case isFalse=>cases hv
 rename_i I;have J:=kQ h X;have hargs:(c.args.map a.eval)=(c.args.toList.map a.eval).toArray:=by
  cases c.args;simp
 have upon:∀ {R:Value->World->Prop},Calls P f (c.args.map a.eval) w (λe w'=>∃v,e=.returned v/\R v w')->(∀v w',R v w'->K (a.put o.dst v) w')->o.wp P a w K Q:=by
  intro R hC hR;unfold Oper.wp;rw[mg F hc (hfid▸hcall)];refine Calls.mono hC λe w' he=>?_
  obtain⟨v,rfl,q⟩:=he;exact hR v w' q
 have hcalls:∀(S':Nat->Nat->Prop),(∀b oo,(G.S b oo\/AK G S (aO (vs.flatMap V.cells)) b oo)->S' b oo)->(∀b oo,S' b oo->b<w.heap.size) ->
   Calls P f (c.args.map a.eval) w (λe w'=>∃v,e=.returned v/\(Below w.heap.size w w'/\Tq w.heap.size w' S' s.ex s.rs y v)):=by
  intro S' n L;have:=mY h (aO (vs.flatMap V.cells)) 0 Y J λk j z hz hm=>mM hz hm
  rw[<- hfid,hargs];exact hsound w S' _ x y Z (H.am.keep w h.below) (this.imp λi d v q=>q.move λb oo g=>⟨n b oo g,rfl⟩) L
 have hAlt:∀b oo,AK G S (aO (vs.flatMap V.cells)) b oo->b<w.heap.size:=by
  rintro b oo ⟨k,j,t,xs,deep,m,_,_,l,_⟩;exact (h.olt _ _ l).2
 cases hexs:s.ex with
 | true=>
  refine upon (hcalls (λb oo=>G.S b oo\/AK G S (aO (vs.flatMap V.cells)) b oo) (λ_ _ hh=>hh) (λb oo hh=>hh.elim (λg=>(h.sok b oo g).1) (hAlt b oo))) ?_;rintro v w' ⟨hbel,us,rfl,hres⟩;rw[hexs]at hres;have M:(af0 o E.trees s.rs y).val S=some ws:=by
   rw[<- hv];unfold af0;simp only[hexs,amy];cases o.dst with
   | none=>rfl
   | some d=>by_cases hany:(dI s.rs y).any isList=true<;>simp[hany]
  obtain⟨G8,N⟩:=(h.grow hbel).aiz (B:=w.heap.size) (λc x O=>(h.olt _ _ O).2) h.below.size (λb o g=>(h.sok b o g).1) hres (S0:=S) (λ_ hd=>hd) M;exact C _ _ _ N
 | false=>
  have T:nodupB (aO (vs.flatMap V.cells))=true:=by simpa [hexs] using I
  obtain⟨r,D,m5⟩:=Inv.qY (aO (vs.flatMap V.cells)) h T;refine upon (hcalls r.S (λb oo hh=>(m5.s b oo).2 hh) (λb oo hh=>(D.sok b oo hh).1)) ?_;rintro v w' ⟨hbel,us,rfl,hres⟩;rw[hexs]at hres;obtain⟨S',hT,n⟩:=hres;have h6:=D.grow hbel;obtain⟨U,m7⟩:=h6.YE (λb oo=>S' b oo/\w.heap.size<=b) (λb oo hh=>by
   have A:∀x,r.ow b≠some x:=λx O=>by
    have:=(D.olt _ _ O).2;omega
   exact⟨(n b oo hh.1).2,λi=>A _,λk j t xs deep m _ len cap _ l=>absurd l (A _)⟩) (λb oo hh=>.inl (amq h.below.size hh.2)) (λb oo hh k j t xs _ l=>by
   have:=(D.olt _ _ l).2;have:=hh.2;omega)
  simp only[hexs,aM,if_false,Bool.false_and]at hv;cases hdst:o.dst with
  | none=>
   rw[hdst]at hv;simp only[Rd.val,zD]at hv;subst hv;exact C _ _ _ U
  | some d=>
   rw[hdst]at hv;simp only[Rd.val,zD]at hv;subst hv;have h8:=U.jh d (av:=qy (pM d false 0 s.rs y)) (oC (mJ (R:=λ_ dd u=>Rep w' S' dd u) (λi dd u q=>?_) hT))
   ·refine C _ _ _ (?_:Inv w0 { r with S:=λb o=>r.S b o\/(S' b o/\w.heap.size<=b) } _ _ _);rw[fM];exact h8
   have p:Rep w' (λb oo=>r.S b oo\/(S' b oo/\w.heap.size<=b)) dd u:=q.move λb oo g=>⟨(n b oo g).1.imp id λhb=>⟨g,hb⟩,rfl⟩
   cases dd with
   | list t xs=>exact p
   | int=>exact p
   | bool=>exact p
   | str=>exact p
theorem aho(h:Inv w0 G S a w){t:TypeId}{p:Operand}(b:o.op=.load t p){E:Env}(c:E.tt.ok P=true){agg:Bool}{n k j i sz off:Nat}{ty:Ty}{xs:List ty.den}{m:Nat}
  (d:lk E.tt.shape t=some (agg,n)) (e:(dZ p).val S=some (.oelt k j i sz off)) (hown:bC (S.aQ k) j=.part ty xs m) {ws:List W} (hv:(TQ o agg n k j i sz off ty xs m).val S=some ws)
  (f:∀a' w' G',Inv w0 G' (S.puts ws) a' w'->K a' w'):o.wp P a w K Q:=by
 unfold TQ at hv;cases hv
theorem ahs(h:Inv w0 G S a w){t:TypeId}{p:Operand}(ho:o.op=.load t p){E:Env}(hT:E.tt.ok P=true){agg:Bool}{n k j i sz off:Nat}{ty:Ty}{xs:List ty.den}{hm:Bool}
  (hs:lk E.tt.shape t=some (agg,n)) (h1:(dZ p).val S=some (.oelt k j i sz off)) (hown:bC (S.aQ k) j=.tree ty xs) {ws:List W} (hv:(VD o agg n k j i sz off ty xs hm).val S=some ws)
  (hK:∀a' w' G',Inv w0 G' (S.puts ws) a' w'->K a' w'):o.wp P a w K Q:=by
 obtain⟨N,b,len,cap,z,R⟩:=aY h h1;unfold VD at hv;split at hv
 case h_2=>cases hv
 rename_i d hd;split at hv
 case isFalse=>cases hv
 rename_i hcond;obtain⟨hagg,T,U,_⟩:=hcond;subst hagg;subst T;simp only[Rd.val,zB]at hv;obtain⟨x,hx,hv⟩:=hv;split at hv
 case h_2=>cases hv
 rename_i A ys B;split at hv
 case isFalse=>cases hv
 rename_i hfl;simp only[Rd.aK,zB,Rd.val,zD]at hv;obtain⟨ws',h6,rfl⟩:=hv;obtain⟨C,rfl⟩:=iP h6;have hO:=h.owns k j;rw[hown]at hO;obtain⟨fp,V,X,q3⟩:=hO;generalize Y:D.list ty xs=dd at X;rw[z]at X;cases X with
 | ro _ _ _ r=>cases r
 | list ty' xs' b' cap' arr e vs fps _ hb hcap hmax hasz Z hc F hf hdis=>
 cases Y
 obtain⟨H,s⟩:=abd hown (by intro e;cases e);have u:k≠d:=λe=>by rw[e,C]at s;simp at s
 obtain⟨td,ti,hu,hi,htsz,htd⟩:=TT.zy hT hs;have hcell:w.cell? ⟨b,i*sz+off,none⟩=some (vs i off):=by
  rw[cell_of_row w _ _ _ _ _ hb,<- U];exact hc i x off _ hx B
 have hrun:(execOp a.eval o).run P w=.ok (.value (vs i off)) w:=by
  have:=qg (P:=P) (w:=w) t b (i*sz+off) td hu htd (vs i off) hcell;unfold execOp;simp only[ho,R,Instr.loadAt,Instr.sureAddr,Sem.run_bind,Sem.run_pure,Result.andThen_ok,this]
 have I:Ow w (λ_ _=>False) true (.list A ys) (vs i off) (fps i off):=F i x off _ hx B;have hole:∀m:Gh,(∀c,fp c->¬fps i off c->m.ow c=some (.own k j))->m.ov k j=G.ov k j->m.S=G.S->xH m w k j (.hole ty xs i off):=λm g1 g2 g3=>by
  refine⟨λc=>fp c/\¬fps i off c,λc hc=>g1 c hc.1 hc.2,?_,λb' oo y f=>q3 b' oo (g3▸y) f.1⟩;refine⟨b,cap,arr,e,vs,λi' q c=>¬(i'=i/\q=off)/\fps i' q c,by rw[g2,z],hb,hcap,hmax,hasz,⟨Z,λhh=>(hf _ _ _ hh).2 rfl⟩,hc,λi' x' q dd hx' r hne=>(F i' x' q dd hx' r).sub (λc g=>⟨hne,g⟩) id,λi' q c g=>⟨⟨(hf _ _ _ g.2).1,λhh=>?_⟩,(hf _ _ _ g.2).2⟩,λi1 j1 i2 j2 c hc1 hc2=>hdis _ _ _ _ _ hc1.2 hc2.2⟩;exact g.1 (hdis _ _ _ _ _ g.2 hh)
 refine aW hrun ?_;by_cases l:d<S.tmps.length
 case neg=>
  refine hK _ _ G ?_
  have M:=h.EJ k j _ (hole G (λc hc _=>V c hc) rfl rfl)
  rw[hd]
  show Inv w0 G (((S.cO k ((S.aQ k).set j (.hole ty xs i off))).cO d _).jh d _) _ _
  rw[FB h.tsz l,zL (by show ¬d<(S.cO k _).owns.length;rw[M.osz];exact l),zK (S:=S.cO k _) l]
  exact M
 classical
 have M:=h.EJ k j .dead trivial;have J:(S.cO k ((S.aQ k).set j .dead)).aQ d=[]:=by
  rw[bK,if_neg (λe=>u e.1)];exact C
 have hdead:bC ((S.cO k ((S.aQ k).set j .dead)).aQ k) j=.dead:=by
  rw[bK,if_pos ⟨rfl,H⟩,iV,if_pos ⟨rfl,s⟩]
 obtain⟨m,h7,m7,l7,o7,_,s7,w7⟩:=M.wK d [.own A ys true true] (λ_=>vs i off) (λc=>if fps i off c then some 0 else none) J l (by simp)
  (λc q hc=>by
   by_cases hh:fps i off c
   ·have f1:=V c (hf _ _ _ hh).1;have L:=h.kY f1;refine⟨L.1,L.2,λi' f=>?_,λk' j' _ _ _ _ f=>?_⟩
    ·rw[show G.ow c=_ from f1]at f;cases f
    ·rw[show G.ow c=_ from f1]at f;cases f
     rw[hdead];simp[O.fU]
   ·rw[if_neg hh]at hc;cases hc)
  (λq=>by
   cases q with
   | zero=>exact OwT.D9 I (λc hc=>if_pos hc) λb' oo y f=>q3 b' oo y (hf _ _ _ f).1
   | succ q=>trivial)
 have hg2:((S.cO k ((S.aQ k).set j .dead)).cO d [.own A ys true true]).aQ k=(S.aQ k).set j .dead:=by
  rw[bK,if_neg (λe=>u e.1.symm),bK,if_pos ⟨rfl,H⟩]
 have h8:=h7.EJ k j _ (hole m (λc hc T=>by rw[w7,if_neg T];exact V c hc) ((m7.k k N).2 j) s7);rw[hg2]at h8;have hst:((S.cO k ((S.aQ k).set j .dead)).cO d [.own A ys true true]).cO k (((S.aQ k).set j .dead).set j (.hole ty xs i off))=(S.cO k ((S.aQ k).set j (.hole ty xs i off))).cO d [.own A ys true true]:=by
  simp only[St.cO,List.set_set];rw[List.set_comm _ _ (Ne.symm u),List.set_set]
 rw[hst]at h8;have h9:=h8.jh d (av:=.v (.one (.own d 0))) (v:=vs i off) ⟨l7,(o7 0).symm,I.one⟩;refine hK _ _ m ?_;rw[hd];exact h9
theorem adh(h:Inv w0 G S a w){E:Env}(z:oP P E w0){ws:List W}(hv:(eff E o).val S=some ws)
  (q:∀a' w' G',Inv w0 G' (S.puts ws) a' w'->K a' w'):o.wp P a w K Q:=by
 have u:=z.1;cases d:o.op with
 | move x=>exact aa9 h (.inl d) hv q
 | assign x=>exact aa9 h (.inr d) hv q
 | pick c x y=>exact ahp h d hv q
 | alloc e=>exact afe h d u hv q
 | box e x=>exact ahv h d hv q
 | build t ps=>exact afb h d u hv q
 | buildSlice t n ps=>exact Qw h d u hv q
 | load t p=>exact ahq h d u hv (λagg n k j i sz off ty xs m A B C D=>aho h d u A B C D q) (λagg n k j i sz off ty xs A B C D=>ahs h d u A B C D q) q
 | store t p x=>exact ae3 h d u z.ma hv q
 | nilCheck x=>exact Xi h d hv q
 | convert F t x=>exact ZF h d u hv q
 | binOp bo t x y t'=>exact afd h d u hv q
 | unOp uo t x=>exact ahn h d hv q
 | makeSlice t l c=>exact UX h d u hv q
 | slice t x lo hi mx=>exact ae4 h d u hv q
 | fieldAddr s p f=>exact UZ h d u hv q
 | field t x f=>exact ae6 h d u hv q
 | indexAddr t x i=>exact UY h d u hv q
 | index t x i=>exact ae5 h d u hv q
 | extract x i=>exact ZE h d hv q
 | call c=>
  cases hc:c.callee with
  | builtin b=>
   cases b<;>first
    | exact akK h d hc u hv q
    | exact acM h d hc u hv q
    | exact RN h d (.inl hc) hv q
    | exact RN h d (.inr hc) hv q
    | (unfold eff at hv;rw[d]at hv;simp only[hc]at hv;cases hv)
  | value x=>
   cases x with
   | func f=>exact ahu h d hc z hv q
   | tmp t=>unfold eff at hv;rw[d]at hv;simp only[hc]at hv;cases hv
   | const v=>unfold eff at hv;rw[d]at hv;simp only[hc]at hv;cases hv
   | global g=>unfold eff at hv;rw[d]at hv;simp only[hc]at hv;cases hv
  | invoke r m=>unfold eff at hv;rw[d]at hv;simp only[hc]at hv;cases hv
 | _=>unfold eff at hv;rw[d]at hv;cases hv
end ops
