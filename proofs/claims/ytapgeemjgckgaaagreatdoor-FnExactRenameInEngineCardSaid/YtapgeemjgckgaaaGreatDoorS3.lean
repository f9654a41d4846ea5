import Derived.Test.YtapgeemjgckgaaaGreatDoorS2
import Derived.Deep.AppendSrc
set_option linter.unusedSimpArgs false
set_option linter.unusedVariables false
/- Operations: append, stores, slices, calls. -/
namespace Go.Abs
open Go.RowKit
section ops
variable {P:Program} {w0:Bs} {G:Gh} {S:St} {a:Act} {w:World} {o:Oper} {K:Act->World->Prop} {Q:Exit->Act->World->Prop}
theorem jb{n:Nat}{u:Unit}(h:gd n=some u):n<=34359738368:=by
 unfold gd at h;split at h
 ·assumption
 ·cases h
theorem OwT.weaken{S:Nat->Nat->Prop}{deep deep' m:Bool}{t:Ty}{xs:List t.den}{v:Value}{fp fp':Nat->Prop}(h:OwT w S deep m t xs v fp)(hd:deep'=true->deep=true)(l:∀c,fp c->fp' c):OwT w S deep' m t xs v fp':=by
 rcases h with h | ⟨b,cap,arr,E,vs,fps,rfl,n,hcap,hmax,f,g,a,o,e,hdis,p⟩
 ·exact .inl h
 ·exact .inr ⟨b,cap,arr,E,vs,fps,rfl,n,hcap,hmax,f,l _ g,a,fun i x j d q k=>(o i x j d q k).sub (fun _ a=>a) hd,fun i j c a=>⟨l _ (e i j c a).1,(e i j c a).2⟩,hdis,p⟩
theorem Vy{S S':Nat->Nat->Prop}{dp:Bool}{d:D}{v:Value}{fp fp':Nat->Prop}(a:kU d=none)(h:Ow w S dp d v fp):Ow w S' dp d v fp':=by
 cases h with
 | int k n=>exact .int k n _
 | bool b=>exact .bool b _
 | str v=>exact .str v _
 | nil t fp=>cases a
 | ro d v fp hd'' h''=>exact JQ a h''
 | list=>cases a
theorem Np(t tx ty e:TypeId)(i:TypeInfo)(c:P.underlying t=some (.slice e))(hi:P.info? e=some i)(base:Option Addr)(n cap:Nat)(d:n<=cap)(x:Value)(a:Src P i.size tx x 0 [] w) :
  (Builtin.append_ #[t,tx] ty #[.slice base n cap,x]).run P w=.ok (.slice base n cap) w:=by
 rcases a.kind with ⟨e',b⟩ | b<;>cases base<;>simp[Builtin.append_,run_underlying c,run_underlying b,sizeOf,typeInfo,hi,a.len,d,a.cells,storeCells]
theorem run_append_room'(t tx ty e E:TypeId)(i:TypeInfo)(d:P.underlying t=some (.slice e))(hi:P.info? e=some i)
  (g sLen sCap:Nat) (cur:Array Value) (f:w.heap[g]?=some (.cells cur E (0,0)))
  (x:Value) (m:Nat) (news:List Value) (b:Src P i.size tx x m news w)
  (hroom:sLen+m<=sCap) (hfit:sLen*i.size+news.length<=cur.size) :
  (Builtin.append_ #[t,tx] ty #[.slice (some ⟨g,0,none⟩) sLen sCap,x]).run P w =
   .ok (.slice (some ⟨g,0,none⟩) (sLen+m) sCap) (w.setRow g (cur.toList.take (sLen*i.size)++news++cur.toList.drop (sLen*i.size+news.length)).toArray):=by
 have a:=run_storeCells_at P g (sLen*i.size) E news 0 cur w f (by simpa using hfit) b.one;simp only[Nat.add_zero]at a;rcases b.kind with ⟨e',c⟩ | c<;>simp[Builtin.append_,run_underlying d,run_underlying c,sizeOf,typeInfo,hi,b.len,hroom,b.cells,Addr.add_lit,a]
theorem src_of{T:TypeId}{TT0:TT}(g:TT0.ok P=true){t:Ty}(h:lk TT0.elem T=some t){v:Value}{ys:List t.den}{S':Nat->Nat->Prop}{dp:Bool}{labS:Nat->Prop}
  (k:((∃(ad:Option Addr) (cap:Nat),v=.slice ad 0 cap/\(ad=none->cap=0))/\ys=[])\/∃b off cap news,v=.slice (some ⟨b,off,none⟩) ys.length cap/\(∀p u,news[p]?=some u->w.cell? ⟨b,off+p,none⟩=some u)/\mr w S' dp t ys news labS) :
  ∃news,(∀size,size=t.size->Src P size T v ys.length news w)/\mr w S' dp t ys news labS:=by
 obtain⟨e,inf,z,a,hi,l,m,y,n,o⟩:=TT.jw g h;rcases k with ⟨⟨ad,cap,rfl,c⟩,rfl⟩ | ⟨b,off,cap,news,rfl,q,f⟩
 ·refine⟨[],fun size _=>?_,by simp,by simp,fun _ _=>undef,fun _ _ _=>False,fun i x j d r=>by simp at r,fun _ _ _ hh=>hh.elim,fun _ _ _ _ _ hh=>hh.elim⟩;cases ad with
  | none=>rw[c rfl];exact Src.ofNil w a 0
  | some b=>exact Src.ofSlice w a b 0 cap [] (by simp) (by simp) (by simp)
 ·refine⟨news,fun size s=>?_,f⟩;subst s;exact Src.ofSlice w a _ _ cap news f.1 (fun j u a=>by rw[addr_add];exact q j u a) f.2.1
theorem jy(h:Inv w0 G S a w){c:Call}(ho:o.op=.call c)(Z:c.callee=.builtin .append){x y:Operand}{T TX:TypeId}(hargs:c.args = #[x,y])(htys:c.argTypes = #[T,TX])
  {TT0:TT} (hT:TT0.ok P=true) {t:Ty} (ht:lk TT0.elem T=some t) {d:Nat} (hd:o.dst=some d) (hdO:S.aJ d=[])
  {xs ys:List t.den} {deep dp m:Bool} {labD labS:Nat->Prop} (hD:OwT w G.S deep m t xs (a.eval x) labD)
  (hY:∃news,(∀size,size=t.size->Src P size TX (a.eval y) ys.length news w)/\mr w G.S dp t ys news labS)
  (A:∀c,labD c->labS c->False)
  (hfree:∀c,labD c\/labS c->w0.w.heap.size<=c/\c<w.heap.size/\(∀i,G.ow c≠some (.box i))/\∀k' j' t xs deep m,G.ow c=some (.own k' j')->(bC (S.aJ k') j').iq≠.own t xs deep m)
  (hgd:xs.length+ys.length<=34359738368)
  (hK:∀a' w' G',Inv w0 G' ((S.di d [.own t (xs++ys) (deep&&dp) m]).iR d (.v (.one (.own d 0)))) a' w'->K a' w'):o.wp P a w K Q:=by
 obtain⟨e,inf,z,B,hi,l,hby,hz,hzs,hzm⟩:=TT.jw hT ht;have hrun:∀ {v' w'},(Builtin.append_ #[T,TX] o.type #[a.eval x,a.eval y]).run P w=.ok v' w'->(execOp a.eval o).run P w=.ok (.value v') w':=by
  intro v' w' f;refine jP ho Z ?_;simp[builtin,hargs,htys,f]
 have hb47:∀k,k<=34359738368->k*inf.bytes<=140737488355328:=fun k hk=>by
  have:=Nat.mul_le_mul hk hby
  omega
 have fin:∀ {v':Value} {w':World} {lab:Nat->Prop},Inv w0 G S a w'->(execOp a.eval o).run P w=.ok (.value v') w'->OwT w' G.S (deep&&dp) m t (xs++ys) v' lab ->
   (∀c,lab c->w0.w.heap.size<=c/\c<w'.heap.size/\(∀i,G.ow c≠some (.box i))/\∀k' j' t xs deep m,G.ow c=some (.own k' j')->(bC (S.aJ k') j').iq≠.own t xs deep m)->o.wp P a w K Q:=by
  intro v' w' lab h' f hO hl;obtain⟨G2,h7⟩:=h'.XR d (v:=v') lab hdO hl hO;refine aS f (hK _ _ G2 ?_);rw[hd];exact h7
 have new_free:∀c,c=w.heap.size->w0.w.heap.size<=c/\(∀i,G.ow c≠some (.box i))/\∀k' j' t xs deep m,G.ow c=some (.own k' j')->(bC (S.aJ k') j').iq≠.own t xs deep m:=by
  rintro c rfl;exact⟨h.below.size,fun i C=>absurd (h.olt _ _ C).2 (Nat.lt_irrefl _),fun k' j' _ _ _ _ C=>absurd (h.olt _ _ C).2 (Nat.lt_irrefl _)⟩
 obtain⟨news,hsrc0,W⟩:=hY;have hsrc:=hsrc0 inf.size l;have r:=W.1;have hone:=W.2.1;by_cases O:ys.length=0
 ·have hyn:=List.eq_nil_of_length_eq_zero O;subst hyn;have hn0:news=[]:=List.eq_nil_of_length_eq_zero (by rw[r];simp);subst hn0;have D:∃base n cap,a.eval x=.slice base n cap/\n<=cap:=by
   rcases hD with ⟨F,_⟩ | ⟨g,cap,arr,E,vs,fps,F,_,hcap,_⟩
   ·exact⟨_,_,_,F,aw _⟩
   ·exact⟨_,_,_,F,hcap⟩
  obtain⟨base,n,cap,F,hn⟩:=D;refine fin (v':=a.eval x) (lab:=labD) h (hrun ?_) ?_ fun c b=>hfree c (.inl b)
  ·rw[F];exact Np T TX o.type e inf B hi base n cap hn _ hsrc
  ·rw[List.append_nil];exact hD.weaken (fun e=>(zI _ _▸e).1) fun _ b=>b
 ·have hm:ys.length≠0:=O;have grown:∀ {olds:List Value} {cap':Nat} {old:Nat},mr w G.S deep t xs olds labD->xs.length+ys.length<=cap'->cap'=grownCap w (xs.length+ys.length) old e ->
    (Builtin.append_ #[T,TX] o.type #[a.eval x,a.eval y]).run P w=.ok (.slice (some ⟨w.heap.size,0,none⟩) (xs.length+ys.length) cap')
     (w.drew.alloc (.cells (olds.toArray++news.toArray++Builtin.zeroCells z.cells (cap'-(xs.length+ys.length))) e))->o.wp P a w K Q:=by
   intro olds cap' old hLD D hcap' f;have hbel:Below w.heap.size w (w.drew.alloc (.cells (olds.toArray++news.toArray++Builtin.zeroCells z.cells (cap'-(xs.length+ys.length))) e)):=((Below.refl _ _).drew).alloc (by simp) _;have hnew:=heap_alloc_new w.drew (.cells (olds.toArray++news.toArray++Builtin.zeroCells z.cells (cap'-(xs.length+ys.length))) e);refine fin (lab:=fun c=>c=w.heap.size\/labD c\/labS c) (h.grow hbel) (hrun f) ?_ ?_
   ·refine ML hLD W A hnew (rest:=(Builtin.zeroCells z.cells (cap'-(xs.length+ys.length))).toList) ?_ D ?_ ?_ (.inl rfl) ?_ ?_ ?_
    ·simp
    ·rw[hcap'];exact grownCap_le_maxLen w _ _ _ (by unfold maxLen;omega)
    ·simp only[Array.size_append,List.size_toArray,size_zeroCells,hzs,hLD.1,r,<- Nat.add_mul];congr 1;omega
    ·intro c b;have:=(hfree c b).2.1;exact⟨.inr b,Nat.ne_of_lt this,hbel.block c this⟩
    ·intro b' o' q;exact⟨q,hbel.cell (p:=⟨b',o',none⟩) (h.sok b' o' q).1⟩
    ·intro oo q;exact absurd (h.sok _ oo q).1 (Nat.lt_irrefl _)
   ·intro c b;rcases b with b | b
    ·obtain⟨n1,n2,n3⟩:=new_free c b;exact⟨n1,by subst b;simp,n2,n3⟩
    ·obtain⟨n1,n2,n3,n4⟩:=hfree c b;exact⟨n1,by simp;omega,n3,n4⟩
  rcases hD.laid with ⟨s,rfl⟩ | ⟨g,cap,arr,E,rest,olds,s,X,hcap,hmax,hasz,H,harr,hLD,I⟩
  ·have C:=hb47 ys.length (by omega);have f:=run_append_grow_src (P:=P) w T TX o.type e inf z B hi hz none 0 0 [] (run_firstCells_none w.drew inf.size 0 0 0) _ ys.length news hsrc (by omega) (by omega) (growslice_fits (by omega) (by simpa using C));have J:=grownCap_ge w ys.length 0 e;refine grown (olds:=[]) (cap':=grownCap w ys.length 0 e) (old:=0) ⟨by simp,by simp,fun _ _=>undef,fun _ _ _=>False,fun i x j d F=>by simp at F,fun _ _ _ hh=>hh.elim,fun _ _ _ _ _ hh=>hh.elim⟩ (by simpa using J) (by simp) ?_;rw[s];simpa using f
  ·have L:olds.length=xs.length*t.size:=hLD.1;by_cases hroom:xs.length+ys.length<=cap
   ·have hfit:xs.length*inf.size+news.length<=arr.size:=by rw[l,r,<- Nat.add_mul,hasz];exact Nat.mul_le_mul_right _ hroom
    have f:=run_append_room' (P:=P) (w:=w) T TX o.type e E inf B hi g xs.length cap arr X _ ys.length news hsrc hroom hfit;have htake:arr.toList.take (xs.length*inf.size)=olds:=by rw[l,<- L,harr];exact List.take_left
    rw[htake]at f;have R:=setRow_heap w g arr (olds++news++arr.toList.drop (xs.length*inf.size+news.length)).toArray E (0,0) X;have hoth:∀c,c≠g->(w.setRow g (olds++news++arr.toList.drop (xs.length*inf.size+news.length)).toArray).heap[c]?=w.heap[c]?:=fun c b=>setRow_other w g c _ b
    have M:=hfree g (.inl H);have hcellg:∀oo,oo<xs.length*t.size->(w.setRow g (olds++news++arr.toList.drop (xs.length*inf.size+news.length)).toArray).cell? ⟨g,oo,none⟩=w.cell? ⟨g,oo,none⟩:=by
     intro oo hoo;rw[cell_of_row _ _ _ _ _ _ R,cell_of_row _ _ _ _ _ _ X];rw[List.getElem?_toArray,<- Array.getElem?_toList,harr,a7,List.getElem?_append_left (by omega),List.getElem?_append_left (by omega)]
    have h':=h.aeG g (w':=w.setRow g (olds++news++arr.toList.drop (xs.length*inf.size+news.length)).toArray) M.1 M.2.2.1 M.2.2.2 rfl rfl rfl (by simp) (fun c _ b=>hoth c b) (fun oo q=>hcellg oo (I oo q).2);refine fin (lab:=fun c=>labD c\/labS c) h' (hrun (by rw[s];exact f)) ?_ fun c b=>by simpa using hfree c b
    refine ML (labD:=fun c=>labD c/\c≠g) hLD W (fun c N Y=>A c N.1 Y) R (rest:=arr.toList.drop (xs.length*inf.size+news.length)) (by simp) hroom hmax ?_ (.inl H) ?_ ?_ ?_
    ·have e1:arr.toList.length=arr.size:=Array.length_toList;simp only[List.size_toArray,a6,List.length_drop];rw[e1,hasz,L,r,l];have:xs.length*t.size+ys.length*t.size<=cap*t.size:=by rw[<- Nat.add_mul];exact Nat.mul_le_mul_right _ hroom
     omega
    ·intro c b;rcases b with ⟨N,Y⟩ | N
     ·exact⟨.inl N,Y,hoth c Y⟩
     ·have U:c≠g:=fun e=>A g H (e▸N)
      exact⟨.inr N,U,hoth c U⟩
    ·intro b' o' q;refine⟨q,?_⟩;by_cases V:b'=g
     ·subst V;exact hcellg o' (I o' q).2
     ·exact World.cell?_of_block (w:=w) (hoth b' V)
    ·intro oo q;have:=I oo q;refine⟨this.1,?_⟩;have:xs.length*t.size<=(xs.length+ys.length)*t.size:=Nat.mul_le_mul_right _ (by omega);omega
   ·have C:=hb47 (xs.length+ys.length) hgd;have holds:∀j u,olds[j]?=some u->w.cell? ((⟨g,0,none⟩:Addr).add j)=some u:=by
     intro j u B;have hj:=(zC.1 B).1;rw[addr_add,Nat.zero_add,cell_of_row _ _ _ _ _ _ X,<- Array.getElem?_toList,harr,List.getElem?_append_left hj];exact B
    have f:=run_append_grow_src (P:=P) w T TX o.type e inf z B hi hz (some ⟨g,0,none⟩) xs.length cap olds (run_firstCells_some w.drew inf.size xs.length ⟨g,0,none⟩ xs.length cap olds (by rw[l];exact L) (by simpa using holds)) _ ys.length news hsrc (by omega) (by omega) (growslice_fits (by omega) C);have J:=grownCap_ge w (xs.length+ys.length) cap e;refine grown (olds:=olds) (cap':=grownCap w (xs.length+ys.length) cap e) (old:=cap) ?_ J rfl (by rw[s];simpa using f);obtain⟨l1,l2,vs,fps,l3,l4,l5⟩:=hLD;exact⟨l1,l2,vs,fps,l3,fun i j c b=>(l4 i j c b).1,l5⟩
theorem mV{S:St}{k j d:Nat}{x:O}(a:S.aJ d=[]):(S.di k ((S.aJ k).set j x)).aJ d=[]:=by
 rw[bH];split
 ·rename_i b;rw[b.1,a];rfl
 ·exact a
theorem DZ{S:St}{k j:Nat}:bC ((S.di k ((S.aJ k).set j .dead)).aJ k) j=.dead:=by
 rw[bH];split
 ·rw[iH];split
  ·rfl
  ·rename_i a b;have:¬j<(S.aJ k).length:=fun c=>b ⟨rfl,c⟩
   simp only[bC,zE];rw[zJ (by omega)];rfl
 ·rename_i a;have:¬k<S.owns.length:=fun c=>a ⟨rfl,c⟩
  have d:S.aJ k=[]:=by
   simp only[St.aJ,zE];rw[zJ (by omega)];rfl
  rw[d];rfl
theorem XH{S:St}{k j k' j':Nat}:bC ((S.di k ((S.aJ k).set j .dead)).aJ k') j'=.dead\/bC ((S.di k ((S.aJ k).set j .dead)).aJ k') j'=bC (S.aJ k') j':=by
 rw[bH];split
 ·rename_i a;rw[iH];split
  ·exact .inl rfl
  ·rw[a.1];exact .inr rfl
 ·exact .inr rfl
theorem aiL{w':World}{S':Nat->Nat->Prop}{t:Ty}{xs:List t.den}{v:Value}{fp fp':Nat->Prop}(h:Ow w' (fun _ _=>False) true (.list t xs) v fp)(l:∀c,fp c->fp' c)(m:∀b o,S' b o->¬fp b):OwT w' S' true true t xs v fp':=by
 generalize a:D.list t xs=dd at h;cases h with
 | int=>cases a
 | bool=>cases a
 | str=>cases a
 | nil t'=>cases a;exact .inl ⟨rfl,rfl⟩
 | ro _ _ _ hd=>cases hd
 | list t' xs' b cap arr E vs fps _ n hcap hmax k e p q f hdis=>
  cases a
  exact .inr ⟨b,cap,arr,E,vs,fps,rfl,n,hcap,hmax,k,l _ e,p,fun i x j d r hd=>(q i x j d r hd).move (fun _ _ h=>h.elim) fun _ _=>rfl,fun i j c g=>⟨l _ (f i j c g).1,(f i j c g).2⟩,hdis,fun o s=>absurd e (m b o s)⟩
theorem wO.vk{G:Gh}{w:World}{k j:Nat}{x:O}(h:wO G w k j x){t:Ty}{xs:List t.den}{deep m:Bool}(e:x.vk=.own t xs deep m):OwT w G.S deep m t xs (G.ov k j) (gJ G k j):=by
 cases x with
 | own t' xs' deep' m'=>cases e;exact h
 | tree t' xs'=>
  cases e
  obtain⟨fp,a,b,c⟩:=h;exact aiL b a c
 | _=>cases e
theorem Ua(h:Inv w0 G S a w){c:Call}(X:o.op=.call c)(v:c.callee=.builtin .append){x y:Operand}{T TX:TypeId}(hargs:c.args = #[x,y])(htys:c.argTypes = #[T,TX])
  {TT0:TT} (E:TT0.ok P=true) {t:Ty} (Y:lk TT0.elem T=some t) (F:lk TT0.elem TX=some t) {d:Nat} (hd:o.dst=some d) {ax:AV} {n:Nat} (z:jc G w ax (a.eval x)) (H:jc G w (.seg n) (a.eval y))
  {ws:List W} (hv:(ah7 d t ax n).val S=some ws) (Z:∀a' w' G',Inv w0 G' (S.puts ws) a' w'->K a' w'):o.wp P a w K Q:=by
 simp only[ah7,Rd.val]at hv;split at hv
 case h_2=>cases hv
 rename_i I ys hseg;split at hv
 case isFalse=>cases hv
 rename_i h1;subst h1;have A:=h.owns n 0;rw[hseg]at A;have J:A8 w G.S I ys (G.ov n 0) (gJ G n 0):=A;have hY:∃news,(∀size,size=I.size->Src P size TX (a.eval y) ys.length news w)/\mr w G.S true I ys news (gJ G n 0):=by
  refine src_of E F ?_;rw[H.2];rcases J with L | ⟨b,off,cap,news,e,L,h3⟩
  ·exact .inl L
  ·exact .inr ⟨b,off,cap,news,e,fun p u hu=>(L p u hu).1,h3⟩
 split at hv
 ·simp only[Rd.val,zB,Rd.aF,zD]at hv;obtain⟨_,M,ws',q,rfl⟩:=hv;obtain⟨r,rfl⟩:=gI q;have s:=h.Hl n 0 .dead trivial;refine jy s X v hargs htys E Y hd (mV r) (xs:=[]) (deep:=true) (m:=true) (labD:=fun _=>False) (.inl ⟨z,rfl⟩) hY (fun _ hh=>hh.elim) (fun c f=>?_) (by simpa using jb M) fun a' w' G' D=>Z a' w' G' ?_
  ·rcases f with f | f
   ·exact f.elim
   ·have g:=h.nM f;refine⟨g.1,g.2,fun i l=>?_,fun k' j' t2 B d2 m2 l=>?_⟩
    ·rw[show G.ow c=_ from f]at l;cases l
    ·rw[show G.ow c=_ from f]at l;cases l
     rw[DZ];simp[O.iq]
  ·exact D
 ·rename_i k j;simp only[Rd.val]at hv;split at hv
  case h_2=>cases hv
  rename_i t' xs deep m hown;split at hv
  case isFalse=>cases hv
  rename_i N;subst N;simp only[Rd.val,zB,Rd.aF,zD]at hv;obtain⟨_,M,ws',q,rfl⟩:=hv;obtain⟨r,rfl⟩:=gI q;have A:=h.owns k j;rw[hown]at A;have C:OwT w G.S deep m t' xs (G.ov k j) (gJ G k j):=A;rw[<- z.2.1]at C;have s:=(h.Hl k j .dead trivial).Hl n 0 .dead trivial;have R:(deep&&true)=deep:=by simp
  have U:bC (((S.di k ((S.aJ k).set j .dead)).di n (((S.di k ((S.aJ k).set j .dead)).aJ n).set 0 .dead)).aJ k) j=.dead:=by
   rcases XH (S:=S.di k ((S.aJ k).set j .dead)) (k:=n) (j:=0) (k':=k) (j':=j)with e | e
   ·exact e
   ·rw[e];exact DZ
  refine jy s X v hargs htys E Y hd (mV (mV r)) (labD:=gJ G k j) C hY (fun c f V=>?_) (fun c f=>?_) (jb M) fun a' w' G' D=>Z a' w' G' ?_
  ·have e1:G.ow c=some (.own k j):=f;have e2:G.ow c=some (.own n 0):=V;rw[e1]at e2;cases e2
   rw[hown]at hseg;cases hseg
  ·rcases f with f | f
   ·have g:=h.nM f;refine⟨g.1,g.2,fun i l=>?_,fun k' j' t2 B d2 m2 l=>?_⟩
    ·rw[show G.ow c=_ from f]at l;cases l
    ·rw[show G.ow c=_ from f]at l;cases l
     rw[U];simp[O.iq]
   ·have g:=h.nM f;refine⟨g.1,g.2,fun i l=>?_,fun k' j' t2 B d2 m2 l=>?_⟩
    ·rw[show G.ow c=_ from f]at l;cases l
    ·rw[show G.ow c=_ from f]at l;cases l
     rw[DZ];simp[O.iq]
  ·rw[R]at D;exact D
 ·cases hv
theorem OwT.aks{S:Nat->Nat->Prop}{deep:Bool}{t:Ty}{xs:List t.den}{v v':Value}{n:Nat}{fp:Nat->Prop}(h:OwT w S deep true t xs v fp)
  (hv:(v'=.slice none 0 0/\n=0/\v=.slice none 0 0)\/∃b len cap,v=.slice (some ⟨b,0,none⟩) len cap/\n<=len/\v'=.slice (some ⟨b,0,none⟩) n cap):OwT w S deep true t (xs.take n) v' fp:=by
 rcases h with ⟨e,rfl⟩ | ⟨b,cap,arr,E,vs,fps,a,l,C,m,p,r,s,u,y,f,g⟩
 ·rcases hv with ⟨a,_,_⟩ | ⟨b,len,cap,a,_⟩
  ·exact .inl ⟨a,by simp⟩
  ·rw[e]at a;cases a
 ·rcases hv with ⟨_,_,q⟩ | ⟨b',len,cap',k,D,z⟩
  ·rw[a]at q;cases q
  ·rw[a]at k;cases k
   have A:(xs.take n).length=n:=by rw[a8];omega
   refine .inr ⟨b,cap,arr,E,vs,fps,by rw[A];exact z,l,by omega,m,p,r,fun i x j d c=>s i x j d ?_,fun i x j d c=>u i x j d ?_,y,f,fun o B=>?_⟩
   ·rw[List.getElem?_take]at c;split at c<;>simp_all
   ·rw[List.getElem?_take]at c;split at c<;>simp_all
   ·exact absurd (g o B).1 (by simp)
theorem SQ(h:Inv w0 G S a w){c:Call}(ho:o.op=.call c)(L:c.callee=.builtin .append){x y:Operand}{T:TypeId}(hargs:c.args = #[x,y])(htys:c.argTypes = #[T,T])
  {TT0:TT} (hT:TT0.ok P=true) {t':Ty} (ht:lk TT0.elem T=some t') {d:Nat} (hd:o.dst=some d) (M:S.aJ d=[]) {k j:Nat} {xs ys:List t'.den} {deep m dp:Bool}
  (N:OwT w G.S deep m t' xs (a.eval x) (gJ G k j)) {cy:C} (R:oQ G w cy (a.eval y)) (h6:(cD (some t') cy).val S=some (.list t' ys)) (h5:(if t'.flat=true then Rd.ret true else FO cy).val S=some dp)
  (hnd:nodupB ((k,j)::aP [cy])=true) (U:xs.length+ys.length<=34359738368)
  (hK:∀a' w' G',Inv w0 G' (S.puts (.upd k j .dead::(if t'.flat=true then []else (aP [cy]).map fun q=>W.ro q.1 q.2)++[.o d [.own t' (xs++ys) (deep&&dp) m]]++[.t d (.v (.one (.own d 0)))])) a' w'->K a' w'):o.wp P a w K Q:=by
 let keys:List (Nat×Nat):=if t'.flat then []else aP [cy]
 have hros:(if t'.flat=true then []else (aP [cy]).map fun q=>W.ro q.1 q.2)=keys.map fun q=>W.ro q.1 q.2:=by
  simp only[keys];split<;>rfl
 obtain⟨D,hnk⟩:=lF hnd;have X:nodupB keys=true:=by
  by_cases Y:t'.flat=true
  ·simp[keys,Y,nodupB]
  ·simp only[keys,if_neg Y];exact hnk
 have Z:=h.Hl k j .dead trivial;have B:(S.di k ((S.aJ k).set j .dead)).aJ d=[]:=by
  rw[bH];split
  ·rename_i hkd;rw[hkd.1,M];rfl
  ·exact M
 have hdead:bC ((S.di k ((S.aJ k).set j .dead)).aJ k) j=.dead:=by
  rw[bH];split
  ·rw[iH];split
   ·rfl
   ·rename_i hkl hjl;have:¬j<(S.aJ k).length:=fun hl=>hjl ⟨rfl,hl⟩
    simp only[bC,zE];rw[zJ (by omega)];rfl
  ·rename_i hkl;have:¬k<S.owns.length:=fun hl=>hkl ⟨rfl,hl⟩
   have hg0:S.aJ k=[]:=by
    simp only[St.aJ,zE];rw[zJ (by omega)];rfl
   rw[hg0];rfl
 have hsame:∀k' j',(k',j')≠(k,j)->bC ((S.di k ((S.aJ k).set j .dead)).aJ k') j'=bC (S.aJ k') j':=by
  intro k' j' hne;rw[bH];split
  ·rename_i hkk;rw[iH];split
   ·rename_i hjj;exact absurd (by rw[hkk.1,hjj.1]) hne
   ·rw[hkk.1]
  ·rfl
 by_cases hf:t'.flat=true
 ·have hY:=HY h h6 R h5 (S':=fun x o=>G.S x o\/AK G S (aP [cy]) x o) (fun x o A=>A);have hY':((∃(ad:Option Addr) (cap:Nat),a.eval y=.slice ad 0 cap/\(ad=none->cap=0))/\ys=[])\/∃b off cap news,a.eval y=.slice (some ⟨b,off,none⟩) ys.length cap/\(∀p u,news[p]?=some u->w.cell? ⟨b,off+p,none⟩=some u)/\mr w G.S dp t' ys news (fun _=>False):=by
   rcases hY with hY | ⟨b,off,cap,news,e1,e2,l1,l2,vs,fps,l3,l4,l5⟩
   ·exact .inl hY
   ·refine .inr ⟨b,off,cap,news,e1,e2,l1,l2,vs,fun _ _ _=>False,fun i x j d E F=>⟨(l3 i x j d E F).1,?_⟩,fun _ _ _ hh=>hh.elim,fun _ _ _ _ _ hh=>hh.elim⟩;have A:=wH hf F;exact Vy A (l3 i x j d E F).2
  refine jy Z ho L hargs htys hT ht hd B (labD:=gJ G k j) (labS:=fun _=>False) N (src_of hT ht hY') (fun _ _ hh=>hh.elim) (fun c n=>?_) U fun a' w' G' h'=>hK a' w' G' ?_
  ·rcases n with n | n
   ·have l:=h.nM n;refine⟨l.1,l.2,fun i f=>?_,fun k' j' H z I J f=>?_⟩
    ·rw[show G.ow c=_ from n]at f;cases f
    ·rw[show G.ow c=_ from n]at f;cases f
     rw[hdead];simp[O.iq]
   ·exact n.elim
  ·rw[hros];simp only[keys,hf,if_true];exact h'
 ·have hk:keys=aP [cy]:=by simp only[keys];rw[if_neg hf]
  obtain⟨G1,h11,r,e11,n11⟩:=Inv.Zg keys Z X;have hAK:∀x o,AK G S (aP [cy]) x o->AK G (S.di k ((S.aJ k).set j .dead)) keys x o:=by
   rintro x o ⟨k',j',H,z,I,J,hmem,E,rest⟩;exact⟨k',j',H,z,I,J,by rw[hk];exact hmem,by rw[hsame k' j' fun e=>D (e▸hmem)];exact E,rest⟩
  have hY:=HY h h6 R h5 (S':=G1.S) (fun x o A=>(r.s x o).2 (A.imp id (hAK x o)));have hO1:OwT w G1.S deep m t' xs (a.eval x) (gJ G k j):=by
   refine OwT.move N (fun b o A=>⟨(r.s b o).2 (.inl A),rfl⟩) (fun b f=>⟨f,rfl⟩) fun b len cap hv f o A=>?_
   rcases (r.s b o).1 A with A | ⟨k',j',H,z,I,J,hmem,E,g,_⟩
   ·exact .inl A
   ·have:G.ow b=some (.own k j):=f;rw[this]at g;cases g
    rw[hdead]at E;cases E
  refine jy h11 ho L hargs htys hT ht hd (n11 d B) (labD:=gJ G k j) hO1 (src_of hT ht hY) (fun c n hc'=>?_) (fun c n=>?_) U fun a' w' G' h'=>hK a' w' G' ?_
  ·obtain⟨_,k',j',rfl,g,_⟩:=hc';rw[show G.ow c=_ from n]at g;cases g
   exact D (by simp[aP])
  ·rcases n with n | ⟨_,k',j',rfl,g,H,z,I,J,hown2⟩
   ·have l:=h.nM n;refine⟨l.1,l.2,fun i f=>?_,fun k' j' H z I J f=>?_⟩
    ·rw[r.ow,show G.ow c=_ from n]at f;cases f
    ·rw[r.ow,show G.ow c=_ from n]at f;cases f
     rw[e11,hdead];split<;>simp[O.EP,O.iq]
   ·have l:=h.nM g;refine⟨l.1,l.2,fun i f=>?_,fun k'' j'' H z I J f=>?_⟩
    ·rw[r.ow,g]at f;cases f
    ·rw[r.ow,g]at f;cases f
     rw[e11,if_pos (by rw[hk];simp[aP])];rw[hsame k' j' fun e=>D (by rw[<- e];simp[aP])];exact O.OJ hown2 _ _ _ _
  ·rw[hros];show Inv w0 G' ((S.put (.upd k j .dead)).puts ((keys.map fun q=>W.ro q.1 q.2)++[W.o d [O.own t' (xs++ys) (deep&&dp) m]]++[W.t d (AV.v (V.one (C.own d 0)))])) a' w'
   rw[fK,fK];exact h'
theorem Tn{t:Ty}{ys:List t.den}{v:Value}{S':Nat->Nat->Prop}(r:t.flat=true)(hrep:Rep w S' (.list t ys) v) :
  ((∃(ad:Option Addr) (cap:Nat),v=.slice ad 0 cap/\(ad=none->cap=0))/\ys=[])\/∃b off cap news,v=.slice (some ⟨b,off,none⟩) ys.length cap/\(∀p u,news[p]?=some u->w.cell? ⟨b,off+p,none⟩=some u) /\
   ∀(m:Nat->Nat->Prop),mr w m true t ys news (fun _=>False):=by
 generalize e:D.list t ys=dd at hrep;cases hrep with
 | int=>cases e
 | bool=>cases e
 | str=>cases e
 | nil t'=>cases e;exact .inl ⟨⟨none,0,rfl,fun _=>rfl⟩,rfl⟩
 | emp t' ad cap=>cases e;exact .inl ⟨⟨some ad,cap,rfl,fun hh=>(by cases hh)⟩,rfl⟩
 | list t' xs' b off cap vs hcap h o=>
  cases e
  have hnews:∀(p:Nat) (u:Value),((List.range (ys.length*t.size)).map fun p=>vs (p / t.size) (p % t.size))[p]?=some u->p<ys.length*t.size/\u=vs (p / t.size) (p % t.size):=by
   intro p u f;simp only[List.getElem?_map,Option.map_eq_some_iff]at f;obtain⟨q,k,rfl⟩:=f;have a:p<ys.length*t.size:=by have:=(zC.1 k).1;simpa using this
   have:q=p:=by simp[a]at k;exact k.symm
   rw[this];exact⟨a,rfl⟩
  have hget:∀(i j:Nat),i<ys.length->j<t.size->((List.range (ys.length*t.size)).map fun p=>vs (p / t.size) (p % t.size))[i*t.size+j]?=some (vs i j):=by
   intro i j hi l;have a:=yt hi l;have s:(i*t.size+j) / t.size=i:=by rw[Nat.mul_comm,Nat.mul_add_div t.size_pos,Nat.div_eq_of_lt l];omega
   have y:(i*t.size+j) % t.size=j:=by rw[Nat.mul_comm,Nat.mul_add_mod,Nat.mod_eq_of_lt l]
   simp[a,s,y]
  refine .inr ⟨b,off,cap,(List.range (ys.length*t.size)).map fun p=>vs (p / t.size) (p % t.size),rfl,?_,fun m=>⟨by simp,?_,?_⟩⟩
  ·intro p u f;obtain⟨a,rfl⟩:=hnews p u f;obtain⟨x,d,g,c⟩:=Jo (t:=t) (xs:=ys) a;have:=(h _ _ _ _ g c).1;rw[<- Bh (n:=t.size)]at this;exact this
  ·intro u f;obtain⟨p,z⟩:=List.mem_iff_getElem?.1 f;obtain⟨a,rfl⟩:=hnews p u z;obtain⟨x,d,g,c⟩:=Jo (t:=t) (xs:=ys) a;exact (o _ _ _ _ g c).one
  ·exact⟨vs,fun _ _ _=>False,fun i x j d g c=>⟨hget i j (zC.1 g).1 (by have:=(zC.1 c).1;rwa [Ty.aZ]at this),JQ (wH r c) (o _ _ _ _ g c)⟩,fun _ _ _ hh=>hh.elim,fun _ _ _ _ _ hh=>hh.elim⟩
theorem TY(h:Inv w0 G S a w){c:Call}(X:o.op=.call c)(s:c.callee=.builtin .append){x y:Operand}{T TX:TypeId}(hargs:c.args = #[x,y])(htys:c.argTypes = #[T,TX])
  {TT0:TT} (N:TT0.ok P=true) {t:Ty} (Y:lk TT0.elem T=some t) (u:lk TT0.elem TX=some t) {d:Nat} (hd:o.dst=some d) {ax:AV} {R:Ty} {v z r:Nat} (A:jc G w ax (a.eval x)) (B:jc G w (.suf R v z r) (a.eval y))
  {ws:List W} (hv:(ahZ d t ax R v z r).val S=some ws) (Z:∀a' w' G',Inv w0 G' (S.puts ws) a' w'->K a' w'):o.wp P a w K Q:=by
 simp only[ahZ,Rd.val]at hv;split at hv
 case h_2=>cases hv
 rename_i t2 ys dp2 mm2 hsuf;split at hv
 case isFalse=>cases hv
 rename_i h1;subst h1;split at hv
 case isFalse=>cases hv
 rename_i h2;obtain⟨rfl,hf⟩:=h2;split at hv
 case h_2=>cases hv
 rename_i k j;simp only[Rd.val]at hv;split at hv
 case h_2=>cases hv
 rename_i t' xs deep m hown;split at hv
 case isFalse=>cases hv
 rename_i C;subst C;split at hv
 case isFalse=>cases hv
 rename_i hnd;simp only[Rd.val,zB,Rd.aF,zD]at hv;obtain⟨_,hg,ws',D,rfl⟩:=hv;obtain⟨f,rfl⟩:=gI D;have hrep:=B.2 _ _ _ (h.Ir hsuf [(v,z)] (by simp));have E:∃news,(∀size,size=t'.size->Src P size TX (a.eval y) (ys.drop r).length news w)/\mr w G.S true t' (ys.drop r) news (fun _=>False):=by
  refine src_of N u ?_;rcases Tn hf hrep with E | ⟨b,off,cap,news,e1,e2,l1⟩
  ·exact .inl E
  ·exact .inr ⟨b,off,cap,news,e1,e2,l1 _⟩
 have U:=h.owns k j;rw[hown]at U;have g:OwT w G.S deep m t' xs (G.ov k j) (gJ G k j):=U;rw[<- A.2.1]at g;have F:=h.Hl k j .dead trivial;have l:(S.di k ((S.aJ k).set j .dead)).aJ d=[]:=by
  rw[bH];split
  ·rename_i H;rw[H.1,f];rfl
  ·exact f
 have hdead:bC ((S.di k ((S.aJ k).set j .dead)).aJ k) j=.dead:=by
  rw[bH];split
  ·rw[iH];split
   ·rfl
   ·rename_i n I;have:¬j<(S.aJ k).length:=fun J=>I ⟨rfl,J⟩
    simp only[bC,zE];rw[zJ (by omega)];rfl
  ·rename_i n;have:¬k<S.owns.length:=fun J=>n ⟨rfl,J⟩
   have L:S.aJ k=[]:=by
    simp only[St.aJ,zE];rw[zJ (by omega)];rfl
   rw[L];rfl
 have M:(deep&&true)=deep:=by simp
 refine jy F X s hargs htys N Y hd l (labD:=gJ G k j) (labS:=fun _=>False) g E (fun _ _ hh=>hh.elim) (fun c e=>?_) (jb hg) fun a' w' G' V=>Z a' w' G' ?_
 ·rcases e with e | e
  ·have p:=h.nM e;refine⟨p.1,p.2,fun i q=>?_,fun k' j' t2 xs2 d2 m2 q=>?_⟩
   ·rw[show G.ow c=_ from e]at q;cases q
   ·rw[show G.ow c=_ from e]at q;cases q
    rw[hdead];simp[O.iq]
  ·exact e.elim
 ·rw[M]at V;exact V
theorem agz(h:Inv w0 G S a w){c:Call}(J:o.op=.call c)(g:c.callee=.builtin .append){E:Env}(C:E.tt.ok P=true){ws:List W}(hv:(eff E o).val S=some ws)
  (N:∀a' w' G',Inv w0 G' (S.puts ws) a' w'->K a' w'):o.wp P a w K Q:=by
 unfold eff at hv;rw[J]at hv;simp only[g]at hv;split at hv
 case h_2=>cases hv
 rename_i d x y T T' hd hxy hTT;have hargs:=nI hxy;split at hv
 case isFalse=>
  split at hv
  case isFalse=>cases hv
  rename_i hTU
  obtain⟨B,hstr⟩:=hTU
  have htys:=nI hTT
  have hsu:=TT.O3 C hstr
  simp only[Rd.aF,zB]at hv
  obtain⟨ax,h1,ay,h2,dy,h3,hv⟩:=hv
  have z:=bg h h1
  have V:=nD h3 (bg h h2)
  split at hv
  case h_2=>cases hv
  rename_i s
  generalize hdd:D.str s=dd at V
  have hsv:∃v:ByteArray,a.eval y=.string v/\s=v.data.toList:=by
   generalize a.eval y=yv at V;cases V<;>cases hdd
   exact⟨_,rfl,rfl⟩
  obtain⟨sv,hyv,rfl⟩:=hsv
  have R:∃news,(∀size,size=(Ty.base .u8).size->Src P size T' (a.eval y) (mF sv.data.toList).length news w)/\mr w G.S true (.base .u8) (mF sv.data.toList) news (fun _=>False):=by
   have hbl:(mF sv.data.toList).length=sv.size:=by unfold mF;rw[List.length_map,Array.length_toList];rfl
   refine⟨byteCells sv,fun size X=>?_,?_,?_,fun i _=>((byteCells sv)[i]?).getD undef,fun _ _ _=>False,fun i x j d hx hd=>?_,fun _ _ _ hh=>hh.elim,fun _ _ _ _ _ hh=>hh.elim⟩
   ·subst X;rw[hyv,hbl];exact Src.ofString w hsu sv
   ·rw[byteCells_length,hbl];exact (Nat.mul_one _).symm
   ·intro u hu;obtain⟨_,_,rfl⟩:=List.mem_map.1 hu;rfl
   ·cases j with
    | succ j=>simp[Ty.cells,Base.cells]at hd
    | zero=>
     simp only[Ty.cells,Base.cells,List.getElem?_cons_zero,zD]at hd;subst hd;unfold mF at hx;rw[List.getElem?_map,Option.map_eq_some_iff]at hx;obtain⟨c,r,rfl⟩:=hx;have e:(byteCells sv)[i*(Ty.base .u8).size+0]?=some (Value.int .u8 c.toNat):=by
      show (byteCells sv)[i*1+0]?=_
      unfold byteCells;rw[Nat.mul_one,Nat.add_zero,List.getElem?_map,r];rfl
     have e':(byteCells sv)[i]?=some (Value.int .u8 c.toNat):=by
      unfold byteCells;rw[List.getElem?_map,r];rfl
     refine⟨e.trans (by simp only[e',Option.getD_some]),?_⟩;simp only[e',Option.getD_some];exact .int _ _ _
  split at hv
  ·simp only[Rd.val,zB,Rd.aF,zD]at hv;obtain⟨_,L,ws',l,rfl⟩:=hv;obtain⟨f,rfl⟩:=gI l;refine jy h J g hargs htys C B hd f (xs:=[]) (deep:=true) (m:=true) (labD:=fun _=>False) (labS:=fun _=>False) (.inl ⟨z,rfl⟩) R (fun _ hh=>hh.elim) (fun c r=>(r.elim id id).elim) (by simpa using jb L) fun a' w' G' U=>N a' w' G' ?_
   exact U
  ·rename_i k j;simp only[Rd.val]at hv;split at hv
   case h_2=>cases hv
   rename_i t' xs deep m hown;split at hv
   case isFalse=>cases hv
   rename_i F;subst F;simp only[Rd.val,zB,Rd.aF,zD]at hv;obtain⟨_,L,ws',l,rfl⟩:=hv;obtain⟨f,rfl⟩:=gI l;have hO:=h.owns k j;rw[hown]at hO;have A:OwT w G.S deep m (.base .u8) xs (G.ov k j) (gJ G k j):=hO;rw[<- z.2.1]at A;have h12:=h.Hl k j .dead trivial;have hdO1:(S.di k ((S.aJ k).set j .dead)).aJ d=[]:=by
    rw[bH];split
    ·rename_i hkd;rw[hkd.1,f];rfl
    ·exact f
   have hdead:bC ((S.di k ((S.aJ k).set j .dead)).aJ k) j=.dead:=by
    rw[bH];split
    ·rw[iH];split
     ·rfl
     ·rename_i hkl hjl;have:¬j<(S.aJ k).length:=fun hl=>hjl ⟨rfl,hl⟩
      simp only[bC,zE];rw[zJ (by omega)];rfl
    ·rename_i hkl;have:¬k<S.owns.length:=fun hl=>hkl ⟨rfl,hl⟩
     have hg0:S.aJ k=[]:=by
      simp only[St.aJ,zE];rw[zJ (by omega)];rfl
     rw[hg0];rfl
   have hdp:(deep&&true)=deep:=by simp
   refine jy h12 J g hargs htys C B hd hdO1 (labD:=gJ G k j) (labS:=fun _=>False) A R (fun _ _ hh=>hh.elim) (fun c r=>?_) (jb L) fun a' w' G' U=>N a' w' G' ?_
   ·rcases r with r | r
    ·have H:=h.nM r;refine⟨H.1,H.2,fun i I=>?_,fun k' j' t2 xs2 d2 m2 I=>?_⟩
     ·rw[show G.ow c=_ from r]at I;cases I
     ·rw[show G.ow c=_ from r]at I;cases I
      rw[hdead];simp[O.iq]
    ·exact r.elim
   ·rw[hdp]at U;exact U
  ·cases hv
 rename_i hTe;subst hTe;have htys:=nI hTT;split at hv
 ·cases hv
 rename_i t B;simp only[Rd.aF,zB]at hv;obtain⟨ax,h1,ay,h2,hv⟩:=hv;split at hv
 ·exact Ua h J g hargs htys C B B hd (bg h h1) (bg h h2) hv N
 ·exact TY h J g hargs htys C B B hd (bg h h1) (bg h h2) hv N
 simp only[Rd.aF,zB]at hv;obtain⟨vy,h3,hv⟩:=hv;split at hv
 ·cases hv
 rename_i cy;simp only[Rd.aF,zB]at hv;obtain⟨ys,h4,dp,h5,hv⟩:=hv;have z:=bg h h1;have M:oQ G w cy (a.eval y):=qh h3 (bg h h2);simp only[listOf,Rd.aF,zB,Rd.val,zD]at h4;obtain⟨d0,h6,ys',h7,h8⟩:=h4;have h8':=h8.symm;subst h8';have h9:=D.bJ h7;subst h9;let keys:List (Nat×Nat):=if t.flat then []else aP [cy]
 have hros:(if t.flat=true then []else (aP [cy]).map fun q=>W.ro q.1 q.2)=keys.map fun q=>W.ro q.1 q.2:=by
  simp only[keys];split<;>rfl
 split at hv
 ·simp only[Rd.val,zB,Rd.aF,zD]at hv;obtain⟨_,L,ws',l,rfl⟩:=hv;obtain⟨f,rfl⟩:=gI l;have hgd:ys.length<=34359738368:=jb L;have hnk:nodupB (aP [cy])=true:=by cases cy<;>rfl
  have hnk':nodupB keys=true:=by
   by_cases hff:t.flat=true
   ·simp[keys,hff,nodupB]
   ·simp only[keys,if_neg hff];exact hnk
  by_cases hf:t.flat=true
  ·have R:=HY h h6 M h5 (S':=fun x o=>G.S x o\/AK G S (aP [cy]) x o) (fun x o X=>X);have hY':((∃(ad:Option Addr) (cap:Nat),a.eval y=.slice ad 0 cap/\(ad=none->cap=0))/\ys=[])\/∃b off cap news,a.eval y=.slice (some ⟨b,off,none⟩) ys.length cap/\(∀p u,news[p]?=some u->w.cell? ⟨b,off+p,none⟩=some u)/\mr w G.S dp t ys news (fun _=>False):=by
    rcases R with R | ⟨b,off,cap,news,e1,e2,l1,l2,vs,fps,l3,l4,l5⟩
    ·exact .inl R
    ·refine .inr ⟨b,off,cap,news,e1,e2,l1,l2,vs,fun _ _ _=>False,fun i x j d hx Y=>⟨(l3 i x j d hx Y).1,?_⟩,fun _ _ _ hh=>hh.elim,fun _ _ _ _ _ hh=>hh.elim⟩;have X:=wH hf Y;exact Vy X (l3 i x j d hx Y).2
   refine jy h J g hargs htys C B hd f (xs:=[]) (deep:=true) (m:=true) (labD:=fun _=>False) (labS:=fun _=>False) (.inl ⟨z,rfl⟩) (src_of C B hY') (fun _ hh=>hh.elim) (fun c r=>(r.elim id id).elim) (by simpa using hgd) fun a' w' G' U=>N a' w' G' ?_
   rw[hros];simp only[keys,hf,if_true];exact U
  ·have hk:keys=aP [cy]:=by simp only[keys];rw[if_neg hf]
   obtain⟨G1,h11,Z,e11,n11⟩:=Inv.Zg keys h hnk';have R:=HY h h6 M h5 (S':=G1.S) (fun x o X=>(Z.s x o).2 (by rw[hk];exact X));refine jy h11 J g hargs htys C B hd (n11 d f) (xs:=[]) (deep:=true) (m:=true) (labD:=fun _=>False) (.inl ⟨z,rfl⟩) (src_of C B R) (fun _ hh=>hh.elim) (fun c r=>?_) (by simpa using hgd) fun a' w' G' U=>N a' w' G' ?_
   ·rcases r with r | ⟨_,k,j,rfl,how,t',xs',deep',m',hown⟩
    ·exact r.elim
    ·have H:=h.nM how;refine⟨H.1,H.2,fun i I=>?_,fun k' j' t2 xs2 d2 m2 I=>?_⟩
     ·rw[Z.ow,how]at I;cases I
     ·rw[Z.ow,how]at I;cases I
      rw[e11,if_pos (by rw[hk];simp[aP])];exact O.OJ hown _ _ _ _
   ·rw[hros,fK,fK];exact U
 ·rename_i k j;simp only[Rd.val]at hv;split at hv
  case h_2=>cases hv
  rename_i t' xs deep m hown;split at hv
  case isFalse=>cases hv
  rename_i F;subst F;split at hv
  case isFalse=>cases hv
  rename_i hnd;simp only[Rd.val,zB,Rd.aF,zD]at hv;obtain⟨_,L,ws',l,rfl⟩:=hv;obtain⟨f,rfl⟩:=gI l;have A:OwT w G.S deep m t' xs (G.ov k j) (gJ G k j):=(h.owns k j).vk hown;rw[<- z.2.1]at A;exact SQ h J g hargs htys C B hd f A M h6 h5 hnd (jb L) N
 ·rename_i k j n;simp only[Rd.val]at hv;split at hv
  case h_2=>cases hv
  rename_i t' xs deep hown;split at hv
  case isFalse=>cases hv
  rename_i F;subst F;split at hv
  case isFalse=>cases hv
  rename_i hnd;simp only[Rd.val,zB,Rd.aF,zD]at hv;obtain⟨_,L,ws',l,rfl⟩:=hv;obtain⟨f,rfl⟩:=gI l;have hO:=h.owns k j;rw[hown]at hO;have A:OwT w G.S deep true t' xs (G.ov k j) (gJ G k j):=hO;exact SQ h J g hargs htys C B hd f (A.aks z.2) M h6 h5 hnd (jb L) N
 ·cases hv
end ops
end Go.Abs
namespace Go.Abs
open Go.RowKit
section ops
variable {P:Program} {w0:Bs} {G:Gh} {S:St} {a:Act} {w:World} {o:Oper} {K:Act->World->Prop} {Q:Exit->Act->World->Prop}
theorem zK{T:TypeId}{i:TypeInfo}(hi:P.info? T=some i){g off:Nat}{cur:Array Value}{E:TypeId}(a:w.heap[g]?=some (.cells cur E (0,0))){v:Value}{vs:List Value}(hv:v.cells=vs.toArray)(b:vs.length=i.size)
  (c:off+vs.length<=cur.size) (d:∀u∈vs,u.oneCell'=true) :
  (storeVar T ⟨g,off,none⟩ v).run P w=.ok () (w.setRow g (dw cur.toList off vs).toArray):=by
 have:=run_storeCells_at P g off E vs 0 cur w a (by simpa using c) d;simp only[Nat.add_zero]at this;have e:(storeVar T ⟨g,off,none⟩ v).run P w=(storeCells ⟨g,off,none⟩ vs).run P w:=by simp[storeVar,sizeOf,typeInfo,hi,hv,b]
 rw[e];exact this
theorem zQ{t:TypeId}{p x:Operand}(b:o.op=.store t p x){ad:Addr}(c:a.eval p=.pointer (some ad)){w':World}(d:(storeVar t ad (a.eval x)).run P w=.ok () w') :
  (execOp a.eval o).run P w=.ok .skip w':=by
 unfold execOp;simp[b,c,Instr.storeAt,Instr.sureAddr,d]
theorem af4(S:St)(k:Nat)(l l':List O):(S.di k l).di k l'=S.di k l':=by simp[St.di]
theorem Y0:∀ {tys:List (Option Ty)} {cs:List C} {ds:List D},(cDs tys cs).val S=some ds->tys.length=cs.length->ds.length=cs.length/\∀(j:Nat) (d:D),ds[j]?=some d->∃c ty,cs[j]?=some c/\(cD ty c).val S=some d
 | [],[],ds,h,_=>by
  simp only[cDs,Rd.val,zD]at h;subst h;exact⟨rfl,fun j d hd=>by simp at hd⟩
 | ty::tys,c::cs,ds,h,a=>by
  simp only[cDs,Rd.aF,zB,Rd.val,zD]at h;obtain⟨k,b,e,f,rfl⟩:=h;obtain⟨g,i⟩:=Y0 f (by simpa using a);refine⟨by simp[g],fun j d hd=>?_⟩;cases j with
  | zero=>simp at hd;subst hd;exact⟨c,ty,rfl,b⟩
  | succ j=>exact i j d (by simpa using hd)
theorem ajk{cs:List C}{vs us:List Value}{off:Nat}(f:dH G w cs vs)(g:(seg cs off us.length).all C.plain=true)(q:off+us.length<=vs.length):∀(n:Nat) p l c,vs[n]?=some (Value.slice p l c)->(dw vs off us)[n]?=some (Value.slice p l c):=by
 intro n p l c b;obtain⟨h,e⟩:=f.get;have j:n<vs.length:=(zC.1 b).1;unfold dw;by_cases k:n<off
 ·rw[a7,List.getElem?_append_left (by rw[a8];omega),List.getElem?_take,if_pos k];exact b
 by_cases r:n<off+us.length
 ·exfalso;have a:n<cs.length:=by omega
  have m:=e n cs[n] _ (by simp[a]) b;have o:cs[n]∈seg cs off us.length:=by
   unfold seg;refine zG (i:=n-off) ?_;rw[List.getElem?_take,if_pos (by omega),List.getElem?_drop,show off+(n-off)=n by omega];simp[a]
  have:=List.all_eq_true.1 g _ o;generalize cs[n]=cc at *;cases cc with
  | d x=>cases x with
   | list=>cases this
   | _=>cases m
  | _=>cases this
 ·rw[List.getElem?_append_right (by simp;omega),List.getElem?_drop];rw[show off+us.length+(n-(vs.take off++us).length)=n by simp;omega];exact b
theorem aiN(h:Inv w0 G S a w){t:TypeId}{p x:Operand}(ho:o.op=.store t p x){E:Env}(hT:E.tt.ok P=true){ws:List W}(hv:(eff E o).val S=some ws)
  (hK:∀a' w' G',Inv w0 G' (S.puts ws) a' w'->K a' w'):o.wp P a w K Q:=by
 unfold eff at hv;rw[ho]at hv;simp only at hv;split at hv
 ·cases hv
 rename_i agg n A;obtain⟨d,i,hu,hi,hsz,hd⟩:=TT.xA hT A;simp only[Rd.aF,zB]at hv;obtain⟨av,h1,v,h2,hv⟩:=hv;have hr:=qh h2 (bg h h1);obtain⟨us,hus,U⟩:=hr.Wv;split at hv
 case isFalse=>cases hv
 rename_i hn;have hul:us.length=n:=by rw[<- U.length];exact hn
 simp only[Rd.aF,zB]at hv;obtain⟨ap,h3,hv⟩:=hv;have hrp:=bg h h3;split at hv
 ·rename_i b off;simp only[Rd.val]at hv;split at hv
  ·rename_i cs hcsb;split at hv
   ·rename_i hle';obtain⟨hle,hpl⟩:=hle';simp only[Rd.val,zD]at hv;subst hv;obtain⟨_,vs,e,hh,T⟩:=h.box b cs hcsb;have hvl:=T.length;refine FT (zQ ho hrp.2 (zK hi hh hus (by omega) (by simp;omega) U.one)) (hK _ _ G ?_);have h':=h.aow b hcsb (T.dw U off) fun e0 vs2 E2 hh2=>(by rw[hh]at hh2;cases hh2;exact ajk T (by simpa [e0,hul] using hpl) (by omega))
    exact h'.dst DF
   ·cases hv
  ·cases hv
 ·rename_i k j ii sz off;simp only[Rd.val]at hv;split at hv
  case h_2=>cases hv
  rename_i ty xs deep hown;simp only[Rd.val,zB]at hv;obtain⟨x0,hx0,hv⟩:=hv;split at hv
  case isFalse=>cases hv
  rename_i hoff;simp only[Rd.aF,zB]at hv;obtain⟨ds,h4,dp,h5,hv⟩:=hv;simp only[Rd.val,zB]at hv;obtain⟨y,h6,hv⟩:=hv;split at hv
  case isFalse=>cases hv
  rename_i hnd;simp only[Rd.val,zD]at hv;subst hv;obtain⟨hlk,b,len,cap,hov,hpv⟩:=hrp;obtain⟨hkn,hnk⟩:=lF hnd;have hO:=h.owns k j;rw[hown]at hO;rcases hO with ⟨he,_⟩ | ⟨b',cap',arr,e,vs,fps,hv',hb,hcap,hmax,hasz,hfb,T,hrr,hf,hdis,hsS⟩
  ·rw[hov]at he;cases he
  rw[hov]at hv';injection hv' with e1 e2 e3;injection e1 with e1;injection e1 with e1 _ _;subst e1;have hii:ii<xs.length:=(zC.1 hx0).1;obtain⟨B,hon⟩:=hoff;have htl:(seg ty.tys off n).length=v.cells.length:=by simp[Abs.seg,oU];omega
  obtain⟨hdl,hdg⟩:=Y0 h4 htl;obtain⟨G1,h7,m7,e7,n7⟩:=Inv.Zg (aP v.cells) h hnk;have hS2:∀k' j',bC ((S.puts ((aP v.cells).map fun q=>W.ro q.1 q.2)).aJ k') j'=if (k',j')∈aP v.cells then (bC (S.aJ k') j').EP else bC (S.aJ k') j':=e7
  have h8:=h7.Hl k j .dead trivial;generalize hS1:S.puts ((aP v.cells).map fun q=>W.ro q.1 q.2)=J at *;have hnq:∀k' j',(k',j')∈aP v.cells->∀t' xs',bC (S.aJ k') j'≠.seg t' xs':=fun k' j' V t' xs' he=>by
   obtain⟨q,hq⟩:=List.getElem?_of_mem (vX V);have hql:q<ds.length:=by rw[hdl];exact (zC.1 hq).1
   obtain⟨c,ty',r,l⟩:=hdg q _ (zF hql);rw[hq]at r;cases r
   simp only[cD,Rd.val,he]at l;cases l
  have hnp:∀k' j',(k',j')∈aP v.cells->∀t' xs' i',bC (S.aJ k') j'≠.part t' xs' i':=fun k' j' V t' xs' i' he=>by
   obtain⟨q,hq⟩:=List.getElem?_of_mem (vX V);have hql:q<ds.length:=by rw[hdl];exact (zC.1 hq).1
   obtain⟨c,ty',r,l⟩:=hdg q _ (zF hql);rw[hq]at r;cases r
   simp only[cD,Rd.val,he]at l;cases l
  have hdead:∀k' j' t' xs' d' m',(bC ((J.di k ((J.aJ k).set j .dead)).aJ k') j').iq=.own t' xs' d' m'->(k',j')≠(k,j)/\(k',j')∉aP v.cells:=by
   intro k' j' t' xs' d' m' z;rw[bH]at z;split at z
   ·rename_i hkk;obtain⟨rfl,hkl⟩:=hkk;rw[iH]at z;split at z
    ·cases z
    ·rename_i hjj;refine⟨fun e=>?_,fun V=>?_⟩
     ·cases e
      have:¬j<(J.aJ k).length:=fun N=>hjj ⟨rfl,N⟩
      have:bC (J.aJ k) j=.dead:=by
       simp only[bC,zE];rw[zJ (by omega)];rfl
      rw[this]at z;cases z
     ·rw[hS2,if_pos V]at z;cases L:bC (S.aJ k) j'<;>rw[L]at z<;>simp[O.EP,O.iq]at z
      ·exact hnp _ _ V _ _ _ L
      ·exact hnq _ _ V _ _ L
   ·rename_i hkk;refine⟨fun e=>?_,fun V=>?_⟩
    ·cases e
     have:¬k<J.owns.length:=fun N=>hkk ⟨rfl,N⟩
     have hg0:J.aJ k=[]:=by
      simp only[St.aJ,zE];rw[zJ (by omega)];rfl
     rw[hg0]at z;cases z
    ·rw[hS2,if_pos V]at z;cases L:bC (S.aJ k') j'<;>rw[L]at z<;>simp[O.EP,O.iq]at z
     ·exact hnp _ _ V _ _ _ L
     ·exact hnq _ _ V _ _ L
  let arr':Array Value:=(dw arr.toList (ii*sz+off) us).toArray;have hidx:ii*sz+off+us.length<=arr.toList.length:=by
   have e1:arr.toList.length=arr.size:=Array.length_toList;rw[e1,hasz,<- B];have:(ii+1)*ty.size<=cap'*ty.size:=Nat.mul_le_mul_right _ (by omega);rw[Nat.succ_mul]at this;omega
  have hsr:=setRow_heap w b arr arr' e (0,0) hb;have hoth:∀c,c≠b->(w.setRow b arr').heap[c]?=w.heap[c]?:=fun c T=>setRow_other w b c _ T
  have hbo:G1.ow b=some (.own k j):=by rw[m7.ow];exact hfb
  have hSb:∀oo,¬G1.S b oo:=by
   intro oo A;rcases (m7.s b oo).1 A with A | ⟨k',j',t2,xs2,d2,m2,hmem,_,D,_⟩
   ·exact absurd (hsS oo A).1 (by simp)
   ·rw[show G.ow b=some (.own k j)from hfb]at D;cases D
    exact hkn hmem
  have h9:=h8.aeG b (w':=w.setRow b arr') (h7.nM hbo).1 (fun i m=>by rw[hbo]at m;cases m) (fun k' j' t' xs' d' m' m z=>by
    rw[hbo]at m;cases m;exact (hdead k j t' xs' d' m' z).1 rfl) rfl rfl rfl (by simp) (fun c _ T=>hoth c T) (fun oo A=>absurd A (hSb oo))
  classical
  have h10:=h9.ao9 (fun c=>∃(q:Nat) (cc:C),v.cells[q]?=some cc/\rowsOf G S cc c) k j (fun c T=>by
   obtain⟨q,cc,hq,k',j',rfl,D,t2,xs2,d2,m2,hown2⟩:=T;have X:=h.nM D;refine⟨X.1,by simpa using X.2,fun i m=>?_,fun k'' j'' t' xs' d' m' m _ z=>?_⟩
   ·rw[m7.ow,D]at m;cases m
   ·rw[m7.ow,D]at m;cases m
    exact (hdead _ _ t' xs' d' m' z).2 (iO (zG hq)))
  have hrows_ne:∀(q:Nat) (cc:C) (c:Nat),v.cells[q]?=some cc->rowsOf G S cc c->G.ow c≠some (.own k j):=by
   rintro q cc c hq ⟨k',j',rfl,D,_⟩ hcj;rw[D]at hcj;cases hcj
   exact hkn (iO (zG hq))
  have hnew:wO { G1 with ow:=fun c=>if ∃(q:Nat) (cc:C),v.cells[q]?=some cc/\rowsOf G S cc c then some (.own k j)else G1.ow c } (w.setRow b arr') k j (.own ty (xs.set ii y) (deep&&dp) true):=by
   refine .inr ⟨b,cap',arr',e,fun i' j'=>if i'=ii/\off<=j'/\j'<off+n then us.getD (j'-off) undef else vs i' j',
    fun i' j' c=>if i'=ii/\off<=j'/\j'<off+n then ∃cc,v.cells[j'-off]?=some cc/\rowsOf G S cc c else fps i' j' c,?_,hsr,by simpa using hcap,hmax,?_,?_,?_,?_,?_,?_,?_⟩
   ·rw[List.length_set];show G1.ov k j=_
    rw[m7.ov,hov,e2,e3]
   ·show (dw arr.toList (ii*sz+off) us).length=_
    rw[wU _ _ _ hidx];have e1:arr.toList.length=arr.size:=Array.length_toList;rw[e1,hasz]
   ·show (if _ then some (AY.own k j)else G1.ow b)=_
    split
    ·rfl
    ·exact hbo
   ·intro i' x' j' d' u f;have hj':j'<ty.size:=by
     have:=(zC.1 f).1;rwa [Ty.aZ]at this
    have hi':i'<xs.length:=by have:=(zC.1 u).1;simpa using this
    rw[<- Array.getElem?_toList];show (dw arr.toList (ii*sz+off) us)[i'*ty.size+j']?=some (if i'=ii/\off<=j'/\j'<off+n then us.getD (j'-off) undef else vs i' j')
    simp only[dw,List.getElem?_append,List.getElem?_take,List.getElem?_drop,a6,a8];have m1:min (ii*sz+off) arr.toList.length=ii*sz+off:=by omega
    rw[m1];by_cases F:i'=ii/\off<=j'/\j'<off+n
    ·obtain⟨rfl,R,M⟩:=F;have Y:i'*ty.size+j'<i'*sz+off+us.length:=by rw[B];omega
     have a2:¬i'*ty.size+j'<i'*sz+off:=by rw[B];omega
     have a3:i'*ty.size+j'-(i'*sz+off)=j'-off:=by rw[B];omega
     have a4:j'-off<us.length:=by omega
     simp[Y,a2,a3,R,M,a4]
    ·have hold:arr.toList[i'*ty.size+j']?=some (vs i' j'):=by
      by_cases g:i'=ii
      ·subst g;have hd0:∃d0,(ty.cells x0)[j']?=some d0:=by
        have:j'<(ty.cells x0).length:=by rw[Ty.aZ];exact hj'
        exact⟨_,zF this⟩
       obtain⟨d0,hd0⟩:=hd0;simpa using T i' x0 j' d0 hx0 hd0
      ·rw[List.getElem?_set,if_neg (Ne.symm g)]at u;simpa using T i' x' j' d' u f
     rw[if_neg F];have hcase:i'*ty.size+j'<ii*sz+off\/ii*sz+off+us.length<=i'*ty.size+j':=by
      rw[<- B,hul];by_cases g:i'=ii
      ·subst g;have:¬(off<=j'/\j'<off+n):=fun hh=>F ⟨rfl,hh⟩
       omega
      ·rcases Nat.lt_or_gt_of_ne g with N | N
       ·have:(i'+1)*ty.size<=ii*ty.size:=Nat.mul_le_mul_right _ N;rw[Nat.succ_mul]at this;omega
       ·have:(ii+1)*ty.size<=i'*ty.size:=Nat.mul_le_mul_right _ N;rw[Nat.succ_mul]at this;omega
     rcases hcase with N | N
     ·have Y:i'*ty.size+j'<ii*sz+off+us.length:=by omega
      rw[if_pos Y,if_pos N,if_pos N];exact hold
     ·have Y:¬i'*ty.size+j'<ii*sz+off+us.length:=by omega
      rw[if_neg Y];have a2:ii*sz+off+us.length+(i'*ty.size+j'-(ii*sz+off+us.length))=i'*ty.size+j':=by omega
      rw[a2];exact hold
   ·intro i' x' j' d' u f;have hmv:∀b' oo,G.S b' oo->G1.S b' oo/\(w.setRow b arr').cell? ⟨b',oo,none⟩=w.cell? ⟨b',oo,none⟩:=fun b' oo A=>
     ⟨(m7.s b' oo).2 (.inl A),World.cell?_of_block (w:=w) (hoth b' fun eb=>hSb oo (eb▸(m7.s b' oo).2 (.inl A)))⟩
    by_cases F:i'=ii/\off<=j'/\j'<off+n
    ·obtain⟨rfl,R,M⟩:=F;rw[List.getElem?_set,if_pos rfl,if_pos hii]at u;cases u
     rw[Ty.dA h6]at f;have hdd:ds[j'-off]?=some d':=by
      simp only[dw,List.getElem?_append,List.getElem?_take,List.getElem?_drop,a6,a8,Ty.aZ,hdl,hn]at f;have m1:min off ty.size=off:=by omega
      rw[m1]at f;have Y:j'<off+n:=M;have a2:¬j'<off:=by omega
      simpa [Y,a2] using f
     obtain⟨cc,tyc,H,hcd⟩:=hdg _ _ hdd;obtain⟨bb,hb1,hb2⟩:=Aq h5 _ cc H;have X:j'-off<us.length:=by omega
     have hcr:=U.get.2 _ cc us[j'-off] H (by simp[X]);have:=YX h hcd hcr hb1 hb2 (S':=G1.S) (keys:=aP v.cells) (fun xx oo A=>(m7.s xx oo).2 A) fun k' j'' ec=>iO (ec▸zG H)
     simp only[R,M,and_self,if_true];have hg:us.getD (j'-off) undef=us[j'-off]:=by simp[X]
     rw[hg];refine (this.move (fun b' oo A=>⟨A,World.cell?_of_block (w:=w) (hoth b' fun eb=>hSb oo (eb▸A))⟩) fun c I=>hoth c fun eb=>?_).sub (fun c I=>⟨cc,H,I⟩) fun ee=>(zI _ _▸ee).2
     exact hrows_ne _ cc c H I (by rw[eb];exact hfb)
    ·simp only[if_neg F];have hw':Ow w G.S deep d' (vs i' j') (fps i' j'):=by
      by_cases g:i'=ii
      ·subst g;rw[List.getElem?_set,if_pos rfl,if_pos hii]at u;cases u
       rw[Ty.dA h6]at f;refine hrr i' x0 j' d' hx0 ?_;have hno:¬(off<=j'/\j'<off+n):=fun hh=>F ⟨rfl,hh⟩
       simp only[dw,List.getElem?_append,List.getElem?_take,List.getElem?_drop,a6,a8,Ty.aZ,hdl,hn]at f;have m1:min off ty.size=off:=by omega
       rw[m1]at f;by_cases N:j'<off
       ·have Y:j'<off+n:=by omega
        simpa [Y,N] using f
       ·have Y:¬j'<off+n:=by omega
        have a2:off+n+(j'-(off+n))=j':=by omega
        simpa [Y,a2] using f
      ·rw[List.getElem?_set,if_neg (Ne.symm g)]at u;exact hrr i' x' j' d' u f
     refine (hw'.move hmv fun c I=>hoth c (hf i' j' c I).2).sub (fun c I=>?_) fun ee=>(zI _ _▸ee).1
     first | exact I | (rw[if_neg F];exact I)
   ·intro i' j' c hcf;split at hcf
    ·obtain⟨cc,H,hrow⟩:=hcf;refine⟨?_,fun eb=>hrows_ne _ cc c H hrow (by rw[eb];exact hfb)⟩;show (if _ then some (AY.own k j)else G1.ow c)=_
     rw[if_pos ⟨_,cc,H,hrow⟩]
    ·refine⟨?_,(hf i' j' c hcf).2⟩;show (if _ then some (AY.own k j)else G1.ow c)=_
     split
     ·rfl
     ·rw[m7.ow];exact (hf i' j' c hcf).1
   ·intro i1 j1 i2 j2 c r l;split at r
    ·rename_i hin1;obtain⟨cc1,hcc1,hrow1⟩:=r;split at l
     ·rename_i hin2;obtain⟨cc2,Z,hrow2⟩:=l;obtain⟨k1,l1,rfl,how1,_⟩:=hrow1;obtain⟨k2,l2,rfl,how2,_⟩:=hrow2;rw[how1]at how2;cases how2
      have:=gX hnk hcc1 Z;omega
     ·exact absurd (hf i2 j2 c l).1 (hrows_ne _ cc1 c hcc1 hrow1)
    ·split at l
     ·obtain⟨cc2,Z,hrow2⟩:=l;exact absurd (hf i1 j1 c r).1 (hrows_ne _ cc2 c Z hrow2)
     ·exact hdis _ _ _ _ _ r l
   ·intro oo A;exact absurd A (hSb oo)
  have R:=h10.Hl k j _ hnew;have hpv':a.eval p=.pointer (some ⟨b,ii*sz+off,none⟩):=hpv;have e1:arr.toList.length=arr.size:=Array.length_toList;have hst:(J.di k ((J.aJ k).set j .dead)).di k (((J.di k ((J.aJ k).set j .dead)).aJ k).set j (.own ty (xs.set ii y) (deep&&dp) true))=J.put (.upd k j (.own ty (xs.set ii y) (deep&&dp) true)):=by
   show _=J.di k ((J.aJ k).set j _)
   by_cases hkl:k<J.owns.length
   ·rw[af4,bH,if_pos ⟨rfl,hkl⟩,List.set_set]
   ·simp only[Bl hkl]
  rw[hst]at R;have M:=R.dst (o:=o) (DF (G:=_) (w:=_));have hpu:S.puts (((aP v.cells).map fun q=>W.ro q.1 q.2)++(.upd k j (.own ty (xs.set ii y) (deep&&dp) true)::fQ o (.tup [])))=(J.put (.upd k j (.own ty (xs.set ii y) (deep&&dp) true))).puts (fQ o (.tup [])):=by
   rw[fK,hS1];rfl
  rw[<- hpu]at M;exact FT (zQ ho hpv' (zK hi hb hus (by omega) (by omega) U.one)) (hK _ _ _ M)
 ·cases hv
end ops
end Go.Abs
namespace Go.Abs
open Go.RowKit
theorem V3{α:Type}{xs r:List α}{lo hi:Option Int}(h:eff.cutL xs lo hi=some r) :
  0<=lo.getD 0/\lo.getD 0<=hi.getD xs.length/\hi.getD xs.length<=xs.length/\r=(xs.take (hi.getD xs.length).toNat).drop (lo.getD 0).toNat:=by
 simp only[eff.cutL]at h;split at h
 ·rename_i a;exact⟨a.1,a.2.1,a.2.2,(aR h).symm⟩
 ·cases h
section ops
variable {P:Program} {w0:Bs} {G:Gh} {S:St} {a:Act} {w:World} {o:Oper} {K:Act->World->Prop} {Q:Exit->Act->World->Prop}
theorem dK(isSlice:Bool)(len cap:Nat)(lo hi:Option Value)(l h:Int)(a:lo=none/\l=0\/∃k,lo=some (.int k l))(b:hi=none/\h=len\/∃k,hi=some (.int k h))
  (c:0<=l) (d:l<=h) (e:h<=cap):(Instr.sliceBounds isSlice len cap lo hi none).run P w=.ok (l.toNat,h.toNat,cap) w:=by
 rcases a with ⟨rfl,rfl⟩ | ⟨k,rfl⟩<;>rcases b with ⟨rfl,rfl⟩ | ⟨k',rfl⟩
 ·simp[Instr.sliceBounds]
 ·simp[Instr.sliceBounds,Instr.sliceBound,asIntOf,d,e]
 ·simp[Instr.sliceBounds,Instr.sliceBound,asIntOf,c,d]
 ·have f:(0:Int)<=h:=by omega
  have g:max h 0=h:=by omega
  have i:¬h<l:=by omega
  simp[Instr.sliceBounds,Instr.sliceBound,asIntOf,c,e,f,g,i]
theorem afp(h:Inv w0 G S a w){x:Option Operand}{b:Option Int}(hv:(eff.bnd x).val S=some b)(d:Int):(x.map a.eval=none/\b.getD d=d)\/∃k,x.map a.eval=some (.int k (b.getD d)):=by
 cases x with
 | none=>
  simp only[eff.bnd,Rd.val,zD]at hv;subst hv;exact .inl ⟨rfl,rfl⟩
 | some x=>
  simp only[eff.bnd,Rd.aF,zB,Rd.val,zD]at hv;obtain⟨av,c,n,e,rfl⟩:=hv;obtain⟨k,f⟩:=tJ e (bg h c);exact .inr ⟨k,by simp[f]⟩
theorem Inv.WH(h:Inv w0 G S a w)(k j:Nat):∃G',Inv w0 G' (S.put (.nomut k j)) a w/\More G G' (AK G S [(k,j)]):=by
 have l:=h.owns k j;have R:Inv w0 G (S.put (.nomut k j)) a w:=by
  refine h.Hl k j _ ?_;cases c:bC (S.aJ k) j with
  | dead=>trivial
  | ro t xs=>rw[c]at l;exact l
  | part t xs i=>rw[c]at l;exact l
  | seg t xs=>rw[c]at l;exact l
  | tree t xs=>
   rcases h.aiK (k:=k) (j:=j) (by rw[c];rfl)with x | ⟨b,cap,arr,E,vs,fps,y,z,A,B,C,D,F,H,I,n,J⟩
   ·exact .inl x
   ·exact .inr ⟨b,cap,arr,E,vs,fps,y,z,A,B,C,D,F,H,I,n,fun oo K=>⟨rfl,(J oo K).2⟩⟩
  | own t xs deep m=>
   rw[c]at l;rcases l with x | ⟨b,cap,arr,E,vs,fps,y,z,A,B,C,D,F,H,I,n,J⟩
   ·exact .inl x
   ·exact .inr ⟨b,cap,arr,E,vs,fps,y,z,A,B,C,D,F,H,I,n,fun oo K=>⟨rfl,(J oo K).2⟩⟩
 have hent:∀k' j' t xs deep m,bC ((S.put (.nomut k j)).aJ k') j'=.own t xs deep m->∃m',(bC (S.aJ k') j').vk=.own t xs deep m'/\((k',j')=(k,j)->m=false):=by
  intro k' j' t xs deep m c;change bC ((S.di k ((S.aJ k).set j (bC (S.aJ k) j).Ff)).aJ k') j'=_ at c;rw[bH]at c;split at c
  ·rename_i r;obtain⟨rfl,T⟩:=r;rw[iH]at c;split at c
   ·rename_i s;obtain⟨rfl,_⟩:=s;cases d:bC (S.aJ k) j with
    | dead=>rw[d]at c;cases c
    | ro t' xs'=>rw[d]at c;cases c
    | part t' xs' i'=>rw[d]at c;cases c
    | seg t' xs'=>rw[d]at c;cases c
    | own t' xs' deep' m'=>
     rw[d]at c;simp only[O.Ff,O.own.injEq]at c;obtain⟨rfl,u,rfl,rfl⟩:=c;cases u
     exact⟨m',rfl,fun _=>rfl⟩
    | tree t' xs'=>
     rw[d]at c;simp only[O.Ff,O.own.injEq]at c;obtain⟨rfl,u,rfl,rfl⟩:=c;cases u
     exact⟨true,rfl,fun _=>rfl⟩
   ·rename_i s;refine⟨m,by rw[c];rfl,fun e=>?_⟩;cases e
    have:¬j<(S.aJ k).length:=fun o=>s ⟨rfl,o⟩
    have:bC (S.aJ k) j=.dead:=by
     simp only[bC,zE];rw[zJ (by omega)];rfl
    rw[this]at c;cases c
  ·rename_i r;refine⟨m,by rw[c];rfl,fun e=>?_⟩;cases e
   have:¬k<S.owns.length:=fun o=>r ⟨rfl,o⟩
   have p:S.aJ k=[]:=by
    simp only[St.aJ,zE];rw[zJ (by omega)];rfl
   rw[p]at c;cases c
 have L:∀t xs,(bC ((S.put (.nomut k j)).aJ k) j).IsT t xs->∀t' xs' d' m',(bC (S.aJ k) j).vk≠.own t' xs' d' m':=by
  intro t xs c t' xs' d' m';change (bC ((S.di k ((S.aJ k).set j (bC (S.aJ k) j).Ff)).aJ k) j).IsT t xs at c;rw[bH]at c;split at c
  ·rw[iH]at c;split at c
   ·cases d:bC (S.aJ k) j<;>rw[d]at c<;>simp[O.Ff,O.IsT,O.vk]at c ⊢
   ·rename_i s;have:¬j<(S.aJ k).length:=fun o=>s ⟨rfl,o⟩
    have:bC (S.aJ k) j=.dead:=by
     simp only[bC,zE];rw[zJ (by omega)];rfl
    rw[this]at c;rcases c with c | ⟨_,c⟩ | c<;>cases c
  ·rename_i r;have:¬k<S.owns.length:=fun o=>r ⟨rfl,o⟩
   have p:S.aJ k=[]:=by
    simp only[St.aJ,zE];rw[zJ (by omega)];rfl
   rw[p]at c;rcases c with c | ⟨_,c⟩ | c<;>cases c
 obtain⟨u,_⟩:=R.aeo (AK G S [(k,j)]) (by
  rintro b oo ⟨k',j',t,xs,deep,m,hmem,hown,g,q⟩;simp only[List.mem_singleton,Prod.mk.injEq]at hmem;obtain⟨rfl,rfl⟩:=hmem;refine⟨(h.olt _ _ g).2,fun i N=>(by rw[g]at N;cases N),fun U V P v X Y c len cap M f=>?_⟩;rw[g]at f;cases f
  obtain⟨m',Q,W⟩:=hent _ _ _ _ _ _ c;rw[hown]at Q;cases Q
  exact⟨W rfl,q len cap M⟩) (by
  rintro b oo ⟨k',j',t,xs,deep,m,hmem,hown,g,q⟩;exact (h.nM g).1) (by
  rintro b oo ⟨k',j',t,xs,deep,m,hmem,hown,g,q⟩ U V P v c f;simp only[List.mem_singleton,Prod.mk.injEq]at hmem;obtain⟨rfl,rfl⟩:=hmem;rw[g]at f;cases f
  exact L P v c _ _ _ _ hown)
 exact⟨_,u,rfl,rfl,rfl,rfl,rfl,fun b oo=>Iff.rfl⟩
theorem JO{S0:Nat->Nat->Prop}{t:Ty}{xs r:List t.den}{v:Value}(hrep:Rep w S0 (.list t xs) v){T e:TypeId}{i:TypeInfo}(s:P.underlying T=some (.slice e))(hi:P.info? e=some i)(u:i.size=t.size)
  {lo c:Option Value} {blo bhi:Option Int} (h:(lo=none/\blo.getD 0=0)\/∃k,lo=some (.int k (blo.getD 0))) (m:(c=none/\bhi.getD xs.length=xs.length)\/∃k,c=some (.int k (bhi.getD xs.length)))
  (B:eff.cutL xs blo bhi=some r):∃v',(Instr.sliceAt T v lo c none).run P w=.ok v' w/\Rep w S0 (.list t r) v':=by
 obtain⟨C,E,A,rfl⟩:=V3 B;generalize H:blo.getD 0=l at *;generalize hh:bhi.getD (xs.length:Int)=hv at *;have p:((xs.take hv.toNat).drop l.toNat).length=hv.toNat-l.toNat:=by simp;omega
 generalize f:D.list t xs=dd at hrep;cases hrep with
 | int=>cases f
 | bool=>cases f
 | str=>cases f
 | nil t'=>
  cases f
  have n:hv=0:=by simp at A;omega
  subst n;have o:l=0:=by omega
  subst o;have a:=dK (P:=P) (w:=w) true 0 0 lo c 0 0 (h.imp id id) (by simpa using m) (by omega) (by omega) (by omega);refine⟨.slice none 0 0,?_,?_⟩
  ·simp only[Int.toNat_zero]at a;simp[Instr.sliceAt,Instr.slice,run_underlying s,a,sizeOf,typeInfo,hi]
  ·simp;exact .nil _
 | emp t' ad cap=>
  cases f
  have n:hv=0:=by simp at A;omega
  subst n;have o:l=0:=by omega
  subst o;have a:=dK (P:=P) (w:=w) true 0 cap lo c 0 0 (h.imp id id) (by simpa using m) (by omega) (by omega) (by omega);have y:ad.add 0=ad:=rfl;refine⟨.slice (some ad) 0 cap,?_,?_⟩
  ·simp only[Int.toNat_zero]at a;simp[Instr.sliceAt,Instr.slice,run_underlying s,a,sizeOf,typeInfo,hi,y]
  ·simp;exact .emp _ _ _
 | list t' xs' b off cap vs hcap F z=>
  cases f
  have a:=dK (P:=P) (w:=w) true xs.length cap lo c l hv h m C E (by omega);by_cases q:cap=l.toNat
  ·refine⟨.slice (some ⟨b,off,none⟩) (hv.toNat-l.toNat) (cap-l.toNat),?_,?_⟩
   ·simp[Instr.sliceAt,Instr.slice,run_underlying s,a,sizeOf,typeInfo,hi,if_pos q]
   ·have y:(xs.take hv.toNat).drop l.toNat=[]:=List.eq_nil_of_length_eq_zero (by omega);have G:hv.toNat-l.toNat=0:=by omega
    rw[y,G];exact .list t [] b off _ (fun _ _=>undef) (by simp) (fun i x j d g=>by simp at g) (fun i x j d g=>by simp at g)
  ·refine⟨.slice (some ⟨b,off+l.toNat*t.size,none⟩) (hv.toNat-l.toNat) (cap-l.toNat),?_,?_⟩
   ·simp[Instr.sliceAt,Instr.slice,run_underlying s,a,sizeOf,typeInfo,hi,q,u,addr_add]
   ·have hget:∀(i:Nat) (x:t.den),((xs.take hv.toNat).drop l.toNat)[i]?=some x->xs[l.toNat+i]?=some x:=by
     intro i x g;rw[List.getElem?_drop,List.getElem?_take]at g;split at g
     ·exact g
     ·cases g
    rw[<- p];refine .list t _ b _ _ (fun i j=>vs (l.toNat+i) j) (by rw[p];omega) (fun i x j d g hd=>?_) (fun i x j d g hd=>z _ x j d (hget i x g) hd);have:=F _ x j d (hget i x g) hd;rw[Nat.add_mul,Nat.add_assoc,<- Nat.add_assoc off]at this;exact this
theorem Qc{S:St}{k j:Nat}{t:Ty}{xs:List t.den}{deep:Bool}(h:bC (S.aJ k) j=.own t xs deep false):S.put (.nomut k j)=S:=by
 show S.di k ((S.aJ k).set j (bC (S.aJ k) j).Ff)=S
 have b:j<(S.aJ k).length:=by
  rcases Nat.lt_or_ge j (S.aJ k).length with a | a
  ·exact a
  ·simp[bC,zE,zJ a]at h
 have g:k<S.owns.length:=by
  rcases Nat.lt_or_ge k S.owns.length with a | a
  ·exact a
  ·simp[St.aJ,zE,zJ a]at b
 have d:(S.aJ k).set j (bC (S.aJ k) j).Ff=S.aJ k:=by
  rw[h];show (S.aJ k).set j (.own t xs deep false)=_
  rw[<- h];refine List.ext_getElem (by simp) fun i f c=>?_
  rw[List.getElem_set];split
  ·rename_i e;subst e;simp[bC,zE,b]
  ·rfl
 rw[d];cases S with
 | mk tm bx ow=>
  show St.mk tm bx (ow.set k _)=St.mk tm bx ow
  congr 1;refine List.ext_getElem (by simp) fun i f c=>?_
  rw[List.getElem_set];split
  ·rename_i e;subst e;simp[St.aJ,zE,c]
  ·rfl
theorem aiO(h:Inv w0 G S a w){T:TypeId}{x:Operand}{lo hi mx:Option Operand}(ho:o.op=.slice T x lo hi mx){E:Env}(hT:E.tt.ok P=true){ws:List W}(hv:(eff E o).val S=some ws)
  (M:∀a' w' G',Inv w0 G' (S.puts ws) a' w'->K a' w'):o.wp P a w K Q:=by
 unfold eff at hv;rw[ho]at hv;simp only at hv;split at hv
 ·cases hv
 simp only[Rd.aF,zB]at hv;obtain⟨av,h1,blo,h2,bhi,O,hv⟩:=hv;have H:=bg h h1;have A:=afp h h2;have F:=afp h O;have run:∀ {v':Value},(Instr.sliceAt T (a.eval x) (lo.map a.eval) (hi.map a.eval) none).run P w=.ok v' w->(execOp a.eval o).run P w=.ok (.value v') w:=by
  intro v' hr';unfold execOp;simp[ho,hr']
 split at hv
 ·rename_i s;split at hv
  case isFalse=>cases hv
  rename_i hs;have C:=TT.O3 hT hs;simp only[Rd.val,zB,zD]at hv;obtain⟨r,y,rfl⟩:=hv;obtain⟨c0,c1,c2,rfl⟩:=V3 y;have A:=A 0;have F:=F (s.length:Int);generalize hl:blo.getD 0=l at *;generalize hh:bhi.getD (s.length:Int)=X at *;generalize hxv:a.eval x=xv at *;generalize u:D.str s=dd at H;cases H with
  | int=>cases u
  | bool=>cases u
  | nil=>cases u
  | emp=>cases u
  | list=>cases u
  | str v=>
   cases u
   rw[pM]at c2 F;have c:=dK (P:=P) (w:=w) false v.size v.size (lo.map a.eval) (hi.map a.eval) l X A F c0 c1 c2;refine aS (v:=.string (v.extract l.toNat X.toNat)) (w':=w) (run ?_) (M _ _ _ (h.dst (av:=.v (.one (.d (.str _)))) ?_))
   ·simp[Instr.sliceAt,Instr.slice,run_underlying C,c]
   ·have e:(v.data.toList.take X.toNat).drop l.toNat=(v.extract l.toNat X.toNat).data.toList:=by
     simp[List.drop_take]
    rw[e];exact Rep.str _
 ·rename_i t xs;split at hv
  case isFalse=>cases hv
  rename_i R;obtain⟨e,inf,z,C,g,B,_⟩:=TT.jw hT R;simp only[Rd.val,zB,zD]at hv;obtain⟨r,y,rfl⟩:=hv;obtain⟨v',h5,h6⟩:=JO (P:=P) H C g B (A 0) (F xs.length) y;exact aS (run h5) (M _ _ _ (h.dst h6))
 ·rename_i k j;by_cases hpre:aol E o=true
  ·rw[if_pos hpre]at hv;unfold aiH at hv;split at hv
   case h_3=>cases hv
   case h_2 hh=>
    simp only[Rd.val]at hv
    split at hv
    case h_2=>cases hv
    rename_i t xs deep mm hown
    split at hv
    case isFalse=>cases hv
    rename_i R
    obtain⟨e,inf,z,C,g,B,_⟩:=TT.jw hT R
    simp only[Rd.val,zB,zD]at hv
    obtain⟨m,y,rfl⟩:=hv
    have hmn:hh=(m:Int)/\m<=xs.length:=by
     unfold cutAt at y;split at y
     ·rename_i hc;cases y;omega
     ·cases y
    obtain⟨rfl,Y⟩:=hmn
    have f:=A 0
    simp only[Option.getD_some]at f
    have I:∃k,lo.map a.eval=some (.int k (m:Int)):=by
     rcases f with ⟨q,q2⟩ | q
     ·cases lo with
      | none=>simp[eff.bnd,Rd.val]at h2
      | some x=>simp at q
     ·exact q
    have p:hi.map a.eval=none:=by
     cases hi with
     | none=>rfl
     | some x=>
      simp only[eff.bnd,Rd.aF,zB,Rd.val,zD]at O;obtain⟨_,_,_,_,O⟩:=O;cases O
    have hO:=h.owns k j
    rw[hown]at hO
    rcases hO with ⟨ev,rfl⟩ | ⟨b,cap,arr,E0,vs,fps,ev,_,hcap,_⟩
    ·have U:m=0:=by simpa using Y
     subst U;have c:=dK (P:=P) (w:=w) true 0 0 (lo.map a.eval) (hi.map a.eval) 0 0 (.inr I) (.inl ⟨p,rfl⟩) (by omega) (by omega) (by omega);refine aS (v:=.slice none 0 0) (run ?_) (M _ _ _ (h.dst (av:=.suf t k j 0) ⟨H.1,fun w' S' xs' N=>by rw[ev]at N;exact N⟩));rw[H.2.1,ev];simp only[Int.toNat_zero]at c;simp[Instr.sliceAt,Instr.slice,run_underlying C,c,sizeOf,typeInfo,g]
    ·have c:=dK (P:=P) (w:=w) true xs.length cap (lo.map a.eval) (hi.map a.eval) m xs.length (.inr I) (.inl ⟨p,rfl⟩) (by omega) (by omega) (by omega);refine aS (v:=.slice (some ⟨b,if cap=m then 0 else m*t.size,none⟩) (xs.length-m) (cap-m)) (run ?_) (M _ _ _ (h.dst (av:=.suf t k j m) ⟨H.1,fun w' S' xs' N=>?_⟩))
     ·rw[H.2.1,ev];simp only[az]at c;by_cases Z:cap=m
      ·subst Z;simp[Instr.sliceAt,Instr.slice,run_underlying C,c,sizeOf,typeInfo,g]
      ·simp[Instr.sliceAt,Instr.slice,run_underlying C,c,sizeOf,typeInfo,g,Z,addr_add,B]
     ·rw[ev]at N;generalize u:D.list t xs'=dd at N;generalize V:Value.slice (some ⟨b,0,none⟩) xs.length cap=vv at N;cases N with
      | int=>cases u
      | bool=>cases u
      | str=>cases u
      | nil=>cases V
      | emp t' ad cap'=>
       cases u
       simp only[Value.slice.injEq,zD]at V;obtain⟨rfl,hle,rfl⟩:=V;have U:m=0:=by omega
       subst U;simp only[List.drop_nil,Nat.zero_mul,ite_self,Nat.sub_zero];rw[hle];exact Rep.emp _ _ _
      | list t' xs2 b' off cap' vs' hcap' hc' hrr'=>
       cases u
       simp only[Value.slice.injEq,zD,Addr.mk.injEq]at V;obtain⟨⟨rfl,rfl,_⟩,hle,rfl⟩:=V;by_cases hmx:m=xs.length
       ·have e0:xs'.drop m=[]:=List.drop_eq_nil_of_le (by omega);rw[e0,show xs.length-m=0 by omega];exact .emp _ _ _
       ·have Z:cap≠m:=by omega
        rw[if_neg Z];have e1:xs.length-m=(xs'.drop m).length:=by rw[List.length_drop];omega
        rw[e1];refine .list t (xs'.drop m) b (m*t.size) (cap-m) (fun i j=>vs' (m+i) j) (by rw[List.length_drop];omega) (fun i x j d N hd=>?_) (fun i x j d N hd=>?_)
        ·rw[List.getElem?_drop]at N;have:=hc' _ _ _ _ N hd;rw[Nat.add_mul]at this;simpa [Nat.add_assoc] using this
        ·rw[List.getElem?_drop]at N;exact hrr' _ _ _ _ N hd
   rename_i hh;simp only[Rd.val]at hv;split at hv
   case h_2=>cases hv
   rename_i t xs deep hown;split at hv
   case isFalse=>cases hv
   rename_i R;obtain⟨e,inf,z,C,g,B,_⟩:=TT.jw hT R;simp only[Rd.val,zB,zD]at hv;obtain⟨m,y,rfl⟩:=hv;have hmn:hh=(m:Int)/\m<=xs.length:=by
    unfold cutAt at y;split at y
    ·rename_i hc;cases y;omega
    ·cases y
   obtain⟨rfl,Y⟩:=hmn;have f:=A 0;have J:=F 0;simp only[Option.getD_some,Option.getD_none]at f J;have p:∃k,hi.map a.eval=some (.int k (m:Int)):=by
    rcases J with ⟨q,q2⟩ | q
    ·cases hi with
     | none=>simp[eff.bnd,Rd.val]at O
     | some x=>simp at q
    ·exact q
   have hO:=h.owns k j;rw[hown]at hO;rcases hO with ⟨ev,rfl⟩ | ⟨b,cap,arr,E0,vs,fps,ev,_,hcap,_⟩
   ·have U:m=0:=by simpa using Y
    subst U;have c:=dK (P:=P) (w:=w) true 0 0 (lo.map a.eval) (hi.map a.eval) 0 0 (f.imp (fun q=>⟨q.1,rfl⟩) id) (.inr p) (by omega) (by omega) (by omega);refine aS (v:=.slice none 0 0) (run ?_) (M _ _ _ (h.dst (av:=.pre k j 0) ⟨H.1,.inl ⟨rfl,rfl,ev⟩⟩));rw[H.2.1,ev];simp only[Int.toNat_zero]at c;simp[Instr.sliceAt,Instr.slice,run_underlying C,c,sizeOf,typeInfo,g]
   ·have c:=dK (P:=P) (w:=w) true xs.length cap (lo.map a.eval) (hi.map a.eval) 0 m (f.imp (fun q=>⟨q.1,rfl⟩) id) (.inr p) (by omega) (by omega) (by omega);refine aS (v:=.slice (some ⟨b,0,none⟩) m cap) (run ?_) (M _ _ _ (h.dst (av:=.pre k j m) ⟨H.1,.inr ⟨b,xs.length,cap,ev,Y,rfl⟩⟩));rw[H.2.1,ev];simp only[Int.toNat_zero,az]at c;simp[Instr.sliceAt,Instr.slice,run_underlying C,c,sizeOf,typeInfo,g,addr_add]
  rw[if_neg hpre]at hv;simp only[Rd.val]at hv;split at hv
  ·rename_i t xs deep m hown;split at hv
   case isFalse=>cases hv
   rename_i R;obtain⟨e,inf,z,C,g,B,_⟩:=TT.jw hT R;simp only[Rd.val,zB,zD]at hv;obtain⟨r,y,rfl⟩:=hv;have hrep:=h.Ir hown [(k,j)] (by simp);rw[<- H.2.1]at hrep;obtain⟨v',h5,h6⟩:=JO (P:=P) hrep C g B (A 0) (F xs.length) y;obtain⟨G1,h7,m7⟩:=h.WH k j;have h8:=h7.dst (o:=o) (av:=.v (.one (.d (.list t r)))) (v:=v') (h6.move fun b oo hs=>⟨(m7.s b oo).2 hs,rfl⟩);cases m with
   | true=>exact aS (run h5) (M _ _ _ h8)
   | false=>
    rw[Qc hown]at h8;exact aS (run h5) (M _ _ _ h8)
  ·rename_i t xs hown;split at hv
   case isFalse=>cases hv
   rename_i R;obtain⟨e,inf,z,C,g,B,_⟩:=TT.jw hT R;simp only[Rd.val,zB,zD]at hv;obtain⟨r,y,rfl⟩:=hv;have hrep:=h.Xx hown;rw[<- H.2.1]at hrep;obtain⟨v',h5,h6⟩:=JO (P:=P) hrep C g B (A 0) (F xs.length) y;exact aS (run h5) (M _ _ _ (h.dst h6))
  ·cases hv
 ·rename_i t len n k1 k2;split at hv
  case isFalse=>cases hv
  rename_i R;obtain⟨e,inf,z,C,g,B,_⟩:=TT.jw hT R;obtain⟨hl1,hl2,H⟩:=H;split at hv
  ·rename_i hh;simp only[Rd.val,zB,zD]at hv;obtain⟨_,y,rfl⟩:=hv;split at y
   case isFalse=>cases y
   rename_i hhn;subst hhn;have f:=A 0;have J:=F 0;simp only[Option.getD_some,Option.getD_none]at f J;have p:∃k,hi.map a.eval=some (.int k (n:Int)):=by
    rcases J with ⟨q,q2⟩ | q
    ·cases hi with
     | none=>simp[eff.bnd,Rd.val]at O
     | some x=>simp at q
    ·exact q
   rcases H with ⟨L,hn0,o1,o2⟩ | ⟨b,cap,L,hlc,hnl,o1,o2⟩
   ·subst hn0;have c:=dK (P:=P) (w:=w) true 0 0 (lo.map a.eval) (hi.map a.eval) 0 0 (f.imp (fun q=>⟨q.1,rfl⟩) id) (.inr p) (by omega) (by omega) (by omega);refine aS (v:=.slice none 0 0) (run ?_) (M _ _ _ (h.dst (av:=.seg k1) ⟨hl1,o1.symm⟩));rw[L];simp only[Int.toNat_zero]at c;simp[Instr.sliceAt,Instr.slice,run_underlying C,c,sizeOf,typeInfo,g]
   ·have c:=dK (P:=P) (w:=w) true len cap (lo.map a.eval) (hi.map a.eval) 0 n (f.imp (fun q=>⟨q.1,rfl⟩) id) (.inr p) (by omega) (by omega) (by omega);refine aS (v:=.slice (some ⟨b,0,none⟩) n cap) (run ?_) (M _ _ _ (h.dst (av:=.seg k1) ⟨hl1,o1.symm⟩));rw[L];simp only[Int.toNat_zero,az]at c;simp[Instr.sliceAt,Instr.slice,run_underlying C,c,sizeOf,typeInfo,g,addr_add]
  ·rename_i l;simp only[Rd.val,zB,zD]at hv;obtain⟨_,y,rfl⟩:=hv;split at y
   case isFalse=>cases y
   rename_i hln;subst hln;have f:=A 0;have I:∃k,lo.map a.eval=some (.int k (n:Int)):=by
    rcases f with ⟨q,q2⟩ | q
    ·cases lo with
     | none=>simp[eff.bnd,Rd.val]at h2
     | some x=>simp at q
    ·exact q
   have p:hi.map a.eval=none:=by
    cases hi with
    | none=>rfl
    | some x=>
     simp only[eff.bnd,Rd.aF,zB,Rd.val,zD]at O;obtain⟨_,_,_,_,O⟩:=O;cases O
   rcases H with ⟨L,hn0,o1,o2⟩ | ⟨b,cap,L,hlc,hnl,o1,o2⟩
   ·subst hn0;have c:=dK (P:=P) (w:=w) true 0 0 (lo.map a.eval) (hi.map a.eval) 0 0 (.inr I) (.inl ⟨p,rfl⟩) (by omega) (by omega) (by omega);refine aS (v:=.slice none 0 0) (run ?_) (M _ _ _ (h.dst (av:=.seg k2) ⟨hl2,o2.symm⟩));rw[L];simp only[Int.toNat_zero]at c;simp[Instr.sliceAt,Instr.slice,run_underlying C,c,sizeOf,typeInfo,g]
   ·have c:=dK (P:=P) (w:=w) true len cap (lo.map a.eval) (hi.map a.eval) n len (.inr I) (.inl ⟨p,rfl⟩) (by omega) (by omega) (by omega);refine aS (v:=.slice (some ⟨b,if cap=n then 0 else n*t.size,none⟩) (len-n) (cap-n)) (run ?_) (M _ _ _ (h.dst (av:=.seg k2) ⟨hl2,o2.symm⟩));rw[L];simp only[az]at c;by_cases hcn:cap=n
    ·subst hcn;simp[Instr.sliceAt,Instr.slice,run_underlying C,c,sizeOf,typeInfo,g,addr_add]
    ·simp[Instr.sliceAt,Instr.slice,run_underlying C,c,sizeOf,typeInfo,g,addr_add,hcn,B]
  ·cases hv
 ·cases hv
end ops
end Go.Abs
namespace Go.Abs
open Go.RowKit
def callable(P:Program)(f:FuncId):Bool:=match P.funcs[f]? with
 | some fn => !(fn.name == "runtime.NumGoroutine") && fn.body.isSome
 | none=>false
abbrev Off(F:Nat->Prop)(w w':World):Prop:=pR F w.heap.size w w'
def wM(w:World)(s:Sh)(x:s.t.den)(u:Value)(fps:Nat->Nat->Prop):Prop:=
 ShR (fun i d v=>Ow w (fun _ _=>False) true d v (fps i)) 0 s x u
def iM(P:Program)(m:Msp):Prop:=∀(w:World) (u:Value) (x:m.sh.t.den) (n:Int) (r:m.sh.t.den×Int) (fps:Nat->Nat->Prop),m.fn x n=some r->amb w ->
 wM w m.sh x u fps->(∀i c,fps i c->pO<=c/\c<w.heap.size)->(∀i i' c,fps i c->fps i' c->i=i') ->
 Calls P m.fid #[u,.int .i64 n] w fun e w'=>e=.returned (.int .i64 r.2)/\Off (fun c=>∃i,fps i c) w w'/\wM w' m.sh r.1 u fps
def Js(P:Program)(s:Srt):Prop:=∀(w:World) (S:Nat->Nat->Prop) (deep:Bool) (bb:Nat) (E:TypeId) (u:Value) (xs ys:List s.t.den) (fp:Nat->Prop),s.fn xs=some ys->amb w ->
 OwT w S deep true s.t xs u fp->(∀c,fp c->c<w.heap.size)->(∀b o,S b o->b<w.heap.size)->w.heap[bb]?=some (.cells #[u] E (0,0))->¬fp bb ->
 Calls P s.fid #[.iface s.T u,.func (.func s.g) #[] #[.pointer (some ⟨bb,0,none⟩)]] w fun e w'=>e=.returned (.tuple #[])/\Off (fun c=>fp c/\∀o,¬S c o) w w'/\OwT w' S deep true s.t ys u fp
theorem aW.get{R:Nat->D->Value->Prop}:∀ {n:Nat} {ds:List D} {vs:List Value},aW R n ds vs->ds.length=vs.length/\∀(i:Nat) (d:D) (v:Value),ds[i]?=some d->vs[i]?=some v->R (n+i) d v
 | n,[],[],_=>⟨rfl,fun i d v h=>by simp at h⟩
 | n,d::ds,v::vs,h=>by
  obtain⟨a,b⟩:=aW.get h.2;refine⟨by simp[a],fun i d' v' hd hv=>?_⟩;cases i with
  | zero=>simp at hd hv;subst hd;subst hv;exact h.1
  | succ i=>simp at hd hv;have:=b i d' v' hd hv;rwa [show n+1+i=n+(i+1) by omega]at this
theorem aae:∀(ws:List W),(∀x,x∈ws->∃k j y,x=.upd k j y)->∀(S:St),(S.puts ws).tmps=S.tmps/\(S.puts ws).boxes=S.boxes/\(S.puts ws).owns.length=S.owns.length /\
  (∀k,((S.puts ws).aJ k).length=(S.aJ k).length) /\
  ∀k j,(k<S.owns.length->j<(S.aJ k).length->(∃y,W.upd k j y∈ws)->∃y,W.upd k j y∈ws/\bC ((S.puts ws).aJ k) j=y)/\((∀y,W.upd k j y∉ws)->bC ((S.puts ws).aJ k) j=bC (S.aJ k) j)
 | [],_,S=>⟨rfl,rfl,rfl,fun _=>rfl,fun k j=>⟨fun _ _ ⟨y,a⟩=>(by cases a),fun _=>rfl⟩⟩
 | x::r,l,S=>by
  obtain⟨k0,m,e,rfl⟩:=l x ar;let b:St:=S.di k0 ((S.aJ k0).set m e);obtain⟨q,s,t,u,g⟩:=aae r (fun z d=>l z (aq _ d)) b;have n:b.owns.length=S.owns.length:=by simp[b,St.di]
  have o:∀k,(b.aJ k).length=(S.aJ k).length:=by
   intro k;simp only[b];rw[bH];split
   ·rename_i c;rw[List.length_set,c.1]
   ·rfl
  refine⟨q,s,t.trans n,fun k=>(u k).trans (o k),fun k j=>⟨fun c f h=>?_,fun p=>?_⟩⟩
  ·by_cases i:∃y:O,W.upd k j y∈r
   ·obtain⟨y,a,v⟩:=(g k j).1 (by rw[n];exact c) (by rw[o];exact f) i;exact⟨y,aq _ a,v⟩
   ·obtain⟨y,a⟩:=h;rcases ba.1 a with a | a
    ·injection a with w A B;subst w;subst A;subst B;refine⟨_,ar,?_⟩;show bC ((b.puts r).aJ k) j=_
     rw[(g k j).2 fun z d=>i ⟨z,d⟩];simp only[b];rw[bH,if_pos ⟨rfl,c⟩,iH,if_pos ⟨rfl,f⟩]
    ·exact absurd ⟨y,a⟩ i
  ·show bC ((b.puts r).aJ k) j=_
   rw[(g k j).2 fun z d=>p z (aq _ d)];simp only[b];rw[bH];split
   ·rename_i c;rw[iH];split
    ·rename_i f;exact absurd (show W.upd k j e∈W.upd k0 m e::r by rw[c.1,f.1];exact ar) (p e)
    ·rw[c.1]
   ·rfl
theorem OC{S:St}:∀ {ds:List D} {cs:List C} {ws:List W},(Be ds cs).val S=some ws->ds.length=cs.length /\
  (∀x,x∈ws->∃(k j i:Nat) (t:Ty) (xs:List t.den),x=.upd k j (.tree t xs)/\cs[i]?=some (C.own k j)/\ds[i]?=some (D.list t xs)) /\
  (∀(i k j:Nat),cs[i]?=some (C.own k j)->(∃t xs,bC (S.aJ k) j=.tree t xs)/\∃(t:Ty) (xs:List t.den),W.upd k j (.tree t xs)∈ws) /\
  (∀(i:Nat) (x:D),cs[i]?=some (C.d x)->kU x=none)/\∀i:Nat,cs[i]?≠some C.undef/\∀b o,cs[i]?≠some (C.ptr b o)
 | [],[],ws,h=>by
  simp only[Be,Rd.val,zD]at h;subst h;exact⟨rfl,fun x e=>(by cases e),fun i k j h=>(by simp at h),fun i x h=>(by simp at h),fun i=>⟨by simp,by simp⟩⟩
 | d::ds,[],ws,h=>by simp[Be,Rd.val]at h
 | [],c::cs,ws,h=>by simp[Be,Rd.val]at h
 | d::ds,c::cs,ws,h=>by
  simp only[Be,Rd.aF,zB]at h;obtain⟨ws',s,a⟩:=h;obtain⟨f,u,g,l,m⟩:=OC s;have up:∀x,x∈ws'->∃(k j i:Nat) (t:Ty) (xs:List t.den),x=.upd k j (.tree t xs)/\(c::cs)[i]?=some (C.own k j)/\(d::ds)[i]?=some (D.list t xs):=by
   intro x e;obtain⟨k,j,i,t,xs,n,p,v⟩:=u x e;exact⟨k,j,i+1,t,xs,n,by simpa using p,by simpa using v⟩
  split at a
  ·rename_i k j;simp only[Rd.val]at a;split at a
   ·rename_i w q t xs y;simp only[Rd.val,zD]at a;subst a;refine⟨by simp[f],fun x e=>?_,fun i k' j' hi=>?_,fun i x hi=>?_,fun i=>?_⟩
    ·rcases ba.1 e with rfl | e
     ·exact⟨k,j,0,t,xs,rfl,rfl,rfl⟩
     ·exact up x e
    ·cases i with
     | zero=>
      simp at hi;obtain⟨rfl,rfl⟩:=hi;exact⟨⟨w,q,y⟩,t,xs,ar⟩
     | succ i=>
      obtain⟨n,t',xs',p⟩:=g i k' j' (by simpa using hi);exact⟨n,t',xs',aq _ p⟩
    ·cases i with
     | zero=>simp at hi
     | succ i=>exact l i x (by simpa using hi)
    ·cases i with
     | zero=>exact⟨by simp,by simp⟩
     | succ i=>simpa using m i
   ·cases a
  ·simp only[Rd.val,zD]at a;subst a;refine⟨by simp[f],up,fun i k' j' hi=>?_,fun i x hi=>?_,fun i=>?_⟩
   ·cases i with
    | zero=>simp at hi
    | succ i=>exact g i k' j' (by simpa using hi)
   ·cases i with
    | zero=>simp at hi
    | succ i=>exact l i x (by simpa using hi)
   ·cases i with
    | zero=>exact⟨by simp,by simp⟩
    | succ i=>simpa using m i
  ·cases a
  ·rename_i z r;simp only[Rd.val,zD]at a;subst a;refine⟨by simp[f],up,fun i k' j' hi=>?_,fun i x hi=>?_,fun i=>?_⟩
   ·cases i with
    | zero=>simp at hi
    | succ i=>exact g i k' j' (by simpa using hi)
   ·cases i with
    | zero=>
     simp at hi;subst hi;cases z with
     | list t xs=>exact absurd rfl (r t xs)
     | _=>rfl
    | succ i=>exact l i x (by simpa using hi)
   ·cases i with
    | zero=>exact⟨by simp,by simp⟩
    | succ i=>simpa using m i
  ·cases a
section ops
variable {P:Program} {w0:Bs} {G:Gh} {S:St} {a:Act} {w:World} {o:Oper} {K:Act->World->Prop} {Q:Exit->Act->World->Prop}
theorem lC{c:Call}{f:FuncId}(ho:o.op=.call c)(hc:c.callee=.value (.func f))(hf:callable P f=true) :
  (execOp a.eval o).run P w=.ok (.enter f (c.args.map a.eval)) w:=by
 unfold callable at hf;split at hf
 ·rename_i fn hfn;simp only[zI,Bool.not_eq_true']at hf;have hn : ¬ fn.name = "runtime.NumGoroutine" := by simpa using hf.1
  have hb:¬fn.body=none:=by
   have:=hf.2;cases hbb:fn.body<;>simp_all
  unfold execOp;simp[ho,resolve,hc,Act.eval,Deferred.ofValue,invoke,callFunc,hfn,hn,hb]
 ·cases hf
def tfp(G:Gh)(S:St)(w:World)(k j:Nat)(b:Nat):Prop:=
 ∃t xs fp,bC (S.aJ k) j=.tree t xs/\(∀b,fp b->gJ G k j b)/\Ow w (fun _ _=>False) true (.list t xs) (G.ov k j) fp/\(∀b o,G.S b o->¬fp b)/\fp b
theorem aor(h:Inv w0 G S a w){k j:Nat}{t:Ty}{xs:List t.den}(c:bC (S.aJ k) j=.tree t xs):Ow w (fun _ _=>False) true (.list t xs) (G.ov k j) (tfp G S w k j):=by
 have:=h.owns k j;rw[c]at this;obtain⟨fp,f,d,g⟩:=this;exact d.sub (fun b i=>⟨t,xs,fp,c,f,d,g,i⟩) fun e=>e
theorem SB(h:Inv w0 G S a w){all:List C}(hall:∀(i:Nat) (k j:Nat),all[i]?=some (.own k j)->∃t xs,bC (S.aJ k) j=.tree t xs)(m:∀(i:Nat) (x:D),all[i]?=some (.d x)->kU x=none) :
  ∀ {tys:List (Option Ty)} {cs:List C} {ds:List D} {vs:List Value} {n:Nat} {pre:List C},(cDs tys cs).val S=some ds ->
  tys.length=cs.length->dH G w cs vs->all=pre++cs->pre.length=n->aW (fun i d v=>Ow w (fun _ _=>False) true d v (fun b=>∃k j,all[i]?=some (.own k j)/\tfp G S w k j b)) n ds vs
 | [],[],ds,[],n,pre,hd,_,_,_,_=>by
  simp only[cDs,Rd.val,zD]at hd;subst hd;trivial
 | [],[],ds,_::_,n,pre,_,_,l,_,_=>l.elim
 | [],_::_,ds,vs,n,pre,_,o,_,_,_=>by simp at o
 | _::_,[],ds,vs,n,pre,_,o,_,_,_=>by simp at o
 | ty::tys,c::cs,ds,[],n,pre,_,_,l,_,_=>l.elim
 | ty::tys,c::cs,ds,v::vs,n,pre,hd,o,l,r,u=>by
  simp only[cDs,Rd.aF,zB,Rd.val,zD]at hd;obtain⟨d,f,ds',z,rfl⟩:=hd;have q:all[n]?=some c:=by
   rw[r,List.getElem?_append_right (by omega),u];simp
  refine⟨?_,SB h hall m (pre:=pre++[c]) z (by simpa using o) l.2 (by rw[r];simp) (by simp[u])⟩;have g:=l.1;cases c with
  | undef=>cases f
  | ptr=>cases f
  | nil=>
   simp only[cD]at f;split at f
   ·simp only[Rd.val,zD]at f;subst f;rw[show v=_ from g];exact .nil _ _
   ·cases f
  | d x=>
   simp only[cD,Rd.val,zD]at f;subst f;have:=m n x q;have p:Rep w G.S x v:=g;cases p with
   | int k n=>exact .int k n _
   | bool b=>exact .bool b _
   | str s=>exact .str s _
   | nil=>cases this
   | emp=>cases this
   | list=>cases this
  | own k j=>
   obtain⟨t,xs,y⟩:=hall n k j q;simp only[cD,Rd.val,y,zD]at f;subst f;rw[g.2.1];exact (aor h y).sub (fun b A=>⟨k,j,q,A⟩) fun e=>e
theorem akS(h:Inv w0 G S a w){c:Call}{f:FuncId}(L:o.op=.call c)(hc:c.callee=.value (.func f)){m:Msp}(hf:m.fid=f)(hcall:callable P f=true)(hA:nG w0)(hM:iM P m){x y:Operand}(hxy:c.args.toList=[x,y]){ws:List W}
  (hv:((dR x).bind fun ax=>(avV ax).bind fun v=>(dR y).bind fun ay=>(avD ay).bind fun
        | .int .i64 n=>(vT m.sh v).bind fun z=>.opt (m.fn z n) fun r=>
         if nodupB (aP v.cells)then (Be (m.sh.t.cells r.1) v.cells).bind fun ws=>.ret (ws++fQ o (.v (.one (.d (.int .i64 r.2)))))
         else .fail
        | _=>.fail).val S=some ws)
  (hK:∀a' w' G',Inv w0 G' (S.puts ws) a' w'->K a' w'):o.wp P a w K Q:=by
 simp only[Rd.aF,zB]at hv;obtain⟨ax,h1,v,h2,ay,h3,d,h4,hv⟩:=hv;have V:=nD h4 (bg h h3);split at hv
 case h_2=>cases hv
 rename_i n;simp only[Rd.aF,zB]at hv;obtain⟨z,I,hv⟩:=hv;simp only[Rd.val,zB]at hv;obtain⟨r,h6,hv⟩:=hv;split at hv
 case isFalse=>cases hv
 rename_i X;simp only[Rd.aF,zB,Rd.val,zD]at hv;obtain⟨ws',h8,rfl⟩:=hv;have Y:=qh h2 (bg h h1);obtain⟨t1,t2,t3,t4,t5⟩:=OC h8;have hyv:a.eval y=.int .i64 n:=by
  generalize a.eval y=yv at V;cases V;rfl
 let fps:Nat->Nat->Prop:=fun i b=>∃k j,v.cells[i]?=some (.own k j)/\tfp G S w k j b
 have hT:wM w m.sh z (a.eval x) fps:=by
  simp only[vT]at I;split at I
  ·rename_i R;simp only[Rd.aF,zB,Rd.val]at I;obtain⟨ds,h9,z',h10,Z⟩:=I;simp only[zD]at Z;subst Z;obtain⟨vs,B,M,N⟩:=Y.cells;have:=SB h (all:=v.cells) (fun i k j hi=>(t3 i k j hi).1) t4 (pre:=[]) h9 (by rw[oU];exact R.2.symm) B rfl rfl;rw[<- Ty.dA h10]at this;unfold wM ShR;cases l:m.sh.agg with
   | true=>exact⟨vs,M (by rw[R.1,l]),this⟩
   | false=>rw[N (by rw[R.1,l])]at this;exact this
  ·cases I
 have q:∀i b,fps i b->∃k j,v.cells[i]?=some (.own k j)/\G.ow b=some (.own k j):=by
  rintro i b ⟨k,j,hi,t,xs,fp,_,hfp,_,_,p⟩;exact⟨k,j,hi,hfp b p⟩
 have hlt:∀i c,fps i c->c<w.heap.size:=fun i b p=>by
  obtain⟨k,j,_,L⟩:=q i b p;exact (h.olt _ _ L).2
 have hge:∀i c,fps i c->pO<=c:=fun i b p=>by
  obtain⟨k,j,_,L⟩:=q i b p;exact Nat.le_trans hA.base (h.nM L).1
 have hdis:∀i i' c,fps i c->fps i' c->i=i':=fun i i' b p hb'=>by
  obtain⟨k,j,hi,L⟩:=q i b p;obtain⟨k',j',A,g⟩:=q i' b hb';rw[L]at g;cases g
  exact gX X hi A
 have hSf:∀b oo,G.S b oo->¬ ∃i,fps i b:=by
  rintro b oo l ⟨i,k,j,_,t,xs,fp,_,_,_,hno,p⟩;exact hno b oo l p
 have hargs:c.args.map a.eval = #[a.eval x,.int .i64 n]:=by
  rw[nI hxy];simp[hyv]
 unfold Oper.wp;rw[lC L hc hcall,hargs];subst hf;refine Calls.mono (hM w (a.eval x) z n r fps h6 (hA.keep w h.below) hT (fun i c hc=>⟨hge i c hc,hlt i c hc⟩) hdis) fun e w' he=>?_
 obtain⟨rfl,hoff,C⟩:=he;have hcell:∀b oo,G.S b oo->w'.cell? ⟨b,oo,none⟩=w.cell? ⟨b,oo,none⟩:=fun b oo l=>
  World.cell?_of_block (w:=w) (hoff.block b (h.sok b oo l).1 (hSf b oo l))
 have hm:Mv G G w w':=⟨fun b oo l=>⟨l,hcell b oo l⟩,fun k T=>⟨T,fun _=>rfl⟩,fun i hi=>⟨hi,rfl⟩⟩;obtain⟨p1,p2,p3,p4,p5⟩:=aae ws' (fun x F=>by obtain⟨k,j,i,t,xs,e,_⟩:=t2 x F;exact⟨k,j,_,e⟩) S;have hgT:∀i,(S.puts ws').gZ i=S.gZ i:=fun i=>by simp only[St.gZ,p1]
 have hgB:∀i,(S.puts ws').fP i=S.fP i:=fun i=>by simp only[St.fP,p2]
 have h9:Inv w0 G (S.puts ws') a w':=by
  have hblk:∀k,k<w0.w.heap.size->w'.heap[k]?=w.heap[k]?:=fun k T=>hoff.block k (by have:=h.below.size;omega) (by
   rintro⟨i,hi⟩;obtain⟨k',j',_,g⟩:=q i k hi;have:=(h.nM g).1;omega)
  refine⟨h.below.trans ⟨hoff.os,hoff.tape,hoff.output,hoff.size,fun k T _=>hblk k T⟩,h.nodef,by rw[p1];exact h.tsz,by rw[p1,p2];exact h.bsz,by rw[p1,p3];exact h.osz,fun i u hu=>?_,?_,?_,?_,?_,?_,?_,h.sfr,fun b F=>⟨(h.fx b F).1,fun J=>((h.fx b F).2 J).same (hblk b J)⟩⟩
  ·rw[hgT];exact (h.tmps i u hu).move hm
  ·intro b x F;exact⟨(h.olt b x F).1,aD (h.olt b x F).2 hoff.size⟩
  ·intro b oo l;exact⟨aD (h.sok b oo l).1 hoff.size,(h.sok b oo l).2⟩
  ·intro i cs B;rw[hgB]at B;obtain⟨g,vs,E,hh,hc'⟩:=h.box i cs B;refine⟨g,vs,E,(hoff.block _ (h.olt _ _ g).2 ?_).trans hh,hc'.move hm⟩;rintro⟨i',A⟩;obtain⟨k',j',_,ho2⟩:=q i' _ A;rw[g]at ho2;cases ho2
  ·intro k j;by_cases O:∃y,W.upd k j y∈ws'
   ·obtain⟨y0,hy0⟩:=O;obtain⟨k0,j0,i0,t0,xs0,e0,hi0,_⟩:=t2 _ hy0;cases e0
    obtain⟨⟨tt0,xx0,htree⟩,_⟩:=t3 i0 k j hi0;have hjl:j<(S.aJ k).length:=by
     rcases Nat.lt_or_ge j (S.aJ k).length with J | J
     ·exact J
     ·have:bC (S.aJ k) j=.dead:=by
       simp only[bC,zE];rw[zJ (by omega)];rfl
      rw[this]at htree;cases htree
    have hkl:k<S.owns.length:=by
     rcases Nat.lt_or_ge k S.owns.length with J | J
     ·exact J
     ·have hg0:S.aJ k=[]:=by
       simp only[St.aJ,zE];rw[zJ (by omega)];rfl
      rw[hg0]at htree;cases htree
    obtain⟨y,hy,he⟩:=(p5 k j).1 hkl hjl ⟨_,hy0⟩;obtain⟨k1,j1,D,t',xs',U,H,hd1⟩:=t2 _ hy;cases U
    rw[he];have hii:D=i0:=gX X H hi0;subst hii;refine⟨fps D,fun b p=>?_,?_,fun b oo l p=>hSf b oo l ⟨D,p⟩⟩
    ·obtain⟨k',j',A,g⟩:=q D b p;rw[H]at A;cases A
     exact g
    ·obtain⟨vs,B,M,N⟩:=Y.cells;obtain⟨hl2,hg2⟩:=B.get;have hi1l:D<vs.length:=by
      have:=(zC.1 H).1;omega
     have hcr:=hg2 D _ vs[D] H (by simp[hi1l]);have hval:vs[D]=G.ov k j:=hcr.2.1;have hcells:aW (fun i d v=>Ow w' (fun _ _=>False) true d v (fps i)) 0 (m.sh.t.cells r.1) vs:=by
      simp only[vT]at I;split at I
      ·rename_i R;unfold wM ShR at C;cases l:m.sh.agg with
       | true=>
        rw[l]at C;obtain⟨vs',U,e2⟩:=C;rw[M (by rw[R.1,l])]at U;have:vs'=vs:=by
         injection U with U;have:=congrArg Array.toList U;simpa using this.symm
        rw[<- this];exact e2
       | false=>
        rw[l]at C;rw[N (by rw[R.1,l])];exact C
      ·cases I
     obtain⟨hl3,hg3⟩:=hcells.get;have:=hg3 D _ vs[D] hd1 (by simp[hi1l]);rw[Nat.zero_add,hval]at this;exact this
   ·rw[(p5 k j).2 fun y hy=>O ⟨y,hy⟩];have hnk:∀i b,fps i b->G.ow b≠some (.own k j):=by
     intro i b p hob;obtain⟨k',j',A,g⟩:=q i b p;rw[hob]at g;cases g
     obtain⟨_,t',xs',hu⟩:=t3 i k j A;exact O ⟨_,hu⟩
    have keep:∀b,gJ G k j b->w'.heap[b]?=w.heap[b]?:=fun b p=>hoff.block b (h.olt _ _ p).2 fun⟨i,hi⟩=>hnk i b hi p
    exact (h.owns k j).same rfl hm.s (fun t xs deep m F=>⟨fun b p=>⟨p,keep b p⟩,fun _ _ _ _ _ oo l=>.inl l⟩) fun t xs F b p=>⟨p,keep b p,fun oo l=>l⟩
  ·intro k T e;have:((S.puts ws').aJ k).length=0:=by rw[e];rfl
   rw[p4]at this;exact h.lk k T (List.eq_nil_of_length_eq_zero this)
  ·intro i hi;rw[hgB];exact h.lb i hi
 refine hK _ _ G ?_;rw[fK];exact h9.dst (av:=.v (.one (.d (.int .i64 r.2)))) (Rep.int _ _)
theorem aaj(h:Inv w0 G S a w){k j:Nat}{t:Ty}{xs ys:List t.den}{deep:Bool}(v:bC (S.aJ k) j=.own t xs deep true){w':World}
  (hoff:Off (fun c=>gJ G k j c/\∀o,¬G.S c o) w w') (H:OwT w' G.S deep true t ys (G.ov k j) (gJ G k j)):Inv w0 G (S.puts [.upd k j (.own t ys deep true)]) a w':=by
 have hcell:∀b oo,G.S b oo->w'.cell? ⟨b,oo,none⟩=w.cell? ⟨b,oo,none⟩:=fun b oo g=>
  World.cell?_of_block (w:=w) (hoff.block b (h.sok b oo g).1 fun d=>d.2 oo g)
 have y:Mv G G w w':=⟨fun b oo g=>⟨g,hcell b oo g⟩,fun k z=>⟨z,fun _=>rfl⟩,fun i hi=>⟨hi,rfl⟩⟩;have n:j<(S.aJ k).length:=by
  rcases Nat.lt_or_ge j (S.aJ k).length with l | l
  ·exact l
  ·have:bC (S.aJ k) j=.dead:=by
    simp only[bC,zE];rw[zJ (by omega)];rfl
   rw[this]at v;cases v
 have A:k<S.owns.length:=by
  rcases Nat.lt_or_ge k S.owns.length with l | l
  ·exact l
  ·have B:S.aJ k=[]:=by
    simp only[St.aJ,zE];rw[zJ (by omega)];rfl
   rw[B]at v;cases v
 have C:∀k',(S.di k ((S.aJ k).set j (.own t ys deep true))).aJ k'=if k'=k then (S.aJ k).set j (.own t ys deep true)else S.aJ k':=fun k'=>by
  simp only[St.di,St.aJ,zE,List.getElem?_set];by_cases e:k=k'
  ·subst e;simp[A]
  ·rw[if_neg e,if_neg (Ne.symm e)]
 show Inv w0 G (S.di k ((S.aJ k).set j (.own t ys deep true))) a w'
 have hblk:∀b,b<w0.w.heap.size->w'.heap[b]?=w.heap[b]?:=fun b f=>hoff.block b (by have:=h.below.size;omega) (by
  rintro⟨d,_⟩;have:=(h.nM d).1;omega)
 refine⟨h.below.trans ⟨hoff.os,hoff.tape,hoff.output,hoff.size,fun b f _=>hblk b f⟩,h.nodef,h.tsz,h.bsz,by simp[St.di,h.osz],fun i u I=>?_,?_,?_,?_,?_,?_,?_,h.sfr,fun b p=>⟨(h.fx b p).1,fun l=>((h.fx b p).2 l).same (hblk b l)⟩⟩
 ·exact (h.tmps i u I).move y
 ·intro b x p;exact⟨(h.olt b x p).1,aD (h.olt b x p).2 hoff.size⟩
 ·intro b oo g;exact⟨aD (h.sok b oo g).1 hoff.size,(h.sok b oo g).2⟩
 ·intro i cs D;obtain⟨q,vs,E,hh,F⟩:=h.box i cs D;refine⟨q,vs,E,(hoff.block _ (h.olt _ _ q).2 ?_).trans hh,F.move y⟩;rintro⟨d,_⟩;have d:G.ow (G.bk i)=some (.own k j):=d;rw[q]at d;cases d
 ·intro k' j';by_cases r:k'=k/\j'=j
  ·obtain⟨rfl,rfl⟩:=r;rw[C,if_pos rfl];have:bC ((S.aJ k').set j' (.own t ys deep true)) j'=.own t ys deep true:=by simp[bC,zE,n]
   rw[this];exact H
  ·have e:bC ((S.di k ((S.aJ k).set j (.own t ys deep true))).aJ k') j'=bC (S.aJ k') j':=by
    rw[C];by_cases ek:k'=k
    ·subst ek;rw[if_pos rfl];simp only[bC,zE,List.getElem?_set];rw[if_neg fun e=>r ⟨rfl,e.symm⟩]
    ·rw[if_neg ek]
   rw[e];have keep:∀b,gJ G k' j' b->w'.heap[b]?=w.heap[b]?:=fun b f=>hoff.block b (h.olt _ _ f).2 fun⟨d,_⟩=>by
    have f:G.ow b=some (.own k' j'):=f;have d:G.ow b=some (.own k j):=d;rw[f]at d;cases d
    exact r ⟨rfl,rfl⟩
   exact (h.owns k' j').same rfl y.s (fun t xs deep m p=>⟨fun b f=>⟨f,keep b f⟩,fun _ _ _ _ _ oo g=>.inl g⟩) fun t xs p b f=>⟨f,keep b f,fun oo g=>g⟩
 ·intro k' z e;have:S.aJ k'=[]:=by
   rw[C]at e;by_cases ek:k'=k
   ·subst ek;rw[if_pos rfl]at e;have:=congrArg List.length e;rw[List.length_set]at this;simp at this;rw[this]at n;simp at n
   ·rw[if_neg ek]at e;exact e
  exact h.lk k' z this
 ·intro i hi;exact h.lb i hi
end ops
end Go.Abs
namespace Go.Abs
open Go.RowKit
def pack:List Value->Value
 | [v]=>v
 | vs=>.tuple vs.toArray
def Dv(B:Nat)(w':World)(S:Nat->Nat->Prop)(ex:Bool)(rs:List Sh)(y:Tup rs)(v:Value):Prop:=
 ∃us:List Value,v=pack us/\match ex with
  | true=>∃fps:Nat->Nat->Prop,kH (fun i d u=>Ow w' (fun _ _=>False) true d u (fps i)) 0 rs y us/\(∀i c,fps i c->B<=c/\c<w'.heap.size)/\∀i i' c,fps i c->fps i' c->i=i'
  | false=>∃S':Nat->Nat->Prop,kH (fun _ d u=>Rep w' S' d u) 0 rs y us/\∀b o,S' b o->(S b o\/B<=b)/\b<w'.heap.size
def Sound(P:Program)(s:Fsp):Prop:=∀(w:World) (S:Nat->Nat->Prop) (args:List Value) (x:Tup s.ps) (y:Tup s.rs),s.fn x=some y->amb w ->
 kH (fun _ d u=>Rep w S d u) 0 s.ps x args->(∀b o,S b o->b<w.heap.size) ->
 Calls P s.fid args.toArray w fun e w'=>∃v,e=.returned v/\Below w.heap.size w w'/\Dv w.heap.size w' S s.ex s.rs y v
def NM(w:World)(S:Nat->Nat->Prop)(d:D)(u:Value)(fp:Nat->Prop):Prop:=match d with
 | .list t xs=>OwT w S false true t xs u fp
 | d=>Rep w S d u
def Wl(B:Nat)(w':World)(S':Nat->Nat->Prop)(sh:Bool)(rs:List Sh)(y:Tup rs)(us:List Value):Prop:=match sh with
 | true=>∃fps:Nat->Nat->Prop,kH (fun i d u=>NM w' S' d u (fps i)) 0 rs y us/\(∀i c,fps i c->B<=c/\c<w'.heap.size)/\∀i i' c,fps i c->fps i' c->i=i'
 | false=>kH (fun _ d u=>Rep w' S' d u) 0 rs y us
def SV(P:Program)(s:Fsp):Prop:=∀(w:World) (S:Nat->Nat->Prop) (args:List Value) (x:Tup s.ps) (y:Tup s.rs),s.fn x=some y->amb w ->
 kH (fun _ d u=>Rep w S d u) 0 s.ps x args->(∀b o,S b o->b<w.heap.size) ->
 Calls P s.fid args.toArray w fun e w'=>∃v,e=.returned v/\Below w.heap.size w w'/\∃(S':Nat->Nat->Prop) (us:List Value),v=pack us/\Wl w.heap.size w' S' true s.rs y us /\
  ∀b o,S' b o->(S b o\/w.heap.size<=b)/\b<w'.heap.size
def aop(B:Nat)(w':World)(rs:List Sh)(y:Tup rs)(us:List Value):Prop:=
 ∃fps:Nat->Nat->Prop,kH (fun i d u=>Ow w' (fun _ _=>False) true d u (fps i)) 0 rs y us/\(∀i c,fps i c->B<=c/\c<w'.heap.size)/\∀i i' c,fps i c->fps i' c->i=i'
def alC(B:Nat)(w':World)(S:Nat->Nat->Prop)(bb:Nat)(ex sh:Bool):(rs:List Sh)->Tup rs->Value->Prop
 | [],_,_=>False
 | c::rs,y,v=>∃(S':Nat->Nat->Prop) (vs':List Value) (Et:TypeId) (us:List Value),v=pack us/\w'.heap[bb]?=some (.cells vs'.toArray Et (0,0)) /\
   aW (fun _ d u=>Rep w' S' d u) 0 (c.t.cells (Bd y)) vs'/\(match ex with
    | true=>aop B w' rs (Va y) us
    | false=>Wl B w' S' sh rs (Va y) us)/\∀b o,S' b o->(S b o\/(ex=false/\B<=b))/\b<w'.heap.size
def gQ(P:Program)(s:Fsp):Prop:=∀(w:World) (S:Nat->Nat->Prop) (bb:Nat) (vs:List Value) (Et:TypeId) (args:List Value) (x:Tup s.ps) (y:Tup s.rs),s.fn x=some y->amb w->pO<=bb ->
 w.heap[bb]?=some (.cells vs.toArray Et (0,0))->kH (fun _ d u=>Rep w S d u) 0 s.ps x (.agg vs.toArray::args)->(∀b o,S b o->b<w.heap.size/\b≠bb) ->
 Calls P s.fid (Value.pointer (some ⟨bb,0,none⟩)::args).toArray w fun e w'=>∃v,e=.returned v/\pR (fun c=>c=bb) w.heap.size w w'/\wP w w' bb/\alC w.heap.size w' S bb s.ex s.sh s.rs y v
def aes(P:Program)(s:Fsp):Prop:=∀(w:World) (S:Nat->Nat->Prop) (args:List Value) (x:Tup s.ps) (y:Tup s.rs),s.fn x=some y->amb w ->
 kH (fun _ d u=>Rep w S d u) 0 s.ps x args->(∀b o,S b o->b<w.heap.size) ->
 Calls P s.fid args.toArray w fun e w'=>∃bb,e=.returned (.pointer (some ⟨bb,0,none⟩))/\Below w.heap.size w w'/\w.heap.size<=bb /\
  ∃(vs':List Value) (Et:TypeId) (S':Nat->Nat->Prop),w'.heap[bb]?=some (.cells vs'.toArray Et (0,0))/\aW (fun _ d u=>Rep w' S' d u) 0 (dP s.rs y) vs'/\∀b o,S' b o->(S b o\/w.heap.size<=b)/\b<w'.heap.size/\b≠bb
def Ls(P:Program)(s:Isp):Prop:=∀(w:World) (S:Nat->Nat->Prop) (deep:Bool) (u:Value) (xs ys:List s.t.den) (fp:Nat->Prop),s.fn xs=some ys->amb w ->
 OwT w S deep true s.t xs u fp->(∀c,fp c->c<w.heap.size)->(∀b o,S b o->b<w.heap.size) ->
 Calls P s.fid #[u] w fun e w'=>e=.returned (.tuple #[])/\Off (fun c=>fp c/\∀o,¬S c o) w w'/\OwT w' S deep true s.t ys u fp
def gq(P:Program)(E:Env):Prop:=E.tt.ok P=true/\(∀s,s∈E.fs->callable P s.fid=true/\Sound P s)/\(∀m,m∈E.ms->callable P m.fid=true/\iM P m) /\
 (∀s,s∈E.bs->callable P s.fid=true/\gQ P s)/\(∀s,s∈E.ns->callable P s.fid=true/\aes P s)/\(∀s,s∈E.ss->callable P s.fid=true/\SV P s) /\
 (∀s,s∈E.so->callable P s.fid=true/\Js P s/\∃d,P.underlying s.T=some d/\∀ms,d≠.interface ms) /\
 ∀s,s∈E.is->callable P s.fid=true/\Ls P s
def Ba(P:Program)(E:Env)(w0:Bs):Prop:=E.tt.ok P=true/\(∀s,s∈E.fs->callable P s.fid=true/\Sound P s)/\(∀m,m∈E.ms->callable P m.fid=true/\iM P m) /\
 (∀s,s∈E.bs->callable P s.fid=true/\gQ P s)/\(∀s,s∈E.ns->callable P s.fid=true/\aes P s)/\(∀s,s∈E.ss->callable P s.fid=true/\SV P s) /\
 (∀s,s∈E.so->callable P s.fid=true/\Js P s/\∃d,P.underlying s.T=some d/\∀ms,d≠.interface ms)/\(∀s,s∈E.is->callable P s.fid=true/\Ls P s)/\nG w0
theorem gq.at{P:Program}{E:Env}{w0:Bs}(h:gq P E)(a:nG w0):Ba P E w0:=⟨h.1,h.2.1,h.2.2.1,h.2.2.2.1,h.2.2.2.2.1,h.2.2.2.2.2.1,h.2.2.2.2.2.2.1,h.2.2.2.2.2.2.2,a⟩
theorem Ba.am{P:Program}{E:Env}{w0:Bs}(h:Ba P E w0):nG w0:=h.2.2.2.2.2.2.2.2
theorem aW.imp{R R':Nat->D->Value->Prop}(h:∀i d v,R i d v->R' i d v):∀ {n:Nat} {ds:List D} {vs:List Value},aW R n ds vs->aW R' n ds vs
 | n,[],[],_=>trivial
 | n,d::ds,v::vs,hh=>⟨h _ _ _ hh.1,aW.imp h hh.2⟩
theorem ShR.imp{R R':Nat->D->Value->Prop}(h:∀i d v,R i d v->R' i d v){n:Nat}{s:Sh}{x:s.t.den}{u:Value}(hh:ShR R n s x u):ShR R' n s x u:=by
 unfold ShR at *;split at hh
 ·obtain⟨vs,e,a⟩:=hh;exact⟨vs,e,a.imp h⟩
 ·exact aW.imp h hh
theorem kH.imp{R R':Nat->D->Value->Prop}(h:∀i d v,R i d v->R' i d v):∀ {n:Nat} {ss:List Sh} {y:Tup ss} {us:List Value},kH R n ss y us->kH R' n ss y us
 | n,[],y,[],_=>trivial
 | n,[s],y,[u],hh=>ShR.imp h hh
 | n,s::s'::r,y,u::us,hh=>⟨ShR.imp h hh.1,kH.imp h hh.2⟩
section ops
variable {P:Program} {w0:Bs} {G:Gh} {S:St} {a:Act} {w:World} {o:Oper} {K:Act->World->Prop} {Q:Exit->Act->World->Prop}
theorem DY{d:Nat}{ex:Bool}{R:Nat->D->Value->Prop}(a:∀i x v,R i x v->oQ G w (agp d ex i x) v):∀ {n:Nat} {ds:List D} {vs:List Value},aW R n ds vs->dH G w (Me d ex n ds) vs
 | n,[],[],_=>trivial
 | n,x::ds,v::vs,h=>⟨a _ _ _ h.1,DY a h.2⟩
theorem Z5{d:Nat}{ex:Bool}{R:Nat->D->Value->Prop}(e:∀i x v,R i x v->oQ G w (agp d ex i x) v){n:Nat}{s:Sh}{y:s.t.den}{u:Value}(h:ShR R n s y u):vC G w (mkV' s.agg (Me d ex n (s.t.cells y))) u:=by
 unfold ShR at h;split at h
 ·rename_i b;obtain⟨vs,rfl,a⟩:=h;rw[b];exact⟨vs,rfl,DY e a⟩
 ·rename_i b;rw[b];have a:=DY e h;match f:Me d ex n (s.t.cells y),a with
  | [c],a=>exact a.1
theorem pF{d:Nat}{ex:Bool}{R:Nat->D->Value->Prop}(a:∀i x v,R i x v->oQ G w (agp d ex i x) v):∀ {n:Nat} {ss:List Sh} {y:Tup ss} {us:List Value},kH R n ss y us->oC G w (xP d ex n ss y) us
 | n,[],y,[],_=>trivial
 | n,[s],y,[u],h=>⟨Z5 a h,trivial⟩
 | n,s::s'::r,y,u::us,h=>⟨Z5 a h.1,pF a h.2⟩
theorem sS{vs:List V}{us:List Value}(h:oC G w vs us):jc G w (AO vs) (pack us):=by
 match vs,us,h with
 | [],[],_=>exact⟨[],rfl,trivial⟩
 | [v],[u],h=>exact tH h.1
 | v::v'::r,u::u'::r',h=>exact⟨u::u'::r',rfl,h⟩
def FX(s:Sh)(u:Value):List Value:=match s.agg with
 | true=>u.cells.toList
 | false=>[u]
def qY:List Sh->List Value->List Value
 | s::r,u::us=>FX s u++qY r us
 | _,_=>[]
theorem aW.app{R:Nat->D->Value->Prop}{n:Nat}{ds ds':List D}{vs vs':List Value}(a:aW R n ds vs)(b:aW R (n+ds.length) ds' vs'):aW R n (ds++ds') (vs++vs'):=by
 induction ds generalizing n vs with
 | nil=>cases vs with
  | nil=>simpa using b
  | cons=>exact a.elim
 | cons d ds ih=>cases vs with
  | nil=>exact a.elim
  | cons v vs=>exact⟨a.1,ih a.2 (by rw[show n+1+ds.length=n+(d::ds).length by simp;omega];exact b)⟩
theorem ShR.cells{R:Nat->D->Value->Prop}{n:Nat}{s:Sh}{x:s.t.den}{u:Value}(h:ShR R n s x u):aW R n (s.t.cells x) (FX s u):=by
 unfold ShR at h;unfold FX;split at h
 ·rename_i a;obtain⟨vs,rfl,b⟩:=h;rw[a];exact b
 ·rename_i a;rw[a];exact h
theorem kH.cells{R:Nat->D->Value->Prop}:∀ {n:Nat} {ss:List Sh} {y:Tup ss} {us:List Value},kH R n ss y us->aW R n (dP ss y) (qY ss us)
 | n,[],y,[],_=>trivial
 | n,[s],y,[u],h=>by
  have a:ShR R n s y u:=h;show aW R n (s.t.cells y) (FX s u++[])
  rw[List.append_nil];exact a.cells
 | n,s::s'::r,y,u::us,h=>by
  refine aW.app h.1.cells ?_;rw[Ty.aZ];exact kH.cells h.2
theorem aW.at{R:Nat->D->Value->Prop}{all:List Value}:∀ {n:Nat} {ds:List D} {vs pre post:List Value},aW R n ds vs->pre.length=n->all=pre++vs++post->aW (fun i d u=>R i d u/\all[i]?=some u) n ds vs
 | n,[],[],_,_,_,_,_=>trivial
 | n,d::ds,v::vs,pre,post,h,a,b=>by
  refine⟨⟨h.1,?_⟩,aW.at (pre:=pre++[v]) (post:=post) h.2 (by simp[a]) (by rw[b];simp)⟩;rw[b,a7,List.getElem?_append_right (by omega),a];simp
theorem aW.length{R:Nat->D->Value->Prop}{n:Nat}{ds:List D}{vs:List Value}(h:aW R n ds vs):ds.length=vs.length:=h.get.1
theorem ShR.at{R:Nat->D->Value->Prop}{all:List Value}{n:Nat}{s:Sh}{x:s.t.den}{u:Value}{pre post:List Value}(h:ShR R n s x u)(b:pre.length=n)(a:all=pre++FX s u++post):ShR (fun i d u=>R i d u/\all[i]?=some u) n s x u:=by
 unfold ShR at *;unfold FX at a;cases c:s.agg with
 | true=>
  rw[c]at h a;obtain⟨vs,rfl,e⟩:=h;exact⟨vs,rfl,e.at b a⟩
 | false=>
  rw[c]at h a;exact aW.at h b a
theorem kH.at{R:Nat->D->Value->Prop}{all:List Value}:∀ {n:Nat} {ss:List Sh} {y:Tup ss} {us pre post:List Value},kH R n ss y us->pre.length=n->all=pre++qY ss us++post->kH (fun i d u=>R i d u/\all[i]?=some u) n ss y us
 | n,[],y,[],_,_,_,_,_=>trivial
 | n,[s],y,[u],pre,post,h,b,c=>ShR.at (post:=post) h b (by rw[c];simp[qY])
 | n,s::s'::r,y,u::us,pre,post,h,b,c=>by
  have a:=h.1.cells.length;rw[Ty.aZ]at a;refine⟨ShR.at (post:=qY (s'::r) us++post) h.1 b (by rw[c];simp[qY]),kH.at (pre:=pre++FX s u) (post:=post) h.2 (by simp[b,a]) (by rw[c];simp[qY])⟩
theorem aak(tr:Bool)(ds:List D)(j:Nat):bC (Iu tr ds) j=match ds[j]? with
  | some (.list t xs)=>if tr then .tree t xs else .own t xs true true
  | _=>.dead:=by
 simp only[bC,Iu,zE,List.getElem?_map];cases ds[j]? with
 | none=>rfl
 | some x=>cases x<;>rfl
theorem Inv.Bf:∀(keys:List (Nat×Nat)) {G:Gh} {S:St},Inv w0 G S a w->nodupB keys=true ->
  ∃G',Inv w0 G' (S.puts (keys.map fun q=>.nomut q.1 q.2)) a w/\More G G' (AK G S keys)
 | [],G,S,h,_=>⟨G,h,⟨rfl,rfl,rfl,rfl,rfl,fun b o=>⟨.inl,fun hh=>hh.elim id fun⟨_,_,_,_,_,_,c,_⟩=>by cases c⟩⟩⟩
 | (k,j)::r,G,S,h,u=>by
  obtain⟨v,l⟩:=lF u;obtain⟨B,x,d⟩:=h.WH k j;obtain⟨y,z,i⟩:=Inv.Bf r x l;have hput:∀k' j',(k',j')∈r->bC ((S.put (.nomut k j)).aJ k') j'=bC (S.aJ k') j':=fun k' j' c=>by
   show bC ((S.di k ((S.aJ k).set j (bC (S.aJ k) j).Ff)).aJ k') j'=_
   rw[bH];split
   ·rename_i p;rw[iH];split
    ·rename_i A;have:(k,j)=(k',j'):=by rw[p.1,A.1]
     exact absurd (this▸c) v
    ·rw[p.1]
   ·rfl
  refine⟨y,z,⟨i.ow.trans d.ow,i.ov.trans d.ov,i.bk.trans d.bk,i.lk.trans d.lk,i.lb.trans d.lb,fun b o=>?_⟩⟩;rw[i.s,d.s];constructor
  ·rintro ((n | ⟨k',j',t,xs,deep,m,c,g⟩) | ⟨k',j',t,xs,deep,m,c,g,e,f⟩)
   ·exact .inl n
   ·simp only[List.mem_singleton]at c;exact .inr ⟨k',j',t,xs,deep,m,by rw[c];exact ar,g⟩
   ·rw[hput k' j' c]at g;exact .inr ⟨k',j',t,xs,deep,m,aq _ c,g,by rw[<- d.ow];exact e,by rw[<- d.ov];exact f⟩
  ·rintro (n | ⟨k',j',t,xs,deep,m,c,g,e,f⟩)
   ·exact .inl (.inl n)
   ·rcases ba.1 c with c | c
    ·exact .inl (.inr ⟨k',j',t,xs,deep,m,by simp[c],g,e,f⟩)
    ·exact .inr ⟨k',j',t,xs,deep,m,c,by rw[hput k' j' c];exact g,by rw[d.ow];exact e,by rw[d.ov];exact f⟩
theorem sW{vs:List V}{k j:Nat}{x:V}(a:x∈vs)(h:C.own k j∈x.cells):(k,j)∈aP (vs.flatMap V.cells):=
 iO (List.mem_flatMap.2 ⟨x,a,h⟩)
theorem Inv.afg(h:Inv w0 G S a w)(i:Nat){cs cs':List C}(hi:S.fP i=some cs){w':World}(hoff:pR (fun c=>c=G.bk i) w.heap.size w w')(u:wP w w' (G.bk i)){vs':List Value}{Et:TypeId}(hh:w'.heap[G.bk i]?=some (.cells vs'.toArray Et (0,0)))
  (r:dH G w' cs' vs'):Inv w0 G (S.setB i (some cs')) a w':=by
 obtain⟨q,_⟩:=h.box i cs hi;have z:=h.olt _ _ q;have hcell:∀b o,G.S b o->w'.cell? ⟨b,o,none⟩=w.cell? ⟨b,o,none⟩:=fun b o f=>
  World.cell?_of_block (w:=w) (hoff.block b (h.sok b o f).1 fun e=>(h.sok b o f).2 i (e▸q))
 have A:Mv G G w w':=⟨fun b o f=>⟨f,hcell b o f⟩,fun k E=>⟨E,fun _=>rfl⟩,fun i hi=>⟨hi,rfl⟩⟩;have hilt:i<S.boxes.length:=by
  rcases Nat.lt_or_ge i S.boxes.length with p | p
  ·exact p
  ·simp[St.fP,zE,zJ p]at hi
 have H:=h.below.size;refine⟨h.below.trans ⟨hoff.os,hoff.tape,hoff.output,hoff.size,fun k E B=>hoff.block k (by omega) fun e=>?_⟩,h.nodef,h.tsz,by simp[St.setB,h.bsz],by simp[St.setB,h.osz],fun x v hv=>(h.tmps x v hv).move A,?_,?_,?_,?_,h.lk,?_,h.sfr,fun b l=>⟨(h.fx b l).1,fun p=>by
   by_cases eb:b=G.bk i
   ·subst eb;exact ((h.fx _ l).2 p).trans u
   ·exact ((h.fx b l).2 p).same (hoff.block b (by omega) eb)⟩⟩
 ·subst e;rcases z.1 with F | ⟨_,F⟩
  ·omega
  ·exact B F
 ·intro x y l;exact⟨(h.olt x y l).1,aD (h.olt x y l).2 hoff.size⟩
 ·intro x o f;exact⟨aD (h.sok x o f).1 hoff.size,(h.sok x o f).2⟩
 ·intro x cs'' hcs'';rw[jV]at hcs'';by_cases d:i=x
  ·subst d;rw[if_pos ⟨rfl,hilt⟩]at hcs'';cases hcs''
   exact⟨q,vs',Et,hh,r⟩
  ·rw[if_neg (fun e=>d e.1)]at hcs'';obtain⟨n,vs'',E',D,g⟩:=h.box x cs'' hcs'';refine⟨n,vs'',E',(hoff.block _ (h.olt _ _ n).2 fun e=>?_).trans D,g.move A⟩;rw[e,q]at n;cases n
   exact d rfl
 ·intro k j;have keep:∀c,gJ G k j c->gJ G k j c/\w'.heap[c]?=w.heap[c]?:=fun c g=>⟨g,hoff.block c (h.olt _ _ g).2 fun e=>by
   have hc'':G.ow c=some (.own k j):=g;rw[e,q]at hc'';cases hc''⟩
  exact (h.owns k j).same rfl A.s (fun t xs deep m l=>⟨keep,fun _ _ _ _ _ o f=>.inl f⟩) fun t xs l c r=>⟨(keep c r).1,(keep c r).2,fun o f=>f⟩
 ·intro x l;rw[jV];by_cases d:i=x
  ·rw[if_pos ⟨d,hilt⟩];simp
  ·rw[if_neg (fun e=>d e.1)];exact h.lb x l
theorem Inv.aky(h:Inv w0 G S a w)(i:Nat){cs cs':List C}(hi:S.fP i=some cs){vs:List Value}{Et:TypeId}(hh:w.heap[G.bk i]?=some (.cells vs.toArray Et (0,0)))(b:dH G w cs' vs) :
  Inv w0 G (S.setB i (some cs')) a w:=by
 have c:=h.afg i hi (w':=w) ⟨rfl,rfl,rfl,aw _,fun _ _ _=>rfl⟩ (.refl _ _) hh b;exact c
theorem qP:∀(keys:List (Nat×Nat)) (S:St) (b:Nat),(S.puts (keys.map fun q=>W.nomut q.1 q.2)).fP b=S.fP b
 | [],S,b=>rfl
 | q::r,S,b=>by
  show ((S.put (.nomut q.1 q.2)).puts (r.map fun q=>W.nomut q.1 q.2)).fP b=_
  rw[qP r];rfl
theorem mJ:∀(keys:List (Nat×Nat)) (S:St) (d:Nat),S.aJ d=[]->(S.puts (keys.map fun q=>W.nomut q.1 q.2)).aJ d=[]
 | [],S,d,h=>h
 | q::r,S,d,h=>by
  show ((S.put (.nomut q.1 q.2)).puts (r.map fun q=>W.nomut q.1 q.2)).aJ d=[]
  refine mJ r _ d ?_;show (S.di q.1 ((S.aJ q.1).set q.2 (bC (S.aJ q.1) q.2).Ff)).aJ d=[]
  rw[bH];split
  ·rename_i a;rw[a.1,h];rfl
  ·exact h
theorem kH.cellsAll{R:Nat->D->Value->Prop}{Q:D->Prop}:∀ {n:Nat} {ss:List Sh} {y:Tup ss} {us:List Value},kH R n ss y us->(∀d,d∈dP ss y->Q d)->kH (fun i d u=>R i d u/\Q d) n ss y us:=by
 have key:∀ {n:Nat} {ds:List D} {vs:List Value},aW R n ds vs->(∀d,d∈ds->Q d)->aW (fun i d u=>R i d u/\Q d) n ds vs:=by
  intro n ds;induction ds generalizing n with
  | nil=>intro vs b _;cases vs with
   | nil=>trivial
   | cons=>exact b.elim
  | cons d ds ih=>intro vs b c;cases vs with
   | nil=>exact b.elim
   | cons v vs=>exact⟨⟨b.1,c d ar⟩,ih b.2 fun dd a=>c dd (aq _ a)⟩
 have keyS:∀ {n:Nat} {s':Sh} {x:s'.t.den} {u:Value},ShR R n s' x u->(∀d,d∈s'.t.cells x->Q d)->ShR (fun i d u=>R i d u/\Q d) n s' x u:=by
  intro n s' x u hh a;unfold ShR at *;split at hh
  ·obtain⟨vs,e,f⟩:=hh;exact⟨vs,e,key f a⟩
  ·exact key hh a
 intro n ss;induction ss generalizing n with
 | nil=>intro y us hh _;cases us with
  | nil=>trivial
  | cons=>exact hh.elim
 | cons g r ih=>
  intro y us hh a;cases r with
  | nil=>cases us with
   | nil=>exact hh.elim
   | cons u us=>cases us with
    | nil=>exact keyS hh a
    | cons=>exact hh.elim
  | cons h r=>cases us with
   | nil=>exact hh.elim
   | cons u us=>exact⟨keyS hh.1 fun dd hd=>a dd (List.mem_append_left _ hd),ih hh.2 fun dd hd=>a dd (List.mem_append_right _ hd)⟩
theorem aiM(ds:List D)(j:Nat):bC (agx ds) j=match ds[j]? with
  | some (.list t xs)=>.own t xs false true
  | _=>.dead:=by
 simp only[bC,agx,zE,List.getElem?_map];cases ds[j]? with
 | none=>rfl
 | some x=>cases x<;>rfl
theorem OwT.rest{w:World}{S S':Nat->Nat->Prop}{deep m:Bool}{t:Ty}{xs:List t.den}{v:Value}{fp fp':Nat->Prop}(h:OwT w S deep m t xs v fp)(q:∀b o,S b o->S' b o)
  (r:∀b,fp b->∀o,S' b o->S b o) (p:∀b,fp b->fp' b):OwT w S' deep m t xs v fp':=by
 rcases h with h | ⟨b,cap,arr,E,vs,fps,rfl,s,hcap,hmax,g,a,u,k,e,hdis,l⟩
 ·exact .inl h
 ·exact .inr ⟨b,cap,arr,E,vs,fps,rfl,s,hcap,hmax,g,p _ a,u,fun i x j d y hd=>(k i x j d y hd).move (fun b o n=>⟨q b o n,rfl⟩) fun _ _=>rfl,fun i j c f=>⟨p _ (e i j c f).1,(e i j c f).2⟩,hdis,fun o n=>l o (r b a o n)⟩
theorem Inv.alF(h:Inv w0 G S a w){B:Nat}(L:∀c x,G.ow c=some x->c<B)(N:w0.w.heap.size<=B){S':Nat->Nat->Prop}{sh:Bool}{rs:List Sh}{y:Tup rs}{us:List Value}(hres:Wl B w S' sh rs y us)
  (m:∀b o,S' b o->G.S b o) (hSB:∀b o,B<=b->G.S b o->S' b o) {o:Oper} {S0:St} (O:∀d,S0.aJ d=[]->S.aJ d=[]) {ws:List W} (hv:(aeN o sh rs y).val S0=some ws) :
  ∃G',Inv w0 G' (S.puts ws) (a.put o.dst (pack us)) w:=by
 unfold aeN at hv;cases hdst:o.dst with
 | none=>
  rw[hdst]at hv;simp only[Rd.val,zD]at hv;subst hv;exact⟨G,h⟩
 | some d=>
  rw[hdst]at hv;simp only at hv;split at hv
  case isFalse hcond=>
   simp only[Rd.val,zD]at hv
   subst hv
   refine⟨G,h.iR d (av:=AO (xP d false 0 rs y)) ?_⟩
   cases sh with
   | false=>
    refine sS (pF (R:=fun _ dd u=>Rep w S' dd u) (fun i dd u p=>?_) hres)
    have g:Rep w G.S dd u:=p.move fun b o f=>⟨m b o f,rfl⟩
    cases dd with
    | list t xs=>exact g
    | int=>exact g
    | bool=>exact g
    | str=>exact g
   | true=>
    obtain⟨fps,C,_⟩:=hres
    refine sS (pF (R:=fun i dd u=>NM w S' dd u (fps i)/\kU dd=none) (fun i dd u p=>?_) (C.cellsAll fun dd P=>?_))
    ·obtain⟨p,hd⟩:=p;cases dd with
     | list t xs=>cases hd
     | int k n=>exact Rep.move (S:=S') p fun b o f=>⟨m b o f,rfl⟩
     | bool b=>exact Rep.move (S:=S') p fun b o f=>⟨m b o f,rfl⟩
     | str v=>exact Rep.move (S:=S') p fun b o f=>⟨m b o f,rfl⟩
    ·cases dd with
     | list t xs=>exact absurd (by rw[Bool.true_and];exact List.any_eq_true.2 ⟨_,P,rfl⟩) hcond
     | _=>rfl
  case isTrue hcond=>
   rw[zI]at hcond
   obtain⟨rfl,hany⟩:=hcond
   obtain⟨fps,C,q,E⟩:=hres
   simp only[Rd.aF,zB,Rd.val,zD]at hv
   obtain⟨ws',Q,rfl⟩:=hv
   obtain⟨F,rfl⟩:=gI Q
   by_cases l:d<S.tmps.length
   case neg=>
    refine⟨G,?_⟩
    show Inv w0 G ((S.di d _).iR d _) _ _
    rw[Iq h.tsz l,Bl (by rw[h.osz];exact l),Bj l]
    exact h
   generalize hvals0:qY rs us=vals at *
   have hvals:aW (fun i d u=>NM w S' d u (fps i)) 0 (dP rs y) vals:=hvals0▸C.cells
   obtain⟨H,I⟩:=hvals.get
   classical
   have J:agx (dP rs y)≠[]:=by
    intro e;have:dP rs y=[]:=by
     simp only[agx,List.map_eq_nil_iff]at e;exact e
    rw[this]at hany;cases hany
   obtain⟨T,U,K,V,X⟩:=h.XQ d (agx (dP rs y)) (fun i=>vals.getD i undef) (fun c=>if hh:∃i,fps i c then some hh.choose else none) (O d F) l J
    (fun c i r=>by
     split at r
     ·rename_i hh;obtain⟨Y,Z⟩:=q _ _ hh.choose_spec;refine⟨Nat.le_trans N Y,Z,fun i z=>?_,fun k' j' _ _ _ _ z=>?_⟩
      ·exact absurd (L _ _ z) (by omega)
      ·exact absurd (L _ _ z) (by omega)
     ·cases r)
    (fun j=>by
     rw[aiM];cases M:(dP rs y)[j]? with
     | none=>trivial
     | some dd=>
      cases dd with
      | int=>trivial
      | bool=>trivial
      | str=>trivial
      | list t xs=>
       have A:j<vals.length:=by rw[<- H];exact (zC.1 M).1
       have:=I j _ vals[j] M (by simp[A]);rw[Nat.zero_add]at this;have e:vals.getD j undef=vals[j]:=by simp[A]
       have q1:∀c,fps j c->(if hh:∃i,fps i c then some hh.choose else none)=some j:=fun c r=>by
        have hh:∃i,fps i c:=⟨j,r⟩;rw[dif_pos hh];exact congrArg some (E _ _ _ hh.choose_spec r)
       show OwT w G.S false true t xs (vals.getD j undef) _
       rw[e];exact OwT.rest (S:=S') this m (fun b z o f=>hSB b o (q _ _ z).1 f) q1)
   have hTa:=C.at (all:=vals) (pre:=[]) (post:=[]) rfl (by rw[<- hvals0];simp)
   have hTa':kH (fun i d u=>(NM w S' d u (fps i)/\vals[i]?=some u)) 0 rs y us:=hTa
   refine⟨T,U.iR d (av:=AO (xP d true 0 rs y)) (sS (pF (R:=fun i d u=>(NM w S' d u (fps i)/\vals[i]?=some u)) ?_ hTa'))⟩
   rintro i dd u ⟨D,hu⟩
   cases dd with
   | list t xs=>
    refine⟨V,?_,(OwT.ow D).one⟩
    rw[X]
    simp[hu]
   | int k n=>exact Rep.move (S:=S') D fun b o f=>⟨(K.s b o (m b o f)).1,rfl⟩
   | bool b=>exact Rep.move (S:=S') D fun b o f=>⟨(K.s b o (m b o f)).1,rfl⟩
   | str v=>exact Rep.move (S:=S') D fun b o f=>⟨(K.s b o (m b o f)).1,rfl⟩
theorem Inv.alG(h:Inv w0 G S a w){B:Nat}(I:∀c x,G.ow c=some x->c<B)(M:w0.w.heap.size<=B)(hSB:∀b o,G.S b o->b<B){tr:Bool}{rs:List Sh}{y:Tup rs}{us:List Value}(hres:aop B w rs y us)
  {o:Oper} {S0:St} (N:∀d,S0.aJ d=[]->S.aJ d=[]) {ws:List W} (hv:(ajK o tr rs y).val S0=some ws) :
  ∃G',Inv w0 G' (S.puts ws) (a.put o.dst (pack us)) w:=by
 obtain⟨fps,s,m,z⟩:=hres;have scalar:∀ {G':Gh} {d:Nat} {ex:Bool} {i:Nat} {dd:D} {u:Value},kU dd=none->(∃S' fp,Ow w S' true dd u fp)->oQ G' w (agp d ex i dd) u:=by
  rintro G' d ex i dd u hd ⟨S',fp,l⟩;cases l with
  | int k n=>exact Rep.int _ _
  | bool b=>exact Rep.bool _
  | str v=>exact Rep.str _
  | nil=>cases hd
  | ro _ _ _ A=>cases A
  | list=>cases hd
 unfold ajK at hv;cases hdst:o.dst with
 | none=>
  rw[hdst]at hv;simp only[Rd.val,zD]at hv;subst hv;exact⟨G,h⟩
 | some d=>
  rw[hdst]at hv;simp only at hv;by_cases hany:(dP rs y).any isList=true
  ·rw[if_pos hany]at hv;simp only[Rd.aF,zB,Rd.val,zD]at hv;obtain⟨ws',O,rfl⟩:=hv;obtain⟨C,rfl⟩:=gI O;by_cases g:d<S.tmps.length
   case neg=>
    refine⟨G,?_⟩
    show Inv w0 G ((S.di d _).iR d _) _ _
    rw[Iq h.tsz g,Bl (by rw[h.osz];exact g),Bj g]
    exact h
   generalize hvals0:qY rs us=vals at *;have hvals:aW (fun i d u=>Ow w (fun _ _=>False) true d u (fps i)) 0 (dP rs y) vals:=hvals0▸s.cells;obtain⟨E,F⟩:=hvals.get;classical
   have H:Iu tr (dP rs y)≠[]:=by
    intro e;have:dP rs y=[]:=by
     simp only[Iu,List.map_eq_nil_iff]at e;exact e
    rw[this]at hany;cases hany
   obtain⟨P,Q,m7,T,U⟩:=h.XQ d (Iu tr (dP rs y)) (fun i=>vals.getD i undef) (fun c=>if hh:∃i,fps i c then some hh.choose else none) (N d C) g H
    (fun c i p=>by
     split at p
     ·rename_i hh;obtain⟨V,X⟩:=m _ _ hh.choose_spec;refine⟨Nat.le_trans M V,X,fun i q=>?_,fun k' j' _ _ _ _ q=>?_⟩
      ·exact absurd (I _ _ q) (by omega)
      ·exact absurd (I _ _ q) (by omega)
     ·cases p)
    (fun j=>by
     rw[aak];cases J:(dP rs y)[j]? with
     | none=>trivial
     | some dd=>
      cases dd with
      | int=>trivial
      | bool=>trivial
      | str=>trivial
      | list t xs=>
       have r:j<vals.length:=by rw[<- E];exact (zC.1 J).1
       have:=F j _ vals[j] J (by simp[r]);rw[Nat.zero_add]at this;have e:vals.getD j undef=vals[j]:=by simp[r]
       have K:∀c,fps j c->(if hh:∃i,fps i c then some hh.choose else none)=some j:=fun c p=>by
        have hh:∃i,fps i c:=⟨j,p⟩;rw[dif_pos hh];exact congrArg some (z _ _ _ hh.choose_spec p)
       have L:∀b oo,G.S b oo->¬fps j b:=fun b oo Y q=>by
        have:=hSB b oo Y;have:=(m _ _ q).1;omega
       cases Z:tr with
       | false=>
        show OwT w G.S true true t xs (vals.getD j undef) _
        rw[e];exact aiL this K L
       | true=>
        refine⟨fps j,K,?_,L⟩;rw[e];exact this)
   have hTa:=s.at (all:=vals) (pre:=[]) (post:=[]) rfl (by rw[<- hvals0];simp);have hTa':kH (fun i d u=>(Ow w (fun _ _=>False) true d u (fps i)/\vals[i]?=some u)) 0 rs y us:=hTa;refine⟨P,Q.iR d (av:=AO (xP d true 0 rs y)) (sS (pF (R:=fun i d u=>(Ow w (fun _ _=>False) true d u (fps i)/\vals[i]?=some u)) ?_ hTa'))⟩;rintro i dd u ⟨l,hu⟩;cases f:kU dd with
   | none=>exact scalar f ⟨_,_,l⟩
   | some t=>
    cases dd with
    | int=>cases f
    | bool=>cases f
    | str=>cases f
    | list t' xs=>
     refine⟨T,?_,l.one⟩;rw[U];simp[hu]
  ·rw[if_neg hany]at hv;simp only[Rd.val,zD]at hv;subst hv;refine⟨G,h.iR d (av:=AO (xP d true 0 rs y)) (sS (pF (R:=fun i dd u=>Ow w (fun _ _=>False) true dd u (fps i)/\kU dd=none) (fun i dd u l=>scalar l.2 ⟨_,_,l.1⟩) (s.cellsAll fun dd hm=>?_)))⟩;cases dd with
   | list t xs=>exact absurd (List.any_eq_true.2 ⟨_,hm,rfl⟩) hany
   | _=>rfl
theorem aiS(h:Inv w0 G S a w){c:Call}{f:FuncId}(r:o.op=.call c)(l:c.callee=.value (.func f)){E:Env}(q:Ba P E w0){ws:List W}(hv:(aoQ E o c f).val S=some ws)
  (u:∀a' w' G',Inv w0 G' (S.puts ws) a' w'->K a' w'):o.wp P a w K Q:=by
 unfold aoQ at hv;split at hv
 case h_2=>cases hv
 rename_i s x i y;have hfid:s.fid=f:=by have:=List.find?_some i;simpa using this
 obtain⟨hcall,hsound⟩:=q.2.2.2.2.2.2.2.1 s (List.mem_of_find?_eq_some i);simp only[Rd.aF,zB]at hv;obtain⟨ax,z,v,A,hv⟩:=hv;split at hv
 case h_2=>cases hv
 rename_i k j;simp only[Rd.val]at hv;split at hv
 case h_2=>cases hv
 rename_i t xs deep hown;split at hv
 case isFalse=>cases hv
 rename_i m;subst m;simp only[Rd.val,zB,zD]at hv;obtain⟨ys,B,rfl⟩:=hv;have n:vC G w (.one (.own k j)) (a.eval x):=qh A (bg h z);have d:a.eval x=G.ov k j:=n.2.1;have p:OwT w G.S deep true s.t xs (a.eval x) (gJ G k j):=by
  have:=h.owns k j;rw[hown]at this;rw[d];exact this
 have hargs:c.args.map a.eval = #[a.eval x]:=by
  have:c.args = #[x]:=oV y;rw[this];simp
 unfold Oper.wp;rw[lC r l (hfid▸hcall),<- hfid,hargs];refine Calls.mono (hsound w G.S deep (a.eval x) xs ys (gJ G k j) B (q.am.keep w h.below) p (fun c l=>(h.olt _ _ l).2) (fun b o i=>(h.sok b o i).1)) fun e w' C=>?_
 obtain⟨rfl,hoff,g⟩:=C;rw[d]at g;have D:=aaj h hown hoff g;refine u _ _ G ?_;exact D.dst (o:=o) (av:=.tup []) (v:=.tuple #[]) ⟨[],rfl,trivial⟩
theorem aiR(h:Inv w0 G S a w){c:Call}{f:FuncId}(H:o.op=.call c)(I:c.callee=.value (.func f)){E:Env}(q:Ba P E w0){ws:List W}(hv:(aoP E o c f).val S=some ws)
  (r:∀a' w' G',Inv w0 G' (S.puts ws) a' w'->K a' w'):o.wp P a w K Q:=by
 unfold aoP at hv;split at hv
 case h_2=>exact aiS h H I q hv r
 rename_i s g;have hfid:s.fid=f:=by have:=List.find?_some g;simpa using this
 obtain⟨hcall,hsound⟩:=q.2.2.2.2.2.1 s (List.mem_of_find?_eq_some g);simp only[Rd.aF,zB]at hv;obtain⟨vs,L,z,M,hv⟩:=hv;simp only[Rd.val,zB]at hv;obtain⟨y,N,hv⟩:=hv;split at hv
 case isFalse=>cases hv
 rename_i u;simp only[Rd.aF,zB,Rd.val,zD]at hv;obtain⟨ws',O,rfl⟩:=hv;have A:=uV h L;generalize hkeys:aP (vs.flatMap V.cells)=keys at *;have hargs:(c.args.map a.eval)=(c.args.toList.map a.eval).toArray:=by cases c.args;simp
 have R:=yX h keys 0 M A fun k j z' T U=>by rw[<- hkeys];exact sW T U
 obtain⟨J,n,X⟩:=Inv.Bf keys h u;unfold Oper.wp;rw[lC H I (hfid▸hcall),<- hfid,hargs];refine Calls.mono (hsound w J.S (c.args.toList.map a.eval) z y N (q.am.keep w h.below) (R.imp fun i d v Y=>Y.move fun bb oo g=>⟨(X.s bb oo).2 g,rfl⟩) fun bb oo g=>(n.sok bb oo g).1) fun e w' Z=>?_
 obtain⟨v,rfl,hbel,S2,us,rfl,hres,p⟩:=Z;have h6:=n.grow hbel;have l:∀bb,w.heap.size<=bb->∀x,J.ow bb≠some x:=fun bb C x D=>by
  have:=(n.olt _ _ D).2;omega
 obtain⟨h7,m7⟩:=h6.aeo (fun bb oo=>w.heap.size<=bb/\S2 bb oo) (fun bb oo hh=>⟨(p bb oo hh.2).2,fun i=>l bb hh.1 _,fun k j t xs deep m _ len cap _ F=>absurd F (l bb hh.1 _)⟩)
  (fun bb oo hh=>Nat.le_trans h.below.size hh.1) (fun bb oo hh k j t xs _=>l bb hh.1 _)
 obtain⟨G8,h8⟩:=h7.alF (B:=w.heap.size) (fun c x D=>(n.olt _ _ D).2) h.below.size hres (fun b o g=>(p b o g).1.imp id fun C=>⟨C,g⟩) (fun b o C g=>g.elim (fun g=>absurd (n.sok b o g).1 (by omega)) fun g=>g.2)
  (S0:=S) (fun d hd=>mJ keys S d hd) O
 simp only[fK]at r;exact r _ _ _ h8
theorem aiT(h:Inv w0 G S a w){c:Call}{f:FuncId}(ho:o.op=.call c)(hc:c.callee=.value (.func f)){E:Env}(T:Ba P E w0){ws:List W}(hv:(aoR E o c f).val S=some ws)
  (hK:∀a' w' G',Inv w0 G' (S.puts ws) a' w'->K a' w'):o.wp P a w K Q:=by
 unfold aoR at hv;split at hv
 ·rename_i s x xs g hxs;have hfid:s.fid=f:=by have:=List.find?_some g;simpa using this
  obtain⟨hcall,hsound⟩:=T.2.2.2.1 s (List.mem_of_find?_eq_some g);simp only[Rd.aF,zB]at hv;obtain⟨ap,h1,hv⟩:=hv;have hpr:=bg h h1;split at hv
  case h_2=>cases hv
  rename_i b;simp only[Rd.val]at hv;split at hv
  case h_2=>cases hv
  rename_i cs hcs;simp only[Rd.aF,zB]at hv;obtain⟨vs,h2,z,h3,hv⟩:=hv;simp only[Rd.val,zB]at hv;obtain⟨y,h4,hv⟩:=hv;obtain⟨hob,U,E0,hh0,hcs0⟩:=h.box b cs hcs;have hptr:a.eval x=.pointer (some ⟨G.bk b,0,none⟩):=hpr.2;have X:=uV h h2;have hvs':oC G w (.agg cs::vs) (.agg U.toArray::xs.map a.eval):=⟨⟨U,rfl,hcs0⟩,X⟩;have hargs:(c.args.map a.eval)=(Value.pointer (some ⟨G.bk b,0,none⟩)::xs.map a.eval).toArray:=by
   have:c.args.map a.eval=(c.args.toList.map a.eval).toArray:=by cases c.args;simp
   rw[this,hxs];simp[hptr]
  generalize hkeys:aP ((V.agg cs::vs).flatMap V.cells)=keys at *;have main:∀(rs:List Sh) (y:Tup rs),(aj6 o s.ex E.trees s.sh b cs.length keys rs y).val S=some ws ->
    (∀(S1:Nat->Nat->Prop),(∀bb oo,(G.S bb oo\/AK G S keys bb oo)->S1 bb oo)->(∀bb oo,S1 bb oo->bb<w.heap.size/\bb≠G.bk b) ->
     Calls P f (c.args.map a.eval) w fun e w'=>∃v,e=.returned v/\pR (fun c=>c=G.bk b) w.heap.size w w'/\wP w w' (G.bk b)/\alC w.heap.size w' S1 (G.bk b) s.ex s.sh rs y v)->o.wp P a w K Q:=by
   intro rs y hv hcalls;cases rs with
   | nil=>cases hv
   | cons c0 rs=>
   rw[aj6]at hv;split at hv
   case isFalse=>cases hv
   split at hv
   case isFalse=>cases hv
   split at hv
   case isFalse=>cases hv
   rename_i hca hct Y;simp only[Rd.aF,zB,Rd.val,zD]at hv;obtain⟨ws',r,rfl⟩:=hv;obtain⟨H,A,m5⟩:=Inv.Bf keys h Y;have I:∀bb oo,H.S bb oo->bb<w.heap.size/\bb≠G.bk b:=fun bb oo g=>⟨(A.sok bb oo g).1,fun e=>(A.sok bb oo g).2 b (by rw[m5.ow,e];exact hob)⟩
   unfold Oper.wp;rw[lC ho hc (hfid▸hcall)];refine Calls.mono (hcalls H.S (fun bb oo hh=>(m5.s bb oo).2 hh) I) fun e w' he=>?_
   obtain⟨v,rfl,hoff,hkl,S2,vs',Et',us,rfl,J,hcont,O,l⟩:=he;have L:H.bk b=G.bk b:=by rw[m5.bk]
   have hgb:(S.puts (keys.map fun q=>W.nomut q.1 q.2)).fP b=some cs:=by rw[qP];exact hcs
   obtain⟨Z,M⟩:=hcont.get;have h6:Inv w0 H ((S.puts (keys.map fun q=>W.nomut q.1 q.2)).setB b (some (List.replicate vs'.length .undef))) a w':=by
    refine A.afg b hgb (by rw[L];exact hoff) (by rw[L];exact hkl) (by rw[L];exact J) (dH.mk (by simp) fun i c1 v1 p F=>?_);have:c1=.undef:=by
     have:=zG p;exact (List.mem_replicate.1 this).2
    subst this;have hl:i<(c0.t.cells (Bd y)).length:=by
     have:=(zC.1 F).1;omega
    exact (M i _ v1 (zF hl) F).one
   have hw':=hoff.size;have n:∀bb,w.heap.size<=bb->∀x,H.ow bb≠some x:=fun bb R x N=>by
    have:=(A.olt _ _ N).2;omega
   obtain⟨h7,m7⟩:=h6.aeo (fun bb oo=>w.heap.size<=bb/\S2 bb oo) (fun bb oo hh=>⟨(l bb oo hh.2).2,fun i=>n bb hh.1 _,fun k j t xs deep m _ len cap _ how=>absurd how (n bb hh.1 _)⟩)
    (fun bb oo hh=>Nat.le_trans h.below.size hh.1) (fun bb oo hh k j t xs _=>n bb hh.1 _)
   have hmv:∀ {dd:D} {u:Value},Rep w' S2 dd u->Rep w' (fun bb oo=>H.S bb oo\/(w.heap.size<=bb/\S2 bb oo)) dd u:=fun hr=>hr.move fun bb oo g=>⟨(l bb oo g).1.imp id fun R=>⟨R.2,g⟩,rfl⟩
   have hblt:b<(S.puts (keys.map fun q=>W.nomut q.1 q.2)).boxes.length:=by
    rcases Nat.lt_or_ge b (S.puts (keys.map fun q=>W.nomut q.1 q.2)).boxes.length with hl | hl
    ·exact hl
    ·have:=hgb;simp[St.fP,zE,zJ hl]at this
   have h8:=h7.aky b (cs':=(c0.t.cells (Bd y)).map .d) (vs:=vs') (Et:=Et') (by
     rw[jV,if_pos ⟨rfl,hblt⟩]) (by show w'.heap[H.bk b]?=_;rw[L];exact J)
    (dH.mk (by simp[Z]) fun i c1 v1 p F=>by
     rw[List.getElem?_map,Option.map_eq_some_iff]at p;obtain⟨d1,hd1,rfl⟩:=p;exact hmv (M i d1 v1 hd1 F))
   have eS:((S.puts (keys.map fun q=>W.nomut q.1 q.2)).setB b (some (List.replicate vs'.length C.undef))).setB b (some ((c0.t.cells (Bd y)).map .d))=(S.puts (keys.map fun q=>W.nomut q.1 q.2)).setB b (some ((c0.t.cells (Bd y)).map .d)):=by
    simp[St.setB]
   rw[eS]at h8;have hO:∀d,S.aJ d=[]->((S.puts (keys.map fun q=>W.nomut q.1 q.2)).setB b (some ((c0.t.cells (Bd y)).map .d))).aJ d=[]:=fun d hd=>by rw[ag2];exact mJ keys S d hd
   simp only[fK]at hK;cases hex:s.ex with
   | false=>
    rw[hex]at O r;obtain⟨G8,h10⟩:=h8.alF (B:=w.heap.size) (fun c x N=>(A.olt _ _ N).2) h.below.size O (fun b o g=>(l b o g).1.imp id fun R=>⟨R.2,g⟩) (fun b o R g=>g.elim (fun g=>absurd (A.sok b o g).1 (by omega)) fun g=>g.2)
     (S0:=S) hO r
    exact hK _ _ _ h10
   | true=>
    rw[hex]at O r;obtain⟨G8,h10⟩:=h8.alG (B:=w.heap.size) (fun c x N=>(A.olt _ _ N).2) h.below.size (fun b o g=>g.elim (fun g=>(A.sok b o g).1) fun g=>((l b o g.2).1.elim (fun q=>(I b o q).1) fun q=>by rw[hex]at q;cases q.1)) O (S0:=S) hO r;exact hK _ _ _ h10
  refine main s.rs y hv fun S1 I hlt=>?_
  have O:=yX h keys 0 h3 hvs' fun k j z' hz hm=>by
   rw[<- hkeys];exact sW hz hm
  rw[<- hfid,hargs];exact hsound w S1 (G.bk b) U E0 (xs.map a.eval) z y h4 (T.am.keep w h.below) (by rcases (h.olt _ _ hob).1 with hh | hh;exact Nat.le_trans T.am.base hh;exact T.am.rows _ hh.2) hh0 (O.imp fun i d v hr=>hr.move fun bb oo g=>⟨I bb oo g,rfl⟩) hlt
 ·split at hv
  case h_2=>exact aiR h ho hc T hv hK
  rename_i s d g hd;have hfid:s.fid=f:=by have:=List.find?_some g;simpa using this
  obtain⟨hcall,hsound⟩:=T.2.2.2.2.1 s (List.mem_of_find?_eq_some g);simp only[Rd.aF,zB]at hv;obtain⟨vs,h2,z,h3,hv⟩:=hv;simp only[Rd.val,zB]at hv;obtain⟨y,h4,hv⟩:=hv;split at hv
  case isFalse=>cases hv
  rename_i Y;simp only[Rd.aF,zB,Rd.val,zD]at hv;obtain⟨ws',r,rfl⟩:=hv;unfold zU at r;split at r
  case isTrue=>cases r
  rename_i hd0;simp only[Rd.val]at r;split at r
  case h_2=>cases r
  rename_i hgB;simp only[Rd.val,zD]at r;subst r;have X:=uV h h2;generalize hkeys:aP (vs.flatMap V.cells)=keys at *;have hargs:(c.args.map a.eval)=(c.args.toList.map a.eval).toArray:=by cases c.args;simp
  have O:=yX h keys 0 h3 X fun k j z' hz hm=>by rw[<- hkeys];exact sW hz hm
  obtain⟨H,A,m5⟩:=Inv.Bf keys h Y;unfold Oper.wp;rw[lC ho hc (hfid▸hcall),<- hfid,hargs];refine Calls.mono (hsound w H.S (c.args.toList.map a.eval) z y h4 (T.am.keep w h.below) (O.imp fun i d v hr=>hr.move fun bb oo g=>⟨(m5.s bb oo).2 g,rfl⟩) fun bb oo g=>(A.sok bb oo g).1) fun e w' he=>?_
  obtain⟨bb,rfl,hbel,hbb,vs',Et',S2,J,hcont,l⟩:=he;have h6:=A.grow hbel;have n:∀bb,w.heap.size<=bb->∀x,H.ow bb≠some x:=fun bb R x N=>by
   have:=(A.olt _ _ N).2;omega
  obtain⟨h7,m7⟩:=h6.aeo (fun bb oo=>w.heap.size<=bb/\S2 bb oo) (fun bb oo hh=>⟨(l bb oo hh.2).2.1,fun i=>n bb hh.1 _,fun k j t xs deep m _ len cap _ how=>absurd how (n bb hh.1 _)⟩)
   (fun bb oo hh=>Nat.le_trans h.below.size hh.1) (fun bb oo hh k j t xs _=>n bb hh.1 _)
  obtain⟨Z,M⟩:=hcont.get;obtain⟨G8,h8⟩:=h7.zU d bb hd0 (by rw[qP];exact hgB) (Nat.le_trans h.below.size hbb)
   (by
    show H.ow bb=none
    cases N:H.ow bb with
     | none=>rfl
     | some x=>exact absurd N (n bb hbb x))
   (fun oo g=>by
    rcases g with g | ⟨_,g⟩
    ·have:=(A.sok bb oo g).1;omega
    ·exact (l bb oo g).2.2 rfl) J (cs:=(dP s.rs y).map .d) (dH.mk (by simp[Z]) fun i c1 v1 p F=>by
     rw[List.getElem?_map,Option.map_eq_some_iff]at p;obtain⟨d1,hd1,rfl⟩:=p;exact (M i d1 v1 hd1 F).move fun bb oo g=>⟨(l bb oo g).1.imp id fun R=>⟨R,g⟩,rfl⟩)
  rw[hd];simp only[fK]at hK;exact hK _ _ _ h8
theorem akV(h:Inv w0 G S a w){c:Call}{f:FuncId}(F:o.op=.call c)(H:c.callee=.value (.func f)){E:Env}(q:Ba P E w0){ws:List W}(hv:(eff E o).val S=some ws)
  (r:∀a' w' G',Inv w0 G' (S.puts ws) a' w'->K a' w'):o.wp P a w K Q:=by
 unfold eff at hv;rw[F]at hv;simp only[H]at hv;split at hv
 ·split at hv
  ·rename_i m x y I L;obtain⟨M,N⟩:=q.2.2.1 m (List.mem_of_find?_eq_some I);have hfid:m.fid=f:=by have:=List.find?_some I;simpa using this
   exact akS h F H hfid (hfid▸M) q.am N L hv r
  ·exact aiT h F H q hv r
 rename_i s g;have hfid:s.fid=f:=by have:=List.find?_some g;simpa using this
 obtain⟨hcall,hsound⟩:=q.2.1 s (List.mem_of_find?_eq_some g);simp only[Rd.aF,zB]at hv;obtain⟨vs,M,x,N,hv⟩:=hv;simp only[Rd.val,zB]at hv;obtain⟨y,h3,hv⟩:=hv;split at hv
 case isFalse=>cases hv
 rename_i O;have T:=uV h M;have hargs:(c.args.map a.eval)=(c.args.toList.map a.eval).toArray:=by
  cases c.args;simp
 have upon:∀ {R:Value->World->Prop},Calls P f (c.args.map a.eval) w (fun e w'=>∃v,e=.returned v/\R v w')->(∀v w',R v w'->K (a.put o.dst v) w')->o.wp P a w K Q:=by
  intro R hC hR;unfold Oper.wp;rw[lC F H (hfid▸hcall)];refine Calls.mono hC fun e w' he=>?_
  obtain⟨v,rfl,A⟩:=he;exact hR v w' A
 have hcalls:∀(S':Nat->Nat->Prop),(∀b oo,(G.S b oo\/AK G S (aP (vs.flatMap V.cells)) b oo)->S' b oo)->(∀b oo,S' b oo->b<w.heap.size) ->
   Calls P f (c.args.map a.eval) w (fun e w'=>∃v,e=.returned v/\(Below w.heap.size w w'/\Dv w.heap.size w' S' s.ex s.rs y v)):=by
  intro S' n U;have:=yX h (aP (vs.flatMap V.cells)) 0 N T fun k j z hz I=>sW hz I
  rw[<- hfid,hargs];exact hsound w S' _ x y h3 (q.am.keep w h.below) (this.imp fun i d v A=>A.move fun b oo g=>⟨n b oo g,rfl⟩) U
 have hAlt:∀b oo,AK G S (aP (vs.flatMap V.cells)) b oo->b<w.heap.size:=by
  rintro b oo ⟨k,j,t,xs,deep,m,_,_,l,_⟩;exact (h.olt _ _ l).2
 cases hexs:s.ex with
 | true=>
  refine upon (hcalls (fun b oo=>G.S b oo\/AK G S (aP (vs.flatMap V.cells)) b oo) (fun _ _ hh=>hh) (fun b oo hh=>hh.elim (fun g=>(h.sok b oo g).1) (hAlt b oo))) ?_;rintro v w' ⟨hbel,us,rfl,hres⟩;rw[hexs]at hres;have X:(ajK o E.trees s.rs y).val S=some ws:=by
   rw[<- hv];unfold ajK;simp only[hexs,Bool.true_and];cases o.dst with
   | none=>rfl
   | some d=>by_cases hany:(dP s.rs y).any isList=true<;>simp[hany]
  obtain⟨G8,Y⟩:=(h.grow hbel).alG (B:=w.heap.size) (fun c x Z=>(h.olt _ _ Z).2) h.below.size (fun b o g=>(h.sok b o g).1) hres (S0:=S) (fun _ hd=>hd) X;exact r _ _ _ Y
 | false=>
  have hnk:nodupB (aP (vs.flatMap V.cells))=true:=by simpa [hexs] using O
  obtain⟨C,J,m5⟩:=Inv.Bf (aP (vs.flatMap V.cells)) h hnk;refine upon (hcalls C.S (fun b oo hh=>(m5.s b oo).2 hh) (fun b oo hh=>(J.sok b oo hh).1)) ?_;rintro v w' ⟨hbel,us,rfl,hres⟩;rw[hexs]at hres;obtain⟨S',hT,n⟩:=hres;have h6:=J.grow hbel;obtain⟨h7,m7⟩:=h6.aeo (fun b oo=>S' b oo/\w.heap.size<=b) (fun b oo hh=>by
   have D:∀x,C.ow b≠some x:=fun x Z=>by
    have:=(J.olt _ _ Z).2;omega
   exact⟨(n b oo hh.1).2,fun i=>D _,fun k j t xs deep m _ len cap _ l=>absurd l (D _)⟩) (fun b oo hh=>Nat.le_trans h.below.size hh.2) (fun b oo hh k j t xs _ l=>by
   have:=(J.olt _ _ l).2;have:=hh.2;omega)
  simp only[hexs,aE,if_false,Bool.false_and]at hv;cases hdst:o.dst with
  | none=>
   rw[hdst]at hv;simp only[Rd.val,zD]at hv;subst hv;exact r _ _ _ h7
  | some d=>
   rw[hdst]at hv;simp only[Rd.val,zD]at hv;subst hv;have h8:=h7.iR d (av:=AO (xP d false 0 s.rs y)) (sS (pF (R:=fun _ dd u=>Rep w' S' dd u) (fun i dd u A=>?_) hT))
   ·refine r _ _ _ (?_:Inv w0 { C with S:=fun b o=>C.S b o\/(S' b o/\w.heap.size<=b) } _ _ _);rw[fK];exact h8
   have p:Rep w' (fun b oo=>C.S b oo\/(S' b oo/\w.heap.size<=b)) dd u:=A.move fun b oo g=>⟨(n b oo g).1.imp id fun hb=>⟨g,hb⟩,rfl⟩
   cases dd with
   | list t xs=>exact p
   | int=>exact p
   | bool=>exact p
   | str=>exact p
theorem akY{S:St}{k j:Nat}{x:O}(h:bC (S.aJ k) j=x)(b:x≠.dead):k<S.owns.length/\j<(S.aJ k).length:=by
 have a:j<(S.aJ k).length:=by
  rcases Nat.lt_or_ge j (S.aJ k).length with q | q
  ·exact q
  ·simp only[bC,zE]at h;rw[zJ q]at h;exact absurd h.symm b
 refine⟨?_,a⟩;rcases Nat.lt_or_ge k S.owns.length with q | q
 ·exact q
 ·simp only[St.aJ,zE]at a;rw[zJ q]at a;simp at a
theorem akz{G':Gh}{w':World}{d:Nat}{ex:Bool}{i:Nat}{dd:D}{u:Value}{S':Nat->Nat->Prop}{fp:Nat->Prop}(hd:kU dd=none)(c:Ow w' S' true dd u fp):oQ G' w' (agp d ex i dd) u:=by
 cases c with
 | int k n=>exact Rep.int _ _
 | bool b=>exact Rep.bool _
 | str v=>exact Rep.str _
 | nil=>cases hd
 | ro _ _ _ a=>cases a
 | list=>cases hd
theorem akQ(h:Inv w0 G S a w){t:TypeId}{p:Operand}(ho:o.op=.load t p){E:Env}(hT:E.tt.ok P=true){agg:Bool}{n k j i sz off:Nat}{ty:Ty}{xs:List ty.den}{m:Nat}
  (hs:lk E.tt.shape t=some (agg,n)) (h1:(dR p).val S=some (.oelt k j i sz off)) (hown:bC (S.aJ k) j=.part ty xs m) {ws:List W} (hv:(WN o agg n k j i sz off ty xs m).val S=some ws)
  (hK:∀a' w' G',Inv w0 G' (S.puts ws) a' w'->K a' w'):o.wp P a w K Q:=by
 obtain⟨hlk,b,len,cap,C,hpv⟩:=bg h h1;unfold WN at hv;split at hv
 case h_2=>cases hv
 rename_i d hd;split at hv
 case isFalse=>cases hv
 rename_i hcond;obtain⟨hagg,hoff,hn,hsz⟩:=hcond;subst hagg;subst hoff;simp only[Rd.val,zB,Rd.aF,zD]at hv;obtain⟨x,M,ws',h6,rfl⟩:=hv;obtain⟨N,rfl⟩:=gI h6;split at M
 case isFalse=>cases M
 rename_i him;subst him;have hO:=h.owns k j;rw[hown]at hO;rcases hO with ⟨he,_⟩ | ⟨b',cap',arr,e,vs,fps,T,hb,hcap,hmax,hasz,hfb,r,F,hf,hdis⟩
 ·rw[C]at he;cases he
 rw[C]at T;injection T with U e2 e3;injection U with U;injection U with U _ _;subst U;obtain⟨V,H⟩:=akY hown (by intro e;cases e);have I:k≠d:=fun e=>by rw[e,N]at H;simp at H
 obtain⟨td,ti,hu,hi,htsz,htd⟩:=TT.xA hT hs;have y:(ty.cells x).length=ty.size:=Ty.aZ ty x;let vals:List Value:=(List.range ty.size).map fun q=>vs i q
 have z:vals.length=ty.size:=by simp[vals]
 have J:∀q,q<ty.size->vals[q]?=some (vs i q):=fun q s=>by simp[vals,s]
 have hrun:(execOp a.eval o).run P w=.ok (.value (.agg vals.toArray)) w:=by
  have hcell:∀q v,vals[q]?=some v->w.cell? ⟨b,i*sz+0+q,none⟩=some v:=fun q v s=>by
   have l:q<ty.size:=by rw[<- z];exact (zC.1 s).1
   rw[J q l]at s;cases s
   obtain⟨dd,hdd⟩:∃dd,(ty.cells x)[q]?=some dd:=⟨_,zF (by rw[y];exact l)⟩;rw[cell_of_row w _ _ _ _ _ hb,Nat.add_zero,<- hsz];exact r i x q dd M hdd
  have:=ni (P:=P) (w:=w) t b (i*sz+0) td ti hu hi htd vals (by rw[z];omega) hcell;unfold execOp;simp only[ho,hpv,Instr.loadAt,Instr.sureAddr,Sem.run_bind,Sem.run_pure,Result.andThen_ok,this]
 have hcells:aW (fun q dd u=>Ow w (fun _ _=>False) true dd u (fps i q)/\vals[q]?=some u) 0 (ty.cells x) vals:=by
  have key:∀(ds:List D) (us:List Value) (q:Nat),ds.length=us.length->(∀p dd u,ds[p]?=some dd->us[p]?=some u->Ow w (fun _ _=>False) true dd u (fps i (q+p))/\vals[q+p]?=some u)->aW (fun q dd u=>Ow w (fun _ _=>False) true dd u (fps i q)/\vals[q]?=some u) q ds us:=by
   intro ds;induction ds with
   | nil=>intro us q hl _;cases us with
    | nil=>trivial
    | cons _ _=>simp at hl
   | cons dd ds ih=>intro us q hl hg;cases us with
    | nil=>simp at hl
    | cons u us=>exact⟨hg 0 dd u rfl rfl,ih us (q+1) (by simpa using hl) fun p dd' u' h1 B=>by
      have:=hg (p+1) dd' u' (by simpa using h1) (by simpa using B);rwa [show q+(p+1)=q+1+p by omega]at this⟩
  refine key _ _ 0 (by rw[y,z]) fun q dd u B h3=>?_
  have l:q<ty.size:=by rw[<- z];exact (zC.1 h3).1
  rw[Nat.zero_add];refine⟨?_,h3⟩;rw[J q l]at h3;cases h3
  exact F i x q dd (aw _) M B
 have hpart:wO G w k j (.part ty xs (i+1)):=ja.succ (by have:=h.owns k j;rw[hown]at this;exact this);refine aS hrun ?_;by_cases A:d<S.tmps.length
 case neg=>
  refine hK _ _ G ?_
  have B:=h.Hl k j _ hpart
  rw[hd]
  show Inv w0 G (((S.di k ((S.aJ k).set j (.part ty xs (i+1)))).di d _).iR d _) _ _
  rw[Iq h.tsz A,Bl (by show ¬d<(S.di k _).owns.length;rw[B.osz];exact A),Bj (S:=S.di k _) A]
  exact B
 classical
 have B:=h.Hl k j .dead trivial;have X:(S.di k ((S.aJ k).set j .dead)).aJ d=[]:=by
  rw[bH,if_neg (fun e=>I e.1)];exact N
 have hdead:bC ((S.di k ((S.aJ k).set j .dead)).aJ k) j=.dead:=by
  rw[bH,if_pos ⟨rfl,V⟩,iH,if_pos ⟨rfl,H⟩]
 have hne:Iu true (ty.cells x)≠[]:=by
  intro e;have:ty.cells x=[]:=by simp only[Iu,List.map_eq_nil_iff]at e;exact e
  have hp:=ty.size_pos;rw[<- y,this]at hp;simp at hp
 have hlabd:∀c q,fps i q c->(if hh:∃q,fps i q c then some hh.choose else none)=some q:=fun c q r=>by
  have hh:∃q,fps i q c:=⟨q,r⟩;rw[dif_pos hh];exact congrArg some (hdis _ _ _ _ _ (aw _) (aw _) hh.choose_spec r).2
 obtain⟨L,h7,m7,l7,o7,_,s7,w7⟩:=B.yc d (Iu true (ty.cells x)) (fun q=>vals.getD q undef) (fun c=>if hh:∃q,fps i q c then some hh.choose else none) X A hne
  (fun c q r=>by
   split at r
   ·rename_i hh;obtain⟨Y,f2,f3⟩:=hf _ _ _ (aw _) hh.choose_spec;have Z:=h.nM Y;refine⟨Z.1,Z.2,fun i' f=>?_,fun k' j' _ _ _ _ f=>?_⟩
    ·rw[show G.ow c=_ from Y]at f;cases f
    ·rw[show G.ow c=_ from Y]at f;cases f
     rw[hdead];simp[O.iq]
   ·cases r)
  (fun q=>by
   rw[aak];cases s:(ty.cells x)[q]? with
   | none=>trivial
   | some dd=>
    cases dd with
    | int=>trivial
    | bool=>trivial
    | str=>trivial
    | list t' xs'=>
     have l:q<ty.size:=by rw[<- y];exact (zC.1 s).1
     have e:vals.getD q undef=vs i q:=by simp only[zE,J q l,Option.getD_some]
     refine⟨fps i q,fun c r=>hlabd c q r,?_,fun b' oo hs' f=>(hf _ _ _ (aw _) f).2.2 oo hs'⟩;rw[e];exact F i x q _ (aw _) M s)
 have hg2:((S.di k ((S.aJ k).set j .dead)).di d (Iu true (ty.cells x))).aJ k=(S.aJ k).set j .dead:=by
  rw[bH,if_neg (fun e=>I e.1.symm),bH,if_pos ⟨rfl,V⟩]
 have hpart2:wO L w k j (.part ty xs (i+1)):=by
  show ja w L.S ty xs (i+1) (L.ov k j) (gJ L k j)
  rw[(m7.k k hlk).2 j,C,s7];have hkeep:∀c,G.ow c=some (.own k j)->(¬ ∃q,fps i q c)->L.ow c=some (.own k j):=fun c r hn=>by
   rw[w7,dif_neg hn];exact r
  refine .inr ⟨b,cap,arr,e,vs,fps,by rw[e2,e3],hb,by omega,by omega,by rw[e3];exact hasz,hkeep b hfb (fun⟨q,s⟩=>(hf _ _ _ (aw _) s).2.1 rfl),r,fun i' x' q dd hi'=>F i' x' q dd (by omega),fun i' q c hi' hcc=>?_,fun i1 q1 i2 q2 c hi1 hi2=>hdis i1 q1 i2 q2 c (by omega) (by omega)⟩;obtain⟨Y,f2,f3⟩:=hf _ _ _ (by omega) hcc;refine⟨hkeep c Y ?_,f2,f3⟩;rintro⟨q',hq'⟩;have:=(hdis _ _ _ _ _ (aw _) (by omega) hq' hcc).1;omega
 have h8:=h7.Hl k j _ hpart2;rw[hg2]at h8;have hst:((S.di k ((S.aJ k).set j .dead)).di d (Iu true (ty.cells x))).di k (((S.aJ k).set j .dead).set j (.part ty xs (i+1)))=(S.di k ((S.aJ k).set j (.part ty xs (i+1)))).di d (Iu true (ty.cells x)):=by
  simp only[St.di,List.set_set];rw[List.set_comm _ _ (Ne.symm I),List.set_set]
 rw[hst]at h8;have h9:=h8.iR d (av:=.v (.agg (Me d true 0 (ty.cells x)))) (v:=.agg vals.toArray) ⟨vals,rfl,DY (R:=fun q dd u=>Ow w (fun _ _=>False) true dd u (fps i q)/\vals[q]?=some u) (fun q dd u hw=>by
  cases g:kU dd with
  | none=>exact akz g hw.1
  | some t'=>
   cases dd with
   | int=>cases g
   | bool=>cases g
   | str=>cases g
   | list t' xs'=>
    refine⟨l7,?_,hw.1.one⟩;rw[o7];simp[hw.2]) hcells⟩
 refine hK _ _ L ?_;rw[hd];exact h9
theorem VT(h:Inv w0 G S a w){E:Env}(A:Ba P E w0){ws:List W}(hv:(eff E o).val S=some ws)
  (q:∀a' w' G',Inv w0 G' (S.puts ws) a' w'->K a' w'):o.wp P a w K Q:=by
 have u:=A.1;cases d:o.op with
 | move x=>exact aeX h (.inl d) hv q
 | assign x=>exact aeX h (.inr d) hv q
 | pick c x y=>exact akR h d hv q
 | alloc e=>exact aiX h d u hv q
 | box e x=>exact akW h d hv q
 | build t ps=>exact aiU h d u hv q
 | buildSlice t n ps=>exact TW h d u hv q
 | load t p=>exact akT h d u hv (fun agg n k j i sz off ty xs m B C D F=>akQ h d u B C D F q) q
 | store t p x=>exact aiN h d u hv q
 | nilCheck x=>exact aal h d hv q
 | convert H t x=>exact adg h d u hv q
 | binOp bo t x y t'=>exact aiW h d u hv q
 | unOp uo t x=>exact akP h d hv q
 | makeSlice t l c=>exact XC h d u hv q
 | slice t x lo hi mx=>exact aiO h d u hv q
 | fieldAddr s p f=>exact XE h d u hv q
 | field t x f=>exact aiQ h d u hv q
 | indexAddr t x i=>exact XD h d u hv q
 | index t x i=>exact aiP h d u hv q
 | extract x i=>exact adf h d hv q
 | call c=>
  cases z:c.callee with
  | builtin b=>
   cases b<;>first
    | exact aoE h d z u hv q
    | exact agz h d z u hv q
    | exact Vz h d (.inl z) hv q
    | exact Vz h d (.inr z) hv q
    | (unfold eff at hv;rw[d]at hv;simp only[z]at hv;cases hv)
  | value x=>
   cases x with
   | func f=>exact akV h d z A hv q
   | tmp t=>unfold eff at hv;rw[d]at hv;simp only[z]at hv;cases hv
   | const v=>unfold eff at hv;rw[d]at hv;simp only[z]at hv;cases hv
   | global g=>unfold eff at hv;rw[d]at hv;simp only[z]at hv;cases hv
  | invoke r m=>unfold eff at hv;rw[d]at hv;simp only[z]at hv;cases hv
 | _=>unfold eff at hv;rw[d]at hv;cases hv
end ops
end Go.Abs
