import Derived.Test.YtngjomkjlonfpaaGreatS2
import Derived.Deep.AppendSrc
set_option linter.unusedSimpArgs false
set_option linter.unusedVariables false
/- Operations: append, stores, slices, calls. -/
namespace Go.Abs
open Go.RowKit
section ops
variable {P:Program} {w0:Bs} {G:Gh} {S:St} {a:Act} {w:World} {o:Oper} {K:Act->World->Prop} {Q:Exit->Act->World->Prop}
theorem tK{n:Nat}{u:Unit}(h:gd n=some u):n<=34359738368:=by
 unfold gd at h;split at h
 ·assumption
 ·cases h
theorem OwT.weaken{S:Nat->Nat->Prop}{deep deep' m:Bool}{t:Ty}{xs:List t.den}{v:Value}{fp fp':Nat->Prop}(h:OwT w S deep m t xs v fp)(n:deep'=true->deep=true)(l:∀c,fp c->fp' c):OwT w S deep' m t xs v fp':=by
 rcases h with h | ⟨b,cap,arr,E,vs,fps,rfl,o,hcap,hmax,f,g,a,p,e,hdis,q⟩
 ·exact .inl h
 ·exact .inr ⟨b,cap,arr,E,vs,fps,rfl,o,hcap,hmax,f,l _ g,a,fun i x j d r k=>(p i x j d r k).sub (fun _ a=>a) n,fun i j c a=>⟨l _ (e i j c a).1,(e i j c a).2⟩,hdis,q⟩
theorem UI{S S':Nat->Nat->Prop}{dp:Bool}{d:D}{v:Value}{fp fp':Nat->Prop}(a:nG d=none)(h:Ow w S dp d v fp):Ow w S' dp d v fp':=by
 cases h with
 | int k n=>exact .int k n _
 | bool b=>exact .bool b _
 | str v=>exact .str v _
 | nil t fp=>cases a
 | ro d v fp hd'' h''=>exact JQ a h''
 | list=>cases a
theorem NJ(t tx ty e:TypeId)(i:TypeInfo)(c:P.underlying t=some (.slice e))(hi:P.info? e=some i)(base:Option Addr)(n cap:Nat)(d:n<=cap)(x:Value)(a:Src P i.size tx x 0 [] w) :
  (Builtin.append_ #[t,tx] ty #[.slice base n cap,x]).run P w=.ok (.slice base n cap) w:=by
 rcases a.kind with ⟨e',b⟩ | b<;>cases base<;>simp[Builtin.append_,run_underlying c,run_underlying b,sizeOf,typeInfo,hi,a.len,d,a.cells,storeCells]
theorem run_append_room'(t tx ty e E:TypeId)(i:TypeInfo)(d:P.underlying t=some (.slice e))(hi:P.info? e=some i)
  (g sLen sCap:Nat) (cur:Array Value) (f:w.heap[g]?=some (.cells cur E (0,0)))
  (x:Value) (m:Nat) (news:List Value) (b:Src P i.size tx x m news w)
  (hroom:sLen+m<=sCap) (hfit:sLen*i.size+news.length<=cur.size) :
  (Builtin.append_ #[t,tx] ty #[.slice (some ⟨g,0,none⟩) sLen sCap,x]).run P w =
   .ok (.slice (some ⟨g,0,none⟩) (sLen+m) sCap) (w.setRow g (cur.toList.take (sLen*i.size)++news++cur.toList.drop (sLen*i.size+news.length)).toArray):=by
 have a:=run_storeCells_at P g (sLen*i.size) E news 0 cur w f (by simpa using hfit) b.one;simp only[Nat.add_zero]at a;rcases b.kind with ⟨e',c⟩ | c<;>simp[Builtin.append_,run_underlying d,run_underlying c,sizeOf,typeInfo,hi,b.len,hroom,b.cells,Addr.add_lit,a]
theorem src_of{T:TypeId}{TT0:TT}(g:TT0.ok P=true){t:Ty}(h:lk TT0.elem T=some t){v:Value}{ys:List t.den}{S':Nat->Nat->Prop}{dp:Bool}{labS:Nat->Prop}
  (k:((∃(ad:Option Addr) (cap:Nat),v=.slice ad 0 cap/\(ad=none->cap=0))/\ys=[])\/∃b off cap news,v=.slice (some ⟨b,off,none⟩) ys.length cap/\(∀p u,news[p]?=some u->w.cell? ⟨b,off+p,none⟩=some u)/\ni w S' dp t ys news labS) :
  ∃news,(∀size,size=t.size->Src P size T v ys.length news w)/\ni w S' dp t ys news labS:=by
 obtain⟨e,inf,z,a,hi,l,m,y,n,o⟩:=TT.kR g h;rcases k with ⟨⟨ad,cap,rfl,c⟩,rfl⟩ | ⟨b,off,cap,news,rfl,q,f⟩
 ·refine⟨[],fun size _=>?_,by simp,by simp,fun _ _=>undef,fun _ _ _=>False,fun i x j d r=>by simp at r,fun _ _ _ hh=>hh.elim,fun _ _ _ _ _ hh=>hh.elim⟩;cases ad with
  | none=>rw[c rfl];exact Src.ofNil w a 0
  | some b=>exact Src.ofSlice w a b 0 cap [] (by simp) (by simp) (by simp)
 ·refine⟨news,fun size s=>?_,f⟩;subst s;exact Src.ofSlice w a _ _ cap news f.1 (fun j u a=>by rw[addr_add];exact q j u a) f.2.1
theorem jI(h:Inv w0 G S a w){c:Call}(ho:o.op=.call c)(Z:c.callee=.builtin .append){x y:Operand}{T TX:TypeId}(hargs:c.args = #[x,y])(htys:c.argTypes = #[T,TX])
  {TT0:TT} (hT:TT0.ok P=true) {t:Ty} (ht:lk TT0.elem T=some t) {d:Nat} (hd:o.dst=some d) (hdO:S.aH d=[])
  {xs ys:List t.den} {deep dp m:Bool} {labD labS:Nat->Prop} (hD:OwT w G.S deep m t xs (a.eval x) labD)
  (hY:∃news,(∀size,size=t.size->Src P size TX (a.eval y) ys.length news w)/\ni w G.S dp t ys news labS)
  (A:∀c,labD c->labS c->False)
  (hfree:∀c,labD c\/labS c->w0.w.heap.size<=c/\c<w.heap.size/\(∀i,G.ow c≠some (.box i))/\∀k' j' t xs deep m,G.ow c=some (.own k' j')->(bF (S.aH k') j').iO≠.own t xs deep m)
  (hgd:xs.length+ys.length<=34359738368)
  (hK:∀a' w' G',Inv w0 G' ((S.dI d [.own t (xs++ys) (deep&&dp) m]).jW d (.v (.one (.own d 0)))) a' w'->K a' w'):o.wp P a w K Q:=by
 obtain⟨e,inf,z,B,hi,l,hby,hz,hzs,hzm⟩:=TT.kR hT ht;have hrun:∀ {v' w'},(Builtin.append_ #[T,TX] o.type #[a.eval x,a.eval y]).run P w=.ok v' w'->(execOp a.eval o).run P w=.ok (.value v') w':=by
  intro v' w' f;refine mV ho Z ?_;simp[builtin,hargs,htys,f]
 have hb47:∀k,k<=34359738368->k*inf.bytes<=140737488355328:=fun k hk=>by
  have:=Nat.mul_le_mul hk hby
  omega
 have fin:∀ {v':Value} {w':World} {lab:Nat->Prop},Inv w0 G S a w'->(execOp a.eval o).run P w=.ok (.value v') w'->OwT w' G.S (deep&&dp) m t (xs++ys) v' lab ->
   (∀c,lab c->w0.w.heap.size<=c/\c<w'.heap.size/\(∀i,G.ow c≠some (.box i))/\∀k' j' t xs deep m,G.ow c=some (.own k' j')->(bF (S.aH k') j').iO≠.own t xs deep m)->o.wp P a w K Q:=by
  intro v' w' lab h' f hO hl;obtain⟨G2,h7⟩:=h'.Xd d (v:=v') lab hdO hl hO;refine aT f (hK _ _ G2 ?_);rw[hd];exact h7
 have new_free:∀c,c=w.heap.size->w0.w.heap.size<=c/\(∀i,G.ow c≠some (.box i))/\∀k' j' t xs deep m,G.ow c=some (.own k' j')->(bF (S.aH k') j').iO≠.own t xs deep m:=by
  rintro c rfl;exact⟨h.below.size,fun i C=>absurd (h.olt _ _ C).2 (Nat.lt_irrefl _),fun k' j' _ _ _ _ C=>absurd (h.olt _ _ C).2 (Nat.lt_irrefl _)⟩
 obtain⟨news,hsrc0,W⟩:=hY;have hsrc:=hsrc0 inf.size l;have r:=W.1;have hone:=W.2.1;by_cases O:ys.length=0
 ·have hyn:=List.eq_nil_of_length_eq_zero O;subst hyn;have hn0:news=[]:=List.eq_nil_of_length_eq_zero (by rw[r];simp);subst hn0;have D:∃base n cap,a.eval x=.slice base n cap/\n<=cap:=by
   rcases hD with ⟨F,_⟩ | ⟨g,cap,arr,E,vs,fps,F,_,hcap,_⟩
   ·exact⟨_,_,_,F,ar _⟩
   ·exact⟨_,_,_,F,hcap⟩
  obtain⟨base,n,cap,F,hn⟩:=D;refine fin (v':=a.eval x) (lab:=labD) h (hrun ?_) ?_ fun c b=>hfree c (.inl b)
  ·rw[F];exact NJ T TX o.type e inf B hi base n cap hn _ hsrc
  ·rw[List.append_nil];exact hD.weaken (fun e=>(zI _ _▸e).1) fun _ b=>b
 ·have hm:ys.length≠0:=O;have grown:∀ {olds:List Value} {cap':Nat} {old:Nat},ni w G.S deep t xs olds labD->xs.length+ys.length<=cap'->cap'=grownCap w (xs.length+ys.length) old e ->
    (Builtin.append_ #[T,TX] o.type #[a.eval x,a.eval y]).run P w=.ok (.slice (some ⟨w.heap.size,0,none⟩) (xs.length+ys.length) cap')
     (w.drew.alloc (.cells (olds.toArray++news.toArray++Builtin.zeroCells z.cells (cap'-(xs.length+ys.length))) e))->o.wp P a w K Q:=by
   intro olds cap' old hLD D hcap' f;have hbel:Below w.heap.size w (w.drew.alloc (.cells (olds.toArray++news.toArray++Builtin.zeroCells z.cells (cap'-(xs.length+ys.length))) e)):=((Below.refl _ _).drew).alloc (by simp) _;have hnew:=heap_alloc_new w.drew (.cells (olds.toArray++news.toArray++Builtin.zeroCells z.cells (cap'-(xs.length+ys.length))) e);refine fin (lab:=fun c=>c=w.heap.size\/labD c\/labS c) (h.grow hbel) (hrun f) ?_ ?_
   ·refine MQ hLD W A hnew (rest:=(Builtin.zeroCells z.cells (cap'-(xs.length+ys.length))).toList) ?_ D ?_ ?_ (.inl rfl) ?_ ?_ ?_
    ·simp
    ·rw[hcap'];exact grownCap_le_maxLen w _ _ _ (by unfold maxLen;omega)
    ·simp only[Array.size_append,List.size_toArray,size_zeroCells,hzs,hLD.1,r,<- Nat.add_mul];congr 1;omega
    ·intro c b;have:=(hfree c b).2.1;exact⟨.inr b,Nat.ne_of_lt this,hbel.block c this⟩
    ·intro b' o' q;exact⟨q,hbel.cell (p:=⟨b',o',none⟩) (h.sok b' o' q).1⟩
    ·intro oo q;exact absurd (h.sok _ oo q).1 (Nat.lt_irrefl _)
   ·intro c b;rcases b with b | b
    ·obtain⟨n1,n2,n3⟩:=new_free c b;exact⟨n1,by subst b;simp,n2,n3⟩
    ·obtain⟨n1,n2,n3,n4⟩:=hfree c b;exact⟨n1,by simp;omega,n3,n4⟩
  rcases hD.laid with ⟨s,rfl⟩ | ⟨g,cap,arr,E,rest,olds,s,X,hcap,hmax,hasz,H,harr,hLD,I⟩
  ·have C:=hb47 ys.length (by omega);have f:=run_append_grow_src (P:=P) w T TX o.type e inf z B hi hz none 0 0 [] (run_firstCells_none w.drew inf.size 0 0 0) _ ys.length news hsrc (by omega) (by omega) (growslice_fits (by omega) (by simpa using C));have J:=grownCap_ge w ys.length 0 e;refine grown (olds:=[]) (cap':=grownCap w ys.length 0 e) (old:=0) ⟨by simp,by simp,fun _ _=>undef,fun _ _ _=>False,fun i x j d F=>by simp at F,fun _ _ _ hh=>hh.elim,fun _ _ _ _ _ hh=>hh.elim⟩ (by simpa using J) (by simp) ?_;rw[s];simpa using f
  ·have L:olds.length=xs.length*t.size:=hLD.1;by_cases hroom:xs.length+ys.length<=cap
   ·have hfit:xs.length*inf.size+news.length<=arr.size:=by rw[l,r,<- Nat.add_mul,hasz];exact Nat.mul_le_mul_right _ hroom
    have f:=run_append_room' (P:=P) (w:=w) T TX o.type e E inf B hi g xs.length cap arr X _ ys.length news hsrc hroom hfit;have htake:arr.toList.take (xs.length*inf.size)=olds:=by rw[l,<- L,harr];exact List.take_left
    rw[htake]at f;have R:=setRow_heap w g arr (olds++news++arr.toList.drop (xs.length*inf.size+news.length)).toArray E (0,0) X;have hoth:∀c,c≠g->(w.setRow g (olds++news++arr.toList.drop (xs.length*inf.size+news.length)).toArray).heap[c]?=w.heap[c]?:=fun c b=>setRow_other w g c _ b
    have M:=hfree g (.inl H);have hcellg:∀oo,oo<xs.length*t.size->(w.setRow g (olds++news++arr.toList.drop (xs.length*inf.size+news.length)).toArray).cell? ⟨g,oo,none⟩=w.cell? ⟨g,oo,none⟩:=by
     intro oo hoo;rw[cell_of_row _ _ _ _ _ _ R,cell_of_row _ _ _ _ _ _ X];rw[List.getElem?_toArray,<- Array.getElem?_toList,harr,a6,List.getElem?_append_left (by omega),List.getElem?_append_left (by omega)]
    have h':=h.acZ g (w':=w.setRow g (olds++news++arr.toList.drop (xs.length*inf.size+news.length)).toArray) M.1 M.2.2.1 M.2.2.2 rfl rfl rfl (by simp) (fun c _ b=>hoth c b) (fun oo q=>hcellg oo (I oo q).2);refine fin (lab:=fun c=>labD c\/labS c) h' (hrun (by rw[s];exact f)) ?_ fun c b=>by simpa using hfree c b
    refine MQ (labD:=fun c=>labD c/\c≠g) hLD W (fun c N Y=>A c N.1 Y) R (rest:=arr.toList.drop (xs.length*inf.size+news.length)) (by simp) hroom hmax ?_ (.inl H) ?_ ?_ ?_
    ·have e1:arr.toList.length=arr.size:=Array.length_toList;simp only[List.size_toArray,aR,List.length_drop];rw[e1,hasz,L,r,l];have:xs.length*t.size+ys.length*t.size<=cap*t.size:=by rw[<- Nat.add_mul];exact Nat.mul_le_mul_right _ hroom
     omega
    ·intro c b;rcases b with ⟨N,Y⟩ | N
     ·exact⟨.inl N,Y,hoth c Y⟩
     ·have U:c≠g:=fun e=>A g H (e▸N)
      exact⟨.inr N,U,hoth c U⟩
    ·intro b' o' q;refine⟨q,?_⟩;by_cases V:b'=g
     ·subst V;exact hcellg o' (I o' q).2
     ·exact World.cell?_of_block (w:=w) (hoth b' V)
    ·intro oo q;have:=I oo q;refine⟨this.1,?_⟩;have:xs.length*t.size<=(xs.length+ys.length)*t.size:=Nat.mul_le_mul_right _ (by omega);omega
   ·have C:=hb47 (xs.length+ys.length) hgd;have holds:∀j u,olds[j]?=some u->w.cell? ((⟨g,0,none⟩:Addr).add j)=some u:=by
     intro j u B;have hj:=(zC.1 B).1;rw[addr_add,Nat.zero_add,cell_of_row _ _ _ _ _ _ X,<- Array.getElem?_toList,harr,List.getElem?_append_left hj];exact B
    have f:=run_append_grow_src (P:=P) w T TX o.type e inf z B hi hz (some ⟨g,0,none⟩) xs.length cap olds (run_firstCells_some w.drew inf.size xs.length ⟨g,0,none⟩ xs.length cap olds (by rw[l];exact L) (by simpa using holds)) _ ys.length news hsrc (by omega) (by omega) (growslice_fits (by omega) C);have J:=grownCap_ge w (xs.length+ys.length) cap e;refine grown (olds:=olds) (cap':=grownCap w (xs.length+ys.length) cap e) (old:=cap) ?_ J rfl (by rw[s];simpa using f);obtain⟨l1,l2,vs,fps,l3,l4,l5⟩:=hLD;exact⟨l1,l2,vs,fps,l3,fun i j c b=>(l4 i j c b).1,l5⟩
theorem nN{S:St}{k j d:Nat}{x:O}(a:S.aH d=[]):(S.dI k ((S.aH k).set j x)).aH d=[]:=by
 rw[bY];split
 ·rename_i b;rw[b.1,a];rfl
 ·exact a
theorem Eh{S:St}{k j:Nat}:bF ((S.dI k ((S.aH k).set j .dead)).aH k) j=.dead:=by
 rw[bY];split
 ·rw[iV];split
  ·rfl
  ·rename_i a b;have:¬j<(S.aH k).length:=fun c=>b ⟨rfl,c⟩
   simp only[bF,zE];rw[zJ (by omega)];rfl
 ·rename_i a;have:¬k<S.owns.length:=fun c=>a ⟨rfl,c⟩
  have d:S.aH k=[]:=by
   simp only[St.aH,zE];rw[zJ (by omega)];rfl
  rw[d];rfl
theorem WU{S:St}{k j k' j':Nat}:bF ((S.dI k ((S.aH k).set j .dead)).aH k') j'=.dead\/bF ((S.dI k ((S.aH k).set j .dead)).aH k') j'=bF (S.aH k') j':=by
 rw[bY];split
 ·rename_i a;rw[iV];split
  ·exact .inl rfl
  ·rw[a.1];exact .inr rfl
 ·exact .inr rfl
theorem agW{w':World}{S':Nat->Nat->Prop}{t:Ty}{xs:List t.den}{v:Value}{fp fp':Nat->Prop}(h:Ow w' (fun _ _=>False) true (.list t xs) v fp)(m:∀c,fp c->fp' c)(n:∀b o,S' b o->¬fp b):OwT w' S' true true t xs v fp':=by
 generalize a:D.list t xs=dd at h;cases h with
 | int=>cases a
 | bool=>cases a
 | str=>cases a
 | nil t'=>cases a;exact .inl ⟨rfl,rfl⟩
 | ro _ _ _ k=>cases k
 | list t' xs' b cap arr E vs fps _ p hcap hmax l e q r f hdis=>
  cases a
  exact .inr ⟨b,cap,arr,E,vs,fps,rfl,p,hcap,hmax,l,m _ e,q,fun i x j d s k=>(r i x j d s k).move (fun _ _ h=>h.elim) fun _ _=>rfl,fun i j c g=>⟨m _ (f i j c g).1,(f i j c g).2⟩,hdis,fun o u=>absurd e (n b o u)⟩
theorem zk.vW{G:Gh}{w:World}{k j:Nat}{x:O}(h:zk G w k j x){t:Ty}{xs:List t.den}{deep m:Bool}(e:x.vW=.own t xs deep m):OwT w G.S deep m t xs (G.ov k j) (iE G k j):=by
 cases x with
 | own t' xs' deep' m'=>cases e;exact h
 | tree t' xs'=>
  cases e
  obtain⟨fp,a,b,c⟩:=h;exact agW b a c
 | _=>cases e
theorem TB(h:Inv w0 G S a w){c:Call}(X:o.op=.call c)(z:c.callee=.builtin .append){x y:Operand}{T TX:TypeId}(hargs:c.args = #[x,y])(htys:c.argTypes = #[T,TX])
  {TT0:TT} (F:TT0.ok P=true) {t:Ty} (Y:lk TT0.elem T=some t) (H:lk TT0.elem TX=some t) {d:Nat} (Z:o.dst=some d) {ax:AV} {q:Nat} (A:jV G w ax (a.eval x)) (I:jV G w (.seg q) (a.eval y))
  {ws:List W} (n:(aga d t ax q).val S=some ws) (hK:∀a' w' G',Inv w0 G' (S.puts ws) a' w'->K a' w'):o.wp P a w K Q:=by
 simp only[aga,Rd.val]at n;split at n
 case h_2=>cases n
 rename_i t1 ys hseg;split at n
 case isFalse=>cases n
 rename_i h1;subst h1;have B:=h.owns q 0;rw[hseg]at B;have J:BA w G.S t1 ys (G.ov q 0) (iE G q 0):=B;have hY:∃news,(∀size,size=t1.size->Src P size TX (a.eval y) ys.length news w)/\ni w G.S true t1 ys news (iE G q 0):=by
  refine src_of F H ?_;rw[I.2];rcases J with L | ⟨b,off,cap,news,e,L,h3⟩
  ·exact .inl L
  ·exact .inr ⟨b,off,cap,news,e,fun p u hu=>(L p u hu).1,h3⟩
 split at n
 ·simp only[Rd.val,zB,Rd.aC,zD]at n;obtain⟨_,M,ws',r,rfl⟩:=n;obtain⟨s,rfl⟩:=iD r;have v:=h.GI q 0 .dead trivial;refine jI v X z hargs htys F Y Z (nN s) (xs:=[]) (deep:=true) (m:=true) (labD:=fun _=>False) (.inl ⟨A,rfl⟩) hY (fun _ hh=>hh.elim) (fun c f=>?_) (by simpa using tK M) fun a' w' G' E=>hK a' w' G' ?_
  ·rcases f with f | f
   ·exact f.elim
   ·have g:=h.oh f;refine⟨g.1,g.2,fun i l=>?_,fun k' j' t2 C d2 m2 l=>?_⟩
    ·rw[show G.ow c=_ from f]at l;cases l
    ·rw[show G.ow c=_ from f]at l;cases l
     rw[Eh];simp[O.iO]
  ·exact E
 ·rename_i k j;simp only[Rd.val]at n;split at n
  case h_2=>cases n
  rename_i t' xs deep m hown;split at n
  case isFalse=>cases n
  rename_i N;subst N;simp only[Rd.val,zB,Rd.aC,zD]at n;obtain⟨_,M,ws',r,rfl⟩:=n;obtain⟨s,rfl⟩:=iD r;have B:=h.owns k j;rw[hown]at B;have D:OwT w G.S deep m t' xs (G.ov k j) (iE G k j):=B;rw[<- A.2.1]at D;have v:=(h.GI k j .dead trivial).GI q 0 .dead trivial;have R:(deep&&true)=deep:=by simp
  have U:bF (((S.dI k ((S.aH k).set j .dead)).dI q (((S.dI k ((S.aH k).set j .dead)).aH q).set 0 .dead)).aH k) j=.dead:=by
   rcases WU (S:=S.dI k ((S.aH k).set j .dead)) (k:=q) (j:=0) (k':=k) (j':=j)with e | e
   ·exact e
   ·rw[e];exact Eh
  refine jI v X z hargs htys F Y Z (nN (nN s)) (labD:=iE G k j) D hY (fun c f V=>?_) (fun c f=>?_) (tK M) fun a' w' G' E=>hK a' w' G' ?_
  ·have e1:G.ow c=some (.own k j):=f;have e2:G.ow c=some (.own q 0):=V;rw[e1]at e2;cases e2
   rw[hown]at hseg;cases hseg
  ·rcases f with f | f
   ·have g:=h.oh f;refine⟨g.1,g.2,fun i l=>?_,fun k' j' t2 C d2 m2 l=>?_⟩
    ·rw[show G.ow c=_ from f]at l;cases l
    ·rw[show G.ow c=_ from f]at l;cases l
     rw[U];simp[O.iO]
   ·have g:=h.oh f;refine⟨g.1,g.2,fun i l=>?_,fun k' j' t2 C d2 m2 l=>?_⟩
    ·rw[show G.ow c=_ from f]at l;cases l
    ·rw[show G.ow c=_ from f]at l;cases l
     rw[Eh];simp[O.iO]
  ·rw[R]at E;exact E
 ·cases n
theorem OwT.aiA{S:Nat->Nat->Prop}{deep:Bool}{t:Ty}{xs:List t.den}{v v':Value}{n:Nat}{fp:Nat->Prop}(h:OwT w S deep true t xs v fp)
  (k:(v'=.slice none 0 0/\n=0/\v=.slice none 0 0)\/∃b len cap,v=.slice (some ⟨b,0,none⟩) len cap/\n<=len/\v'=.slice (some ⟨b,0,none⟩) n cap):OwT w S deep true t (xs.take n) v' fp:=by
 rcases h with ⟨e,rfl⟩ | ⟨b,cap,arr,E,vs,fps,a,m,D,p,r,s,u,y,z,f,g⟩
 ·rcases k with ⟨a,_,_⟩ | ⟨b,len,cap,a,_⟩
  ·exact .inl ⟨a,by simp⟩
  ·rw[e]at a;cases a
 ·rcases k with ⟨_,_,q⟩ | ⟨b',len,cap',l,F,A⟩
  ·rw[a]at q;cases q
  ·rw[a]at l;cases l
   have B:(xs.take n).length=n:=by rw[a7];omega
   refine .inr ⟨b,cap,arr,E,vs,fps,by rw[B];exact A,m,by omega,p,r,s,fun i x j d c=>u i x j d ?_,fun i x j d c=>y i x j d ?_,z,f,fun o C=>?_⟩
   ·rw[List.getElem?_take]at c;split at c<;>simp_all
   ·rw[List.getElem?_take]at c;split at c<;>simp_all
   ·exact absurd (g o C).1 (by simp)
theorem RQ(h:Inv w0 G S a w){c:Call}(ho:o.op=.call c)(L:c.callee=.builtin .append){x y:Operand}{T:TypeId}(hargs:c.args = #[x,y])(htys:c.argTypes = #[T,T])
  {TT0:TT} (hT:TT0.ok P=true) {t':Ty} (ht:lk TT0.elem T=some t') {d:Nat} (hd:o.dst=some d) (M:S.aH d=[]) {k j:Nat} {xs ys:List t'.den} {deep m dp:Bool}
  (N:OwT w G.S deep m t' xs (a.eval x) (iE G k j)) {cy:C} (R:qc G w cy (a.eval y)) (h6:(cD (some t') cy).val S=some (.list t' ys)) (h5:(if t'.flat=true then Rd.ret true else Fq cy).val S=some dp)
  (hnd:nodupB ((k,j)::aQ [cy])=true) (U:xs.length+ys.length<=34359738368)
  (hK:∀a' w' G',Inv w0 G' (S.puts (.upd k j .dead::(if t'.flat=true then []else (aQ [cy]).map fun q=>W.ro q.1 q.2)++[.o d [.own t' (xs++ys) (deep&&dp) m]]++[.t d (.v (.one (.own d 0)))])) a' w'->K a' w'):o.wp P a w K Q:=by
 let keys:List (Nat×Nat):=if t'.flat then []else aQ [cy]
 have hros:(if t'.flat=true then []else (aQ [cy]).map fun q=>W.ro q.1 q.2)=keys.map fun q=>W.ro q.1 q.2:=by
  simp only[keys];split<;>rfl
 obtain⟨D,hnk⟩:=lZ hnd;have X:nodupB keys=true:=by
  by_cases Y:t'.flat=true
  ·simp[keys,Y,nodupB]
  ·simp only[keys,if_neg Y];exact hnk
 have Z:=h.GI k j .dead trivial;have B:(S.dI k ((S.aH k).set j .dead)).aH d=[]:=by
  rw[bY];split
  ·rename_i hkd;rw[hkd.1,M];rfl
  ·exact M
 have hdead:bF ((S.dI k ((S.aH k).set j .dead)).aH k) j=.dead:=by
  rw[bY];split
  ·rw[iV];split
   ·rfl
   ·rename_i hkl hjl;have:¬j<(S.aH k).length:=fun hl=>hjl ⟨rfl,hl⟩
    simp only[bF,zE];rw[zJ (by omega)];rfl
  ·rename_i hkl;have:¬k<S.owns.length:=fun hl=>hkl ⟨rfl,hl⟩
   have hg0:S.aH k=[]:=by
    simp only[St.aH,zE];rw[zJ (by omega)];rfl
   rw[hg0];rfl
 have hsame:∀k' j',(k',j')≠(k,j)->bF ((S.dI k ((S.aH k).set j .dead)).aH k') j'=bF (S.aH k') j':=by
  intro k' j' hne;rw[bY];split
  ·rename_i hkk;rw[iV];split
   ·rename_i hjj;exact absurd (by rw[hkk.1,hjj.1]) hne
   ·rw[hkk.1]
  ·rfl
 by_cases hf:t'.flat=true
 ·have hY:=GZ h h6 R h5 (S':=fun x o=>G.S x o\/AK G S (aQ [cy]) x o) (fun x o A=>A);have hY':((∃(ad:Option Addr) (cap:Nat),a.eval y=.slice ad 0 cap/\(ad=none->cap=0))/\ys=[])\/∃b off cap news,a.eval y=.slice (some ⟨b,off,none⟩) ys.length cap/\(∀p u,news[p]?=some u->w.cell? ⟨b,off+p,none⟩=some u)/\ni w G.S dp t' ys news (fun _=>False):=by
   rcases hY with hY | ⟨b,off,cap,news,e1,e2,l1,l2,vs,fps,l3,l4,l5⟩
   ·exact .inl hY
   ·refine .inr ⟨b,off,cap,news,e1,e2,l1,l2,vs,fun _ _ _=>False,fun i x j d E F=>⟨(l3 i x j d E F).1,?_⟩,fun _ _ _ hh=>hh.elim,fun _ _ _ _ _ hh=>hh.elim⟩;have A:=wY hf F;exact UI A (l3 i x j d E F).2
  refine jI Z ho L hargs htys hT ht hd B (labD:=iE G k j) (labS:=fun _=>False) N (src_of hT ht hY') (fun _ _ hh=>hh.elim) (fun c n=>?_) U fun a' w' G' h'=>hK a' w' G' ?_
  ·rcases n with n | n
   ·have l:=h.oh n;refine⟨l.1,l.2,fun i f=>?_,fun k' j' H z I J f=>?_⟩
    ·rw[show G.ow c=_ from n]at f;cases f
    ·rw[show G.ow c=_ from n]at f;cases f
     rw[hdead];simp[O.iO]
   ·exact n.elim
  ·rw[hros];simp only[keys,hf,if_true];exact h'
 ·have hk:keys=aQ [cy]:=by simp only[keys];rw[if_neg hf]
  obtain⟨G1,h11,r,e11,n11⟩:=Inv.XT keys Z X;have hAK:∀x o,AK G S (aQ [cy]) x o->AK G (S.dI k ((S.aH k).set j .dead)) keys x o:=by
   rintro x o ⟨k',j',H,z,I,J,hmem,E,rest⟩;exact⟨k',j',H,z,I,J,by rw[hk];exact hmem,by rw[hsame k' j' fun e=>D (e▸hmem)];exact E,rest⟩
  have hY:=GZ h h6 R h5 (S':=G1.S) (fun x o A=>(r.s x o).2 (A.imp id (hAK x o)));have hO1:OwT w G1.S deep m t' xs (a.eval x) (iE G k j):=by
   refine OwT.move N (fun b o A=>⟨(r.s b o).2 (.inl A),rfl⟩) (fun b f=>⟨f,rfl⟩) fun b len cap hv f o A=>?_
   rcases (r.s b o).1 A with A | ⟨k',j',H,z,I,J,hmem,E,g,_⟩
   ·exact .inl A
   ·have:G.ow b=some (.own k j):=f;rw[this]at g;cases g
    rw[hdead]at E;cases E
  refine jI h11 ho L hargs htys hT ht hd (n11 d B) (labD:=iE G k j) hO1 (src_of hT ht hY) (fun c n hc'=>?_) (fun c n=>?_) U fun a' w' G' h'=>hK a' w' G' ?_
  ·obtain⟨_,k',j',rfl,g,_⟩:=hc';rw[show G.ow c=_ from n]at g;cases g
   exact D (by simp[aQ])
  ·rcases n with n | ⟨_,k',j',rfl,g,H,z,I,J,hown2⟩
   ·have l:=h.oh n;refine⟨l.1,l.2,fun i f=>?_,fun k' j' H z I J f=>?_⟩
    ·rw[r.ow,show G.ow c=_ from n]at f;cases f
    ·rw[r.ow,show G.ow c=_ from n]at f;cases f
     rw[e11,hdead];split<;>simp[O.EN,O.iO]
   ·have l:=h.oh g;refine⟨l.1,l.2,fun i f=>?_,fun k'' j'' H z I J f=>?_⟩
    ·rw[r.ow,g]at f;cases f
    ·rw[r.ow,g]at f;cases f
     rw[e11,if_pos (by rw[hk];simp[aQ])];rw[hsame k' j' fun e=>D (by rw[<- e];simp[aQ])];exact O.OI hown2 _ _ _ _
  ·rw[hros];show Inv w0 G' ((S.put (.upd k j .dead)).puts ((keys.map fun q=>W.ro q.1 q.2)++[W.o d [O.own t' (xs++ys) (deep&&dp) m]]++[W.t d (AV.v (V.one (C.own d 0)))])) a' w'
   rw[gq,gq];exact h'
theorem Sl{t:Ty}{ys:List t.den}{v:Value}{S':Nat->Nat->Prop}(r:t.flat=true)(hrep:Rep w S' (.list t ys) v) :
  ((∃(ad:Option Addr) (cap:Nat),v=.slice ad 0 cap/\(ad=none->cap=0))/\ys=[])\/∃b off cap news,v=.slice (some ⟨b,off,none⟩) ys.length cap/\(∀p u,news[p]?=some u->w.cell? ⟨b,off+p,none⟩=some u) /\
   ∀(m:Nat->Nat->Prop),ni w m true t ys news (fun _=>False):=by
 generalize e:D.list t ys=dd at hrep;cases hrep with
 | int=>cases e
 | bool=>cases e
 | str=>cases e
 | nil t'=>cases e;exact .inl ⟨⟨none,0,rfl,fun _=>rfl⟩,rfl⟩
 | emp t' ad cap=>cases e;exact .inl ⟨⟨some ad,cap,rfl,fun hh=>(by cases hh)⟩,rfl⟩
 | list t' xs' b off cap vs hcap h o=>
  cases e
  have hnews:∀(p:Nat) (u:Value),((List.range (ys.length*t.size)).map fun p=>vs (p / t.size) (p % t.size))[p]?=some u->p<ys.length*t.size/\u=vs (p / t.size) (p % t.size):=by
   intro p u f;simp only[List.getElem?_map,Option.map_eq_some_iff]at f;obtain⟨q,k,rfl⟩:=f;have a:p<ys.length*t.size:=by have:=(zC.1 k).1;simpa using this
   have:q=p:=by simp[a]at k;exact k.symm
   rw[this];exact⟨a,rfl⟩
  have hget:∀(i j:Nat),i<ys.length->j<t.size->((List.range (ys.length*t.size)).map fun p=>vs (p / t.size) (p % t.size))[i*t.size+j]?=some (vs i j):=by
   intro i j hi l;have a:=yP hi l;have s:(i*t.size+j) / t.size=i:=by rw[Nat.mul_comm,Nat.mul_add_div t.size_pos,Nat.div_eq_of_lt l];omega
   have y:(i*t.size+j) % t.size=j:=by rw[Nat.mul_comm,Nat.mul_add_mod,Nat.mod_eq_of_lt l]
   simp[a,s,y]
  refine .inr ⟨b,off,cap,(List.range (ys.length*t.size)).map fun p=>vs (p / t.size) (p % t.size),rfl,?_,fun m=>⟨by simp,?_,?_⟩⟩
  ·intro p u f;obtain⟨a,rfl⟩:=hnews p u f;obtain⟨x,d,g,c⟩:=Jy (t:=t) (xs:=ys) a;have:=(h _ _ _ _ g c).1;rw[<- BK (n:=t.size)]at this;exact this
  ·intro u f;obtain⟨p,z⟩:=List.mem_iff_getElem?.1 f;obtain⟨a,rfl⟩:=hnews p u z;obtain⟨x,d,g,c⟩:=Jy (t:=t) (xs:=ys) a;exact (o _ _ _ _ g c).one
  ·exact⟨vs,fun _ _ _=>False,fun i x j d g c=>⟨hget i j (zC.1 g).1 (by have:=(zC.1 c).1;rwa [Ty.bQ]at this),JQ (wY r c) (o _ _ _ _ g c)⟩,fun _ _ _ hh=>hh.elim,fun _ _ _ _ _ hh=>hh.elim⟩
theorem TA(h:Inv w0 G S a w){c:Call}(X:o.op=.call c)(u:c.callee=.builtin .append){x y:Operand}{T TX:TypeId}(hargs:c.args = #[x,y])(htys:c.argTypes = #[T,TX])
  {TT0:TT} (R:TT0.ok P=true) {t:Ty} (Y:lk TT0.elem T=some t) (v:lk TT0.elem TX=some t) {d:Nat} (Z:o.dst=some d) {ax:AV} {t1:Ty} {z A s:Nat} (B:jV G w ax (a.eval x)) (C:jV G w (.suf t1 z A s) (a.eval y))
  {ws:List W} (e:(af0 d t ax t1 z A s).val S=some ws) (hK:∀a' w' G',Inv w0 G' (S.puts ws) a' w'->K a' w'):o.wp P a w K Q:=by
 simp only[af0,Rd.val]at e;split at e
 case h_2=>cases e
 rename_i t2 ys dp2 mm2 hsuf;split at e
 case isFalse=>cases e
 rename_i h1;subst h1;split at e
 case isFalse=>cases e
 rename_i h2;obtain⟨rfl,hf⟩:=h2;split at e
 case h_2=>cases e
 rename_i k j;simp only[Rd.val]at e;split at e
 case h_2=>cases e
 rename_i t' xs deep m hown;split at e
 case isFalse=>cases e
 rename_i D;subst D;split at e
 case isFalse=>cases e
 rename_i hnd;simp only[Rd.val,zB,Rd.aC,zD]at e;obtain⟨_,hg,ws',E,rfl⟩:=e;obtain⟨g,rfl⟩:=iD E;have hrep:=C.2 _ _ _ (h.Ob hsuf [(z,A)] (by simp));have F:∃news,(∀size,size=t'.size->Src P size TX (a.eval y) (ys.drop s).length news w)/\ni w G.S true t' (ys.drop s) news (fun _=>False):=by
  refine src_of R v ?_;rcases Sl hf hrep with F | ⟨b,off,cap,news,e1,e2,l1⟩
  ·exact .inl F
  ·exact .inr ⟨b,off,cap,news,e1,e2,l1 _⟩
 have U:=h.owns k j;rw[hown]at U;have l:OwT w G.S deep m t' xs (G.ov k j) (iE G k j):=U;rw[<- B.2.1]at l;have H:=h.GI k j .dead trivial;have n:(S.dI k ((S.aH k).set j .dead)).aH d=[]:=by
  rw[bY];split
  ·rename_i I;rw[I.1,g];rfl
  ·exact g
 have hdead:bF ((S.dI k ((S.aH k).set j .dead)).aH k) j=.dead:=by
  rw[bY];split
  ·rw[iV];split
   ·rfl
   ·rename_i p J;have:¬j<(S.aH k).length:=fun L=>J ⟨rfl,L⟩
    simp only[bF,zE];rw[zJ (by omega)];rfl
  ·rename_i p;have:¬k<S.owns.length:=fun L=>p ⟨rfl,L⟩
   have M:S.aH k=[]:=by
    simp only[St.aH,zE];rw[zJ (by omega)];rfl
   rw[M];rfl
 have N:(deep&&true)=deep:=by simp
 refine jI H X u hargs htys R Y Z n (labD:=iE G k j) (labS:=fun _=>False) l F (fun _ _ hh=>hh.elim) (fun c f=>?_) (tK hg) fun a' w' G' V=>hK a' w' G' ?_
 ·rcases f with f | f
  ·have q:=h.oh f;refine⟨q.1,q.2,fun i r=>?_,fun k' j' t2 xs2 d2 m2 r=>?_⟩
   ·rw[show G.ow c=_ from f]at r;cases r
   ·rw[show G.ow c=_ from f]at r;cases r
    rw[hdead];simp[O.iO]
  ·exact f.elim
 ·rw[N]at V;exact V
theorem ae2(h:Inv w0 G S a w){c:Call}(M:o.op=.call c)(l:c.callee=.builtin .append){E:Env}(H:E.tt.ok P=true){ws:List W}(f:(eff E o).val S=some ws)
  (U:∀a' w' G',Inv w0 G' (S.puts ws) a' w'->K a' w'):o.wp P a w K Q:=by
 unfold eff at f;rw[M]at f;simp only[l]at f;split at f
 case h_2=>cases f
 rename_i d x y T T' F hxy hTT;have hargs:=qi hxy;split at f
 case isFalse=>
  split at f
  case isFalse=>cases f
  rename_i hTU
  obtain⟨C,hstr⟩:=hTU
  have htys:=qi hTT
  have hsu:=TT.OO H hstr
  simp only[Rd.aC,zB]at f
  obtain⟨ax,h1,ay,h2,dy,h3,f⟩:=f
  have A:=bH h h1
  have Y:=qZ h3 (bH h h2)
  split at f
  case h_2=>cases f
  rename_i s
  generalize hdd:D.str s=dd at Y
  have hsv:∃v:ByteArray,a.eval y=.string v/\s=v.data.toList:=by
   generalize a.eval y=yv at Y;cases Y<;>cases hdd
   exact⟨_,rfl,rfl⟩
  obtain⟨sv,hyv,rfl⟩:=hsv
  have V:∃news,(∀size,size=(Ty.base .u8).size->Src P size T' (a.eval y) (kP sv.data.toList).length news w)/\ni w G.S true (.base .u8) (kP sv.data.toList) news (fun _=>False):=by
   have hbl:(kP sv.data.toList).length=sv.size:=by unfold kP;rw[List.length_map,Array.length_toList];rfl
   refine⟨byteCells sv,fun size Z=>?_,?_,?_,fun i _=>((byteCells sv)[i]?).getD undef,fun _ _ _=>False,fun i x j d hx F=>?_,fun _ _ _ hh=>hh.elim,fun _ _ _ _ _ hh=>hh.elim⟩
   ·subst Z;rw[hyv,hbl];exact Src.ofString w hsu sv
   ·rw[byteCells_length,hbl];exact (Nat.mul_one _).symm
   ·intro u hu;obtain⟨_,_,rfl⟩:=List.mem_map.1 hu;rfl
   ·cases j with
    | succ j=>simp[Ty.cells,Base.cells]at F
    | zero=>
     simp only[Ty.cells,Base.cells,List.getElem?_cons_zero,zD]at F;subst F;unfold kP at hx;rw[List.getElem?_map,Option.map_eq_some_iff]at hx;obtain⟨c,z,rfl⟩:=hx;have e:(byteCells sv)[i*(Ty.base .u8).size+0]?=some (Value.int .u8 c.toNat):=by
      show (byteCells sv)[i*1+0]?=_
      unfold byteCells;rw[Nat.mul_one,Nat.add_zero,List.getElem?_map,z];rfl
     have e':(byteCells sv)[i]?=some (Value.int .u8 c.toNat):=by
      unfold byteCells;rw[List.getElem?_map,z];rfl
     refine⟨e.trans (by simp only[e',Option.getD_some]),?_⟩;simp only[e',Option.getD_some];exact .int _ _ _
  split at f
  ·simp only[Rd.val,zB,Rd.aC,zD]at f;obtain⟨_,N,ws',r,rfl⟩:=f;obtain⟨g,rfl⟩:=iD r;refine jI h M l hargs htys H C F g (xs:=[]) (deep:=true) (m:=true) (labD:=fun _=>False) (labS:=fun _=>False) (.inl ⟨A,rfl⟩) V (fun _ hh=>hh.elim) (fun c z=>(z.elim id id).elim) (by simpa using tK N) fun a' w' G' X=>U a' w' G' ?_
   exact X
  ·rename_i k j;simp only[Rd.val]at f;split at f
   case h_2=>cases f
   rename_i t' xs deep m hown;split at f
   case isFalse=>cases f
   rename_i I;subst I;simp only[Rd.val,zB,Rd.aC,zD]at f;obtain⟨_,N,ws',r,rfl⟩:=f;obtain⟨g,rfl⟩:=iD r;have hO:=h.owns k j;rw[hown]at hO;have B:OwT w G.S deep m (.base .u8) xs (G.ov k j) (iE G k j):=hO;rw[<- A.2.1]at B;have h12:=h.GI k j .dead trivial;have hdO1:(S.dI k ((S.aH k).set j .dead)).aH d=[]:=by
    rw[bY];split
    ·rename_i hkd;rw[hkd.1,g];rfl
    ·exact g
   have hdead:bF ((S.dI k ((S.aH k).set j .dead)).aH k) j=.dead:=by
    rw[bY];split
    ·rw[iV];split
     ·rfl
     ·rename_i hkl hjl;have:¬j<(S.aH k).length:=fun hl=>hjl ⟨rfl,hl⟩
      simp only[bF,zE];rw[zJ (by omega)];rfl
    ·rename_i hkl;have:¬k<S.owns.length:=fun hl=>hkl ⟨rfl,hl⟩
     have hg0:S.aH k=[]:=by
      simp only[St.aH,zE];rw[zJ (by omega)];rfl
     rw[hg0];rfl
   have hdp:(deep&&true)=deep:=by simp
   refine jI h12 M l hargs htys H C F hdO1 (labD:=iE G k j) (labS:=fun _=>False) B V (fun _ _ hh=>hh.elim) (fun c z=>?_) (tK N) fun a' w' G' X=>U a' w' G' ?_
   ·rcases z with z | z
    ·have J:=h.oh z;refine⟨J.1,J.2,fun i L=>?_,fun k' j' t2 xs2 d2 m2 L=>?_⟩
     ·rw[show G.ow c=_ from z]at L;cases L
     ·rw[show G.ow c=_ from z]at L;cases L
      rw[hdead];simp[O.iO]
    ·exact z.elim
   ·rw[hdp]at X;exact X
  ·cases f
 rename_i hTe;subst hTe;have htys:=qi hTT;split at f
 ·cases f
 rename_i t C;simp only[Rd.aC,zB]at f;obtain⟨ax,h1,ay,h2,f⟩:=f;split at f
 ·exact TB h M l hargs htys H C C F (bH h h1) (bH h h2) f U
 ·exact TA h M l hargs htys H C C F (bH h h1) (bH h h2) f U
 simp only[Rd.aC,zB]at f;obtain⟨vy,h3,f⟩:=f;split at f
 ·cases f
 rename_i cy;simp only[Rd.aC,zB]at f;obtain⟨ys,h4,dp,h5,f⟩:=f;have A:=bH h h1;have R:qc G w cy (a.eval y):=qY h3 (bH h h2);simp only[listOf,Rd.aC,zB,Rd.val,zD]at h4;obtain⟨d0,h6,ys',h7,h8⟩:=h4;have h8':=h8.symm;subst h8';have h9:=D.bW h7;subst h9;let keys:List (Nat×Nat):=if t.flat then []else aQ [cy]
 have hros:(if t.flat=true then []else (aQ [cy]).map fun q=>W.ro q.1 q.2)=keys.map fun q=>W.ro q.1 q.2:=by
  simp only[keys];split<;>rfl
 split at f
 ·simp only[Rd.val,zB,Rd.aC,zD]at f;obtain⟨_,N,ws',r,rfl⟩:=f;obtain⟨g,rfl⟩:=iD r;have hgd:ys.length<=34359738368:=tK N;have hnk:nodupB (aQ [cy])=true:=by cases cy<;>rfl
  have hnk':nodupB keys=true:=by
   by_cases hff:t.flat=true
   ·simp[keys,hff,nodupB]
   ·simp only[keys,if_neg hff];exact hnk
  by_cases hf:t.flat=true
  ·have V:=GZ h h6 R h5 (S':=fun x o=>G.S x o\/AK G S (aQ [cy]) x o) (fun x o Z=>Z);have hY':((∃(ad:Option Addr) (cap:Nat),a.eval y=.slice ad 0 cap/\(ad=none->cap=0))/\ys=[])\/∃b off cap news,a.eval y=.slice (some ⟨b,off,none⟩) ys.length cap/\(∀p u,news[p]?=some u->w.cell? ⟨b,off+p,none⟩=some u)/\ni w G.S dp t ys news (fun _=>False):=by
    rcases V with V | ⟨b,off,cap,news,e1,e2,l1,l2,vs,fps,l3,l4,l5⟩
    ·exact .inl V
    ·refine .inr ⟨b,off,cap,news,e1,e2,l1,l2,vs,fun _ _ _=>False,fun i x j d hx hd'=>⟨(l3 i x j d hx hd').1,?_⟩,fun _ _ _ hh=>hh.elim,fun _ _ _ _ _ hh=>hh.elim⟩;have Z:=wY hf hd';exact UI Z (l3 i x j d hx hd').2
   refine jI h M l hargs htys H C F g (xs:=[]) (deep:=true) (m:=true) (labD:=fun _=>False) (labS:=fun _=>False) (.inl ⟨A,rfl⟩) (src_of H C hY') (fun _ hh=>hh.elim) (fun c z=>(z.elim id id).elim) (by simpa using hgd) fun a' w' G' X=>U a' w' G' ?_
   rw[hros];simp only[keys,hf,if_true];exact X
  ·have hk:keys=aQ [cy]:=by simp only[keys];rw[if_neg hf]
   obtain⟨G1,h11,m11,e11,n11⟩:=Inv.XT keys h hnk';have V:=GZ h h6 R h5 (S':=G1.S) (fun x o Z=>(m11.s x o).2 (by rw[hk];exact Z));refine jI h11 M l hargs htys H C F (n11 d g) (xs:=[]) (deep:=true) (m:=true) (labD:=fun _=>False) (.inl ⟨A,rfl⟩) (src_of H C V) (fun _ hh=>hh.elim) (fun c z=>?_) (by simpa using hgd) fun a' w' G' X=>U a' w' G' ?_
   ·rcases z with z | ⟨_,k,j,rfl,how,t',xs',deep',m',hown⟩
    ·exact z.elim
    ·have J:=h.oh how;refine⟨J.1,J.2,fun i L=>?_,fun k' j' t2 xs2 d2 m2 L=>?_⟩
     ·rw[m11.ow,how]at L;cases L
     ·rw[m11.ow,how]at L;cases L
      rw[e11,if_pos (by rw[hk];simp[aQ])];exact O.OI hown _ _ _ _
   ·rw[hros,gq,gq];exact X
 ·rename_i k j;simp only[Rd.val]at f;split at f
  case h_2=>cases f
  rename_i t' xs deep m hown;split at f
  case isFalse=>cases f
  rename_i I;subst I;split at f
  case isFalse=>cases f
  rename_i hnd;simp only[Rd.val,zB,Rd.aC,zD]at f;obtain⟨_,N,ws',r,rfl⟩:=f;obtain⟨g,rfl⟩:=iD r;have B:OwT w G.S deep m t' xs (G.ov k j) (iE G k j):=(h.owns k j).vW hown;rw[<- A.2.1]at B;exact RQ h M l hargs htys H C F g B R h6 h5 hnd (tK N) U
 ·rename_i k j n;simp only[Rd.val]at f;split at f
  case h_2=>cases f
  rename_i t' xs deep hown;split at f
  case isFalse=>cases f
  rename_i I;subst I;split at f
  case isFalse=>cases f
  rename_i hnd;simp only[Rd.val,zB,Rd.aC,zD]at f;obtain⟨_,N,ws',r,rfl⟩:=f;obtain⟨g,rfl⟩:=iD r;have hO:=h.owns k j;rw[hown]at hO;have B:OwT w G.S deep true t' xs (G.ov k j) (iE G k j):=hO;exact RQ h M l hargs htys H C F g (B.aiA A.2) R h6 h5 hnd (tK N) U
 ·cases f
end ops
end Go.Abs
namespace Go.Abs
open Go.RowKit
section ops
variable {P:Program} {w0:Bs} {G:Gh} {S:St} {a:Act} {w:World} {o:Oper} {K:Act->World->Prop} {Q:Exit->Act->World->Prop}
theorem Ip{T:TypeId}{i:TypeInfo}(hi:P.info? T=some i){g off:Nat}{cur:Array Value}{E:TypeId}(a:w.heap[g]?=some (.cells cur E (0,0))){v:Value}{vs:List Value}(b:v.cells=vs.toArray)(c:vs.length=i.size)
  (d:off+vs.length<=cur.size) (f:∀u∈vs,u.oneCell'=true) :
  (storeVar T ⟨g,off,none⟩ v).run P w=.ok () (w.setRow g (eX cur.toList off vs).toArray):=by
 have:=run_storeCells_at P g off E vs 0 cur w a (by simpa using d) f;simp only[Nat.add_zero]at this;have e:(storeVar T ⟨g,off,none⟩ v).run P w=(storeCells ⟨g,off,none⟩ vs).run P w:=by simp[storeVar,sizeOf,typeInfo,hi,b,c]
 rw[e];exact this
theorem IE{t:TypeId}{p x:Operand}(b:o.op=.store t p x){ad:Addr}(c:a.eval p=.pointer (some ad)){w':World}(d:(storeVar t ad (a.eval x)).run P w=.ok () w') :
  (execOp a.eval o).run P w=.ok .skip w':=by
 unfold execOp;simp[b,c,Instr.storeAt,Instr.sureAddr,d]
theorem aeg(S:St)(k:Nat)(l l':List O):(S.dI k l).dI k l'=S.dI k l':=by simp[St.dI]
theorem XH:∀ {tys:List (Option Ty)} {cs:List C} {ds:List D},(cDs tys cs).val S=some ds->tys.length=cs.length->ds.length=cs.length/\∀(j:Nat) (d:D),ds[j]?=some d->∃c ty,cs[j]?=some c/\(cD ty c).val S=some d
 | [],[],ds,h,_=>by
  simp only[cDs,Rd.val,zD]at h;subst h;exact⟨rfl,fun j d a=>by simp at a⟩
 | ty::tys,c::cs,ds,h,b=>by
  simp only[cDs,Rd.aC,zB,Rd.val,zD]at h;obtain⟨l,e,f,g,rfl⟩:=h;obtain⟨i,k⟩:=XH g (by simpa using b);refine⟨by simp[i],fun j d a=>?_⟩;cases j with
  | zero=>simp at a;subst a;exact⟨c,ty,rfl,e⟩
  | succ j=>exact k j d (by simpa using a)
theorem ahs{cs:List C}{vs us:List Value}{off:Nat}(f:dR G w cs vs)(g:(seg cs off us.length).all C.plain=true)(q:off+us.length<=vs.length):∀(n:Nat) p l c,vs[n]?=some (Value.slice p l c)->(eX vs off us)[n]?=some (Value.slice p l c):=by
 intro n p l c b;obtain⟨h,e⟩:=f.get;have j:n<vs.length:=(zC.1 b).1;unfold eX;by_cases k:n<off
 ·rw[a6,List.getElem?_append_left (by rw[a7];omega),List.getElem?_take,if_pos k];exact b
 by_cases r:n<off+us.length
 ·exfalso;have a:n<cs.length:=by omega
  have m:=e n cs[n] _ (by simp[a]) b;have o:cs[n]∈seg cs off us.length:=by
   unfold seg;refine zG (i:=n-off) ?_;rw[List.getElem?_take,if_pos (by omega),List.getElem?_drop,show off+(n-off)=n by omega];simp[a]
  have:=List.all_eq_true.1 g _ o;generalize cs[n]=cc at *;cases cc with
  | d x=>cases x with
   | list=>cases this
   | _=>cases m
  | _=>cases this
 ·rw[List.getElem?_append_right (by simp;omega),List.getElem?_drop];rw[show off+us.length+(n-(vs.take off++us).length)=n by simp;omega];exact b
theorem agY(h:Inv w0 G S a w){t:TypeId}{p x:Operand}(ho:o.op=.store t p x){E:Env}(hT:E.tt.ok P=true){ws:List W}(f:(eff E o).val S=some ws)
  (hK:∀a' w' G',Inv w0 G' (S.puts ws) a' w'->K a' w'):o.wp P a w K Q:=by
 unfold eff at f;rw[ho]at f;simp only at f;split at f
 ·cases f
 rename_i agg n B;obtain⟨d,i,hu,hi,hsz,hd⟩:=TT.G7 hT B;simp only[Rd.aC,zB]at f;obtain⟨av,h1,v,h2,f⟩:=f;have hr:=qY h2 (bH h h1);obtain⟨us,hus,V⟩:=hr.Vy;split at f
 case isFalse=>cases f
 rename_i hn;have hul:us.length=n:=by rw[<- V.length];exact hn
 simp only[Rd.aC,zB]at f;obtain⟨ap,h3,f⟩:=f;have hrp:=bH h h3;split at f
 ·rename_i b off;simp only[Rd.val]at f;split at f
  ·rename_i cs hcsb;split at f
   ·rename_i hle';obtain⟨hle,hpl⟩:=hle';simp only[Rd.val,zD]at f;subst f;obtain⟨_,vs,e,hh,U⟩:=h.box b cs hcsb;have hvl:=U.length;refine Ot (IE ho hrp.2 (Ip hi hh hus (by omega) (by simp;omega) V.one)) (hK _ _ G ?_);have h':=h.alK b hcsb (U.eX V off) fun e0 vs2 E2 hh2=>(by rw[hh]at hh2;cases hh2;exact ahs U (by simpa [e0,hul] using hpl) (by omega))
    exact h'.dst JJ
   ·cases f
  ·cases f
 ·rename_i k j ii sz off;simp only[Rd.val]at f;split at f
  case h_2=>cases f
  rename_i ty xs deep hown;simp only[Rd.val,zB]at f;obtain⟨x0,hx0,f⟩:=f;split at f
  case isFalse=>cases f
  rename_i hoff;simp only[Rd.aC,zB]at f;obtain⟨ds,h4,dp,h5,f⟩:=f;simp only[Rd.val,zB]at f;obtain⟨y,h6,f⟩:=f;split at f
  case isFalse=>cases f
  rename_i hnd;simp only[Rd.val,zD]at f;subst f;obtain⟨hlk,b,len,cap,hov,hpv⟩:=hrp;obtain⟨hkn,hnk⟩:=lZ hnd;have hO:=h.owns k j;rw[hown]at hO;rcases hO with ⟨he,_⟩ | ⟨b',cap',arr,e,vs,fps,hv',hb,hcap,hmax,hasz,hfb,U,hrr,hf,hdis,hsS⟩
  ·rw[hov]at he;cases he
  rw[hov]at hv';injection hv' with e1 e2 e3;injection e1 with e1;injection e1 with e1 _ _;subst e1;have hii:ii<xs.length:=(zC.1 hx0).1;obtain⟨D,hon⟩:=hoff;have htl:(seg ty.tys off n).length=v.cells.length:=by simp[Abs.seg,qh];omega
  obtain⟨hdl,hdg⟩:=XH h4 htl;obtain⟨G1,h7,m7,e7,n7⟩:=Inv.XT (aQ v.cells) h hnk;have hS2:∀k' j',bF ((S.puts ((aQ v.cells).map fun q=>W.ro q.1 q.2)).aH k') j'=if (k',j')∈aQ v.cells then (bF (S.aH k') j').EN else bF (S.aH k') j':=e7
  have h8:=h7.GI k j .dead trivial;generalize hS1:S.puts ((aQ v.cells).map fun q=>W.ro q.1 q.2)=L at *;have hnq:∀k' j',(k',j')∈aQ v.cells->∀t' xs',bF (S.aH k') j'≠.seg t' xs':=fun k' j' X t' xs' he=>by
   obtain⟨q,hq⟩:=List.getElem?_of_mem (wP X);have hql:q<ds.length:=by rw[hdl];exact (zC.1 hq).1
   obtain⟨c,ty',u,m⟩:=hdg q _ (zF hql);rw[hq]at u;cases u
   simp only[cD,Rd.val,he]at m;cases m
  have hnp:∀k' j',(k',j')∈aQ v.cells->∀t' xs' i',bF (S.aH k') j'≠.part t' xs' i':=fun k' j' X t' xs' i' he=>by
   obtain⟨q,hq⟩:=List.getElem?_of_mem (wP X);have hql:q<ds.length:=by rw[hdl];exact (zC.1 hq).1
   obtain⟨c,ty',u,m⟩:=hdg q _ (zF hql);rw[hq]at u;cases u
   simp only[cD,Rd.val,he]at m;cases m
  have hdead:∀k' j' t' xs' d' m',(bF ((L.dI k ((L.aH k).set j .dead)).aH k') j').iO=.own t' xs' d' m'->(k',j')≠(k,j)/\(k',j')∉aQ v.cells:=by
   intro k' j' t' xs' d' m' A;rw[bY]at A;split at A
   ·rename_i hkk;obtain⟨rfl,hkl⟩:=hkk;rw[iV]at A;split at A
    ·cases A
    ·rename_i hjj;refine⟨fun e=>?_,fun X=>?_⟩
     ·cases e
      have:¬j<(L.aH k).length:=fun R=>hjj ⟨rfl,R⟩
      have:bF (L.aH k) j=.dead:=by
       simp only[bF,zE];rw[zJ (by omega)];rfl
      rw[this]at A;cases A
     ·rw[hS2,if_pos X]at A;cases M:bF (S.aH k) j'<;>rw[M]at A<;>simp[O.EN,O.iO]at A
      ·exact hnp _ _ X _ _ _ M
      ·exact hnq _ _ X _ _ M
   ·rename_i hkk;refine⟨fun e=>?_,fun X=>?_⟩
    ·cases e
     have:¬k<L.owns.length:=fun R=>hkk ⟨rfl,R⟩
     have hg0:L.aH k=[]:=by
      simp only[St.aH,zE];rw[zJ (by omega)];rfl
     rw[hg0]at A;cases A
    ·rw[hS2,if_pos X]at A;cases M:bF (S.aH k') j'<;>rw[M]at A<;>simp[O.EN,O.iO]at A
     ·exact hnp _ _ X _ _ _ M
     ·exact hnq _ _ X _ _ M
  let arr':Array Value:=(eX arr.toList (ii*sz+off) us).toArray;have hidx:ii*sz+off+us.length<=arr.toList.length:=by
   have e1:arr.toList.length=arr.size:=Array.length_toList;rw[e1,hasz,<- D];have:(ii+1)*ty.size<=cap'*ty.size:=Nat.mul_le_mul_right _ (by omega);rw[Nat.succ_mul]at this;omega
  have hsr:=setRow_heap w b arr arr' e (0,0) hb;have hoth:∀c,c≠b->(w.setRow b arr').heap[c]?=w.heap[c]?:=fun c U=>setRow_other w b c _ U
  have hbo:G1.ow b=some (.own k j):=by rw[m7.ow];exact hfb
  have hSb:∀oo,¬G1.S b oo:=by
   intro oo B;rcases (m7.s b oo).1 B with B | ⟨k',j',t2,xs2,d2,m2,hmem,_,F,_⟩
   ·exact absurd (hsS oo B).1 (by simp)
   ·rw[show G.ow b=some (.own k j)from hfb]at F;cases F
    exact hkn hmem
  have h9:=h8.acZ b (w':=w.setRow b arr') (h7.oh hbo).1 (fun i r=>by rw[hbo]at r;cases r) (fun k' j' t' xs' d' m' r A=>by
    rw[hbo]at r;cases r;exact (hdead k j t' xs' d' m' A).1 rfl) rfl rfl rfl (by simp) (fun c _ U=>hoth c U) (fun oo B=>absurd B (hSb oo))
  classical
  have h10:=h9.amy (fun c=>∃(q:Nat) (cc:C),v.cells[q]?=some cc/\rowsOf G S cc c) k j (fun c U=>by
   obtain⟨q,cc,hq,k',j',rfl,F,t2,xs2,d2,m2,hown2⟩:=U;have Y:=h.oh F;refine⟨Y.1,by simpa using Y.2,fun i r=>?_,fun k'' j'' t' xs' d' m' r _ A=>?_⟩
   ·rw[m7.ow,F]at r;cases r
   ·rw[m7.ow,F]at r;cases r
    exact (hdead _ _ t' xs' d' m' A).2 (iL (zG hq)))
  have hrows_ne:∀(q:Nat) (cc:C) (c:Nat),v.cells[q]?=some cc->rowsOf G S cc c->G.ow c≠some (.own k j):=by
   rintro q cc c hq ⟨k',j',rfl,F,_⟩ hcj;rw[F]at hcj;cases hcj
   exact hkn (iL (zG hq))
  have hnew:zk { G1 with ow:=fun c=>if ∃(q:Nat) (cc:C),v.cells[q]?=some cc/\rowsOf G S cc c then some (.own k j)else G1.ow c } (w.setRow b arr') k j (.own ty (xs.set ii y) (deep&&dp) true):=by
   refine .inr ⟨b,cap',arr',e,fun i' j'=>if i'=ii/\off<=j'/\j'<off+n then us.getD (j'-off) undef else vs i' j',
    fun i' j' c=>if i'=ii/\off<=j'/\j'<off+n then ∃cc,v.cells[j'-off]?=some cc/\rowsOf G S cc c else fps i' j' c,?_,hsr,by simpa using hcap,hmax,?_,?_,?_,?_,?_,?_,?_⟩
   ·rw[List.length_set];show G1.ov k j=_
    rw[m7.ov,hov,e2,e3]
   ·show (eX arr.toList (ii*sz+off) us).length=_
    rw[ET _ _ _ hidx];have e1:arr.toList.length=arr.size:=Array.length_toList;rw[e1,hasz]
   ·show (if _ then some (Bv.own k j)else G1.ow b)=_
    split
    ·rfl
    ·exact hbo
   ·intro i' x' j' d' z g;have hj':j'<ty.size:=by
     have:=(zC.1 g).1;rwa [Ty.bQ]at this
    have hi':i'<xs.length:=by have:=(zC.1 z).1;simpa using this
    rw[<- Array.getElem?_toList];show (eX arr.toList (ii*sz+off) us)[i'*ty.size+j']?=some (if i'=ii/\off<=j'/\j'<off+n then us.getD (j'-off) undef else vs i' j')
    simp only[eX,List.getElem?_append,List.getElem?_take,List.getElem?_drop,aR,a7];have m1:min (ii*sz+off) arr.toList.length=ii*sz+off:=by omega
    rw[m1];by_cases H:i'=ii/\off<=j'/\j'<off+n
    ·obtain⟨rfl,T,N⟩:=H;have Z:i'*ty.size+j'<i'*sz+off+us.length:=by rw[D];omega
     have a2:¬i'*ty.size+j'<i'*sz+off:=by rw[D];omega
     have a3:i'*ty.size+j'-(i'*sz+off)=j'-off:=by rw[D];omega
     have a4:j'-off<us.length:=by omega
     simp[Z,a2,a3,T,N,a4]
    ·have hold:arr.toList[i'*ty.size+j']?=some (vs i' j'):=by
      by_cases l:i'=ii
      ·subst l;have hd0:∃d0,(ty.cells x0)[j']?=some d0:=by
        have:j'<(ty.cells x0).length:=by rw[Ty.bQ];exact hj'
        exact⟨_,zF this⟩
       obtain⟨d0,hd0⟩:=hd0;simpa using U i' x0 j' d0 hx0 hd0
      ·rw[List.getElem?_set,if_neg (Ne.symm l)]at z;simpa using U i' x' j' d' z g
     rw[if_neg H];have hcase:i'*ty.size+j'<ii*sz+off\/ii*sz+off+us.length<=i'*ty.size+j':=by
      rw[<- D,hul];by_cases l:i'=ii
      ·subst l;have:¬(off<=j'/\j'<off+n):=fun hh=>H ⟨rfl,hh⟩
       omega
      ·rcases Nat.lt_or_gt_of_ne l with R | R
       ·have:(i'+1)*ty.size<=ii*ty.size:=Nat.mul_le_mul_right _ R;rw[Nat.succ_mul]at this;omega
       ·have:(ii+1)*ty.size<=i'*ty.size:=Nat.mul_le_mul_right _ R;rw[Nat.succ_mul]at this;omega
     rcases hcase with R | R
     ·have Z:i'*ty.size+j'<ii*sz+off+us.length:=by omega
      rw[if_pos Z,if_pos R,if_pos R];exact hold
     ·have Z:¬i'*ty.size+j'<ii*sz+off+us.length:=by omega
      rw[if_neg Z];have a2:ii*sz+off+us.length+(i'*ty.size+j'-(ii*sz+off+us.length))=i'*ty.size+j':=by omega
      rw[a2];exact hold
   ·intro i' x' j' d' z g;have hmv:∀b' oo,G.S b' oo->G1.S b' oo/\(w.setRow b arr').cell? ⟨b',oo,none⟩=w.cell? ⟨b',oo,none⟩:=fun b' oo B=>
     ⟨(m7.s b' oo).2 (.inl B),World.cell?_of_block (w:=w) (hoth b' fun eb=>hSb oo (eb▸(m7.s b' oo).2 (.inl B)))⟩
    by_cases H:i'=ii/\off<=j'/\j'<off+n
    ·obtain⟨rfl,T,N⟩:=H;rw[List.getElem?_set,if_pos rfl,if_pos hii]at z;cases z
     rw[Ty.fU h6]at g;have hdd:ds[j'-off]?=some d':=by
      simp only[eX,List.getElem?_append,List.getElem?_take,List.getElem?_drop,aR,a7,Ty.bQ,hdl,hn]at g;have m1:min off ty.size=off:=by omega
      rw[m1]at g;have Z:j'<off+n:=N;have a2:¬j'<off:=by omega
      simpa [Z,a2] using g
     obtain⟨cc,tyc,I,hcd⟩:=hdg _ _ hdd;obtain⟨bb,hb1,hb2⟩:=AP h5 _ cc I;have Y:j'-off<us.length:=by omega
     have hcr:=V.get.2 _ cc us[j'-off] I (by simp[Y]);have:=XE h hcd hcr hb1 hb2 (S':=G1.S) (keys:=aQ v.cells) (fun xx oo B=>(m7.s xx oo).2 B) fun k' j'' ec=>iL (ec▸zG I)
     simp only[T,N,and_self,if_true];have hg:us.getD (j'-off) undef=us[j'-off]:=by simp[Y]
     rw[hg];refine (this.move (fun b' oo B=>⟨B,World.cell?_of_block (w:=w) (hoth b' fun eb=>hSb oo (eb▸B))⟩) fun c J=>hoth c fun eb=>?_).sub (fun c J=>⟨cc,I,J⟩) fun ee=>(zI _ _▸ee).2
     exact hrows_ne _ cc c I J (by rw[eb];exact hfb)
    ·simp only[if_neg H];have hw':Ow w G.S deep d' (vs i' j') (fps i' j'):=by
      by_cases l:i'=ii
      ·subst l;rw[List.getElem?_set,if_pos rfl,if_pos hii]at z;cases z
       rw[Ty.fU h6]at g;refine hrr i' x0 j' d' hx0 ?_;have hno:¬(off<=j'/\j'<off+n):=fun hh=>H ⟨rfl,hh⟩
       simp only[eX,List.getElem?_append,List.getElem?_take,List.getElem?_drop,aR,a7,Ty.bQ,hdl,hn]at g;have m1:min off ty.size=off:=by omega
       rw[m1]at g;by_cases R:j'<off
       ·have Z:j'<off+n:=by omega
        simpa [Z,R] using g
       ·have Z:¬j'<off+n:=by omega
        have a2:off+n+(j'-(off+n))=j':=by omega
        simpa [Z,a2] using g
      ·rw[List.getElem?_set,if_neg (Ne.symm l)]at z;exact hrr i' x' j' d' z g
     refine (hw'.move hmv fun c J=>hoth c (hf i' j' c J).2).sub (fun c J=>?_) fun ee=>(zI _ _▸ee).1
     first | exact J | (rw[if_neg H];exact J)
   ·intro i' j' c hcf;split at hcf
    ·obtain⟨cc,I,hrow⟩:=hcf;refine⟨?_,fun eb=>hrows_ne _ cc c I hrow (by rw[eb];exact hfb)⟩;show (if _ then some (Bv.own k j)else G1.ow c)=_
     rw[if_pos ⟨_,cc,I,hrow⟩]
    ·refine⟨?_,(hf i' j' c hcf).2⟩;show (if _ then some (Bv.own k j)else G1.ow c)=_
     split
     ·rfl
     ·rw[m7.ow];exact (hf i' j' c hcf).1
   ·intro i1 j1 i2 j2 c u m;split at u
    ·rename_i hin1;obtain⟨cc1,hcc1,hrow1⟩:=u;split at m
     ·rename_i hin2;obtain⟨cc2,hcc2,hrow2⟩:=m;obtain⟨k1,l1,rfl,how1,_⟩:=hrow1;obtain⟨k2,l2,rfl,how2,_⟩:=hrow2;rw[how1]at how2;cases how2
      have:=iK hnk hcc1 hcc2;omega
     ·exact absurd (hf i2 j2 c m).1 (hrows_ne _ cc1 c hcc1 hrow1)
    ·split at m
     ·obtain⟨cc2,hcc2,hrow2⟩:=m;exact absurd (hf i1 j1 c u).1 (hrows_ne _ cc2 c hcc2 hrow2)
     ·exact hdis _ _ _ _ _ u m
   ·intro oo B;exact absurd B (hSb oo)
  have T:=h10.GI k j _ hnew;have hpv':a.eval p=.pointer (some ⟨b,ii*sz+off,none⟩):=hpv;have e1:arr.toList.length=arr.size:=Array.length_toList;have hst:(L.dI k ((L.aH k).set j .dead)).dI k (((L.dI k ((L.aH k).set j .dead)).aH k).set j (.own ty (xs.set ii y) (deep&&dp) true))=L.put (.upd k j (.own ty (xs.set ii y) (deep&&dp) true)):=by
   show _=L.dI k ((L.aH k).set j _)
   by_cases hkl:k<L.owns.length
   ·rw[aeg,bY,if_pos ⟨rfl,hkl⟩,List.set_set]
   ·simp only[BN hkl]
  rw[hst]at T;have N:=T.dst (o:=o) (JJ (G:=_) (w:=_));have hpu:S.puts (((aQ v.cells).map fun q=>W.ro q.1 q.2)++(.upd k j (.own ty (xs.set ii y) (deep&&dp) true)::gy o (.tup [])))=(L.put (.upd k j (.own ty (xs.set ii y) (deep&&dp) true))).puts (gy o (.tup [])):=by
   rw[gq,hS1];rfl
  rw[<- hpu]at N;exact Ot (IE ho hpv' (Ip hi hb hus (by omega) (by omega) V.one)) (hK _ _ _ N)
 ·cases f
end ops
end Go.Abs
namespace Go.Abs
open Go.RowKit
theorem U8{α:Type}{xs r:List α}{lo hi:Option Int}(h:eff.cutL xs lo hi=some r) :
  0<=lo.getD 0/\lo.getD 0<=hi.getD xs.length/\hi.getD xs.length<=xs.length/\r=(xs.take (hi.getD xs.length).toNat).drop (lo.getD 0).toNat:=by
 simp only[eff.cutL]at h;split at h
 ·rename_i a;exact⟨a.1,a.2.1,a.2.2,(aM h).symm⟩
 ·cases h
section ops
variable {P:Program} {w0:Bs} {G:Gh} {S:St} {a:Act} {w:World} {o:Oper} {K:Act->World->Prop} {Q:Exit->Act->World->Prop}
theorem dV(isSlice:Bool)(len cap:Nat)(lo hi:Option Value)(l h:Int)(a:lo=none/\l=0\/∃k,lo=some (.int k l))(b:hi=none/\h=len\/∃k,hi=some (.int k h))
  (c:0<=l) (d:l<=h) (e:h<=cap):(Instr.sliceBounds isSlice len cap lo hi none).run P w=.ok (l.toNat,h.toNat,cap) w:=by
 rcases a with ⟨rfl,rfl⟩ | ⟨k,rfl⟩<;>rcases b with ⟨rfl,rfl⟩ | ⟨k',rfl⟩
 ·simp[Instr.sliceBounds]
 ·simp[Instr.sliceBounds,Instr.sliceBound,asIntOf,d,e]
 ·simp[Instr.sliceBounds,Instr.sliceBound,asIntOf,c,d]
 ·have f:(0:Int)<=h:=by omega
  have g:max h 0=h:=by omega
  have i:¬h<l:=by omega
  simp[Instr.sliceBounds,Instr.sliceBound,asIntOf,c,e,f,g,i]
theorem adX(h:Inv w0 G S a w){x:Option Operand}{b:Option Int}(c:(eff.bnd x).val S=some b)(d:Int):(x.map a.eval=none/\b.getD d=d)\/∃k,x.map a.eval=some (.int k (b.getD d)):=by
 cases x with
 | none=>
  simp only[eff.bnd,Rd.val,zD]at c;subst c;exact .inl ⟨rfl,rfl⟩
 | some x=>
  simp only[eff.bnd,Rd.aC,zB,Rd.val,zD]at c;obtain⟨av,e,n,f,rfl⟩:=c;obtain⟨k,g⟩:=zh f (bH h e);exact .inr ⟨k,by simp[g]⟩
theorem Inv.VH(h:Inv w0 G S a w)(k j:Nat):∃G',Inv w0 G' (S.put (.nomut k j)) a w/\More G G' (AK G S [(k,j)]):=by
 have l:=h.owns k j;have R:Inv w0 G (S.put (.nomut k j)) a w:=by
  refine h.GI k j _ ?_;cases c:bF (S.aH k) j with
  | dead=>trivial
  | ro t xs=>rw[c]at l;exact l
  | part t xs i=>rw[c]at l;exact l
  | seg t xs=>rw[c]at l;exact l
  | tree t xs=>
   rcases h.agV (k:=k) (j:=j) (by rw[c];rfl)with x | ⟨b,cap,arr,E,vs,fps,y,z,A,B,C,D,F,H,I,n,J⟩
   ·exact .inl x
   ·exact .inr ⟨b,cap,arr,E,vs,fps,y,z,A,B,C,D,F,H,I,n,fun oo K=>⟨rfl,(J oo K).2⟩⟩
  | own t xs deep m=>
   rw[c]at l;rcases l with x | ⟨b,cap,arr,E,vs,fps,y,z,A,B,C,D,F,H,I,n,J⟩
   ·exact .inl x
   ·exact .inr ⟨b,cap,arr,E,vs,fps,y,z,A,B,C,D,F,H,I,n,fun oo K=>⟨rfl,(J oo K).2⟩⟩
 have hent:∀k' j' t xs deep m,bF ((S.put (.nomut k j)).aH k') j'=.own t xs deep m->∃m',(bF (S.aH k') j').vW=.own t xs deep m'/\((k',j')=(k,j)->m=false):=by
  intro k' j' t xs deep m c;change bF ((S.dI k ((S.aH k).set j (bF (S.aH k) j).Fa)).aH k') j'=_ at c;rw[bY]at c;split at c
  ·rename_i r;obtain⟨rfl,T⟩:=r;rw[iV]at c;split at c
   ·rename_i s;obtain⟨rfl,_⟩:=s;cases d:bF (S.aH k) j with
    | dead=>rw[d]at c;cases c
    | ro t' xs'=>rw[d]at c;cases c
    | part t' xs' i'=>rw[d]at c;cases c
    | seg t' xs'=>rw[d]at c;cases c
    | own t' xs' deep' m'=>
     rw[d]at c;simp only[O.Fa,O.own.injEq]at c;obtain⟨rfl,u,rfl,rfl⟩:=c;cases u
     exact⟨m',rfl,fun _=>rfl⟩
    | tree t' xs'=>
     rw[d]at c;simp only[O.Fa,O.own.injEq]at c;obtain⟨rfl,u,rfl,rfl⟩:=c;cases u
     exact⟨true,rfl,fun _=>rfl⟩
   ·rename_i s;refine⟨m,by rw[c];rfl,fun e=>?_⟩;cases e
    have:¬j<(S.aH k).length:=fun o=>s ⟨rfl,o⟩
    have:bF (S.aH k) j=.dead:=by
     simp only[bF,zE];rw[zJ (by omega)];rfl
    rw[this]at c;cases c
  ·rename_i r;refine⟨m,by rw[c];rfl,fun e=>?_⟩;cases e
   have:¬k<S.owns.length:=fun o=>r ⟨rfl,o⟩
   have p:S.aH k=[]:=by
    simp only[St.aH,zE];rw[zJ (by omega)];rfl
   rw[p]at c;cases c
 have L:∀t xs,(bF ((S.put (.nomut k j)).aH k) j).IsT t xs->∀t' xs' d' m',(bF (S.aH k) j).vW≠.own t' xs' d' m':=by
  intro t xs c t' xs' d' m';change (bF ((S.dI k ((S.aH k).set j (bF (S.aH k) j).Fa)).aH k) j).IsT t xs at c;rw[bY]at c;split at c
  ·rw[iV]at c;split at c
   ·cases d:bF (S.aH k) j<;>rw[d]at c<;>simp[O.Fa,O.IsT,O.vW]at c ⊢
   ·rename_i s;have:¬j<(S.aH k).length:=fun o=>s ⟨rfl,o⟩
    have:bF (S.aH k) j=.dead:=by
     simp only[bF,zE];rw[zJ (by omega)];rfl
    rw[this]at c;rcases c with c | ⟨_,c⟩ | c<;>cases c
  ·rename_i r;have:¬k<S.owns.length:=fun o=>r ⟨rfl,o⟩
   have p:S.aH k=[]:=by
    simp only[St.aH,zE];rw[zJ (by omega)];rfl
   rw[p]at c;rcases c with c | ⟨_,c⟩ | c<;>cases c
 obtain⟨u,_⟩:=R.acG (AK G S [(k,j)]) (by
  rintro b oo ⟨k',j',t,xs,deep,m,hmem,hown,g,q⟩;simp only[List.mem_singleton,Prod.mk.injEq]at hmem;obtain⟨rfl,rfl⟩:=hmem;refine⟨(h.olt _ _ g).2,fun i N=>(by rw[g]at N;cases N),fun U V P v X Y c len cap M f=>?_⟩;rw[g]at f;cases f
  obtain⟨m',Q,W⟩:=hent _ _ _ _ _ _ c;rw[hown]at Q;cases Q
  exact⟨W rfl,q len cap M⟩) (by
  rintro b oo ⟨k',j',t,xs,deep,m,hmem,hown,g,q⟩;exact (h.oh g).1) (by
  rintro b oo ⟨k',j',t,xs,deep,m,hmem,hown,g,q⟩ U V P v c f;simp only[List.mem_singleton,Prod.mk.injEq]at hmem;obtain⟨rfl,rfl⟩:=hmem;rw[g]at f;cases f
  exact L P v c _ _ _ _ hown)
 exact⟨_,u,rfl,rfl,rfl,rfl,rfl,fun b oo=>Iff.rfl⟩
theorem JP{S0:Nat->Nat->Prop}{t:Ty}{xs r:List t.den}{v:Value}(hrep:Rep w S0 (.list t xs) v){T e:TypeId}{i:TypeInfo}(u:P.underlying T=some (.slice e))(hi:P.info? e=some i)(y:i.size=t.size)
  {lo c:Option Value} {blo bhi:Option Int} (m:(lo=none/\blo.getD 0=0)\/∃k,lo=some (.int k (blo.getD 0))) (n:(c=none/\bhi.getD xs.length=xs.length)\/∃k,c=some (.int k (bhi.getD xs.length)))
  (E:eff.cutL xs blo bhi=some r):∃v',(Instr.sliceAt T v lo c none).run P w=.ok v' w/\Rep w S0 (.list t r) v':=by
 obtain⟨F,G,C,rfl⟩:=U8 E;generalize J:blo.getD 0=l at *;generalize hh:bhi.getD (xs.length:Int)=h at *;have q:((xs.take h.toNat).drop l.toNat).length=h.toNat-l.toNat:=by simp;omega
 generalize f:D.list t xs=dd at hrep;cases hrep with
 | int=>cases f
 | bool=>cases f
 | str=>cases f
 | nil t'=>
  cases f
  have o:h=0:=by simp at C;omega
  subst o;have p:l=0:=by omega
  subst p;have a:=dV (P:=P) (w:=w) true 0 0 lo c 0 0 (m.imp id id) (by simpa using n) (by omega) (by omega) (by omega);refine⟨.slice none 0 0,?_,?_⟩
  ·simp only[Int.toNat_zero]at a;simp[Instr.sliceAt,Instr.slice,run_underlying u,a,sizeOf,typeInfo,hi]
  ·simp;exact .nil _
 | emp t' ad cap=>
  cases f
  have o:h=0:=by simp at C;omega
  subst o;have p:l=0:=by omega
  subst p;have a:=dV (P:=P) (w:=w) true 0 cap lo c 0 0 (m.imp id id) (by simpa using n) (by omega) (by omega) (by omega);have z:ad.add 0=ad:=rfl;refine⟨.slice (some ad) 0 cap,?_,?_⟩
  ·simp only[Int.toNat_zero]at a;simp[Instr.sliceAt,Instr.slice,run_underlying u,a,sizeOf,typeInfo,hi,z]
  ·simp;exact .emp _ _ _
 | list t' xs' b off cap vs hcap H A=>
  cases f
  have a:=dV (P:=P) (w:=w) true xs.length cap lo c l h m n F G (by omega);by_cases s:cap=l.toNat
  ·refine⟨.slice (some ⟨b,off,none⟩) (h.toNat-l.toNat) (cap-l.toNat),?_,?_⟩
   ·simp[Instr.sliceAt,Instr.slice,run_underlying u,a,sizeOf,typeInfo,hi,if_pos s]
   ·have z:(xs.take h.toNat).drop l.toNat=[]:=List.eq_nil_of_length_eq_zero (by omega);have I:h.toNat-l.toNat=0:=by omega
    rw[z,I];exact .list t [] b off _ (fun _ _=>undef) (by simp) (fun i x j d g=>by simp at g) (fun i x j d g=>by simp at g)
  ·refine⟨.slice (some ⟨b,off+l.toNat*t.size,none⟩) (h.toNat-l.toNat) (cap-l.toNat),?_,?_⟩
   ·simp[Instr.sliceAt,Instr.slice,run_underlying u,a,sizeOf,typeInfo,hi,s,y,addr_add]
   ·have hget:∀(i:Nat) (x:t.den),((xs.take h.toNat).drop l.toNat)[i]?=some x->xs[l.toNat+i]?=some x:=by
     intro i x g;rw[List.getElem?_drop,List.getElem?_take]at g;split at g
     ·exact g
     ·cases g
    rw[<- q];refine .list t _ b _ _ (fun i j=>vs (l.toNat+i) j) (by rw[q];omega) (fun i x j d g B=>?_) (fun i x j d g B=>A _ x j d (hget i x g) B);have:=H _ x j d (hget i x g) B;rw[Nat.add_mul,Nat.add_assoc,<- Nat.add_assoc off]at this;exact this
theorem Qa{S:St}{k j:Nat}{t:Ty}{xs:List t.den}{deep:Bool}(h:bF (S.aH k) j=.own t xs deep false):S.put (.nomut k j)=S:=by
 show S.dI k ((S.aH k).set j (bF (S.aH k) j).Fa)=S
 have b:j<(S.aH k).length:=by
  rcases Nat.lt_or_ge j (S.aH k).length with a | a
  ·exact a
  ·simp[bF,zE,zJ a]at h
 have g:k<S.owns.length:=by
  rcases Nat.lt_or_ge k S.owns.length with a | a
  ·exact a
  ·simp[St.aH,zE,zJ a]at b
 have d:(S.aH k).set j (bF (S.aH k) j).Fa=S.aH k:=by
  rw[h];show (S.aH k).set j (.own t xs deep false)=_
  rw[<- h];refine List.ext_getElem (by simp) fun i f c=>?_
  rw[List.getElem_set];split
  ·rename_i e;subst e;simp[bF,zE,b]
  ·rfl
 rw[d];cases S with
 | mk tm bx ow=>
  show St.mk tm bx (ow.set k _)=St.mk tm bx ow
  congr 1;refine List.ext_getElem (by simp) fun i f c=>?_
  rw[List.getElem_set];split
  ·rename_i e;subst e;simp[St.aH,zE,c]
  ·rfl
theorem agZ(h:Inv w0 G S a w){T:TypeId}{x:Operand}{lo hi mx:Option Operand}(ho:o.op=.slice T x lo hi mx){E:Env}(hT:E.tt.ok P=true){ws:List W}(c:(eff E o).val S=some ws)
  (N:∀a' w' G',Inv w0 G' (S.puts ws) a' w'->K a' w'):o.wp P a w K Q:=by
 unfold eff at c;rw[ho]at c;simp only at c;split at c
 ·cases c
 simp only[Rd.aC,zB]at c;obtain⟨av,h1,blo,h2,bhi,R,c⟩:=c;have I:=bH h h1;have B:=adX h h2;have H:=adX h R;have run:∀ {v':Value},(Instr.sliceAt T (a.eval x) (lo.map a.eval) (hi.map a.eval) none).run P w=.ok v' w->(execOp a.eval o).run P w=.ok (.value v') w:=by
  intro v' hr';unfold execOp;simp[ho,hr']
 split at c
 ·rename_i s;split at c
  case isFalse=>cases c
  rename_i hs;have F:=TT.OO hT hs;simp only[Rd.val,zB,zD]at c;obtain⟨r,A,rfl⟩:=c;obtain⟨c0,c1,c2,rfl⟩:=U8 A;have B:=B 0;have H:=H (s.length:Int);generalize hl:blo.getD 0=l at *;generalize hh:bhi.getD (s.length:Int)=Y at *;generalize hxv:a.eval x=xv at *;generalize y:D.str s=dd at I;cases I with
  | int=>cases y
  | bool=>cases y
  | nil=>cases y
  | emp=>cases y
  | list=>cases y
  | str v=>
   cases y
   rw[qN]at c2 H;have f:=dV (P:=P) (w:=w) false v.size v.size (lo.map a.eval) (hi.map a.eval) l Y B H c0 c1 c2;refine aT (v:=.string (v.extract l.toNat Y.toNat)) (w':=w) (run ?_) (N _ _ _ (h.dst (av:=.v (.one (.d (.str _)))) ?_))
   ·simp[Instr.sliceAt,Instr.slice,run_underlying F,f]
   ·have e:(v.data.toList.take Y.toNat).drop l.toNat=(v.extract l.toNat Y.toNat).data.toList:=by
     simp[List.drop_take]
    rw[e];exact Rep.str _
 ·rename_i t xs;split at c
  case isFalse=>cases c
  rename_i U;obtain⟨e,inf,z,F,p,C,_⟩:=TT.kR hT U;simp only[Rd.val,zB,zD]at c;obtain⟨r,A,rfl⟩:=c;obtain⟨v',h5,h6⟩:=JP (P:=P) I F p C (B 0) (H xs.length) A;exact aT (run h5) (N _ _ _ (h.dst h6))
 ·rename_i k j;by_cases hpre:alx E o=true
  ·rw[if_pos hpre]at c;unfold agR at c;split at c
   case h_3=>cases c
   case h_2 hh=>
    simp only[Rd.val]at c
    split at c
    case h_2=>cases c
    rename_i t xs deep mm hown
    split at c
    case isFalse=>cases c
    rename_i U
    obtain⟨e,inf,z,F,p,C,_⟩:=TT.kR hT U
    simp only[Rd.val,zB,zD]at c
    obtain⟨m,A,rfl⟩:=c
    have hmn:hh=(m:Int)/\m<=xs.length:=by
     unfold cutAt at A;split at A
     ·rename_i hc;cases A;omega
     ·cases A
    obtain⟨rfl,Z⟩:=hmn
    have g:=B 0
    simp only[Option.getD_some]at g
    have J:∃k,lo.map a.eval=some (.int k (m:Int)):=by
     rcases g with ⟨q,q2⟩ | q
     ·cases lo with
      | none=>simp[eff.bnd,Rd.val]at h2
      | some x=>simp at q
     ·exact q
    have u:hi.map a.eval=none:=by
     cases hi with
     | none=>rfl
     | some x=>
      simp only[eff.bnd,Rd.aC,zB,Rd.val,zD]at R;obtain⟨_,_,_,_,R⟩:=R;cases R
    have hO:=h.owns k j
    rw[hown]at hO
    rcases hO with ⟨ev,rfl⟩ | ⟨b,cap,arr,E0,vs,fps,ev,_,hcap,_⟩
    ·have V:m=0:=by simpa using Z
     subst V;have f:=dV (P:=P) (w:=w) true 0 0 (lo.map a.eval) (hi.map a.eval) 0 0 (.inr J) (.inl ⟨u,rfl⟩) (by omega) (by omega) (by omega);refine aT (v:=.slice none 0 0) (run ?_) (N _ _ _ (h.dst (av:=.suf t k j 0) ⟨I.1,fun w' S' xs' O=>by rw[ev]at O;exact O⟩));rw[I.2.1,ev];simp only[Int.toNat_zero]at f;simp[Instr.sliceAt,Instr.slice,run_underlying F,f,sizeOf,typeInfo,p]
    ·have f:=dV (P:=P) (w:=w) true xs.length cap (lo.map a.eval) (hi.map a.eval) m xs.length (.inr J) (.inl ⟨u,rfl⟩) (by omega) (by omega) (by omega);refine aT (v:=.slice (some ⟨b,if cap=m then 0 else m*t.size,none⟩) (xs.length-m) (cap-m)) (run ?_) (N _ _ _ (h.dst (av:=.suf t k j m) ⟨I.1,fun w' S' xs' O=>?_⟩))
     ·rw[I.2.1,ev];simp only[aw]at f;by_cases hcm:cap=m
      ·subst hcm;simp[Instr.sliceAt,Instr.slice,run_underlying F,f,sizeOf,typeInfo,p]
      ·simp[Instr.sliceAt,Instr.slice,run_underlying F,f,sizeOf,typeInfo,p,hcm,addr_add,C]
     ·rw[ev]at O;generalize y:D.list t xs'=dd at O;generalize X:Value.slice (some ⟨b,0,none⟩) xs.length cap=vv at O;cases O with
      | int=>cases y
      | bool=>cases y
      | str=>cases y
      | nil=>cases X
      | emp t' ad cap'=>
       cases y
       simp only[Value.slice.injEq,zD]at X;obtain⟨rfl,hle,rfl⟩:=X;have V:m=0:=by omega
       subst V;simp only[List.drop_nil,Nat.zero_mul,ite_self,Nat.sub_zero];rw[hle];exact Rep.emp _ _ _
      | list t' xs2 b' off cap' vs' hcap' hc' hrr'=>
       cases y
       simp only[Value.slice.injEq,zD,Addr.mk.injEq]at X;obtain⟨⟨rfl,rfl,_⟩,hle,rfl⟩:=X;by_cases hmx:m=xs.length
       ·have e0:xs'.drop m=[]:=List.drop_eq_nil_of_le (by omega);rw[e0,show xs.length-m=0 by omega];exact .emp _ _ _
       ·have hcm:cap≠m:=by omega
        rw[if_neg hcm];have e1:xs.length-m=(xs'.drop m).length:=by rw[List.length_drop];omega
        rw[e1];refine .list t (xs'.drop m) b (m*t.size) (cap-m) (fun i j=>vs' (m+i) j) (by rw[List.length_drop];omega) (fun i x j d O hd=>?_) (fun i x j d O hd=>?_)
        ·rw[List.getElem?_drop]at O;have:=hc' _ _ _ _ O hd;rw[Nat.add_mul]at this;simpa [Nat.add_assoc] using this
        ·rw[List.getElem?_drop]at O;exact hrr' _ _ _ _ O hd
   rename_i hh;simp only[Rd.val]at c;split at c
   case h_2=>cases c
   rename_i t xs deep hown;split at c
   case isFalse=>cases c
   rename_i U;obtain⟨e,inf,z,F,p,C,_⟩:=TT.kR hT U;simp only[Rd.val,zB,zD]at c;obtain⟨m,A,rfl⟩:=c;have hmn:hh=(m:Int)/\m<=xs.length:=by
    unfold cutAt at A;split at A
    ·rename_i hc;cases A;omega
    ·cases A
   obtain⟨rfl,Z⟩:=hmn;have g:=B 0;have L:=H 0;simp only[Option.getD_some,Option.getD_none]at g L;have u:∃k,hi.map a.eval=some (.int k (m:Int)):=by
    rcases L with ⟨q,q2⟩ | q
    ·cases hi with
     | none=>simp[eff.bnd,Rd.val]at R
     | some x=>simp at q
    ·exact q
   have hO:=h.owns k j;rw[hown]at hO;rcases hO with ⟨ev,rfl⟩ | ⟨b,cap,arr,E0,vs,fps,ev,_,hcap,_⟩
   ·have V:m=0:=by simpa using Z
    subst V;have f:=dV (P:=P) (w:=w) true 0 0 (lo.map a.eval) (hi.map a.eval) 0 0 (g.imp (fun q=>⟨q.1,rfl⟩) id) (.inr u) (by omega) (by omega) (by omega);refine aT (v:=.slice none 0 0) (run ?_) (N _ _ _ (h.dst (av:=.pre k j 0) ⟨I.1,.inl ⟨rfl,rfl,ev⟩⟩));rw[I.2.1,ev];simp only[Int.toNat_zero]at f;simp[Instr.sliceAt,Instr.slice,run_underlying F,f,sizeOf,typeInfo,p]
   ·have f:=dV (P:=P) (w:=w) true xs.length cap (lo.map a.eval) (hi.map a.eval) 0 m (g.imp (fun q=>⟨q.1,rfl⟩) id) (.inr u) (by omega) (by omega) (by omega);refine aT (v:=.slice (some ⟨b,0,none⟩) m cap) (run ?_) (N _ _ _ (h.dst (av:=.pre k j m) ⟨I.1,.inr ⟨b,xs.length,cap,ev,Z,rfl⟩⟩));rw[I.2.1,ev];simp only[Int.toNat_zero,aw]at f;simp[Instr.sliceAt,Instr.slice,run_underlying F,f,sizeOf,typeInfo,p,addr_add]
  rw[if_neg hpre]at c;simp only[Rd.val]at c;split at c
  ·rename_i t xs deep m hown;split at c
   case isFalse=>cases c
   rename_i U;obtain⟨e,inf,z,F,p,C,_⟩:=TT.kR hT U;simp only[Rd.val,zB,zD]at c;obtain⟨r,A,rfl⟩:=c;have hrep:=h.Ob hown [(k,j)] (by simp);rw[<- I.2.1]at hrep;obtain⟨v',h5,h6⟩:=JP (P:=P) hrep F p C (B 0) (H xs.length) A;obtain⟨G1,h7,m7⟩:=h.VH k j;have h8:=h7.dst (o:=o) (av:=.v (.one (.d (.list t r)))) (v:=v') (h6.move fun b oo hs=>⟨(m7.s b oo).2 hs,rfl⟩);cases m with
   | true=>exact aT (run h5) (N _ _ _ h8)
   | false=>
    rw[Qa hown]at h8;exact aT (run h5) (N _ _ _ h8)
  ·rename_i t xs hown;split at c
   case isFalse=>cases c
   rename_i U;obtain⟨e,inf,z,F,p,C,_⟩:=TT.kR hT U;simp only[Rd.val,zB,zD]at c;obtain⟨r,A,rfl⟩:=c;have hrep:=h.WI hown;rw[<- I.2.1]at hrep;obtain⟨v',h5,h6⟩:=JP (P:=P) hrep F p C (B 0) (H xs.length) A;exact aT (run h5) (N _ _ _ (h.dst h6))
  ·cases c
 ·rename_i t len n k1 k2;split at c
  case isFalse=>cases c
  rename_i U;obtain⟨e,inf,z,F,p,C,_⟩:=TT.kR hT U;obtain⟨hl1,hl2,I⟩:=I;split at c
  ·rename_i hh;simp only[Rd.val,zB,zD]at c;obtain⟨_,A,rfl⟩:=c;split at A
   case isFalse=>cases A
   rename_i hhn;subst hhn;have g:=B 0;have L:=H 0;simp only[Option.getD_some,Option.getD_none]at g L;have u:∃k,hi.map a.eval=some (.int k (n:Int)):=by
    rcases L with ⟨q,q2⟩ | q
    ·cases hi with
     | none=>simp[eff.bnd,Rd.val]at R
     | some x=>simp at q
    ·exact q
   rcases I with ⟨M,hn0,o1,o2⟩ | ⟨b,cap,M,hlc,hnl,o1,o2⟩
   ·subst hn0;have f:=dV (P:=P) (w:=w) true 0 0 (lo.map a.eval) (hi.map a.eval) 0 0 (g.imp (fun q=>⟨q.1,rfl⟩) id) (.inr u) (by omega) (by omega) (by omega);refine aT (v:=.slice none 0 0) (run ?_) (N _ _ _ (h.dst (av:=.seg k1) ⟨hl1,o1.symm⟩));rw[M];simp only[Int.toNat_zero]at f;simp[Instr.sliceAt,Instr.slice,run_underlying F,f,sizeOf,typeInfo,p]
   ·have f:=dV (P:=P) (w:=w) true len cap (lo.map a.eval) (hi.map a.eval) 0 n (g.imp (fun q=>⟨q.1,rfl⟩) id) (.inr u) (by omega) (by omega) (by omega);refine aT (v:=.slice (some ⟨b,0,none⟩) n cap) (run ?_) (N _ _ _ (h.dst (av:=.seg k1) ⟨hl1,o1.symm⟩));rw[M];simp only[Int.toNat_zero,aw]at f;simp[Instr.sliceAt,Instr.slice,run_underlying F,f,sizeOf,typeInfo,p,addr_add]
  ·rename_i l;simp only[Rd.val,zB,zD]at c;obtain⟨_,A,rfl⟩:=c;split at A
   case isFalse=>cases A
   rename_i hln;subst hln;have g:=B 0;have J:∃k,lo.map a.eval=some (.int k (n:Int)):=by
    rcases g with ⟨q,q2⟩ | q
    ·cases lo with
     | none=>simp[eff.bnd,Rd.val]at h2
     | some x=>simp at q
    ·exact q
   have u:hi.map a.eval=none:=by
    cases hi with
    | none=>rfl
    | some x=>
     simp only[eff.bnd,Rd.aC,zB,Rd.val,zD]at R;obtain⟨_,_,_,_,R⟩:=R;cases R
   rcases I with ⟨M,hn0,o1,o2⟩ | ⟨b,cap,M,hlc,hnl,o1,o2⟩
   ·subst hn0;have f:=dV (P:=P) (w:=w) true 0 0 (lo.map a.eval) (hi.map a.eval) 0 0 (.inr J) (.inl ⟨u,rfl⟩) (by omega) (by omega) (by omega);refine aT (v:=.slice none 0 0) (run ?_) (N _ _ _ (h.dst (av:=.seg k2) ⟨hl2,o2.symm⟩));rw[M];simp only[Int.toNat_zero]at f;simp[Instr.sliceAt,Instr.slice,run_underlying F,f,sizeOf,typeInfo,p]
   ·have f:=dV (P:=P) (w:=w) true len cap (lo.map a.eval) (hi.map a.eval) n len (.inr J) (.inl ⟨u,rfl⟩) (by omega) (by omega) (by omega);refine aT (v:=.slice (some ⟨b,if cap=n then 0 else n*t.size,none⟩) (len-n) (cap-n)) (run ?_) (N _ _ _ (h.dst (av:=.seg k2) ⟨hl2,o2.symm⟩));rw[M];simp only[aw]at f;by_cases hcn:cap=n
    ·subst hcn;simp[Instr.sliceAt,Instr.slice,run_underlying F,f,sizeOf,typeInfo,p,addr_add]
    ·simp[Instr.sliceAt,Instr.slice,run_underlying F,f,sizeOf,typeInfo,p,addr_add,hcn,C]
  ·cases c
 ·cases c
end ops
end Go.Abs
namespace Go.Abs
open Go.RowKit
def callable(P:Program)(f:FuncId):Bool:=match P.funcs[f]? with
 | some fn => !(fn.name == "runtime.NumGoroutine") && fn.body.isSome
 | none=>false
abbrev Off(F:Nat->Prop)(w w':World):Prop:=tY F w.heap.size w w'
def aas(w:World)(s:Sh)(x:s.t.den)(u:Value)(fps:Nat->Nat->Prop):Prop:=
 ShR (fun i d v=>Ow w (fun _ _=>False) true d v (fps i)) 0 s x u
def Gy(P:Program)(m:Msp):Prop:=∀(w:World) (u:Value) (x:m.sh.t.den) (n:Int) (r:m.sh.t.den×Int) (fps:Nat->Nat->Prop),m.fn x n=some r->amb w ->
 aas w m.sh x u fps->(∀i c,fps i c->Uf<=c/\c<w.heap.size)->(∀i i' c,fps i c->fps i' c->i=i') ->
 Calls P m.fid #[u,.int .i64 n] w fun e w'=>e=.returned (.int .i64 r.2)/\Off (fun c=>∃i,fps i c) w w'/\aas w' m.sh r.1 u fps
def vZ(P:Program)(s:Srt):Prop:=∀(w:World) (S:Nat->Nat->Prop) (deep:Bool) (bb:Nat) (E:TypeId) (u:Value) (xs ys:List s.t.den) (fp:Nat->Prop),s.fn xs=some ys->amb w ->
 OwT w S deep true s.t xs u fp->(∀c,fp c->c<w.heap.size)->(∀b o,S b o->b<w.heap.size)->w.heap[bb]?=some (.cells #[u] E (0,0))->¬fp bb ->
 Calls P s.fid #[.iface s.T u,.func (.func s.g) #[] #[.pointer (some ⟨bb,0,none⟩)]] w fun e w'=>e=.returned (.tuple #[])/\Off (fun c=>fp c/\∀o,¬S c o) w w'/\OwT w' S deep true s.t ys u fp
theorem bI.get{R:Nat->D->Value->Prop}:∀ {n:Nat} {ds:List D} {vs:List Value},bI R n ds vs->ds.length=vs.length/\∀(i:Nat) (d:D) (v:Value),ds[i]?=some d->vs[i]?=some v->R (n+i) d v
 | n,[],[],_=>⟨rfl,fun i d v h=>by simp at h⟩
 | n,d::ds,v::vs,h=>by
  obtain⟨c,e⟩:=bI.get h.2;refine⟨by simp[c],fun i d' v' a b=>?_⟩;cases i with
  | zero=>simp at a b;subst a;subst b;exact h.1
  | succ i=>simp at a b;have:=e i d' v' a b;rwa [show n+1+i=n+(i+1) by omega]at this
theorem YT:∀(ws:List W),(∀x,x∈ws->∃k j y,x=.upd k j y)->∀(S:St),(S.puts ws).tmps=S.tmps/\(S.puts ws).boxes=S.boxes/\(S.puts ws).owns.length=S.owns.length /\
  (∀k,((S.puts ws).aH k).length=(S.aH k).length) /\
  ∀k j,(k<S.owns.length->j<(S.aH k).length->(∃y,W.upd k j y∈ws)->∃y,W.upd k j y∈ws/\bF ((S.puts ws).aH k) j=y)/\((∀y,W.upd k j y∉ws)->bF ((S.puts ws).aH k) j=bF (S.aH k) j)
 | [],_,S=>⟨rfl,rfl,rfl,fun _=>rfl,fun k j=>⟨fun _ _ ⟨y,a⟩=>(by cases a),fun _=>rfl⟩⟩
 | x::r,l,S=>by
  obtain⟨k0,m,e,rfl⟩:=l x aq;let b:St:=S.dI k0 ((S.aH k0).set m e);obtain⟨q,s,t,u,g⟩:=YT r (fun z d=>l z (ao _ d)) b;have n:b.owns.length=S.owns.length:=by simp[b,St.dI]
  have o:∀k,(b.aH k).length=(S.aH k).length:=by
   intro k;simp only[b];rw[bY];split
   ·rename_i c;rw[List.length_set,c.1]
   ·rfl
  refine⟨q,s,t.trans n,fun k=>(u k).trans (o k),fun k j=>⟨fun c f h=>?_,fun p=>?_⟩⟩
  ·by_cases i:∃y:O,W.upd k j y∈r
   ·obtain⟨y,a,v⟩:=(g k j).1 (by rw[n];exact c) (by rw[o];exact f) i;exact⟨y,ao _ a,v⟩
   ·obtain⟨y,a⟩:=h;rcases a8.1 a with a | a
    ·injection a with w A B;subst w;subst A;subst B;refine⟨_,aq,?_⟩;show bF ((b.puts r).aH k) j=_
     rw[(g k j).2 fun z d=>i ⟨z,d⟩];simp only[b];rw[bY,if_pos ⟨rfl,c⟩,iV,if_pos ⟨rfl,f⟩]
    ·exact absurd ⟨y,a⟩ i
  ·show bF ((b.puts r).aH k) j=_
   rw[(g k j).2 fun z d=>p z (ao _ d)];simp only[b];rw[bY];split
   ·rename_i c;rw[iV];split
    ·rename_i f;exact absurd (show W.upd k j e∈W.upd k0 m e::r by rw[c.1,f.1];exact aq) (p e)
    ·rw[c.1]
   ·rfl
theorem OE{S:St}:∀ {ds:List D} {cs:List C} {ws:List W},(BH ds cs).val S=some ws->ds.length=cs.length /\
  (∀x,x∈ws->∃(k j i:Nat) (t:Ty) (xs:List t.den),x=.upd k j (.tree t xs)/\cs[i]?=some (C.own k j)/\ds[i]?=some (D.list t xs)) /\
  (∀(i k j:Nat),cs[i]?=some (C.own k j)->(∃t xs,bF (S.aH k) j=.tree t xs)/\∃(t:Ty) (xs:List t.den),W.upd k j (.tree t xs)∈ws) /\
  (∀(i:Nat) (x:D),cs[i]?=some (C.d x)->nG x=none)/\∀i:Nat,cs[i]?≠some C.undef/\∀b o,cs[i]?≠some (C.ptr b o)
 | [],[],ws,h=>by
  simp only[BH,Rd.val,zD]at h;subst h;exact⟨rfl,fun x e=>(by cases e),fun i k j h=>(by simp at h),fun i x h=>(by simp at h),fun i=>⟨by simp,by simp⟩⟩
 | d::ds,[],ws,h=>by simp[BH,Rd.val]at h
 | [],c::cs,ws,h=>by simp[BH,Rd.val]at h
 | d::ds,c::cs,ws,h=>by
  simp only[BH,Rd.aC,zB]at h;obtain⟨ws',s,a⟩:=h;obtain⟨f,u,g,l,m⟩:=OE s;have up:∀x,x∈ws'->∃(k j i:Nat) (t:Ty) (xs:List t.den),x=.upd k j (.tree t xs)/\(c::cs)[i]?=some (C.own k j)/\(d::ds)[i]?=some (D.list t xs):=by
   intro x e;obtain⟨k,j,i,t,xs,n,p,v⟩:=u x e;exact⟨k,j,i+1,t,xs,n,by simpa using p,by simpa using v⟩
  split at a
  ·rename_i k j;simp only[Rd.val]at a;split at a
   ·rename_i t0 q t xs w;simp only[Rd.val,zD]at a;subst a;refine⟨by simp[f],fun x e=>?_,fun i k' j' hi=>?_,fun i x hi=>?_,fun i=>?_⟩
    ·rcases a8.1 e with rfl | e
     ·exact⟨k,j,0,t,xs,rfl,rfl,rfl⟩
     ·exact up x e
    ·cases i with
     | zero=>
      simp at hi;obtain⟨rfl,rfl⟩:=hi;exact⟨⟨t0,q,w⟩,t,xs,aq⟩
     | succ i=>
      obtain⟨n,t',xs',p⟩:=g i k' j' (by simpa using hi);exact⟨n,t',xs',ao _ p⟩
    ·cases i with
     | zero=>simp at hi
     | succ i=>exact l i x (by simpa using hi)
    ·cases i with
     | zero=>exact⟨by simp,by simp⟩
     | succ i=>simpa using m i
   ·cases a
  ·simp only[Rd.val,zD]at a;subst a;refine⟨by simp[f],up,fun i k' j' hi=>?_,fun i x hi=>?_,fun i=>?_⟩
   ·cases i with
    | zero=>simp at hi
    | succ i=>exact g i k' j' (by simpa using hi)
   ·cases i with
    | zero=>simp at hi
    | succ i=>exact l i x (by simpa using hi)
   ·cases i with
    | zero=>exact⟨by simp,by simp⟩
    | succ i=>simpa using m i
  ·cases a
  ·rename_i y r;simp only[Rd.val,zD]at a;subst a;refine⟨by simp[f],up,fun i k' j' hi=>?_,fun i x hi=>?_,fun i=>?_⟩
   ·cases i with
    | zero=>simp at hi
    | succ i=>exact g i k' j' (by simpa using hi)
   ·cases i with
    | zero=>
     simp at hi;subst hi;cases y with
     | list t xs=>exact absurd rfl (r t xs)
     | _=>rfl
    | succ i=>exact l i x (by simpa using hi)
   ·cases i with
    | zero=>exact⟨by simp,by simp⟩
    | succ i=>simpa using m i
  ·cases a
section ops
variable {P:Program} {w0:Bs} {G:Gh} {S:St} {a:Act} {w:World} {o:Oper} {K:Act->World->Prop} {Q:Exit->Act->World->Prop}
theorem nZ{c:Call}{f:FuncId}(ho:o.op=.call c)(hc:c.callee=.value (.func f))(hf:callable P f=true) :
  (execOp a.eval o).run P w=.ok (.enter f (c.args.map a.eval)) w:=by
 unfold callable at hf;split at hf
 ·rename_i fn hfn;simp only[zI,Bool.not_eq_true']at hf;have hn : ¬ fn.name = "runtime.NumGoroutine" := by simpa using hf.1
  have hb:¬fn.body=none:=by
   have:=hf.2;cases hbb:fn.body<;>simp_all
  unfold execOp;simp[ho,resolve,hc,Act.eval,Deferred.ofValue,invoke,callFunc,hfn,hn,hb]
 ·cases hf
def tfp(G:Gh)(S:St)(w:World)(k j:Nat)(b:Nat):Prop:=
 ∃t xs fp,bF (S.aH k) j=.tree t xs/\(∀b,fp b->iE G k j b)/\Ow w (fun _ _=>False) true (.list t xs) (G.ov k j) fp/\(∀b o,G.S b o->¬fp b)/\fp b
theorem alE(h:Inv w0 G S a w){k j:Nat}{t:Ty}{xs:List t.den}(c:bF (S.aH k) j=.tree t xs):Ow w (fun _ _=>False) true (.list t xs) (G.ov k j) (tfp G S w k j):=by
 have:=h.owns k j;rw[c]at this;obtain⟨fp,f,d,g⟩:=this;exact d.sub (fun b i=>⟨t,xs,fp,c,f,d,g,i⟩) fun e=>e
theorem Rx(h:Inv w0 G S a w){all:List C}(hall:∀(i:Nat) (k j:Nat),all[i]?=some (.own k j)->∃t xs,bF (S.aH k) j=.tree t xs)(m:∀(i:Nat) (x:D),all[i]?=some (.d x)->nG x=none) :
  ∀ {tys:List (Option Ty)} {cs:List C} {ds:List D} {vs:List Value} {n:Nat} {pre:List C},(cDs tys cs).val S=some ds ->
  tys.length=cs.length->dR G w cs vs->all=pre++cs->pre.length=n->bI (fun i d v=>Ow w (fun _ _=>False) true d v (fun b=>∃k j,all[i]?=some (.own k j)/\tfp G S w k j b)) n ds vs
 | [],[],ds,[],n,pre,o,_,_,_,_=>by
  simp only[cDs,Rd.val,zD]at o;subst o;trivial
 | [],[],ds,_::_,n,pre,_,_,l,_,_=>l.elim
 | [],_::_,ds,vs,n,pre,_,p,_,_,_=>by simp at p
 | _::_,[],ds,vs,n,pre,_,p,_,_,_=>by simp at p
 | ty::tys,c::cs,ds,[],n,pre,_,_,l,_,_=>l.elim
 | ty::tys,c::cs,ds,v::vs,n,pre,o,p,l,u,y=>by
  simp only[cDs,Rd.aC,zB,Rd.val,zD]at o;obtain⟨d,f,ds',A,rfl⟩:=o;have r:all[n]?=some c:=by
   rw[u,List.getElem?_append_right (by omega),y];simp
  refine⟨?_,Rx h hall m (pre:=pre++[c]) A (by simpa using p) l.2 (by rw[u];simp) (by simp[y])⟩;have g:=l.1;cases c with
  | undef=>cases f
  | ptr=>cases f
  | nil=>
   simp only[cD]at f;split at f
   ·simp only[Rd.val,zD]at f;subst f;rw[show v=_ from g];exact .nil _ _
   ·cases f
  | d x=>
   simp only[cD,Rd.val,zD]at f;subst f;have:=m n x r;have q:Rep w G.S x v:=g;cases q with
   | int k n=>exact .int k n _
   | bool b=>exact .bool b _
   | str s=>exact .str s _
   | nil=>cases this
   | emp=>cases this
   | list=>cases this
  | own k j=>
   obtain⟨t,xs,z⟩:=hall n k j r;simp only[cD,Rd.val,z,zD]at f;subst f;rw[g.2.1];exact (alE h z).sub (fun b B=>⟨k,j,r,B⟩) fun e=>e
theorem ajb(h:Inv w0 G S a w){c:Call}{f:FuncId}(M:o.op=.call c)(hc:c.callee=.value (.func f)){m:Msp}(hf:m.fid=f)(hcall:callable P f=true)(hA:rf w0)(hM:Gy P m){x y:Operand}(hxy:c.args.toList=[x,y]){ws:List W}
  (B:((fF x).bind fun ax=>(avV ax).bind fun v=>(fF y).bind fun ay=>(avD ay).bind fun
        | .int .i64 n=>(vT m.sh v).bind fun z=>.opt (m.fn z n) fun r=>
         if nodupB (aQ v.cells)then (BH (m.sh.t.cells r.1) v.cells).bind fun ws=>.ret (ws++gy o (.v (.one (.d (.int .i64 r.2)))))
         else .fail
        | _=>.fail).val S=some ws)
  (hK:∀a' w' G',Inv w0 G' (S.puts ws) a' w'->K a' w'):o.wp P a w K Q:=by
 simp only[Rd.aC,zB]at B;obtain⟨ax,h1,v,h2,ay,h3,d,h4,B⟩:=B;have X:=qZ h4 (bH h h3);split at B
 case h_2=>cases B
 rename_i n;simp only[Rd.aC,zB]at B;obtain⟨z,J,B⟩:=B;simp only[Rd.val,zB]at B;obtain⟨r,h6,B⟩:=B;split at B
 case isFalse=>cases B
 rename_i Y;simp only[Rd.aC,zB,Rd.val,zD]at B;obtain⟨ws',h8,rfl⟩:=B;have Z:=qY h2 (bH h h1);obtain⟨t1,t2,t3,t4,t5⟩:=OE h8;have hyv:a.eval y=.int .i64 n:=by
  generalize a.eval y=yv at X;cases X;rfl
 let fps:Nat->Nat->Prop:=fun i b=>∃k j,v.cells[i]?=some (.own k j)/\tfp G S w k j b
 have hT:aas w m.sh z (a.eval x) fps:=by
  simp only[vT]at J;split at J
  ·rename_i T;simp only[Rd.aC,zB,Rd.val]at J;obtain⟨ds,h9,z',h10,h11⟩:=J;simp only[zD]at h11;subst h11;obtain⟨vs,C,N,O⟩:=Z.cells;have:=Rx h (all:=v.cells) (fun i k j hi=>(t3 i k j hi).1) t4 (pre:=[]) h9 (by rw[qh];exact T.2.symm) C rfl rfl;rw[<- Ty.fU h10]at this;unfold aas ShR;cases l:m.sh.agg with
   | true=>exact⟨vs,N (by rw[T.1,l]),this⟩
   | false=>rw[O (by rw[T.1,l])]at this;exact this
  ·cases J
 have q:∀i b,fps i b->∃k j,v.cells[i]?=some (.own k j)/\G.ow b=some (.own k j):=by
  rintro i b ⟨k,j,hi,t,xs,fp,_,hfp,_,_,p⟩;exact⟨k,j,hi,hfp b p⟩
 have hlt:∀i c,fps i c->c<w.heap.size:=fun i b p=>by
  obtain⟨k,j,_,M⟩:=q i b p;exact (h.olt _ _ M).2
 have hge:∀i c,fps i c->Uf<=c:=fun i b p=>by
  obtain⟨k,j,_,M⟩:=q i b p;exact Nat.le_trans hA.base (h.oh M).1
 have hdis:∀i i' c,fps i c->fps i' c->i=i':=fun i i' b p hb'=>by
  obtain⟨k,j,hi,M⟩:=q i b p;obtain⟨k',j',A,g⟩:=q i' b hb';rw[M]at g;cases g
  exact iK Y hi A
 have hSf:∀b oo,G.S b oo->¬ ∃i,fps i b:=by
  rintro b oo l ⟨i,k,j,_,t,xs,fp,_,_,_,hno,p⟩;exact hno b oo l p
 have hargs:c.args.map a.eval = #[a.eval x,.int .i64 n]:=by
  rw[qi hxy];simp[hyv]
 unfold Oper.wp;rw[nZ M hc hcall,hargs];subst hf;refine Calls.mono (hM w (a.eval x) z n r fps h6 (hA.keep w h.below) hT (fun i c hc=>⟨hge i c hc,hlt i c hc⟩) hdis) fun e w' he=>?_
 obtain⟨rfl,hoff,D⟩:=he;have hcell:∀b oo,G.S b oo->w'.cell? ⟨b,oo,none⟩=w.cell? ⟨b,oo,none⟩:=fun b oo l=>
  World.cell?_of_block (w:=w) (hoff.block b (h.sok b oo l).1 (hSf b oo l))
 have hm:Mv G G w w':=⟨fun b oo l=>⟨l,hcell b oo l⟩,fun k U=>⟨U,fun _=>rfl⟩,fun i hi=>⟨hi,rfl⟩⟩;obtain⟨p1,p2,p3,p4,p5⟩:=YT ws' (fun x H=>by obtain⟨k,j,i,t,xs,e,_⟩:=t2 x H;exact⟨k,j,_,e⟩) S;have hgT:∀i,(S.puts ws').jm i=S.jm i:=fun i=>by simp only[St.jm,p1]
 have hgB:∀i,(S.puts ws').gW i=S.gW i:=fun i=>by simp only[St.gW,p2]
 have h9:Inv w0 G (S.puts ws') a w':=by
  have hblk:∀k,k<w0.w.heap.size->w'.heap[k]?=w.heap[k]?:=fun k U=>hoff.block k (by have:=h.below.size;omega) (by
   rintro⟨i,hi⟩;obtain⟨k',j',_,g⟩:=q i k hi;have:=(h.oh g).1;omega)
  refine⟨h.below.trans ⟨hoff.os,hoff.tape,hoff.output,hoff.size,fun k U _=>hblk k U⟩,h.nodef,by rw[p1];exact h.tsz,by rw[p1,p2];exact h.bsz,by rw[p1,p3];exact h.osz,fun i u hu=>?_,?_,?_,?_,?_,?_,?_,h.sfr,fun b H=>⟨(h.fx b H).1,fun L=>((h.fx b H).2 L).same (hblk b L)⟩⟩
  ·rw[hgT];exact (h.tmps i u hu).move hm
  ·intro b x H;exact⟨(h.olt b x H).1,az (h.olt b x H).2 hoff.size⟩
  ·intro b oo l;exact⟨az (h.sok b oo l).1 hoff.size,(h.sok b oo l).2⟩
  ·intro i cs C;rw[hgB]at C;obtain⟨g,vs,E,hh,hc'⟩:=h.box i cs C;refine⟨g,vs,E,(hoff.block _ (h.olt _ _ g).2 ?_).trans hh,hc'.move hm⟩;rintro⟨i',A⟩;obtain⟨k',j',_,ho2⟩:=q i' _ A;rw[g]at ho2;cases ho2
  ·intro k j;by_cases R:∃y,W.upd k j y∈ws'
   ·obtain⟨y0,hy0⟩:=R;obtain⟨k0,j0,i0,t0,xs0,e0,hi0,_⟩:=t2 _ hy0;cases e0
    obtain⟨⟨tt0,xx0,htree⟩,_⟩:=t3 i0 k j hi0;have hjl:j<(S.aH k).length:=by
     rcases Nat.lt_or_ge j (S.aH k).length with L | L
     ·exact L
     ·have:bF (S.aH k) j=.dead:=by
       simp only[bF,zE];rw[zJ (by omega)];rfl
      rw[this]at htree;cases htree
    have hkl:k<S.owns.length:=by
     rcases Nat.lt_or_ge k S.owns.length with L | L
     ·exact L
     ·have hg0:S.aH k=[]:=by
       simp only[St.aH,zE];rw[zJ (by omega)];rfl
      rw[hg0]at htree;cases htree
    obtain⟨y,hy,he⟩:=(p5 k j).1 hkl hjl ⟨_,hy0⟩;obtain⟨k1,j1,F,t',xs',V,I,hd1⟩:=t2 _ hy;cases V
    rw[he];have hii:F=i0:=iK Y I hi0;subst hii;refine⟨fps F,fun b p=>?_,?_,fun b oo l p=>hSf b oo l ⟨F,p⟩⟩
    ·obtain⟨k',j',A,g⟩:=q F b p;rw[I]at A;cases A
     exact g
    ·obtain⟨vs,C,N,O⟩:=Z.cells;obtain⟨hl2,hg2⟩:=C.get;have hi1l:F<vs.length:=by
      have:=(zC.1 I).1;omega
     have hcr:=hg2 F _ vs[F] I (by simp[hi1l]);have hval:vs[F]=G.ov k j:=hcr.2.1;have hcells:bI (fun i d v=>Ow w' (fun _ _=>False) true d v (fps i)) 0 (m.sh.t.cells r.1) vs:=by
      simp only[vT]at J;split at J
      ·rename_i T;unfold aas ShR at D;cases l:m.sh.agg with
       | true=>
        rw[l]at D;obtain⟨vs',V,e2⟩:=D;rw[N (by rw[T.1,l])]at V;have:vs'=vs:=by
         injection V with V;have:=congrArg Array.toList V;simpa using this.symm
        rw[<- this];exact e2
       | false=>
        rw[l]at D;rw[O (by rw[T.1,l])];exact D
      ·cases J
     obtain⟨hl3,hg3⟩:=hcells.get;have:=hg3 F _ vs[F] hd1 (by simp[hi1l]);rw[Nat.zero_add,hval]at this;exact this
   ·rw[(p5 k j).2 fun y hy=>R ⟨y,hy⟩];have hnk:∀i b,fps i b->G.ow b≠some (.own k j):=by
     intro i b p hob;obtain⟨k',j',A,g⟩:=q i b p;rw[hob]at g;cases g
     obtain⟨_,t',xs',hu⟩:=t3 i k j A;exact R ⟨_,hu⟩
    have keep:∀b,iE G k j b->w'.heap[b]?=w.heap[b]?:=fun b p=>hoff.block b (h.olt _ _ p).2 fun⟨i,hi⟩=>hnk i b hi p
    exact (h.owns k j).same rfl hm.s (fun t xs deep m H=>⟨fun b p=>⟨p,keep b p⟩,fun _ _ _ _ _ oo l=>.inl l⟩) fun t xs H b p=>⟨p,keep b p,fun oo l=>l⟩
  ·intro k U e;have:((S.puts ws').aH k).length=0:=by rw[e];rfl
   rw[p4]at this;exact h.lk k U (List.eq_nil_of_length_eq_zero this)
  ·intro i hi;rw[hgB];exact h.lb i hi
 refine hK _ _ G ?_;rw[gq];exact h9.dst (av:=.v (.one (.d (.int .i64 r.2)))) (Rep.int _ _)
theorem YX(h:Inv w0 G S a w){k j:Nat}{t:Ty}{xs ys:List t.den}{deep:Bool}(v:bF (S.aH k) j=.own t xs deep true){w':World}
  (hoff:Off (fun c=>iE G k j c/\∀o,¬G.S c o) w w') (H:OwT w' G.S deep true t ys (G.ov k j) (iE G k j)):Inv w0 G (S.puts [.upd k j (.own t ys deep true)]) a w':=by
 have hcell:∀b oo,G.S b oo->w'.cell? ⟨b,oo,none⟩=w.cell? ⟨b,oo,none⟩:=fun b oo g=>
  World.cell?_of_block (w:=w) (hoff.block b (h.sok b oo g).1 fun d=>d.2 oo g)
 have y:Mv G G w w':=⟨fun b oo g=>⟨g,hcell b oo g⟩,fun k z=>⟨z,fun _=>rfl⟩,fun i hi=>⟨hi,rfl⟩⟩;have n:j<(S.aH k).length:=by
  rcases Nat.lt_or_ge j (S.aH k).length with l | l
  ·exact l
  ·have:bF (S.aH k) j=.dead:=by
    simp only[bF,zE];rw[zJ (by omega)];rfl
   rw[this]at v;cases v
 have A:k<S.owns.length:=by
  rcases Nat.lt_or_ge k S.owns.length with l | l
  ·exact l
  ·have B:S.aH k=[]:=by
    simp only[St.aH,zE];rw[zJ (by omega)];rfl
   rw[B]at v;cases v
 have C:∀k',(S.dI k ((S.aH k).set j (.own t ys deep true))).aH k'=if k'=k then (S.aH k).set j (.own t ys deep true)else S.aH k':=fun k'=>by
  simp only[St.dI,St.aH,zE,List.getElem?_set];by_cases e:k=k'
  ·subst e;simp[A]
  ·rw[if_neg e,if_neg (Ne.symm e)]
 show Inv w0 G (S.dI k ((S.aH k).set j (.own t ys deep true))) a w'
 have hblk:∀b,b<w0.w.heap.size->w'.heap[b]?=w.heap[b]?:=fun b f=>hoff.block b (by have:=h.below.size;omega) (by
  rintro⟨d,_⟩;have:=(h.oh d).1;omega)
 refine⟨h.below.trans ⟨hoff.os,hoff.tape,hoff.output,hoff.size,fun b f _=>hblk b f⟩,h.nodef,h.tsz,h.bsz,by simp[St.dI,h.osz],fun i u I=>?_,?_,?_,?_,?_,?_,?_,h.sfr,fun b p=>⟨(h.fx b p).1,fun l=>((h.fx b p).2 l).same (hblk b l)⟩⟩
 ·exact (h.tmps i u I).move y
 ·intro b x p;exact⟨(h.olt b x p).1,az (h.olt b x p).2 hoff.size⟩
 ·intro b oo g;exact⟨az (h.sok b oo g).1 hoff.size,(h.sok b oo g).2⟩
 ·intro i cs D;obtain⟨q,vs,E,hh,F⟩:=h.box i cs D;refine⟨q,vs,E,(hoff.block _ (h.olt _ _ q).2 ?_).trans hh,F.move y⟩;rintro⟨d,_⟩;have d:G.ow (G.bk i)=some (.own k j):=d;rw[q]at d;cases d
 ·intro k' j';by_cases r:k'=k/\j'=j
  ·obtain⟨rfl,rfl⟩:=r;rw[C,if_pos rfl];have:bF ((S.aH k').set j' (.own t ys deep true)) j'=.own t ys deep true:=by simp[bF,zE,n]
   rw[this];exact H
  ·have e:bF ((S.dI k ((S.aH k).set j (.own t ys deep true))).aH k') j'=bF (S.aH k') j':=by
    rw[C];by_cases ek:k'=k
    ·subst ek;rw[if_pos rfl];simp only[bF,zE,List.getElem?_set];rw[if_neg fun e=>r ⟨rfl,e.symm⟩]
    ·rw[if_neg ek]
   rw[e];have keep:∀b,iE G k' j' b->w'.heap[b]?=w.heap[b]?:=fun b f=>hoff.block b (h.olt _ _ f).2 fun⟨d,_⟩=>by
    have f:G.ow b=some (.own k' j'):=f;have d:G.ow b=some (.own k j):=d;rw[f]at d;cases d
    exact r ⟨rfl,rfl⟩
   exact (h.owns k' j').same rfl y.s (fun t xs deep m p=>⟨fun b f=>⟨f,keep b f⟩,fun _ _ _ _ _ oo g=>.inl g⟩) fun t xs p b f=>⟨f,keep b f,fun oo g=>g⟩
 ·intro k' z e;have:S.aH k'=[]:=by
   rw[C]at e;by_cases ek:k'=k
   ·subst ek;rw[if_pos rfl]at e;have:=congrArg List.length e;rw[List.length_set]at this;simp at this;rw[this]at n;simp at n
   ·rw[if_neg ek]at e;exact e
  exact h.lk k' z this
 ·intro i hi;exact h.lb i hi
end ops
end Go.Abs
namespace Go.Abs
open Go.RowKit
def pack:List Value->Value
 | [v]=>v
 | vs=>.tuple vs.toArray
def ad1(B:Nat)(w':World)(S:Nat->Nat->Prop)(ex:Bool)(rs:List Sh)(y:Tup rs)(v:Value):Prop:=
 ∃us:List Value,v=pack us/\match ex with
  | true=>∃fps:Nat->Nat->Prop,kS (fun i d u=>Ow w' (fun _ _=>False) true d u (fps i)) 0 rs y us/\(∀i c,fps i c->B<=c/\c<w'.heap.size)/\∀i i' c,fps i c->fps i' c->i=i'
  | false=>∃S':Nat->Nat->Prop,kS (fun _ d u=>Rep w' S' d u) 0 rs y us/\∀b o,S' b o->(S b o\/B<=b)/\b<w'.heap.size
def Sound(P:Program)(s:Fsp):Prop:=∀(w:World) (S:Nat->Nat->Prop) (args:List Value) (x:Tup s.ps) (y:Tup s.rs),s.fn x=some y->amb w ->
 kS (fun _ d u=>Rep w S d u) 0 s.ps x args->(∀b o,S b o->b<w.heap.size) ->
 Calls P s.fid args.toArray w fun e w'=>∃v,e=.returned v/\Below w.heap.size w w'/\ad1 w.heap.size w' S s.ex s.rs y v
def NV(w:World)(S:Nat->Nat->Prop)(d:D)(u:Value)(fp:Nat->Prop):Prop:=match d with
 | .list t xs=>OwT w S false true t xs u fp
 | d=>Rep w S d u
def Vp(B:Nat)(w':World)(S':Nat->Nat->Prop)(sh:Bool)(rs:List Sh)(y:Tup rs)(us:List Value):Prop:=match sh with
 | true=>∃fps:Nat->Nat->Prop,kS (fun i d u=>NV w' S' d u (fps i)) 0 rs y us/\(∀i c,fps i c->B<=c/\c<w'.heap.size)/\∀i i' c,fps i c->fps i' c->i=i'
 | false=>kS (fun _ d u=>Rep w' S' d u) 0 rs y us
def RU(P:Program)(s:Fsp):Prop:=∀(w:World) (S:Nat->Nat->Prop) (args:List Value) (x:Tup s.ps) (y:Tup s.rs),s.fn x=some y->amb w ->
 kS (fun _ d u=>Rep w S d u) 0 s.ps x args->(∀b o,S b o->b<w.heap.size) ->
 Calls P s.fid args.toArray w fun e w'=>∃v,e=.returned v/\Below w.heap.size w w'/\∃(S':Nat->Nat->Prop) (us:List Value),v=pack us/\Vp w.heap.size w' S' true s.rs y us /\
  ∀b o,S' b o->(S b o\/w.heap.size<=b)/\b<w'.heap.size
def alC(B:Nat)(w':World)(rs:List Sh)(y:Tup rs)(us:List Value):Prop:=
 ∃fps:Nat->Nat->Prop,kS (fun i d u=>Ow w' (fun _ _=>False) true d u (fps i)) 0 rs y us/\(∀i c,fps i c->B<=c/\c<w'.heap.size)/\∀i i' c,fps i c->fps i' c->i=i'
def akh(B:Nat)(w':World)(S:Nat->Nat->Prop)(bb:Nat)(ex sh:Bool):(rs:List Sh)->Tup rs->Value->Prop
 | [],_,_=>False
 | c::rs,y,v=>∃(S':Nat->Nat->Prop) (vs':List Value) (Et:TypeId) (us:List Value),v=pack us/\w'.heap[bb]?=some (.cells vs'.toArray Et (0,0)) /\
   bI (fun _ d u=>Rep w' S' d u) 0 (c.t.cells (BG y)) vs'/\(match ex with
    | true=>alC B w' rs (Ul y) us
    | false=>Vp B w' S' sh rs (Ul y) us)/\∀b o,S' b o->(S b o\/(ex=false/\B<=b))/\b<w'.heap.size
def kT(P:Program)(s:Fsp):Prop:=∀(w:World) (S:Nat->Nat->Prop) (bb:Nat) (vs:List Value) (Et:TypeId) (args:List Value) (x:Tup s.ps) (y:Tup s.rs),s.fn x=some y->amb w->Uf<=bb ->
 w.heap[bb]?=some (.cells vs.toArray Et (0,0))->kS (fun _ d u=>Rep w S d u) 0 s.ps x (.agg vs.toArray::args)->(∀b o,S b o->b<w.heap.size/\b≠bb) ->
 Calls P s.fid (Value.pointer (some ⟨bb,0,none⟩)::args).toArray w fun e w'=>∃v,e=.returned v/\tY (fun c=>c=bb) w.heap.size w w'/\xq w w' bb/\akh w.heap.size w' S bb s.ex s.sh s.rs y v
def RV(P:Program)(s:Fsp):Prop:=∀(w:World) (S:Nat->Nat->Prop) (args:List Value) (x:Tup s.ps) (y:Tup s.rs),s.fn x=some y->amb w ->
 kS (fun _ d u=>Rep w S d u) 0 s.ps x args->(∀b o,S b o->b<w.heap.size) ->
 Calls P s.fid args.toArray w fun e w'=>∃bb,e=.returned (.pointer (some ⟨bb,0,none⟩))/\Below w.heap.size w w'/\w.heap.size<=bb /\
  ∃(vs':List Value) (Et:TypeId) (S':Nat->Nat->Prop),w'.heap[bb]?=some (.cells vs'.toArray Et (0,0))/\bI (fun _ d u=>Rep w' S' d u) 0 (dO s.rs y) vs'/\∀b o,S' b o->(S b o\/w.heap.size<=b)/\b<w'.heap.size/\b≠bb
def XL(P:Program)(s:Isp):Prop:=∀(w:World) (S:Nat->Nat->Prop) (deep:Bool) (u:Value) (xs ys:List s.t.den) (fp:Nat->Prop),s.fn xs=some ys->amb w ->
 OwT w S deep true s.t xs u fp->(∀c,fp c->c<w.heap.size)->(∀b o,S b o->b<w.heap.size) ->
 Calls P s.fid #[u] w fun e w'=>e=.returned (.tuple #[])/\Off (fun c=>fp c/\∀o,¬S c o) w w'/\OwT w' S deep true s.t ys u fp
def jK(P:Program)(E:Env):Prop:=E.tt.ok P=true/\(∀s,s∈E.fs->callable P s.fid=true/\Sound P s)/\(∀m,m∈E.ms->callable P m.fid=true/\Gy P m) /\
 (∀s,s∈E.bs->callable P s.fid=true/\kT P s)/\(∀s,s∈E.ns->callable P s.fid=true/\RV P s)/\(∀s,s∈E.ss->callable P s.fid=true/\RU P s) /\
 (∀s,s∈E.so->callable P s.fid=true/\vZ P s/\∃d,P.underlying s.T=some d/\∀ms,d≠.interface ms) /\
 ∀s,s∈E.is->callable P s.fid=true/\XL P s
def DT(P:Program)(E:Env)(w0:Bs):Prop:=E.tt.ok P=true/\(∀s,s∈E.fs->callable P s.fid=true/\Sound P s)/\(∀m,m∈E.ms->callable P m.fid=true/\Gy P m) /\
 (∀s,s∈E.bs->callable P s.fid=true/\kT P s)/\(∀s,s∈E.ns->callable P s.fid=true/\RV P s)/\(∀s,s∈E.ss->callable P s.fid=true/\RU P s) /\
 (∀s,s∈E.so->callable P s.fid=true/\vZ P s/\∃d,P.underlying s.T=some d/\∀ms,d≠.interface ms)/\(∀s,s∈E.is->callable P s.fid=true/\XL P s)/\rf w0
theorem jK.at{P:Program}{E:Env}{w0:Bs}(h:jK P E)(a:rf w0):DT P E w0:=⟨h.1,h.2.1,h.2.2.1,h.2.2.2.1,h.2.2.2.2.1,h.2.2.2.2.2.1,h.2.2.2.2.2.2.1,h.2.2.2.2.2.2.2,a⟩
theorem DT.am{P:Program}{E:Env}{w0:Bs}(h:DT P E w0):rf w0:=h.2.2.2.2.2.2.2.2
theorem bI.imp{R R':Nat->D->Value->Prop}(h:∀i d v,R i d v->R' i d v):∀ {n:Nat} {ds:List D} {vs:List Value},bI R n ds vs->bI R' n ds vs
 | n,[],[],_=>trivial
 | n,d::ds,v::vs,hh=>⟨h _ _ _ hh.1,bI.imp h hh.2⟩
theorem ShR.imp{R R':Nat->D->Value->Prop}(h:∀i d v,R i d v->R' i d v){n:Nat}{s:Sh}{x:s.t.den}{u:Value}(hh:ShR R n s x u):ShR R' n s x u:=by
 unfold ShR at *;split at hh
 ·obtain⟨vs,e,a⟩:=hh;exact⟨vs,e,a.imp h⟩
 ·exact bI.imp h hh
theorem kS.imp{R R':Nat->D->Value->Prop}(h:∀i d v,R i d v->R' i d v):∀ {n:Nat} {ss:List Sh} {y:Tup ss} {us:List Value},kS R n ss y us->kS R' n ss y us
 | n,[],y,[],_=>trivial
 | n,[s],y,[u],hh=>ShR.imp h hh
 | n,s::s'::r,y,u::us,hh=>⟨ShR.imp h hh.1,kS.imp h hh.2⟩
section ops
variable {P:Program} {w0:Bs} {G:Gh} {S:St} {a:Act} {w:World} {o:Oper} {K:Act->World->Prop} {Q:Exit->Act->World->Prop}
theorem Ef{d:Nat}{ex:Bool}{R:Nat->D->Value->Prop}(a:∀i x v,R i x v->qc G w (aeQ d ex i x) v):∀ {n:Nat} {ds:List D} {vs:List Value},bI R n ds vs->dR G w (MH d ex n ds) vs
 | n,[],[],_=>trivial
 | n,x::ds,v::vs,h=>⟨a _ _ _ h.1,Ef a h.2⟩
theorem YO{d:Nat}{ex:Bool}{R:Nat->D->Value->Prop}(e:∀i x v,R i x v->qc G w (aeQ d ex i x) v){n:Nat}{s:Sh}{y:s.t.den}{u:Value}(h:ShR R n s y u):vY G w (mkV' s.agg (MH d ex n (s.t.cells y))) u:=by
 unfold ShR at h;split at h
 ·rename_i b;obtain⟨vs,rfl,a⟩:=h;rw[b];exact⟨vs,rfl,Ef e a⟩
 ·rename_i b;rw[b];have a:=Ef e h;match f:MH d ex n (s.t.cells y),a with
  | [c],a=>exact a.1
theorem qE{d:Nat}{ex:Bool}{R:Nat->D->Value->Prop}(a:∀i x v,R i x v->qc G w (aeQ d ex i x) v):∀ {n:Nat} {ss:List Sh} {y:Tup ss} {us:List Value},kS R n ss y us->oZ G w (yG d ex n ss y) us
 | n,[],y,[],_=>trivial
 | n,[s],y,[u],h=>⟨YO a h,trivial⟩
 | n,s::s'::r,y,u::us,h=>⟨YO a h.1,qE a h.2⟩
theorem uj{vs:List V}{us:List Value}(h:oZ G w vs us):jV G w (Bh vs) (pack us):=by
 match vs,us,h with
 | [],[],_=>exact⟨[],rfl,trivial⟩
 | [v],[u],h=>exact uG h.1
 | v::v'::r,u::u'::r',h=>exact⟨u::u'::r',rfl,h⟩
def FI(s:Sh)(u:Value):List Value:=match s.agg with
 | true=>u.cells.toList
 | false=>[u]
def sK:List Sh->List Value->List Value
 | s::r,u::us=>FI s u++sK r us
 | _,_=>[]
theorem bI.app{R:Nat->D->Value->Prop}{n:Nat}{ds ds':List D}{vs vs':List Value}(a:bI R n ds vs)(b:bI R (n+ds.length) ds' vs'):bI R n (ds++ds') (vs++vs'):=by
 induction ds generalizing n vs with
 | nil=>cases vs with
  | nil=>simpa using b
  | cons=>exact a.elim
 | cons d ds ih=>cases vs with
  | nil=>exact a.elim
  | cons v vs=>exact⟨a.1,ih a.2 (by rw[show n+1+ds.length=n+(d::ds).length by simp;omega];exact b)⟩
theorem ShR.cells{R:Nat->D->Value->Prop}{n:Nat}{s:Sh}{x:s.t.den}{u:Value}(h:ShR R n s x u):bI R n (s.t.cells x) (FI s u):=by
 unfold ShR at h;unfold FI;split at h
 ·rename_i a;obtain⟨vs,rfl,b⟩:=h;rw[a];exact b
 ·rename_i a;rw[a];exact h
theorem kS.cells{R:Nat->D->Value->Prop}:∀ {n:Nat} {ss:List Sh} {y:Tup ss} {us:List Value},kS R n ss y us->bI R n (dO ss y) (sK ss us)
 | n,[],y,[],_=>trivial
 | n,[s],y,[u],h=>by
  have a:ShR R n s y u:=h;show bI R n (s.t.cells y) (FI s u++[])
  rw[List.append_nil];exact a.cells
 | n,s::s'::r,y,u::us,h=>by
  refine bI.app h.1.cells ?_;rw[Ty.bQ];exact kS.cells h.2
theorem bI.at{R:Nat->D->Value->Prop}{all:List Value}:∀ {n:Nat} {ds:List D} {vs pre post:List Value},bI R n ds vs->pre.length=n->all=pre++vs++post->bI (fun i d u=>R i d u/\all[i]?=some u) n ds vs
 | n,[],[],_,_,_,_,_=>trivial
 | n,d::ds,v::vs,pre,post,h,a,b=>by
  refine⟨⟨h.1,?_⟩,bI.at (pre:=pre++[v]) (post:=post) h.2 (by simp[a]) (by rw[b];simp)⟩;rw[b,a6,List.getElem?_append_right (by omega),a];simp
theorem bI.length{R:Nat->D->Value->Prop}{n:Nat}{ds:List D}{vs:List Value}(h:bI R n ds vs):ds.length=vs.length:=h.get.1
theorem ShR.at{R:Nat->D->Value->Prop}{all:List Value}{n:Nat}{s:Sh}{x:s.t.den}{u:Value}{pre post:List Value}(h:ShR R n s x u)(b:pre.length=n)(a:all=pre++FI s u++post):ShR (fun i d u=>R i d u/\all[i]?=some u) n s x u:=by
 unfold ShR at *;unfold FI at a;cases c:s.agg with
 | true=>
  rw[c]at h a;obtain⟨vs,rfl,e⟩:=h;exact⟨vs,rfl,e.at b a⟩
 | false=>
  rw[c]at h a;exact bI.at h b a
theorem kS.at{R:Nat->D->Value->Prop}{all:List Value}:∀ {n:Nat} {ss:List Sh} {y:Tup ss} {us pre post:List Value},kS R n ss y us->pre.length=n->all=pre++sK ss us++post->kS (fun i d u=>R i d u/\all[i]?=some u) n ss y us
 | n,[],y,[],_,_,_,_,_=>trivial
 | n,[s],y,[u],pre,post,h,b,c=>ShR.at (post:=post) h b (by rw[c];simp[sK])
 | n,s::s'::r,y,u::us,pre,post,h,b,c=>by
  have a:=h.1.cells.length;rw[Ty.bQ]at a;refine⟨ShR.at (post:=sK (s'::r) us++post) h.1 b (by rw[c];simp[sK]),kS.at (pre:=pre++FI s u) (post:=post) h.2 (by simp[b,a]) (by rw[c];simp[sK])⟩
theorem YZ(tr:Bool)(ds:List D)(j:Nat):bF (IC tr ds) j=match ds[j]? with
  | some (.list t xs)=>if tr then .tree t xs else .own t xs true true
  | _=>.dead:=by
 simp only[bF,IC,zE,List.getElem?_map];cases ds[j]? with
 | none=>rfl
 | some x=>cases x<;>rfl
theorem Inv.BI:∀(keys:List (Nat×Nat)) {G:Gh} {S:St},Inv w0 G S a w->nodupB keys=true ->
  ∃G',Inv w0 G' (S.puts (keys.map fun q=>.nomut q.1 q.2)) a w/\More G G' (AK G S keys)
 | [],G,S,h,_=>⟨G,h,⟨rfl,rfl,rfl,rfl,rfl,fun b o=>⟨.inl,fun hh=>hh.elim id fun⟨_,_,_,_,_,_,c,_⟩=>by cases c⟩⟩⟩
 | (k,j)::r,G,S,h,u=>by
  obtain⟨v,l⟩:=lZ u;obtain⟨B,x,d⟩:=h.VH k j;obtain⟨y,z,i⟩:=Inv.BI r x l;have hput:∀k' j',(k',j')∈r->bF ((S.put (.nomut k j)).aH k') j'=bF (S.aH k') j':=fun k' j' c=>by
   show bF ((S.dI k ((S.aH k).set j (bF (S.aH k) j).Fa)).aH k') j'=_
   rw[bY];split
   ·rename_i p;rw[iV];split
    ·rename_i A;have:(k,j)=(k',j'):=by rw[p.1,A.1]
     exact absurd (this▸c) v
    ·rw[p.1]
   ·rfl
  refine⟨y,z,⟨i.ow.trans d.ow,i.ov.trans d.ov,i.bk.trans d.bk,i.lk.trans d.lk,i.lb.trans d.lb,fun b o=>?_⟩⟩;rw[i.s,d.s];constructor
  ·rintro ((n | ⟨k',j',t,xs,deep,m,c,g⟩) | ⟨k',j',t,xs,deep,m,c,g,e,f⟩)
   ·exact .inl n
   ·simp only[List.mem_singleton]at c;exact .inr ⟨k',j',t,xs,deep,m,by rw[c];exact aq,g⟩
   ·rw[hput k' j' c]at g;exact .inr ⟨k',j',t,xs,deep,m,ao _ c,g,by rw[<- d.ow];exact e,by rw[<- d.ov];exact f⟩
  ·rintro (n | ⟨k',j',t,xs,deep,m,c,g,e,f⟩)
   ·exact .inl (.inl n)
   ·rcases a8.1 c with c | c
    ·exact .inl (.inr ⟨k',j',t,xs,deep,m,by simp[c],g,e,f⟩)
    ·exact .inr ⟨k',j',t,xs,deep,m,c,by rw[hput k' j' c];exact g,by rw[d.ow];exact e,by rw[d.ov];exact f⟩
theorem uq{vs:List V}{k j:Nat}{x:V}(a:x∈vs)(h:C.own k j∈x.cells):(k,j)∈aQ (vs.flatMap V.cells):=
 iL (List.mem_flatMap.2 ⟨x,a,h⟩)
theorem Inv.adP(h:Inv w0 G S a w)(i:Nat){cs cs':List C}(hi:S.gW i=some cs){w':World}(hoff:tY (fun c=>c=G.bk i) w.heap.size w w')(u:xq w w' (G.bk i)){vs':List Value}{Et:TypeId}(hh:w'.heap[G.bk i]?=some (.cells vs'.toArray Et (0,0)))
  (r:dR G w' cs' vs'):Inv w0 G (S.setB i (some cs')) a w':=by
 obtain⟨q,_⟩:=h.box i cs hi;have z:=h.olt _ _ q;have hcell:∀b o,G.S b o->w'.cell? ⟨b,o,none⟩=w.cell? ⟨b,o,none⟩:=fun b o f=>
  World.cell?_of_block (w:=w) (hoff.block b (h.sok b o f).1 fun e=>(h.sok b o f).2 i (e▸q))
 have A:Mv G G w w':=⟨fun b o f=>⟨f,hcell b o f⟩,fun k E=>⟨E,fun _=>rfl⟩,fun i hi=>⟨hi,rfl⟩⟩;have hilt:i<S.boxes.length:=by
  rcases Nat.lt_or_ge i S.boxes.length with p | p
  ·exact p
  ·simp[St.gW,zE,zJ p]at hi
 have H:=h.below.size;refine⟨h.below.trans ⟨hoff.os,hoff.tape,hoff.output,hoff.size,fun k E B=>hoff.block k (by omega) fun e=>?_⟩,h.nodef,h.tsz,by simp[St.setB,h.bsz],by simp[St.setB,h.osz],fun x v I=>(h.tmps x v I).move A,?_,?_,?_,?_,h.lk,?_,h.sfr,fun b l=>⟨(h.fx b l).1,fun p=>by
   by_cases eb:b=G.bk i
   ·subst eb;exact ((h.fx _ l).2 p).trans u
   ·exact ((h.fx b l).2 p).same (hoff.block b (by omega) eb)⟩⟩
 ·subst e;rcases z.1 with F | ⟨_,F⟩
  ·omega
  ·exact B F
 ·intro x y l;exact⟨(h.olt x y l).1,az (h.olt x y l).2 hoff.size⟩
 ·intro x o f;exact⟨az (h.sok x o f).1 hoff.size,(h.sok x o f).2⟩
 ·intro x cs'' hcs'';rw[kF]at hcs'';by_cases d:i=x
  ·subst d;rw[if_pos ⟨rfl,hilt⟩]at hcs'';cases hcs''
   exact⟨q,vs',Et,hh,r⟩
  ·rw[if_neg (fun e=>d e.1)]at hcs'';obtain⟨n,vs'',E',D,g⟩:=h.box x cs'' hcs'';refine⟨n,vs'',E',(hoff.block _ (h.olt _ _ n).2 fun e=>?_).trans D,g.move A⟩;rw[e,q]at n;cases n
   exact d rfl
 ·intro k j;have keep:∀c,iE G k j c->iE G k j c/\w'.heap[c]?=w.heap[c]?:=fun c g=>⟨g,hoff.block c (h.olt _ _ g).2 fun e=>by
   have hc'':G.ow c=some (.own k j):=g;rw[e,q]at hc'';cases hc''⟩
  exact (h.owns k j).same rfl A.s (fun t xs deep m l=>⟨keep,fun _ _ _ _ _ o f=>.inl f⟩) fun t xs l c r=>⟨(keep c r).1,(keep c r).2,fun o f=>f⟩
 ·intro x l;rw[kF];by_cases d:i=x
  ·rw[if_pos ⟨d,hilt⟩];simp
  ·rw[if_neg (fun e=>d e.1)];exact h.lb x l
theorem Inv.aiJ(h:Inv w0 G S a w)(i:Nat){cs cs':List C}(hi:S.gW i=some cs){vs:List Value}{Et:TypeId}(hh:w.heap[G.bk i]?=some (.cells vs.toArray Et (0,0)))(b:dR G w cs' vs) :
  Inv w0 G (S.setB i (some cs')) a w:=by
 have c:=h.adP i hi (w':=w) ⟨rfl,rfl,rfl,ar _,fun _ _ _=>rfl⟩ (.refl _ _) hh b;exact c
theorem sH:∀(keys:List (Nat×Nat)) (S:St) (b:Nat),(S.puts (keys.map fun q=>W.nomut q.1 q.2)).gW b=S.gW b
 | [],S,b=>rfl
 | q::r,S,b=>by
  show ((S.put (.nomut q.1 q.2)).puts (r.map fun q=>W.nomut q.1 q.2)).gW b=_
  rw[sH r];rfl
theorem nC:∀(keys:List (Nat×Nat)) (S:St) (d:Nat),S.aH d=[]->(S.puts (keys.map fun q=>W.nomut q.1 q.2)).aH d=[]
 | [],S,d,h=>h
 | q::r,S,d,h=>by
  show ((S.put (.nomut q.1 q.2)).puts (r.map fun q=>W.nomut q.1 q.2)).aH d=[]
  refine nC r _ d ?_;show (S.dI q.1 ((S.aH q.1).set q.2 (bF (S.aH q.1) q.2).Fa)).aH d=[]
  rw[bY];split
  ·rename_i a;rw[a.1,h];rfl
  ·exact h
theorem kS.cellsAll{R:Nat->D->Value->Prop}{Q:D->Prop}:∀ {n:Nat} {ss:List Sh} {y:Tup ss} {us:List Value},kS R n ss y us->(∀d,d∈dO ss y->Q d)->kS (fun i d u=>R i d u/\Q d) n ss y us:=by
 have key:∀ {n:Nat} {ds:List D} {vs:List Value},bI R n ds vs->(∀d,d∈ds->Q d)->bI (fun i d u=>R i d u/\Q d) n ds vs:=by
  intro n ds;induction ds generalizing n with
  | nil=>intro vs b _;cases vs with
   | nil=>trivial
   | cons=>exact b.elim
  | cons d ds ih=>intro vs b f;cases vs with
   | nil=>exact b.elim
   | cons v vs=>exact⟨⟨b.1,f d aq⟩,ih b.2 fun dd a=>f dd (ao _ a)⟩
 have keyS:∀ {n:Nat} {s':Sh} {x:s'.t.den} {u:Value},ShR R n s' x u->(∀d,d∈s'.t.cells x->Q d)->ShR (fun i d u=>R i d u/\Q d) n s' x u:=by
  intro n s' x u hh a;unfold ShR at *;split at hh
  ·obtain⟨vs,e,g⟩:=hh;exact⟨vs,e,key g a⟩
  ·exact key hh a
 intro n ss;induction ss generalizing n with
 | nil=>intro y us hh _;cases us with
  | nil=>trivial
  | cons=>exact hh.elim
 | cons h r ih=>
  intro y us hh a;cases r with
  | nil=>cases us with
   | nil=>exact hh.elim
   | cons u us=>cases us with
    | nil=>exact keyS hh a
    | cons=>exact hh.elim
  | cons j r=>cases us with
   | nil=>exact hh.elim
   | cons u us=>exact⟨keyS hh.1 fun dd c=>a dd (List.mem_append_left _ c),ih hh.2 fun dd c=>a dd (List.mem_append_right _ c)⟩
theorem agX(ds:List D)(j:Nat):bF (ae1 ds) j=match ds[j]? with
  | some (.list t xs)=>.own t xs false true
  | _=>.dead:=by
 simp only[bF,ae1,zE,List.getElem?_map];cases ds[j]? with
 | none=>rfl
 | some x=>cases x<;>rfl
theorem OwT.rest{w:World}{S S':Nat->Nat->Prop}{deep m:Bool}{t:Ty}{xs:List t.den}{v:Value}{fp fp':Nat->Prop}(h:OwT w S deep m t xs v fp)(q:∀b o,S b o->S' b o)
  (r:∀b,fp b->∀o,S' b o->S b o) (p:∀b,fp b->fp' b):OwT w S' deep m t xs v fp':=by
 rcases h with h | ⟨b,cap,arr,E,vs,fps,rfl,s,hcap,hmax,g,a,u,k,e,hdis,l⟩
 ·exact .inl h
 ·exact .inr ⟨b,cap,arr,E,vs,fps,rfl,s,hcap,hmax,g,p _ a,u,fun i x j d y z=>(k i x j d y z).move (fun b o n=>⟨q b o n,rfl⟩) fun _ _=>rfl,fun i j c f=>⟨p _ (e i j c f).1,(e i j c f).2⟩,hdis,fun o n=>l o (r b a o n)⟩
theorem Inv.akk(h:Inv w0 G S a w){B:Nat}(M:∀c x,G.ow c=some x->c<B)(O:w0.w.heap.size<=B){S':Nat->Nat->Prop}{sh:Bool}{rs:List Sh}{y:Tup rs}{us:List Value}(hres:Vp B w S' sh rs y us)
  (p:∀b o,S' b o->G.S b o) (hSB:∀b o,B<=b->G.S b o->S' b o) {o:Oper} {S0:St} (P:∀d,S0.aH d=[]->S.aH d=[]) {ws:List W} (g:(ac6 o sh rs y).val S0=some ws) :
  ∃G',Inv w0 G' (S.puts ws) (a.put o.dst (pack us)) w:=by
 unfold ac6 at g;cases hdst:o.dst with
 | none=>
  rw[hdst]at g;simp only[Rd.val,zD]at g;subst g;exact⟨G,h⟩
 | some d=>
  rw[hdst]at g;simp only at g;split at g
  case isFalse hcond=>
   simp only[Rd.val,zD]at g
   subst g
   refine⟨G,h.jW d (av:=Bh (yG d false 0 rs y)) ?_⟩
   cases sh with
   | false=>
    refine uj (qE (R:=fun _ dd u=>Rep w S' dd u) (fun i dd u q=>?_) hres)
    have l:Rep w G.S dd u:=q.move fun b o f=>⟨p b o f,rfl⟩
    cases dd with
    | list t xs=>exact l
    | int=>exact l
    | bool=>exact l
    | str=>exact l
   | true=>
    obtain⟨fps,D,_⟩:=hres
    refine uj (qE (R:=fun i dd u=>NV w S' dd u (fps i)/\nG dd=none) (fun i dd u q=>?_) (D.cellsAll fun dd Q=>?_))
    ·obtain⟨q,T⟩:=q;cases dd with
     | list t xs=>cases T
     | int k n=>exact Rep.move (S:=S') q fun b o f=>⟨p b o f,rfl⟩
     | bool b=>exact Rep.move (S:=S') q fun b o f=>⟨p b o f,rfl⟩
     | str v=>exact Rep.move (S:=S') q fun b o f=>⟨p b o f,rfl⟩
    ·cases dd with
     | list t xs=>exact absurd (by rw[Bool.true_and];exact List.any_eq_true.2 ⟨_,Q,rfl⟩) hcond
     | _=>rfl
  case isTrue hcond=>
   rw[zI]at hcond
   obtain⟨rfl,hany⟩:=hcond
   obtain⟨fps,D,r,F⟩:=hres
   simp only[Rd.aC,zB,Rd.val,zD]at g
   obtain⟨ws',U,rfl⟩:=g
   obtain⟨H,rfl⟩:=iD U
   by_cases m:d<S.tmps.length
   case neg=>
    refine⟨G,?_⟩
    show Inv w0 G ((S.dI d _).jW d _) _ _
    rw[Iu h.tsz m,BN (by rw[h.osz];exact m),BM m]
    exact h
   generalize hvals0:sK rs us=vals at *
   have hvals:bI (fun i d u=>NV w S' d u (fps i)) 0 (dO rs y) vals:=hvals0▸D.cells
   obtain⟨I,J⟩:=hvals.get
   classical
   have K:ae1 (dO rs y)≠[]:=by
    intro e;have:dO rs y=[]:=by
     simp only[ae1,List.map_eq_nil_iff]at e;exact e
    rw[this]at hany;cases hany
   obtain⟨V,X,L,Y,Z⟩:=h.Xc d (ae1 (dO rs y)) (fun i=>vals.getD i undef) (fun c=>if hh:∃i,fps i c then some hh.choose else none) (P d H) m K
    (fun c i z=>by
     split at z
     ·rename_i hh;obtain⟨f1,f2⟩:=r _ _ hh.choose_spec;refine⟨Nat.le_trans O f1,f2,fun i A=>?_,fun k' j' _ _ _ _ A=>?_⟩
      ·exact absurd (M _ _ A) (by omega)
      ·exact absurd (M _ _ A) (by omega)
     ·cases z)
    (fun j=>by
     rw[agX];cases N:(dO rs y)[j]? with
     | none=>trivial
     | some dd=>
      cases dd with
      | int=>trivial
      | bool=>trivial
      | str=>trivial
      | list t xs=>
       have C:j<vals.length:=by rw[<- I];exact (zC.1 N).1
       have:=J j _ vals[j] N (by simp[C]);rw[Nat.zero_add]at this;have e:vals.getD j undef=vals[j]:=by simp[C]
       have q1:∀c,fps j c->(if hh:∃i,fps i c then some hh.choose else none)=some j:=fun c z=>by
        have hh:∃i,fps i c:=⟨j,z⟩;rw[dif_pos hh];exact congrArg some (F _ _ _ hh.choose_spec z)
       show OwT w G.S false true t xs (vals.getD j undef) _
       rw[e];exact OwT.rest (S:=S') this p (fun b A o f=>hSB b o (r _ _ A).1 f) q1)
   have hTa:=D.at (all:=vals) (pre:=[]) (post:=[]) rfl (by rw[<- hvals0];simp)
   have hTa':kS (fun i d u=>(NV w S' d u (fps i)/\vals[i]?=some u)) 0 rs y us:=hTa
   refine⟨V,X.jW d (av:=Bh (yG d true 0 rs y)) (uj (qE (R:=fun i d u=>(NV w S' d u (fps i)/\vals[i]?=some u)) ?_ hTa'))⟩
   rintro i dd u ⟨E,hu⟩
   cases dd with
   | list t xs=>
    refine⟨Y,?_,(OwT.ow E).one⟩
    rw[Z]
    simp[hu]
   | int k n=>exact Rep.move (S:=S') E fun b o f=>⟨(L.s b o (p b o f)).1,rfl⟩
   | bool b=>exact Rep.move (S:=S') E fun b o f=>⟨(L.s b o (p b o f)).1,rfl⟩
   | str v=>exact Rep.move (S:=S') E fun b o f=>⟨(L.s b o (p b o f)).1,rfl⟩
theorem Inv.akl(h:Inv w0 G S a w){B:Nat}(J:∀c x,G.ow c=some x->c<B)(O:w0.w.heap.size<=B)(hSB:∀b o,G.S b o->b<B){tr:Bool}{rs:List Sh}{y:Tup rs}{us:List Value}(hres:alC B w rs y us)
  {o:Oper} {S0:St} (P:∀d,S0.aH d=[]->S.aH d=[]) {ws:List W} (g:(ahR o tr rs y).val S0=some ws) :
  ∃G',Inv w0 G' (S.puts ws) (a.put o.dst (pack us)) w:=by
 obtain⟨fps,z,p,A⟩:=hres;have scalar:∀ {G':Gh} {d:Nat} {ex:Bool} {i:Nat} {dd:D} {u:Value},nG dd=none->(∃S' fp,Ow w S' true dd u fp)->qc G' w (aeQ d ex i dd) u:=by
  rintro G' d ex i dd u K ⟨S',fp,m⟩;cases m with
  | int k n=>exact Rep.int _ _
  | bool b=>exact Rep.bool _
  | str v=>exact Rep.str _
  | nil=>cases K
  | ro _ _ _ C=>cases C
  | list=>cases K
 unfold ahR at g;cases hdst:o.dst with
 | none=>
  rw[hdst]at g;simp only[Rd.val,zD]at g;subst g;exact⟨G,h⟩
 | some d=>
  rw[hdst]at g;simp only at g;by_cases hany:(dO rs y).any isList=true
  ·rw[if_pos hany]at g;simp only[Rd.aC,zB,Rd.val,zD]at g;obtain⟨ws',Q,rfl⟩:=g;obtain⟨E,rfl⟩:=iD Q;by_cases l:d<S.tmps.length
   case neg=>
    refine⟨G,?_⟩
    show Inv w0 G ((S.dI d _).jW d _) _ _
    rw[Iu h.tsz l,BN (by rw[h.osz];exact l),BM l]
    exact h
   generalize hvals0:sK rs us=vals at *;have hvals:bI (fun i d u=>Ow w (fun _ _=>False) true d u (fps i)) 0 (dO rs y) vals:=hvals0▸z.cells;obtain⟨F,H⟩:=hvals.get;classical
   have I:IC tr (dO rs y)≠[]:=by
    intro e;have:dO rs y=[]:=by
     simp only[IC,List.map_eq_nil_iff]at e;exact e
    rw[this]at hany;cases hany
   obtain⟨T,U,m7,V,X⟩:=h.Xc d (IC tr (dO rs y)) (fun i=>vals.getD i undef) (fun c=>if hh:∃i,fps i c then some hh.choose else none) (P d E) l I
    (fun c i q=>by
     split at q
     ·rename_i hh;obtain⟨Y,Z⟩:=p _ _ hh.choose_spec;refine⟨Nat.le_trans O Y,Z,fun i r=>?_,fun k' j' _ _ _ _ r=>?_⟩
      ·exact absurd (J _ _ r) (by omega)
      ·exact absurd (J _ _ r) (by omega)
     ·cases q)
    (fun j=>by
     rw[YZ];cases L:(dO rs y)[j]? with
     | none=>trivial
     | some dd=>
      cases dd with
      | int=>trivial
      | bool=>trivial
      | str=>trivial
      | list t xs=>
       have s:j<vals.length:=by rw[<- F];exact (zC.1 L).1
       have:=H j _ vals[j] L (by simp[s]);rw[Nat.zero_add]at this;have e:vals.getD j undef=vals[j]:=by simp[s]
       have M:∀c,fps j c->(if hh:∃i,fps i c then some hh.choose else none)=some j:=fun c q=>by
        have hh:∃i,fps i c:=⟨j,q⟩;rw[dif_pos hh];exact congrArg some (A _ _ _ hh.choose_spec q)
       have N:∀b oo,G.S b oo->¬fps j b:=fun b oo hs r=>by
        have:=hSB b oo hs;have:=(p _ _ r).1;omega
       cases htr:tr with
       | false=>
        show OwT w G.S true true t xs (vals.getD j undef) _
        rw[e];exact agW this M N
       | true=>
        refine⟨fps j,M,?_,N⟩;rw[e];exact this)
   have hTa:=z.at (all:=vals) (pre:=[]) (post:=[]) rfl (by rw[<- hvals0];simp);have hTa':kS (fun i d u=>(Ow w (fun _ _=>False) true d u (fps i)/\vals[i]?=some u)) 0 rs y us:=hTa;refine⟨T,U.jW d (av:=Bh (yG d true 0 rs y)) (uj (qE (R:=fun i d u=>(Ow w (fun _ _=>False) true d u (fps i)/\vals[i]?=some u)) ?_ hTa'))⟩;rintro i dd u ⟨m,hu⟩;cases f:nG dd with
   | none=>exact scalar f ⟨_,_,m⟩
   | some t=>
    cases dd with
    | int=>cases f
    | bool=>cases f
    | str=>cases f
    | list t' xs=>
     refine⟨V,?_,m.one⟩;rw[X];simp[hu]
  ·rw[if_neg hany]at g;simp only[Rd.val,zD]at g;subst g;refine⟨G,h.jW d (av:=Bh (yG d true 0 rs y)) (uj (qE (R:=fun i dd u=>Ow w (fun _ _=>False) true dd u (fps i)/\nG dd=none) (fun i dd u m=>scalar m.2 ⟨_,_,m.1⟩) (z.cellsAll fun dd hm=>?_)))⟩;cases dd with
   | list t xs=>exact absurd (List.any_eq_true.2 ⟨_,hm,rfl⟩) hany
   | _=>rfl
theorem ag3(h:Inv w0 G S a w){c:Call}{f:FuncId}(u:o.op=.call c)(m:c.callee=.value (.func f)){E:Env}(r:DT P E w0){ws:List W}(d:(ama E o c f).val S=some ws)
  (y:∀a' w' G',Inv w0 G' (S.puts ws) a' w'->K a' w'):o.wp P a w K Q:=by
 unfold ama at d;split at d
 case h_2=>cases d
 rename_i s x l z;have hfid:s.fid=f:=by have:=List.find?_some l;simpa using this
 obtain⟨hcall,hsound⟩:=r.2.2.2.2.2.2.2.1 s (List.mem_of_find?_eq_some l);simp only[Rd.aC,zB]at d;obtain⟨ax,A,v,B,d⟩:=d;split at d
 case h_2=>cases d
 rename_i k j;simp only[Rd.val]at d;split at d
 case h_2=>cases d
 rename_i t xs deep hown;split at d
 case isFalse=>cases d
 rename_i n;subst n;simp only[Rd.val,zB,zD]at d;obtain⟨ys,C,rfl⟩:=d;have p:vY G w (.one (.own k j)) (a.eval x):=qY B (bH h A);have g:a.eval x=G.ov k j:=p.2.1;have q:OwT w G.S deep true s.t xs (a.eval x) (iE G k j):=by
  have:=h.owns k j;rw[hown]at this;rw[g];exact this
 have hargs:c.args.map a.eval = #[a.eval x]:=by
  have:c.args = #[x]:=FB z;rw[this];simp
 unfold Oper.wp;rw[nZ u m (hfid▸hcall),<- hfid,hargs];refine Calls.mono (hsound w G.S deep (a.eval x) xs ys (iE G k j) C (r.am.keep w h.below) q (fun c m=>(h.olt _ _ m).2) (fun b o l=>(h.sok b o l).1)) fun e w' D=>?_
 obtain⟨rfl,hoff,i⟩:=D;rw[g]at i;have F:=YX h hown hoff i;refine y _ _ G ?_;exact F.dst (o:=o) (av:=.tup []) (v:=.tuple #[]) ⟨[],rfl,trivial⟩
theorem ag2(h:Inv w0 G S a w){c:Call}{f:FuncId}(I:o.op=.call c)(J:c.callee=.value (.func f)){E:Env}(r:DT P E w0){ws:List W}(l:(al9 E o c f).val S=some ws)
  (u:∀a' w' G',Inv w0 G' (S.puts ws) a' w'->K a' w'):o.wp P a w K Q:=by
 unfold al9 at l;split at l
 case h_2=>exact ag3 h I J r l u
 rename_i s g;have hfid:s.fid=f:=by have:=List.find?_some g;simpa using this
 obtain⟨hcall,hsound⟩:=r.2.2.2.2.2.1 s (List.mem_of_find?_eq_some g);simp only[Rd.aC,zB]at l;obtain⟨vs,M,z,N,l⟩:=l;simp only[Rd.val,zB]at l;obtain⟨y,O,l⟩:=l;split at l
 case isFalse=>cases l
 rename_i A;simp only[Rd.aC,zB,Rd.val,zD]at l;obtain⟨ws',R,rfl⟩:=l;have C:=vO h M;generalize hkeys:aQ (vs.flatMap V.cells)=keys at *;have hargs:(c.args.map a.eval)=(c.args.toList.map a.eval).toArray:=by cases c.args;simp
 have T:=wC h keys 0 N C fun k j z' U X=>by rw[<- hkeys];exact uq U X
 obtain⟨L,p,Y⟩:=Inv.BI keys h A;unfold Oper.wp;rw[nZ I J (hfid▸hcall),<- hfid,hargs];refine Calls.mono (hsound w L.S (c.args.toList.map a.eval) z y O (r.am.keep w h.below) (T.imp fun i d v Z=>Z.move fun bb oo g=>⟨(Y.s bb oo).2 g,rfl⟩) fun bb oo g=>(p.sok bb oo g).1) fun e w' he=>?_
 obtain⟨v,rfl,hbel,S2,us,rfl,hres,q⟩:=he;have h6:=p.grow hbel;have n:∀bb,w.heap.size<=bb->∀x,L.ow bb≠some x:=fun bb D x F=>by
  have:=(p.olt _ _ F).2;omega
 obtain⟨h7,m7⟩:=h6.acG (fun bb oo=>w.heap.size<=bb/\S2 bb oo) (fun bb oo hh=>⟨(q bb oo hh.2).2,fun i=>n bb hh.1 _,fun k j t xs deep m _ len cap _ H=>absurd H (n bb hh.1 _)⟩)
  (fun bb oo hh=>Nat.le_trans h.below.size hh.1) (fun bb oo hh k j t xs _=>n bb hh.1 _)
 obtain⟨G8,h8⟩:=h7.akk (B:=w.heap.size) (fun c x F=>(p.olt _ _ F).2) h.below.size hres (fun b o g=>(q b o g).1.imp id fun D=>⟨D,g⟩) (fun b o D g=>g.elim (fun g=>absurd (p.sok b o g).1 (by omega)) fun g=>g.2)
  (S0:=S) (fun d hd=>nC keys S d hd) R
 simp only[gq]at u;exact u _ _ _ h8
theorem ag4(h:Inv w0 G S a w){c:Call}{f:FuncId}(ho:o.op=.call c)(hc:c.callee=.value (.func f)){E:Env}(U:DT P E w0){ws:List W}(l:(amc E o c f).val S=some ws)
  (hK:∀a' w' G',Inv w0 G' (S.puts ws) a' w'->K a' w'):o.wp P a w K Q:=by
 unfold amc at l;split at l
 ·rename_i s x xs g hxs;have hfid:s.fid=f:=by have:=List.find?_some g;simpa using this
  obtain⟨hcall,hsound⟩:=U.2.2.2.1 s (List.mem_of_find?_eq_some g);simp only[Rd.aC,zB]at l;obtain⟨ap,h1,l⟩:=l;have hpr:=bH h h1;split at l
  case h_2=>cases l
  rename_i b;simp only[Rd.val]at l;split at l
  case h_2=>cases l
  rename_i cs hcs;simp only[Rd.aC,zB]at l;obtain⟨vs,h2,z,h3,l⟩:=l;simp only[Rd.val,zB]at l;obtain⟨y,h4,l⟩:=l;obtain⟨hob,X,E0,hh0,hcs0⟩:=h.box b cs hcs;have hptr:a.eval x=.pointer (some ⟨G.bk b,0,none⟩):=hpr.2;have Y:=vO h h2;have hvs':oZ G w (.agg cs::vs) (.agg X.toArray::xs.map a.eval):=⟨⟨X,rfl,hcs0⟩,Y⟩;have hargs:(c.args.map a.eval)=(Value.pointer (some ⟨G.bk b,0,none⟩)::xs.map a.eval).toArray:=by
   have:c.args.map a.eval=(c.args.toList.map a.eval).toArray:=by cases c.args;simp
   rw[this,hxs];simp[hptr]
  generalize hkeys:aQ ((V.agg cs::vs).flatMap V.cells)=keys at *;have main:∀(rs:List Sh) (y:Tup rs),(ah7 o s.ex E.trees s.sh b cs.length keys rs y).val S=some ws ->
    (∀(S1:Nat->Nat->Prop),(∀bb oo,(G.S bb oo\/AK G S keys bb oo)->S1 bb oo)->(∀bb oo,S1 bb oo->bb<w.heap.size/\bb≠G.bk b) ->
     Calls P f (c.args.map a.eval) w fun e w'=>∃v,e=.returned v/\tY (fun c=>c=G.bk b) w.heap.size w w'/\xq w w' (G.bk b)/\akh w.heap.size w' S1 (G.bk b) s.ex s.sh rs y v)->o.wp P a w K Q:=by
   intro rs y l hcalls;cases rs with
   | nil=>cases l
   | cons c0 rs=>
   rw[ah7]at l;split at l
   case isFalse=>cases l
   split at l
   case isFalse=>cases l
   split at l
   case isFalse=>cases l
   rename_i hca hct Z;simp only[Rd.aC,zB,Rd.val,zD]at l;obtain⟨ws',A,rfl⟩:=l;obtain⟨I,F,m5⟩:=Inv.BI keys h Z;have J:∀bb oo,I.S bb oo->bb<w.heap.size/\bb≠G.bk b:=fun bb oo g=>⟨(F.sok bb oo g).1,fun e=>(F.sok bb oo g).2 b (by rw[m5.ow,e];exact hob)⟩
   unfold Oper.wp;rw[nZ ho hc (hfid▸hcall)];refine Calls.mono (hcalls I.S (fun bb oo hh=>(m5.s bb oo).2 hh) J) fun e w' he=>?_
   obtain⟨v,rfl,hoff,hkl,S2,vs',Et',us,rfl,L,hcont,R,n⟩:=he;have M:I.bk b=G.bk b:=by rw[m5.bk]
   have hgb:(S.puts (keys.map fun q=>W.nomut q.1 q.2)).gW b=some cs:=by rw[sH];exact hcs
   obtain⟨hcl,N⟩:=hcont.get;have h6:Inv w0 I ((S.puts (keys.map fun q=>W.nomut q.1 q.2)).setB b (some (List.replicate vs'.length .undef))) a w':=by
    refine F.adP b hgb (by rw[M];exact hoff) (by rw[M];exact hkl) (by rw[M];exact L) (dR.mk (by simp) fun i c1 v1 r H=>?_);have:c1=.undef:=by
     have:=zG r;exact (List.mem_replicate.1 this).2
    subst this;have hl:i<(c0.t.cells (BG y)).length:=by
     have:=(zC.1 H).1;omega
    exact (N i _ v1 (zF hl) H).one
   have hw':=hoff.size;have p:∀bb,w.heap.size<=bb->∀x,I.ow bb≠some x:=fun bb T x O=>by
    have:=(F.olt _ _ O).2;omega
   obtain⟨h7,m7⟩:=h6.acG (fun bb oo=>w.heap.size<=bb/\S2 bb oo) (fun bb oo hh=>⟨(n bb oo hh.2).2,fun i=>p bb hh.1 _,fun k j t xs deep m _ len cap _ how=>absurd how (p bb hh.1 _)⟩)
    (fun bb oo hh=>Nat.le_trans h.below.size hh.1) (fun bb oo hh k j t xs _=>p bb hh.1 _)
   have hmv:∀ {dd:D} {u:Value},Rep w' S2 dd u->Rep w' (fun bb oo=>I.S bb oo\/(w.heap.size<=bb/\S2 bb oo)) dd u:=fun hr=>hr.move fun bb oo g=>⟨(n bb oo g).1.imp id fun T=>⟨T.2,g⟩,rfl⟩
   have hblt:b<(S.puts (keys.map fun q=>W.nomut q.1 q.2)).boxes.length:=by
    rcases Nat.lt_or_ge b (S.puts (keys.map fun q=>W.nomut q.1 q.2)).boxes.length with hl | hl
    ·exact hl
    ·have:=hgb;simp[St.gW,zE,zJ hl]at this
   have h8:=h7.aiJ b (cs':=(c0.t.cells (BG y)).map .d) (vs:=vs') (Et:=Et') (by
     rw[kF,if_pos ⟨rfl,hblt⟩]) (by show w'.heap[I.bk b]?=_;rw[M];exact L)
    (dR.mk (by simp[hcl]) fun i c1 v1 r H=>by
     rw[List.getElem?_map,Option.map_eq_some_iff]at r;obtain⟨d1,hd1,rfl⟩:=r;exact hmv (N i d1 v1 hd1 H))
   have eS:((S.puts (keys.map fun q=>W.nomut q.1 q.2)).setB b (some (List.replicate vs'.length C.undef))).setB b (some ((c0.t.cells (BG y)).map .d))=(S.puts (keys.map fun q=>W.nomut q.1 q.2)).setB b (some ((c0.t.cells (BG y)).map .d)):=by
    simp[St.setB]
   rw[eS]at h8;have hO:∀d,S.aH d=[]->((S.puts (keys.map fun q=>W.nomut q.1 q.2)).setB b (some ((c0.t.cells (BG y)).map .d))).aH d=[]:=fun d hd=>by rw[afp];exact nC keys S d hd
   simp only[gq]at hK;cases hex:s.ex with
   | false=>
    rw[hex]at R A;obtain⟨G8,h10⟩:=h8.akk (B:=w.heap.size) (fun c x O=>(F.olt _ _ O).2) h.below.size R (fun b o g=>(n b o g).1.imp id fun T=>⟨T.2,g⟩) (fun b o T g=>g.elim (fun g=>absurd (F.sok b o g).1 (by omega)) fun g=>g.2)
     (S0:=S) hO A
    exact hK _ _ _ h10
   | true=>
    rw[hex]at R A;obtain⟨G8,h10⟩:=h8.akl (B:=w.heap.size) (fun c x O=>(F.olt _ _ O).2) h.below.size (fun b o g=>g.elim (fun g=>(F.sok b o g).1) fun g=>((n b o g.2).1.elim (fun q=>(J b o q).1) fun q=>by rw[hex]at q;cases q.1)) R (S0:=S) hO A;exact hK _ _ _ h10
  refine main s.rs y l fun S1 J hlt=>?_
  have R:=wC h keys 0 h3 hvs' fun k j z' hz hm=>by
   rw[<- hkeys];exact uq hz hm
  rw[<- hfid,hargs];exact hsound w S1 (G.bk b) X E0 (xs.map a.eval) z y h4 (U.am.keep w h.below) (by rcases (h.olt _ _ hob).1 with hh | hh;exact Nat.le_trans U.am.base hh;exact U.am.rows _ hh.2) hh0 (R.imp fun i d v hr=>hr.move fun bb oo g=>⟨J bb oo g,rfl⟩) hlt
 ·split at l
  case h_2=>exact ag2 h ho hc U l hK
  rename_i s d g hd;have hfid:s.fid=f:=by have:=List.find?_some g;simpa using this
  obtain⟨hcall,hsound⟩:=U.2.2.2.2.1 s (List.mem_of_find?_eq_some g);simp only[Rd.aC,zB]at l;obtain⟨vs,h2,z,h3,l⟩:=l;simp only[Rd.val,zB]at l;obtain⟨y,h4,l⟩:=l;split at l
  case isFalse=>cases l
  rename_i Z;simp only[Rd.aC,zB,Rd.val,zD]at l;obtain⟨ws',A,rfl⟩:=l;unfold Ac at A;split at A
  case isTrue=>cases A
  rename_i hd0;simp only[Rd.val]at A;split at A
  case h_2=>cases A
  rename_i hgB;simp only[Rd.val,zD]at A;subst A;have Y:=vO h h2;generalize hkeys:aQ (vs.flatMap V.cells)=keys at *;have hargs:(c.args.map a.eval)=(c.args.toList.map a.eval).toArray:=by cases c.args;simp
  have R:=wC h keys 0 h3 Y fun k j z' hz hm=>by rw[<- hkeys];exact uq hz hm
  obtain⟨I,F,m5⟩:=Inv.BI keys h Z;unfold Oper.wp;rw[nZ ho hc (hfid▸hcall),<- hfid,hargs];refine Calls.mono (hsound w I.S (c.args.toList.map a.eval) z y h4 (U.am.keep w h.below) (R.imp fun i d v hr=>hr.move fun bb oo g=>⟨(m5.s bb oo).2 g,rfl⟩) fun bb oo g=>(F.sok bb oo g).1) fun e w' he=>?_
  obtain⟨bb,rfl,hbel,hbb,vs',Et',S2,L,hcont,n⟩:=he;have h6:=F.grow hbel;have p:∀bb,w.heap.size<=bb->∀x,I.ow bb≠some x:=fun bb T x O=>by
   have:=(F.olt _ _ O).2;omega
  obtain⟨h7,m7⟩:=h6.acG (fun bb oo=>w.heap.size<=bb/\S2 bb oo) (fun bb oo hh=>⟨(n bb oo hh.2).2.1,fun i=>p bb hh.1 _,fun k j t xs deep m _ len cap _ how=>absurd how (p bb hh.1 _)⟩)
   (fun bb oo hh=>Nat.le_trans h.below.size hh.1) (fun bb oo hh k j t xs _=>p bb hh.1 _)
  obtain⟨hcl,N⟩:=hcont.get;obtain⟨G8,h8⟩:=h7.Ac d bb hd0 (by rw[sH];exact hgB) (Nat.le_trans h.below.size hbb)
   (by
    show I.ow bb=none
    cases O:I.ow bb with
     | none=>rfl
     | some x=>exact absurd O (p bb hbb x))
   (fun oo g=>by
    rcases g with g | ⟨_,g⟩
    ·have:=(F.sok bb oo g).1;omega
    ·exact (n bb oo g).2.2 rfl) L (cs:=(dO s.rs y).map .d) (dR.mk (by simp[hcl]) fun i c1 v1 r H=>by
     rw[List.getElem?_map,Option.map_eq_some_iff]at r;obtain⟨d1,hd1,rfl⟩:=r;exact (N i d1 v1 hd1 H).move fun bb oo g=>⟨(n bb oo g).1.imp id fun T=>⟨T,g⟩,rfl⟩)
  rw[hd];simp only[gq]at hK;exact hK _ _ _ h8
theorem ajd(h:Inv w0 G S a w){c:Call}{f:FuncId}(H:o.op=.call c)(I:c.callee=.value (.func f)){E:Env}(r:DT P E w0){ws:List W}(g:(eff E o).val S=some ws)
  (A:∀a' w' G',Inv w0 G' (S.puts ws) a' w'->K a' w'):o.wp P a w K Q:=by
 unfold eff at g;rw[H]at g;simp only[I]at g;split at g
 ·split at g
  ·rename_i m x y J M;obtain⟨N,O⟩:=r.2.2.1 m (List.mem_of_find?_eq_some J);have hfid:m.fid=f:=by have:=List.find?_some J;simpa using this
   exact ajb h H I hfid (hfid▸N) r.am O M g A
  ·exact ag4 h H I r g A
 rename_i s l;have hfid:s.fid=f:=by have:=List.find?_some l;simpa using this
 obtain⟨hcall,hsound⟩:=r.2.1 s (List.mem_of_find?_eq_some l);simp only[Rd.aC,zB]at g;obtain⟨vs,N,x,O,g⟩:=g;simp only[Rd.val,zB]at g;obtain⟨y,h3,g⟩:=g;split at g
 case isFalse=>cases g
 rename_i T;have U:=vO h N;have hargs:(c.args.map a.eval)=(c.args.toList.map a.eval).toArray:=by
  cases c.args;simp
 have upon:∀ {R:Value->World->Prop},Calls P f (c.args.map a.eval) w (fun e w'=>∃v,e=.returned v/\R v w')->(∀v w',R v w'->K (a.put o.dst v) w')->o.wp P a w K Q:=by
  intro R hC hR;unfold Oper.wp;rw[nZ H I (hfid▸hcall)];refine Calls.mono hC fun e w' he=>?_
  obtain⟨v,rfl,C⟩:=he;exact hR v w' C
 have hcalls:∀(S':Nat->Nat->Prop),(∀b oo,(G.S b oo\/AK G S (aQ (vs.flatMap V.cells)) b oo)->S' b oo)->(∀b oo,S' b oo->b<w.heap.size) ->
   Calls P f (c.args.map a.eval) w (fun e w'=>∃v,e=.returned v/\(Below w.heap.size w w'/\ad1 w.heap.size w' S' s.ex s.rs y v)):=by
  intro S' p X;have:=wC h (aQ (vs.flatMap V.cells)) 0 O U fun k j z hz J=>uq hz J
  rw[<- hfid,hargs];exact hsound w S' _ x y h3 (r.am.keep w h.below) (this.imp fun i d v C=>C.move fun b oo l=>⟨p b oo l,rfl⟩) X
 have hAlt:∀b oo,AK G S (aQ (vs.flatMap V.cells)) b oo->b<w.heap.size:=by
  rintro b oo ⟨k,j,t,xs,deep,m,_,_,n,_⟩;exact (h.olt _ _ n).2
 cases hexs:s.ex with
 | true=>
  refine upon (hcalls (fun b oo=>G.S b oo\/AK G S (aQ (vs.flatMap V.cells)) b oo) (fun _ _ hh=>hh) (fun b oo hh=>hh.elim (fun l=>(h.sok b oo l).1) (hAlt b oo))) ?_;rintro v w' ⟨hbel,us,rfl,hres⟩;rw[hexs]at hres;have Y:(ahR o E.trees s.rs y).val S=some ws:=by
   rw[<- g];unfold ahR;simp only[hexs,Bool.true_and];cases o.dst with
   | none=>rfl
   | some d=>by_cases hany:(dO s.rs y).any isList=true<;>simp[hany]
  obtain⟨G8,Z⟩:=(h.grow hbel).akl (B:=w.heap.size) (fun c x hx=>(h.olt _ _ hx).2) h.below.size (fun b o l=>(h.sok b o l).1) hres (S0:=S) (fun _ hd=>hd) Y;exact A _ _ _ Z
 | false=>
  have hnk:nodupB (aQ (vs.flatMap V.cells))=true:=by simpa [hexs] using T
  obtain⟨D,L,m5⟩:=Inv.BI (aQ (vs.flatMap V.cells)) h hnk;refine upon (hcalls D.S (fun b oo hh=>(m5.s b oo).2 hh) (fun b oo hh=>(L.sok b oo hh).1)) ?_;rintro v w' ⟨hbel,us,rfl,hres⟩;rw[hexs]at hres;obtain⟨S',hT,p⟩:=hres;have h6:=L.grow hbel;obtain⟨h7,m7⟩:=h6.acG (fun b oo=>S' b oo/\w.heap.size<=b) (fun b oo hh=>by
   have F:∀x,D.ow b≠some x:=fun x hx=>by
    have:=(L.olt _ _ hx).2;omega
   exact⟨(p b oo hh.1).2,fun i=>F _,fun k j t xs deep m _ len cap _ n=>absurd n (F _)⟩) (fun b oo hh=>Nat.le_trans h.below.size hh.2) (fun b oo hh k j t xs _ n=>by
   have:=(L.olt _ _ n).2;have:=hh.2;omega)
  simp only[hexs,aD,if_false,Bool.false_and]at g;cases hdst:o.dst with
  | none=>
   rw[hdst]at g;simp only[Rd.val,zD]at g;subst g;exact A _ _ _ h7
  | some d=>
   rw[hdst]at g;simp only[Rd.val,zD]at g;subst g;have h8:=h7.jW d (av:=Bh (yG d false 0 s.rs y)) (uj (qE (R:=fun _ dd u=>Rep w' S' dd u) (fun i dd u C=>?_) hT))
   ·refine A _ _ _ (?_:Inv w0 { D with S:=fun b o=>D.S b o\/(S' b o/\w.heap.size<=b) } _ _ _);rw[gq];exact h8
   have q:Rep w' (fun b oo=>D.S b oo\/(S' b oo/\w.heap.size<=b)) dd u:=C.move fun b oo l=>⟨(p b oo l).1.imp id fun hb=>⟨l,hb⟩,rfl⟩
   cases dd with
   | list t xs=>exact q
   | int=>exact q
   | bool=>exact q
   | str=>exact q
theorem aji{S:St}{k j:Nat}{x:O}(h:bF (S.aH k) j=x)(b:x≠.dead):k<S.owns.length/\j<(S.aH k).length:=by
 have a:j<(S.aH k).length:=by
  rcases Nat.lt_or_ge j (S.aH k).length with q | q
  ·exact q
  ·simp only[bF,zE]at h;rw[zJ q]at h;exact absurd h.symm b
 refine⟨?_,a⟩;rcases Nat.lt_or_ge k S.owns.length with q | q
 ·exact q
 ·simp only[St.aH,zE]at a;rw[zJ q]at a;simp at a
theorem aiL{G':Gh}{w':World}{d:Nat}{ex:Bool}{i:Nat}{dd:D}{u:Value}{S':Nat->Nat->Prop}{fp:Nat->Prop}(c:nG dd=none)(e:Ow w' S' true dd u fp):qc G' w' (aeQ d ex i dd) u:=by
 cases e with
 | int k n=>exact Rep.int _ _
 | bool b=>exact Rep.bool _
 | str v=>exact Rep.str _
 | nil=>cases c
 | ro _ _ _ a=>cases a
 | list=>cases c
theorem ai9(h:Inv w0 G S a w){t:TypeId}{p:Operand}(ho:o.op=.load t p){E:Env}(hT:E.tt.ok P=true){agg:Bool}{n k j i sz off:Nat}{ty:Ty}{xs:List ty.den}{m:Nat}
  (hs:lk E.tt.shape t=some (agg,n)) (h1:(fF p).val S=some (.oelt k j i sz off)) (hown:bF (S.aH k) j=.part ty xs m) {ws:List W} (C:(VL o agg n k j i sz off ty xs m).val S=some ws)
  (hK:∀a' w' G',Inv w0 G' (S.puts ws) a' w'->K a' w'):o.wp P a w K Q:=by
 obtain⟨hlk,b,len,cap,F,hpv⟩:=bH h h1;unfold VL at C;split at C
 case h_2=>cases C
 rename_i d hd;split at C
 case isFalse=>cases C
 rename_i hcond;obtain⟨hagg,hoff,hn,hsz⟩:=hcond;subst hagg;subst hoff;simp only[Rd.val,zB,Rd.aC,zD]at C;obtain⟨x,N,ws',h6,rfl⟩:=C;obtain⟨T,rfl⟩:=iD h6;split at N
 case isFalse=>cases N
 rename_i him;subst him;have hO:=h.owns k j;rw[hown]at hO;rcases hO with ⟨he,_⟩ | ⟨b',cap',arr,e,vs,fps,U,hb,hcap,hmax,hasz,hfb,r,H,hf,hdis⟩
 ·rw[F]at he;cases he
 rw[F]at U;injection U with V e2 e3;injection V with V;injection V with V _ _;subst V;obtain⟨X,I⟩:=aji hown (by intro e;cases e);have J:k≠d:=fun e=>by rw[e,T]at I;simp at I
 obtain⟨td,ti,hu,hi,htsz,htd⟩:=TT.G7 hT hs;have y:(ty.cells x).length=ty.size:=Ty.bQ ty x;let vals:List Value:=(List.range ty.size).map fun q=>vs i q
 have z:vals.length=ty.size:=by simp[vals]
 have L:∀q,q<ty.size->vals[q]?=some (vs i q):=fun q s=>by simp[vals,s]
 have hrun:(execOp a.eval o).run P w=.ok (.value (.agg vals.toArray)) w:=by
  have hcell:∀q v,vals[q]?=some v->w.cell? ⟨b,i*sz+0+q,none⟩=some v:=fun q v s=>by
   have l:q<ty.size:=by rw[<- z];exact (zC.1 s).1
   rw[L q l]at s;cases s
   obtain⟨dd,hdd⟩:∃dd,(ty.cells x)[q]?=some dd:=⟨_,zF (by rw[y];exact l)⟩;rw[cell_of_row w _ _ _ _ _ hb,Nat.add_zero,<- hsz];exact r i x q dd N hdd
  have:=sD (P:=P) (w:=w) t b (i*sz+0) td ti hu hi htd vals (by rw[z];omega) hcell;unfold execOp;simp only[ho,hpv,Instr.loadAt,Instr.sureAddr,Sem.run_bind,Sem.run_pure,Result.andThen_ok,this]
 have hcells:bI (fun q dd u=>Ow w (fun _ _=>False) true dd u (fps i q)/\vals[q]?=some u) 0 (ty.cells x) vals:=by
  have key:∀(ds:List D) (us:List Value) (q:Nat),ds.length=us.length->(∀p dd u,ds[p]?=some dd->us[p]?=some u->Ow w (fun _ _=>False) true dd u (fps i (q+p))/\vals[q+p]?=some u)->bI (fun q dd u=>Ow w (fun _ _=>False) true dd u (fps i q)/\vals[q]?=some u) q ds us:=by
   intro ds;induction ds with
   | nil=>intro us q hl _;cases us with
    | nil=>trivial
    | cons _ _=>simp at hl
   | cons dd ds ih=>intro us q hl hg;cases us with
    | nil=>simp at hl
    | cons u us=>exact⟨hg 0 dd u rfl rfl,ih us (q+1) (by simpa using hl) fun p dd' u' h1 B=>by
      have:=hg (p+1) dd' u' (by simpa using h1) (by simpa using B);rwa [show q+(p+1)=q+1+p by omega]at this⟩
  refine key _ _ 0 (by rw[y,z]) fun q dd u B h3=>?_
  have l:q<ty.size:=by rw[<- z];exact (zC.1 h3).1
  rw[Nat.zero_add];refine⟨?_,h3⟩;rw[L q l]at h3;cases h3
  exact H i x q dd (ar _) N B
 have hpart:zk G w k j (.part ty xs (i+1)):=jr.succ (by have:=h.owns k j;rw[hown]at this;exact this);refine aT hrun ?_;by_cases A:d<S.tmps.length
 case neg=>
  refine hK _ _ G ?_
  have B:=h.GI k j _ hpart
  rw[hd]
  show Inv w0 G (((S.dI k ((S.aH k).set j (.part ty xs (i+1)))).dI d _).jW d _) _ _
  rw[Iu h.tsz A,BN (by show ¬d<(S.dI k _).owns.length;rw[B.osz];exact A),BM (S:=S.dI k _) A]
  exact B
 classical
 have B:=h.GI k j .dead trivial;have Y:(S.dI k ((S.aH k).set j .dead)).aH d=[]:=by
  rw[bY,if_neg (fun e=>J e.1)];exact T
 have hdead:bF ((S.dI k ((S.aH k).set j .dead)).aH k) j=.dead:=by
  rw[bY,if_pos ⟨rfl,X⟩,iV,if_pos ⟨rfl,I⟩]
 have hne:IC true (ty.cells x)≠[]:=by
  intro e;have:ty.cells x=[]:=by simp only[IC,List.map_eq_nil_iff]at e;exact e
  have hp:=ty.size_pos;rw[<- y,this]at hp;simp at hp
 have hlabd:∀c q,fps i q c->(if hh:∃q,fps i q c then some hh.choose else none)=some q:=fun c q r=>by
  have hh:∃q,fps i q c:=⟨q,r⟩;rw[dif_pos hh];exact congrArg some (hdis _ _ _ _ _ (ar _) (ar _) hh.choose_spec r).2
 obtain⟨M,h7,m7,l7,o7,_,s7,w7⟩:=B.yN d (IC true (ty.cells x)) (fun q=>vals.getD q undef) (fun c=>if hh:∃q,fps i q c then some hh.choose else none) Y A hne
  (fun c q r=>by
   split at r
   ·rename_i hh;obtain⟨Z,f2,f3⟩:=hf _ _ _ (ar _) hh.choose_spec;have hlt:=h.oh Z;refine⟨hlt.1,hlt.2,fun i' f=>?_,fun k' j' _ _ _ _ f=>?_⟩
    ·rw[show G.ow c=_ from Z]at f;cases f
    ·rw[show G.ow c=_ from Z]at f;cases f
     rw[hdead];simp[O.iO]
   ·cases r)
  (fun q=>by
   rw[YZ];cases s:(ty.cells x)[q]? with
   | none=>trivial
   | some dd=>
    cases dd with
    | int=>trivial
    | bool=>trivial
    | str=>trivial
    | list t' xs'=>
     have l:q<ty.size:=by rw[<- y];exact (zC.1 s).1
     have e:vals.getD q undef=vs i q:=by simp only[zE,L q l,Option.getD_some]
     refine⟨fps i q,fun c r=>hlabd c q r,?_,fun b' oo hs' f=>(hf _ _ _ (ar _) f).2.2 oo hs'⟩;rw[e];exact H i x q _ (ar _) N s)
 have hg2:((S.dI k ((S.aH k).set j .dead)).dI d (IC true (ty.cells x))).aH k=(S.aH k).set j .dead:=by
  rw[bY,if_neg (fun e=>J e.1.symm),bY,if_pos ⟨rfl,X⟩]
 have hpart2:zk M w k j (.part ty xs (i+1)):=by
  show jr w M.S ty xs (i+1) (M.ov k j) (iE M k j)
  rw[(m7.k k hlk).2 j,F,s7];have hkeep:∀c,G.ow c=some (.own k j)->(¬ ∃q,fps i q c)->M.ow c=some (.own k j):=fun c r hn=>by
   rw[w7,dif_neg hn];exact r
  refine .inr ⟨b,cap,arr,e,vs,fps,by rw[e2,e3],hb,by omega,by omega,by rw[e3];exact hasz,hkeep b hfb (fun⟨q,s⟩=>(hf _ _ _ (ar _) s).2.1 rfl),r,fun i' x' q dd hi'=>H i' x' q dd (by omega),fun i' q c hi' hcc=>?_,fun i1 q1 i2 q2 c hi1 hi2=>hdis i1 q1 i2 q2 c (by omega) (by omega)⟩;obtain⟨Z,f2,f3⟩:=hf _ _ _ (by omega) hcc;refine⟨hkeep c Z ?_,f2,f3⟩;rintro⟨q',hq'⟩;have:=(hdis _ _ _ _ _ (ar _) (by omega) hq' hcc).1;omega
 have h8:=h7.GI k j _ hpart2;rw[hg2]at h8;have hst:((S.dI k ((S.aH k).set j .dead)).dI d (IC true (ty.cells x))).dI k (((S.aH k).set j .dead).set j (.part ty xs (i+1)))=(S.dI k ((S.aH k).set j (.part ty xs (i+1)))).dI d (IC true (ty.cells x)):=by
  simp only[St.dI,List.set_set];rw[List.set_comm _ _ (Ne.symm J),List.set_set]
 rw[hst]at h8;have h9:=h8.jW d (av:=.v (.agg (MH d true 0 (ty.cells x)))) (v:=.agg vals.toArray) ⟨vals,rfl,Ef (R:=fun q dd u=>Ow w (fun _ _=>False) true dd u (fps i q)/\vals[q]?=some u) (fun q dd u hw=>by
  cases g:nG dd with
  | none=>exact aiL g hw.1
  | some t'=>
   cases dd with
   | int=>cases g
   | bool=>cases g
   | str=>cases g
   | list t' xs'=>
    refine⟨l7,?_,hw.1.one⟩;rw[o7];simp[hw.2]) hcells⟩
 refine hK _ _ M ?_;rw[hd];exact h9
theorem afv(h:Inv w0 G S a w){E:Env}(B:DT P E w0){ws:List W}(d:(eff E o).val S=some ws)
  (u:∀a' w' G',Inv w0 G' (S.puts ws) a' w'->K a' w'):o.wp P a w K Q:=by
 have z:=B.1;cases q:o.op with
 | move x=>exact adl h (.inl q) d u
 | assign x=>exact adl h (.inr q) d u
 | pick c x y=>exact aja h q d u
 | alloc e=>exact ag8 h q z d u
 | box e x=>exact aje h q d u
 | build t ps=>exact ag5 h q z d u
 | buildSlice t n ps=>exact Tz h q z d u
 | load t p=>exact ajc h q z d (fun agg n k j i sz off ty xs m C D F H=>ai9 h q z C D F H u) u
 | store t p x=>exact agY h q z d u
 | nilCheck x=>exact Y2 h q d u
 | convert t0 t x=>exact abT h q z d u
 | binOp bo t x y t'=>exact ag7 h q z d u
 | unOp uo t x=>exact ai8 h q d u
 | makeSlice t l c=>exact WR h q z d u
 | slice t x lo hi mx=>exact agZ h q z d u
 | fieldAddr s p f=>exact WT h q z d u
 | field t x f=>exact ag1 h q z d u
 | indexAddr t x i=>exact WS h q z d u
 | index t x i=>exact ag0 h q z d u
 | extract x i=>exact abS h q d u
 | call c=>
  cases A:c.callee with
  | builtin b=>
   cases b<;>first
    | exact alU h q A z d u
    | exact ae2 h q A z d u
    | exact UJ h q (.inl A) d u
    | exact UJ h q (.inr A) d u
    | (unfold eff at d;rw[q]at d;simp only[A]at d;cases d)
  | value x=>
   cases x with
   | func f=>exact ajd h q A B d u
   | tmp t=>unfold eff at d;rw[q]at d;simp only[A]at d;cases d
   | const v=>unfold eff at d;rw[q]at d;simp only[A]at d;cases d
   | global g=>unfold eff at d;rw[q]at d;simp only[A]at d;cases d
  | invoke r m=>unfold eff at d;rw[q]at d;simp only[A]at d;cases d
 | _=>unfold eff at d;rw[q]at d;cases d
end ops
end Go.Abs
