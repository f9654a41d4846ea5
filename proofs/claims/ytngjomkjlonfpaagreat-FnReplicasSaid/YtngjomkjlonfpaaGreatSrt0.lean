import Derived.Test.YtngjomkjlonfpaaGreatSort2
import Derived.Test.YtngjomkjlonfpaaGreatLink1
import Derived.Test.YtngjomkjlonfpaaGreatS3
set_option linter.unusedSimpArgs false
set_option linter.unusedVariables false
/- A sort in place by the library's stable sort, at lists of data: what the evaluator asks of it. -/
namespace Go.Abs
open Go.RowKit Go.Sort Go.Proofs
def aiv(P:Program)(g:Nat)(t:Ty)(link:t.den->List Value->Prop)(ltX:t.den->t.den->Bool):Prop:=
 ∀(W:World) (bb blk n cap i j:Nat) (xi xj:t.den) (ci cj:List Value),i<n->j<n->n<1152921504606846976->W.cell? ⟨bb,0,none⟩=some (.slice (some ⟨blk,0,none⟩) n cap) ->
  (∀q,q<t.size->W.cell? ⟨blk,i*t.size+q,none⟩=some ci[q]!)->(∀q,q<t.size->W.cell? ⟨blk,j*t.size+q,none⟩=some cj[q]!) ->
  ci.length=t.size->cj.length=t.size->(∀v,v∈ci->v.oneCell'=true)->(∀v,v∈cj->v.oneCell'=true)->link xi ci->link xj cj ->
  Calls P g #[.int .i64 i,.int .i64 j,.pointer (some ⟨bb,0,none⟩)] W fun e w'=>e=.returned (.bool (ltX xi xj))/\∃m os,w'=grow (Sort.ahead W m) os
def aat(P:Program)(fid g:Nat)(T:TypeId)(k:Nat):Prop:=
 ∀(α:Type) [Inhabited α] (enc:α->List Value) (lt:α->α->Bool) (lb:Array Value) (blk off c:Nat) (d:Array α) (w:World),(∀x,(enc x).length=k)->(∀x,∀v∈enc x,v.oneCell'=true)->SWO lt ->
  2<=d.size->d.size<1152921504606846976->gV P g lb enc k lt blk off d.size w->HoldsK enc k w blk off d->blk<w.heap.size ->
  Calls P fid #[.iface T (.slice (some ⟨blk,off,none⟩) d.size c),.func (.func g) #[] lb] w fun e w'=>e=.returned (.tuple #[])/\∃d',PermIn 0 d.size d d'/\SortedIn lt 0 d.size d'/\SWK enc k w blk off d' w'
def air(P:Program)(fid g:Nat)(T:TypeId):Prop:=
 ∀(p:Option Addr) (n c:Nat) (lb:Array Value) (w:World),n<=1->Calls P fid #[.iface T (.slice p n c),.func (.func g) #[] lb] w fun e w'=>e=.returned (.tuple #[])/\∃os,w'=grow w os
theorem EC{w:World}{os:Array Obj}{c:Nat}(h:c<w.heap.size):(grow w os).heap[c]?=w.heap[c]?:=by
 show (w.heap++os)[c]?=_
 rw[Array.getElem?_append_left h]
theorem Xw{α:Type}[Inhabited α](enc:α->List Value)(k:Nat)(w:World)(blk off:Nat)(d:Array α)(c:Nat)(h:c≠blk):(putRowK enc k w blk off d).heap[c]?=w.heap[c]?:=by
 show (w.heap.modify blk _)[c]?=_
 rw[Array.getElem?_modify,if_neg (Ne.symm h)]
theorem NS{α:Type}[Inhabited α](enc:α->List Value)(k:Nat)(w:World)(blk off:Nat)(d:Array α){arr:Array Value}{E:TypeId}{fr:Nat×Nat}(h:w.heap[blk]?=some (.cells arr E fr)) :
  (putRowK enc k w blk off d).heap[blk]?=some (.cells (putCells id off (flatK enc k d) arr) E fr):=by
 show (w.heap.modify blk _)[blk]?=_
 rw[Array.getElem?_modify,if_pos rfl,h];rfl
theorem YV{α:Type}{xs ys:List α}(h:ys.Perm xs)(a:xs.length<=1):ys=xs:=by
 cases xs with
 | nil=>exact List.perm_nil.1 h
 | cons x r=>
  cases r with
  | nil=>exact List.perm_singleton.1 h
  | cons y r=>simp at a
abbrev acI(t:Ty)(link:t.den->List Value->Prop):={ p:Nat×t.den×List Value // p.2.2.length=t.size/\(∀v,v∈p.2.2->v.oneCell'=true)/\link p.2.1 p.2.2 }
theorem acD{α:Type}[Inhabited α](d:Array α)(i:Nat)(h:i<d.size):d[i]!∈d.toList:=by
 rw[getElem!_pos d i h];exact Array.getElem_mem_toList h
theorem extract_all{α:Type}(d:Array α):(d.extract 0 d.size).toList=d.toList:=by simp
set_option maxHeartbeats 1000000 in
theorem aee{P:Program}(s:Srt)(link:s.t.den->List Value->Prop)(ltX:s.t.den->s.t.den->Bool)(W:SWO ltX)(hfn:s.fn=fun xs=>(gd xs.length).bind fun _=>LG ltX xs)
  (hlink:∀(w:World) (S:Nat->Nat->Prop) (deep:Bool) (x:s.t.den) (cs:List Value) (fps:Nat->Nat->Prop),cs.length=s.t.size->(∀(j:Nat) (d:D) (v:Value),(s.t.cells x)[j]?=some d->cs[j]?=some v->Ow w S deep d v (fps j))->link x cs)
  (hless:aiv P s.g s.t link ltX) (hst:aat P s.fid s.g s.T s.t.size) (htiny:air P s.fid s.g s.T):vZ P s:=by
 intro w S deep bb E u xs ys fp A _ hO hfpl hSl J hnbb;rw[hfn]at A;have A:((gd xs.length).bind fun _=>LG ltX xs)=some ys:=A;obtain⟨u0,hgd,A⟩:=zB.1 A;have hgl:=tK hgd;obtain⟨hp,X⟩:=aaC A;by_cases hn:xs.length<=1
 ·have K:=YV hp hn;subst K;have key:∀(p:Option Addr) (n c:Nat),u=.slice p n c->n<=1->Calls P s.fid #[.iface s.T u,.func (.func s.g) #[] #[.pointer (some ⟨bb,0,none⟩)]] w fun e w'=>e=.returned (.tuple #[])/\Off (fun c=>fp c/\∀o,¬S c o) w w'/\OwT w' S deep true s.t ys u fp:=by
   rintro p n c rfl hn1;refine (htiny p n c _ w hn1).mono ?_;rintro e w' ⟨rfl,os,rfl⟩;refine⟨rfl,⟨rfl,rfl,rfl,by rw[size_grow];omega,fun c L _=>EC L⟩,OwT.move hO (fun b o hs=>⟨hs,cell?_grow _ _ _ (hSl b o hs)⟩) (fun b U=>⟨U,EC (hfpl b U)⟩) (fun _ _ _ _ _ o B=>.inl B)⟩
  rcases hO with ⟨rfl,rfl⟩ | ⟨b,cap,arr,E',vs,fps,rfl,-⟩
  ·exact key _ _ _ rfl (Nat.zero_le _)
  ·exact key _ _ _ rfl hn
 rcases hO with ⟨rfl,rfl⟩ | ⟨b,cap,arr,E',vs,fps,rfl,U,hcap,hmax,hsz,H,L,hr,hf,hdis,hs0⟩
 ·exact absurd (Nat.zero_le 1) hn
 have M:∀o,¬S b o:=fun o B=>by cases (hs0 o B).1
 have hblt:b<w.heap.size:=hfpl b H;have I:∀x:s.t.den,(s.t.cells x).length=s.t.size:=fun x=>Ty.bQ s.t x
 have hdat:∀i j (hi:i<xs.length) (f:j<s.t.size),∃d,(s.t.cells xs[i])[j]?=some d:=fun i j hi f=>⟨_,zF (by rw[I];exact f)⟩
 have Y:∀i j,i<xs.length->j<s.t.size->arr[i*s.t.size+j]?=some (vs i j):=fun i j hi f=>by
  obtain⟨d,l⟩:=hdat i j hi f;exact L i _ j d (zF hi) l
 have hOw:∀i j (hi:i<xs.length) d,(s.t.cells xs[i])[j]?=some d->Ow w S deep d (vs i j) (fps i j):=fun i j hi d l=>hr i _ j d (zF hi) l
 let row:Nat->List Value:=fun i=>(List.range s.t.size).map (vs i)
 have hrowl:∀i,(row i).length=s.t.size:=fun i=>by simp[row]
 have hrowg:∀i j,j<s.t.size->(row i)[j]?=some (vs i j):=fun i j f=>by simp[row,f]
 have hrow1:∀i,i<xs.length->∀v,v∈row i->v.oneCell'=true:=fun i hi v V=>by
  obtain⟨j,f,rfl⟩:=List.mem_map.1 V;obtain⟨d,l⟩:=hdat i j hi (List.mem_range.1 f);exact (hOw i j hi d l).one
 have hrowk:∀i (hi:i<xs.length),link xs[i] (row i):=fun i hi=>hlink w S deep _ _ (fps i) (hrowl i) fun j d v l V=>by
  have f:j<s.t.size:=by have:=(zC.1 l).1;rwa [I]at this
  rw[hrowg i j f]at V;cases V;exact hOw i j hi d l
 let mk:Fin xs.length->acI s.t link:=fun i=>⟨(i.1,xs[i.1],row i.1),hrowl _,hrow1 _ i.2,hrowk _ i.2⟩
 let d:Array (acI s.t link):=Array.ofFn mk;haveI:Inhabited (acI s.t link):=⟨mk ⟨0,by omega⟩⟩;have C:d.size=xs.length:=by simp[d]
 have hdg:∀i (hi:i<xs.length),d[i]! = mk ⟨i,hi⟩:=fun i hi=>by
  rw[getElem!_pos d i (by rw[C];exact hi)];simp[d]
 let enc:acI s.t link->List Value:=fun p=>p.1.2.2
 let lt:acI s.t link->acI s.t link->Bool:=fun p q=>ltX p.1.2.1 q.1.2.1
 have hk:∀x,(enc x).length=s.t.size:=fun x=>x.2.1
 have N:∀x,∀v∈enc x,v.oneCell'=true:=fun x=>x.2.2.1
 have hSr:SWO lt:=⟨fun x=>W.irrefl _,fun x y z=>W.trans _ _ _,fun x y z=>W.ntrans _ _ _⟩;have hfr:∀o,w.frozen? ⟨b,o,none⟩=false:=fun o=>by
  unfold World.frozen?;simp only[U];simp
 have hH:HoldsK enc s.t.size w b 0 d:=by
  intro t Z;rw[size_flatK,C]at Z;refine⟨?_,hfr _⟩;have k0:0<s.t.size:=by
   rcases Nat.eq_zero_or_pos s.t.size with h | h
   ·rw[h]at Z;simp at Z
   ·exact h
  have q1:t / s.t.size<xs.length:=Nat.div_lt_of_lt_mul (by rw[Nat.mul_comm];exact Z);have q2:t % s.t.size<s.t.size:=Nat.mod_lt _ k0;rw[get_flatK enc _ d t (by rw[C];exact Z),hdg _ q1];have e:w.cell? ⟨b,0+t,none⟩=arr[t]?:=by simp[World.cell?,U]
  have O:=Y _ _ q1 q2;rw[Nat.div_add_mod' t s.t.size]at O;rw[e,O];have e3:=hrowg (t / s.t.size) _ q2;show _=some (id (row (t / s.t.size))[t % s.t.size]!)
  rw[getElem!_def,e3];rfl
 have hbc:∀o,w.cell? ⟨bb,o,none⟩=(#[Value.slice (some ⟨b,0,none⟩) xs.length cap])[o]?:=fun o=>by simp[World.cell?,J]
 have hbbs:bb<w.heap.size:=by
  rcases Nat.lt_or_ge bb w.heap.size with h | h
  ·exact h
  ·rw[Array.getElem?_eq_none h]at J;cases J
 have hmx:xs.length<1152921504606846976:=by omega
 have hbne:bb≠b:=fun h=>hnbb (h▸H)
 have hlays:gV P s.g #[.pointer (some ⟨bb,0,none⟩)] enc s.t.size lt b 0 d.size w:=by
  intro m os dk hdk i j hi f;have hW:SWK enc s.t.size w b 0 dk (sortWorldK enc s.t.size w b 0 m dk os):=⟨m,os,rfl⟩;have hHk:=hW.holds hblt hH hdk;have hc0:(sortWorldK enc s.t.size w b 0 m dk os).cell? ⟨bb,0,none⟩=some (.slice (some ⟨b,0,none⟩) xs.length cap):=by
   rw[hW.cellAt hbne hbbs,hbc];rfl
  have hcell:∀i,i<dk.size->∀q,q<s.t.size->(sortWorldK enc s.t.size w b 0 m dk os).cell? ⟨b,i*s.t.size+q,none⟩=some (enc dk[i]!)[q]!:=fun i hi q hq=>by
   have:=(hHk.cell hi hq).1;rwa [Nat.zero_add]at this
  refine (hless _ bb b xs.length cap i j dk[i]!.1.2.1 dk[j]!.1.2.1 (enc dk[i]!) (enc dk[j]!) (by omega) (by omega) hmx hc0 (hcell i (by omega)) (hcell j (by omega)) (hk _) (hk _) (N _) (N _) dk[i]!.2.2.2 dk[j]!.2.2.2).mono ?_;rintro e w' ⟨rfl,m',os',rfl⟩;refine⟨rfl,m',os',?_⟩;show _=grow (putRowK enc s.t.size (Sort.ahead _ m') b 0 dk) os'
  rw[putRowK_self _ _ _ _ _ _ (holdsK_ahead enc _ _ m' b 0 dk hHk)]
 have hgo:=hst _ enc lt #[.pointer (some ⟨bb,0,none⟩)] b 0 cap d w hk N hSr (by omega) (by omega) hlays hH hblt;rw[C]at hgo;refine hgo.mono ?_;rintro e w' ⟨rfl,d',Q,hsd,m,os,rfl⟩;refine⟨rfl,?_⟩;have r:d'.size=xs.length:=Q.1.trans C;have F:d'.toList.Perm d.toList:=by
  have:=Q.2.2;rw[<- r]at this;rw[extract_all]at this;rw[Q.1,extract_all]at this;exact this
 have hdl:d.toList.map (fun p=>p.1.2.1)=xs:=by
  apply List.ext_getElem
  ·simp[d]
  ·intro i N h2;simp[d,mk]
 have hdi:d.toList.map (fun p=>p.1.1)=List.range xs.length:=by
  apply List.ext_getElem
  ·simp[d]
  ·intro i N h2;simp[d,mk]
 have hpx:(d'.toList.map (fun p=>p.1.2.1)).Perm xs:=by rw[<- hdl];exact F.map _
 have G:∀i (hi:i<d'.toList.length),d'.toList[i]=d'[i]!:=fun i hi=>by
  rw[getElem!_pos d' i (by simpa using hi)];simp
 have hsx:(d'.toList.map (fun p=>p.1.2.1)).Pairwise (fun a b=>ltX a b=true):=by
  have N:(d'.toList.map (fun p=>p.1.2.1)).Pairwise (fun a b=>ltX a b=true\/ltX b a=true):=by
   refine ((hp.trans hpx.symm).pairwise_iff (R:=fun a b=>ltX a b=true\/ltX b a=true) (fun h=>h.symm)).1 (X.imp fun h=>.inl h)
  have h2:(d'.toList.map (fun p=>p.1.2.1)).Pairwise (fun a b=>ltX b a=false):=by
   rw[List.pairwise_map,List.pairwise_iff_getElem];intro i j hi f hij;rw[G i hi,G j f];exact hsd i j (Nat.zero_le _) hij (by rw[<- r];simpa using f)
  refine (N.and h2).imp ?_;rintro a b ⟨h | h,h'⟩
  ·exact h
  ·rw[h]at h';cases h'
 have anti:∀a b,ltX a b=true->ltX b a=true->False:=fun a b h h'=>by
  have:=W.trans _ _ _ h h';rw[W.irrefl]at this;cases this
 have K:d'.toList.map (fun p=>p.1.2.1)=ys:=xw anti (hpx.trans hp.symm) hsx X;have hyl:ys.length=xs.length:=hp.length_eq;have hmem:∀i,i<xs.length->∃hi:d'[i]!.1.1<xs.length,d'[i]! = mk ⟨d'[i]!.1.1,hi⟩:=fun i hi=>by
  have hm:=F.mem_iff.1 (acD d' i (by omega));obtain⟨q,hq,e⟩:=List.getElem_of_mem hm;have hq':q<xs.length:=by simpa [d] using hq
  have e':d'[i]! = mk ⟨q,hq'⟩:=by rw[<- e];simp[d]
  have O:d'[i]!.1.1=q:=by rw[e']
  have key:∀p:acI s.t link,p=mk ⟨q,hq'⟩->∀h:p.1.1<xs.length,p=mk ⟨p.1.1,h⟩:=by
   rintro p rfl h;rfl
  exact⟨by omega,key _ e' _⟩
 have hinj:∀i j,i<xs.length->j<xs.length->d'[i]!.1.1=d'[j]!.1.1->i=j:=by
  have hnd:(d'.toList.map (fun p=>p.1.1)).Nodup:=by
   refine ((F.map _).nodup_iff).2 ?_;rw[hdi];exact List.nodup_range
  intro i j hi f e;have l1:i<(d'.toList.map (fun p=>p.1.1)).length:=by simp;omega
  have l2:j<(d'.toList.map (fun p=>p.1.1)).length:=by simp;omega
  refine (List.getElem_inj (h₀:=l1) (h₁:=l2) hnd).1 ?_;rw[List.getElem_map,List.getElem_map,G,G,e]
 have hya:∀i (hi:i<ys.length),ys[i]=d'[i]!.1.2.1:=fun i hi=>by
  have:=K.symm;subst this;rw[List.getElem_map,G]
 have hcells:∀c,c<w.heap.size->c≠b->(sortWorldK enc s.t.size w b 0 m d' os).heap[c]?=w.heap[c]?:=fun c L hcb=>by
  unfold sortWorldK;rw[EC (by show c<(w.heap.modify b _).size;rw[Array.size_modify];exact L),Xw _ _ _ _ _ _ _ hcb];rfl
 have hrowAt:(sortWorldK enc s.t.size w b 0 m d' os).heap[b]?=some (.cells (putCells id 0 (flatK enc s.t.size d') arr) E' (0,0)):=by
  unfold sortWorldK;rw[EC (by show b<(w.heap.modify b _).size;rw[Array.size_modify];exact hblt)];exact NS enc _ _ b 0 d' (show (Sort.ahead w m).heap[b]?=_ from U)
 have hcellS:∀b' o,S b' o->(sortWorldK enc s.t.size w b 0 m d' os).cell? ⟨b',o,none⟩=w.cell? ⟨b',o,none⟩:=fun b' o B=>by
  have hne:b'≠b:=fun e=>M o (e▸B)
  unfold World.cell?;rw[hcells b' (hSl b' o B) hne]
 refine⟨⟨rfl,rfl,rfl,?_,fun c L hnf=>hcells c L fun e=>hnf (e▸⟨H,M⟩)⟩,.inr ⟨b,cap,putCells id 0 (flatK enc s.t.size d') arr,E',fun i j=>(enc d'[i]!)[j]!,fun i j c=>i<xs.length/\fps d'[i]!.1.1 j c,by rw[hyl],hrowAt,by omega,hmax,by rw[<- hsz];simp[putCells],H,?_,?_,?_,?_,?_⟩⟩
 ·unfold sortWorldK;rw[size_grow];show w.heap.size<=(w.heap.modify b _).size+_;rw[Array.size_modify];omega
 ·intro i x j dd hx l;have hi:i<xs.length:=by have:=(zC.1 hx).1;omega
  have f:j<s.t.size:=by have:=(zC.1 l).1;rwa [I]at this
  have hlt:i*s.t.size+j<xs.length*s.t.size:=by
   have:(i+1)*s.t.size<=xs.length*s.t.size:=Nat.mul_le_mul_right _ hi;rw[Nat.add_mul,Nat.one_mul]at this;omega
  have ha:=Y i j hi f;simp only[putCells,Array.getElem?_mapIdx,ha,Option.map_some,size_flatK,r];rw[if_pos ⟨Nat.zero_le _,by omega⟩,Nat.sub_zero,get_flatK _ _ _ _ (by rw[r];exact hlt)];have k0:0<s.t.size:=by omega
  have e1:(i*s.t.size+j) / s.t.size=i:=by rw[Nat.mul_comm,Nat.mul_add_div k0,Nat.div_eq_of_lt f];rfl
  have O:(i*s.t.size+j) % s.t.size=j:=by rw[Nat.mul_comm,Nat.mul_add_mod,Nat.mod_eq_of_lt f]
  rw[e1,O];rfl
 ·intro i x j dd hx l;have hi:i<xs.length:=by have:=(zC.1 hx).1;omega
  have f:j<s.t.size:=by have:=(zC.1 l).1;rwa [I]at this
  obtain⟨q,e⟩:=hmem i hi;have hx':x=xs[d'[i]!.1.1]:=by
   rw[zF (by omega)]at hx;cases hx
   rw[hya i (by omega)];have:=congrArg (fun p=>p.1.2.1) e;exact this
  have V:(enc d'[i]!)[j]! = vs d'[i]!.1.1 j:=by
   have:=congrArg (fun p=>p.1.2.2) e;have e3:=hrowg d'[i]!.1.1 j f;have e4:enc d'[i]! = row d'[i]!.1.1:=this;rw[e4,getElem!_def,e3]
  show Ow _ S deep dd ((enc d'[i]!)[j]!) (fun c=>i<xs.length/\fps d'[i]!.1.1 j c)
  rw[V];rw[hx']at l;refine ((hOw _ j q dd l).move (fun b' o B=>⟨B,hcellS b' o B⟩) (fun c k=>?_)).sub (fun c k=>⟨hi,k⟩) id;have:=hf _ _ _ k;exact hcells c (hfpl c this.1) this.2
 ·rintro i j c ⟨hi,k⟩;exact hf _ _ _ k
 ·rintro i j i' j' c ⟨hi,k⟩ ⟨hi',hcc'⟩;obtain⟨e1,O⟩:=hdis _ _ _ _ _ k hcc';exact⟨hinj i i' hi hi' e1,O⟩
 ·intro o B;exact absurd B (M o)
end Go.Abs
