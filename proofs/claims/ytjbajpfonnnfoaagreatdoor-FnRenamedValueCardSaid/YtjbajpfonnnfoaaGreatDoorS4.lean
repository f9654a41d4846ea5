import Derived.Test.YtjbajpfonnnfoaaGreatDoorS3
set_option linter.unusedSimpArgs false
set_option linter.unusedVariables false
/- Regions, loops, code, functions. -/
namespace Go.Abs
open Go.RowKit
theorem Rt{S:St}{t:Nat}{v:AV}(h:S.je t=v)(a:v≠.undef):S.jh t v=S:=by
 cases S with
 | mk tmps boxes owns=>
  simp only[St.jh,St.je]at *;congr 1;by_cases b:t<tmps.length
  ·rw[zE,zF b]at h;simp only[Option.getD_some]at h;rw[<- h,List.set_getElem_self]
  ·rw[List.set_eq_of_length_le (by omega)]
theorem SA{ρ:Type}{t:Nat}{S:St}{k:St->Option ρ}{r:ρ}(h:fork t S k=some r):k S=some r:=by
 unfold fork at h;split at h
 ·rename_i b a;cases b with
  | true=>rw[<- Rt a (by simp)];exact h
  | false=>rw[<- Rt a (by simp)];exact h
 ·exact h
theorem yN{ρ:Type}{x:Option Nat}{S:St}{k:St->Option ρ}{r:ρ}(h:JC x S k=some r):k S=some r:=by
 unfold JC at h;split at h
 ·exact h
 ·exact SA h
theorem acE{S:St}{x:W}{l:L}(h:x.loc≠l):agree S (S.put x) l:=by
 cases x<;>cases l<;>simp only[W.loc,ne_eq,L.t.injEq,L.b.injEq,L.o.injEq]at h<;>simp only[agree,St.put]<;>
  first
   | rfl
   | (rw[Sv,if_neg λe=>h e.1])
   | (rw[gu,if_neg λe=>h e.1])
   | (rw[bK,if_neg λe=>h e.1])
theorem YD{S S' S'':St}{l:L}(h:agree S S' l)(a:agree S' S'' l):agree S S'' l:=by
 cases l<;>exact a.trans h
theorem DW:∀(ws:List W) {S:St} {l:L},(∀x,x∈ws->x.loc≠l)->agree S (S.puts ws) l
 | [],S,l,_=>by cases l<;>rfl
 | x::r,S,l,h=>YD (acE (h x aw)) (DW r λy a=>h y (ar _ a))
theorem ahg{S:St}{x y:W}(h:x.loc≠y.loc):(S.put x).put y=(S.put y).put x:=by
 have key:∀ {α:Type} {l:List α} {i j:Nat} {a b:α},i≠j->(l.set i a).set j b=(l.set j b).set i a:=λc=>List.set_comm _ _ c
 cases x<;>cases y<;>simp only[W.loc,ne_eq,L.t.injEq,L.b.injEq,L.o.injEq]at h<;>simp only[St.put]<;>
  first
   | rfl
   | (simp only[St.jh];rw[key h])
   | (simp only[St.setB];rw[key h])
   | (rw[bK,if_neg (by omega),bK,if_neg (by omega)];simp only[St.cO];rw[key h])
   | (rw[bK,if_neg (by omega)];simp only[St.cO];rw[key h])
   | (simp only[St.cO];rw[key h])
theorem W9:∀(ws:List W) {S:St} {x:W},(∀y,y∈ws->y.loc≠x.loc)->(S.puts ws).put x=(S.put x).puts ws
 | [],S,x,_=>rfl
 | y::r,S,x,h=>by
  show ((S.put y).puts r).put x=((S.put x).put y).puts r
  rw[W9 r λz a=>h z (ar _ a),ahg (h y aw)]
theorem RD:∀(vs ws:List W) {S:St},(∀x y,x∈vs->y∈ws->y.loc≠x.loc)->(S.puts ws).puts vs=(S.puts vs).puts ws
 | [],ws,S,_=>rfl
 | x::r,ws,S,h=>by
  show ((S.puts ws).put x).puts r=((S.put x).puts r).puts ws
  rw[W9 ws λy a=>h x y aw a,RD r ws λz y b a=>h z y (ar _ b) a]
theorem Az{a b:List L}(h:meets a b=false):∀x y,x∈a->y∈b->x≠y:=by
 intro x y c d e;simp only[meets,List.any_eq_false,List.any_eq_true,not_exists,not_and,decide_eq_true_eq]at h;exact h x c y d e
theorem Iu:∀(ws:List W) (S:St),(S.puts ws).tmps.length=S.tmps.length
 | [],S=>rfl
 | x::r,S=>(Iu r (S.put x)).trans (by cases x<;>simp[St.put,St.jh,St.setB,St.cO])
inductive Run(E:Env)(ops:Array Oper):List (Oper×Nat)->St->List Lg->St->Prop
 | nil (S:St):Run E ops [] S [] S
 | cons (o:Oper) (i:Nat) (r:List (Oper×Nat)) (S S':St) (ws:List W) (rs:List L) (g:List Lg) (h:(EL E ops o).tJ S []=some (ws,rs)) (hr:Run E ops r (S.puts ws) g S') :
   Run E ops ((o,i)::r) S ({ i,reads:=rs,writes:=ws.map W.loc } :: g) S'
theorem NK{ρ:Type}{E:Env}{ops:Array Oper}{k:St->List Lg->Option ρ}{r:ρ}:∀ {l:List (Oper×Nat)} {S:St} {g:List Lg},opsL E ops l S g k=some r ->
  ∃g' S',Run E ops l S g' S'/\k S' (g'.reverse++g)=some r
 | [],S,g,h=>⟨[],S,.nil S,h⟩
 | (o,i)::l,S,g,h=>by
  have a:=yN (yN h);rw[Rd.ahb,zB]at a;obtain⟨⟨ws,rs⟩,b,c⟩:=a;obtain⟨g',S',d,e⟩:=NK c;exact⟨_,S',.cons o i l S S' ws rs g' b d,by simpa using e⟩
theorem Run.front{E:Env}{ops:Array Oper}{o:Oper}{i:Nat}{post:List (Oper×Nat)}:∀ {pre:List (Oper×Nat)} {S S':St} {g:List Lg},Run E ops (pre++(o,i)::post) S g S' ->
  (∀gpre gi gpost,g=gpre++gi::gpost->gpre.length=pre.length->∀b,b∈gpre->b.free gi=true) ->
  ∃ws rs gpre gpost,g=gpre ++ { i,reads:=rs,writes:=ws.map W.loc } :: gpost/\gpre.length=pre.length/\(EL E ops o).tJ S []=some (ws,rs)/\Run E ops (pre++post) (S.puts ws) (gpre++gpost) S'
 | [],S,S',g,h,_=>by
  cases h with
  | cons _ _ _ _ _ ws rs g j k=>exact⟨ws,rs,[],g,rfl,rfl,j,k⟩
 | (m,n)::pre,S,S',g,h,hf=>by
  cases h with
  | cons _ _ _ _ _ a c A j k=>
   obtain⟨ws,rs,gpre,gpost,rfl,f,p,q⟩:=Run.front k λgpre gi gpost r f b s=>
    hf (_::gpre) gi gpost (by rw[r];rfl) (by simp[f]) b (ar _ s)
   have hfree:=hf (_::gpre) _ gpost rfl (by simp[f]) _ aw;simp only[Lg.free,zI,Bool.not_eq_true']at hfree;obtain⟨⟨t,u⟩,v⟩:=hfree;have w:(EL E ops o).tJ S []=some (ws,rs):=Rd.Ls (Iu a S).symm p λx d=>by
    have:=DW a (S:=S) (l:=x) λy e=>Az t y.loc x (List.mem_map_of_mem e) d
    cases x<;>exact Eq.symm this
   have z:(EL E ops m).tJ (S.puts ws) []=some (a,c):=Rd.Ls (Iu ws S) j λx d=>
    DW ws λy e=>Az v y.loc x (List.mem_map_of_mem e) d
   refine⟨ws,rs,_::gpre,gpost,rfl,by simp[f],w,?_⟩;refine .cons m n _ _ _ a c _ z ?_;rw[RD a ws λx y d e=>Ne.symm (Az u x.loc y.loc (List.mem_map_of_mem d) (List.mem_map_of_mem e))];exact q
theorem afn{acc:List Nat}{o:Oper}{k:Nat}(h:(AA acc o).testBit k=true):∃e,e∈o.after.toList/\Region.binds .any e=true/\(k=e.on\/(acc.getD e.on 0).testBit k=true):=by
 have key:∀(es:List Edge) (s:Nat),(es.foldl (λs e=>if Region.binds .any e then s ||| 2 ^ e.on ||| acc.getD e.on 0 else s) s).testBit k=true->s.testBit k=true \/
   ∃e,e∈es/\Region.binds .any e=true/\(k=e.on\/(acc.getD e.on 0).testBit k=true):=by
  intro es;induction es with
  | nil=>intro s h;exact .inl h
  | cons e es ih=>
   intro s h;simp only[List.foldl_cons]at h;rcases ih _ h with a | ⟨e',b,d⟩
   ·split at a
    ·rename_i c;simp only[Nat.testBit_or,Bool.or_eq_true]at a;rcases a with (a | a) | a
     ·exact .inl a
     ·rw[Nat.testBit_two_pow]at a;exact .inr ⟨e,aw,c,.inl (by simp at a;exact a.symm)⟩
     ·exact .inr ⟨e,aw,c,.inr a⟩
    ·exact .inl a
   ·exact .inr ⟨e',ar _ b,d⟩
 rcases key _ _ h with a | a
 ·simp at a
 ·exact a
theorem RY:∀(l:List Oper) (acc:List Nat) (i:Nat),(∀i,i<acc.length->(masks acc l)[i]?=acc[i]?)/\(∀o,l[i]?=some o->∃acc',(∀j,j<acc'.length->(masks acc l)[j]?=acc'[j]?)/\acc'.length=acc.length+i/\(masks acc l)[acc.length+i]?=some (AA acc' o))
 | [],acc,i=>⟨λ_ _=>rfl,λo h=>by simp at h⟩
 | a::r,acc,i=>by
  have ih:=RY r (acc++[AA acc a]);have c:∀i,i<acc.length->(masks acc (a::r))[i]?=acc[i]?:=λi hi=>by
   show (masks (acc++[AA acc a]) r)[i]?=_
   rw[(ih 0).1 i (by simp;omega),amE hi]
  refine⟨c,λo b=>?_⟩;cases i with
  | zero=>
   simp at b;subst b;refine⟨acc,c,rfl,?_⟩;show (masks (acc++[AA acc a]) r)[acc.length+0]?=_
   rw[(ih 0).1 _ (by simp)];simp
  | succ i=>
   obtain⟨acc',d,f,g⟩:=(ih i).2 o (by simpa using b);refine⟨acc',d,by simp at f;omega,?_⟩;have e:acc.length+(i+1)=(acc++[AA acc a]).length+i:=by simp;omega
   rw[e];exact g
section regions
variable {P:Program} {w0:Bs} {E:Env} {ops:Array Oper} {Q:Exit->Act->World->Prop}
theorem TA{G:Gh}{S:St}{a:Act}{w:World}(h:Inv w0 G S a w){o:Oper}{b:Bool}(hv:(TB ops o).val S=some b):Region.wanted o (yielded ops a.tmps)=b:=by
 unfold TB at hv;unfold Region.wanted;split at hv
 ·rename_i k;simp only[Rd.val,zD]at hv;rw[k];exact hv
 ·rename_i j want k;rw[k];split at hv
  ·cases hv
  ·rename_i t n;simp only[Rd.val]at hv;have g:=h.je t;have p:∀v,a.tmps.getD t undef=v->v≠undef->a.tmps[t]?=some v:=by
    intro v hv l;cases i:a.tmps[t]? with
    | none=>simp[i]at hv;exact absurd hv.symm l
    | some u=>simp[i]at hv;rw[hv]
   split at hv
   ·rename_i bb d;simp only[Rd.val,zD]at hv;rw[d]at g;have e:Rep w G.S (.bool bb) (a.tmps.getD t undef):=g;generalize c:a.tmps.getD t undef=vv at e;cases e
    have:=p _ c (by simp[undef]);simp only[yielded,n,zA,this];rw[<- hv];cases bb<;>cases want<;>rfl
   ·rename_i d;simp only[Rd.val,zD]at hv;rw[d]at g;obtain⟨us,c,m⟩:=g;have f:us=[]:=by cases us with
     | nil=>rfl
     | cons=>exact m.elim
    subst f;rw[<- hv];have:yielded ops a.tmps j=none:=by
     simp only[yielded,n,zA];cases i:a.tmps[t]? with
     | none=>rfl
     | some u=>
      simp[i]at c;rw[c]
    show (yielded ops a.tmps j==some want)=false
    rw[this];rfl
   ·cases hv
theorem LX{G:Gh}{S:St}{a:Act}{w:World}(e:oP P E w0)(h:Inv w0 G S a w){o:Oper}{i:Nat}(hi:ops[i]?=some o){ws:List W}(hv:(EL E ops o).val S=some ws){K:Act->World->Prop}
  (d:∀a' w' G',Inv w0 G' (S.puts ws) a' w'->K a' w'):wpOp P ops Q i K a w:=by
 unfold EL at hv;rw[Rd.aK,zB]at hv;obtain⟨b,f,c⟩:=hv;have g:=TA h f;unfold wpOp;rw[hi];simp only[g];cases b with
 | true=>exact .inl (adh h e c d)
 | false=>
  simp only[Rd.val,zD]at c;subst c;exact d _ _ _ (h.dst Bv)
theorem NM{ρ:Type}(f:oP P E w0){k:St->Option ρ}{r:ρ}(g:∀S' a' w' G',k S'=some r->Inv w0 G' S' a' w'->Q .normal a' w') :
  ∀(n:Nat) {l:List Oper} {i:Nat} {G:Gh} {S:St} {a:Act} {w:World},l.length<=n->ops.toList.drop i=l->ZC E ops 0 l S k=some r->Inv w0 G S a w->wpOps P ops Q (List.range' i l.length) a w
 | _,[],i,G,S,a,w,_,_,hv,h=>g S a w G hv h
 | 0,o::l,i,G,S,a,w,c,_,_,_=>absurd c (by simp)
 | n+1,o::l,i,G,S,a,w,c,j,hv,h=>by
  have get:∀(t:Nat) (y:Oper),(o::l)[t]?=some y->ops[i+t]?=some y:=λt y m=>by
   have:(ops.toList.drop i)[t]?=some y:=by rw[j];exact m
   rw[amn]at this;simpa using this
  have dr:∀t,ops.toList.drop (i+t)=(o::l).drop t:=λt=>by rw[<- j,List.drop_drop]
  have hi:=get 0 o rfl;cases d:TV E o l with
  | none=>
   have e:JC (aaj ops o) S (λS=>JC (aeQ o) S λS=>(EL E ops o).runK S λws=>ZC E ops 0 l (S.puts ws) k)=some r:=by
    unfold ZC at hv;rw[d]at hv;exact hv
   have b:=yN (yN e);rw[Rd.ku,zB]at b;obtain⟨ws,p,s⟩:=b;show wpOps P ops Q (i::List.range' (i+1) l.length) a w
   rw[wpOps_cons];exact LX f h hi p λa' w' G' u=>NM f g n (by simpa using c) (dr 1) s u
  | some q=>unfold TV at d;cases d
theorem ZB{ρ:Type}(b:oP P E w0){k:St->Option ρ}{r:ρ}(c:∀S' a' w' G',k S'=some r->Inv w0 G' S' a' w'->Q .normal a' w')
  {l:List Oper} {i:Nat} {G:Gh} {S:St} {a:Act} {w:World} (d:ops.toList.drop i=l) (hv:akJ E ops l S k=some r) (h:Inv w0 G S a w):wpOps P ops Q (List.range' i l.length) a w:=
 NM b c l.length (aD _) d hv h
end regions
theorem ZK{ops:Array Oper}{i k:Nat}(h:((masks [] ops.toList).getD i 0).testBit k=true) :
  ∃o e,ops[i]?=some o/\e∈o.after.toList/\Region.binds .any e=true/\(k=e.on\/(e.on<i/\((masks [] ops.toList).getD e.on 0).testBit k=true)):=by
 cases a:ops.toList[i]? with
 | none=>
  exfalso;have hlen:(masks [] ops.toList).length=ops.toList.length:=by
   have key:∀(l:List Oper) (acc:List Nat),(masks acc l).length=acc.length+l.length:=by
    intro l;induction l with
    | nil=>intro acc;rfl
    | cons o r ih=>intro acc;show (masks (acc++[AA acc o]) r).length=_;rw[ih];simp;omega
   have:=key ops.toList [];simpa using this
  have hi:ops.toList.length<=i:=by simpa using a
  rw[zE,zJ (by omega)]at h;simp at h
 | some o=>
  obtain⟨acc',d,f,c⟩:=(RY ops.toList [] i).2 o a;simp only[List.length_nil,amw]at f c;rw[zE,c]at h;obtain⟨e,g,j,hk⟩:=afn h;refine⟨o,e,by simpa using a,g,j,hk.imp id λhk=>?_⟩;by_cases b:e.on<i
  ·refine⟨b,?_⟩;rw[zE,d _ (by omega),<- zE];exact hk
  ·rw[zE,zJ (by omega)]at hk;simp at hk
def Closed(ops:Array Oper)(listed:Array Bool):Prop:=∀i o e,listed.getD i false=true->ops[i]?=some o->e∈o.after.toList->Region.binds .any e=true->listed.getD e.on false=true
theorem JG{ops:Array Oper}{listed:Array Bool}(hc:Closed ops listed):∀(n i k:Nat),i<n->(∀o e,ops[i]?=some o->e∈o.after.toList->Region.binds .any e=true->listed.getD e.on false=true) ->
  ((masks [] ops.toList).getD i 0).testBit k=true->listed.getD k false=true
 | 0,i,k,g,_,_=>by omega
 | n+1,i,k,g,hi,h=>by
  obtain⟨o,e,j,l,a,hk⟩:=ZK h;have f:=hi o e j l a;rcases hk with rfl | ⟨m,hk⟩
  ·exact f
  ·exact JG hc n e.on k (by omega) (λo' e' b c d=>hc e.on o' e' f b c d) hk
theorem xE{bf:List Nat}:∀ {g:List Lg},CQ bf g=true->g.Pairwise λa b=>(bf.getD a.i 0).testBit b.i=true\/b.free a=true
 | [],_=>.nil
 | a::r,h=>by
  simp only[CQ,zI,amf,Bool.or_eq_true]at h;exact .cons (λb c=>h.1 b c) (xE h.2)
theorem Run.idx{E:Env}{ops:Array Oper}{l:List (Oper×Nat)}{S S':St}{g:List Lg}(h:Run E ops l S g S'):g.map Lg.i=l.map (·.2):=by
 induction h with
 | nil S=>rfl
 | cons o i r S S' ws rs g h a ih=>simp[ih]
section regions
variable {P:Program} {w0:Bs} {E:Env} {ops:Array Oper} {Q:Exit->Act->World->Prop}
theorem Ti(Z:oP P E w0){S':St}(J:∀a' w' G',Inv w0 G' S' a' w'->Q .normal a' w')(hback:∀i o e,ops[i]?=some o->e∈o.after.toList->Region.binds .any e=true->e.on<i) :
  ∀(fuel:Nat) {listed:Array Bool} {l:List (Oper×Nat)} {S:St} {g:List Lg} {a:Act} {w:World} {G:Gh},listed.size=ops.size->Closed ops listed ->
   (∀o i,(o,i)∈l->ops[i]?=some o/\listed.getD i true=false)->(∀o i,ops[i]?=some o->listed.getD i true=false->(o,i)∈l)->l.Pairwise (λx y=>x.2<y.2) ->
   Run E ops l S g S'->g.Pairwise (λb a=>((masks [] ops.toList).getD a.i 0).testBit b.i=true\/b.free a=true)->Inv w0 G S a w->l.length<=fuel->wpAny P .any ops Q fuel listed a w
 | 0,listed,l,S,g,a,w,G,_,_,_,v,_,z,_,h,hf=>by
  have hl:l=[]:=amB (by omega);subst hl;cases z
  refine⟨?_,J _ _ _ h⟩;rw[List.eq_nil_iff_forall_not_mem];intro j hj;obtain⟨h0,o,k,_⟩:=mem_ready.1 hj;exact absurd (v o j k h0) (by simp)
 | fuel+1,listed,l,S,g,a,w,G,K,A,I,v,hp,z,t,h,hf=>by
  refine⟨λhnil=>?_,λi hi=>?_⟩
  ·cases l with
   | nil=>cases z;exact J _ _ _ h
   | cons x r=>
    obtain⟨o,i⟩:=x;exfalso;obtain⟨k,s⟩:=I o i aw;have hm:i∈Region.ready .any ops listed:=by
     refine mem_ready.2 ⟨s,o,k,λe he n=>?_⟩;have hlt:=hback i o e k (by simpa using he) n;have L:i<ops.size:=(a6.1 k).1;cases u:listed.getD e.on false with
     | true=>rfl
     | false=>
      have M:listed.getD e.on true=false:=by
       have:e.on<listed.size:=by omega
       simp[this]at u ⊢;exact u
      have hmem:=v ops[e.on] e.on (by simp) M;rcases bh.1 hmem with d | d
      ·have:=congrArg Prod.snd d;simp at this;omega
      ·have:=(List.pairwise_cons.1 hp).1 _ d;simp at this;omega
    rw[hnil]at hm;cases hm
  ·obtain⟨s,o,k,hall⟩:=mem_ready.1 hi;have hmem:=v o i k s;obtain⟨pre,post,rfl⟩:=List.append_of_mem hmem;have hidx:=z.idx;obtain⟨ws,rs,gpre,gpost,rfl,p,hv,N⟩:=z.front λgpre gi gpost O p b B=>by
    subst O;have R:gi.i=i:=by
     have:=congrArg (λl=>l[pre.length]?) hidx;simp[<- p]at this;simpa [p] using this
    have T:b.i∈pre.map (·.2):=by
     have e1:(gpre.map Lg.i)=pre.map (·.2):=by
      have:=congrArg (List.take pre.length) hidx;simp only[List.map_append,List.map_cons]at this;rw[List.take_left' (by simp[p]),List.take_left' (by simp)]at this;exact this
     rw[<- e1];exact List.mem_map_of_mem B
    rw[List.pairwise_append]at t;have:=t.2.2 b B gi aw;rcases this with hbit | U
    ·exfalso;rw[R]at hbit;have hlst:=JG A (i+1) i b.i (by omega) (λo' e' f d V=>by
      rw[k]at f;cases f;exact hall e' (by simpa using d) V) hbit
     obtain⟨⟨o2,W⟩,C,D⟩:=List.mem_map.1 T;have:=(I o2 W (by simp[C])).2;simp only at D;rw[<- D]at hlst;have X:W<listed.size:=by
      have:=(I o2 W (by simp[C])).1;have:=(a6.1 this).1;omega
     simp[X]at hlst this;rw[hlst]at this;cases this
    ·exact U
   refine LX Z h k (Rd.adD hv) λa' w' G' h'=>?_
   have L:i<ops.size:=(a6.1 k).1;rw[List.pairwise_append]at hp t;refine Ti Z J hback fuel (l:=pre++post) (by simp[K]) ?_ ?_ ?_ ?_ N ?_ h' (by simp at hf ⊢;omega)
   ·intro i' o' e' F f d n;by_cases H:i=i'
    ·subst H;rw[k]at f;cases f;exact getD_set_true (hall e' (by simpa using d) n)
    ·rw[getD_set_ne false H]at F;exact getD_set_true (A i' o' e' F f d n)
   ·intro o' i' c;have q:i≠i':=by
     rcases List.mem_append.1 c with c | c
     ·have:=hp.2.2 _ c _ aw;simp at this;omega
     ·have:=(List.pairwise_cons.1 hp.2.1).1 _ c;simp at this;omega
    have:=I o' i' (by rcases List.mem_append.1 c with c | c<;>simp[c])
    exact⟨this.1,by rw[getD_set_ne true q];exact this.2⟩
   ·intro o' i' f m;have q:i≠i':=by
     rintro rfl;have:i<listed.size:=by omega
     simp[this]at m
    rw[getD_set_ne true q]at m;have:=v o' i' f m;rcases List.mem_append.1 this with c | c
    ·exact amk _ c
    ·rcases bh.1 c with d | c
     ·have:=congrArg Prod.snd d;simp at this;exact absurd this.symm q
     ·exact amj _ c
   ·rw[List.pairwise_append];exact⟨hp.1,(List.pairwise_cons.1 hp.2.1).2,λx u y Y=>hp.2.2 x u y (ar _ Y)⟩
   ·rw[List.pairwise_append];exact⟨t.1,(List.pairwise_cons.1 t.2.1).2,λx u y Y=>t.2.2 x u y (ar _ Y)⟩
theorem Yj(p:oP P E w0){G:Gh}{S S':St}{a:Act}{w:World}{g:List Lg}(q:Run E ops ops.toList.zipIdx S g.reverse S')
  (hc:Jc ops.toList.zipIdx=true/\CQ (masks [] ops.toList) g=true) (h:Inv w0 G S a w)
  (r:∀a' w' G',Inv w0 G' S' a' w'->Q .normal a' w'):wpAny P .any ops Q ops.size (Array.replicate ops.size false) a { w with drawn:=w.drawn+1 }:=by
 have hzip:∀o i,(o,i)∈ops.toList.zipIdx↔ops[i]?=some o:=by
  intro o i;rw[List.mem_zipIdx_iff_getElem?];simp
 have c:=xE hc.2;rw[<- List.pairwise_reverse]at c;refine Ti p (S':=S') r (λi o e j s t=>?_) ops.size (l:=ops.toList.zipIdx) (by simp) ?_ (λo i d=>⟨(hzip o i).1 d,?_⟩) (λo i j _=>(hzip o i).2 j) ?_ q c (h.grow ((Below.refl _ _).drew)) (by simp)
 ·have:=List.all_eq_true.1 hc.1 _ ((hzip o i).2 j);simp only[amf,Bool.or_eq_true,Bool.not_eq_true',decide_eq_true_eq]at this;rcases this e s with b | b
  ·rw[t]at b;cases b
  ·exact b
 ·intro i o e hi;by_cases k:i<ops.size
  ·simp[k]at hi
  ·simp[k]at hi
 ·have:=(a6.1 ((hzip o i).1 d)).1;simp[this]
 ·have key:∀(l:List Oper) (n:Nat),(l.zipIdx n).Pairwise (λx y=>x.2<y.2)/\∀x∈l.zipIdx n,n<=x.2:=by
   intro l;induction l with
   | nil=>intro n;exact⟨.nil,λx f=>by cases f⟩
   | cons o l ih=>
    intro n;obtain⟨b,m⟩:=ih (n+1);refine⟨.cons (λy u=>?_) b,λx f=>?_⟩
    ·have:=m y u;simp;omega
    ·rcases bh.1 f with rfl | f
     ·exact aD _
     ·have:=m x f;omega
  exact (key _ 0).1
theorem aia(b:oP P E w0)(c:P.follows .mixedOrders=true){id:Nat}{G:Gh}{S S':St}{a:Act}{w:World}{g:List Lg}(d:Run E ops ops.toList.zipIdx S g.reverse S')
  (hc:Jc ops.toList.zipIdx=true/\CQ (masks [] ops.toList) g=true) (h:Inv w0 G S a w)
  (e:∀a' w' G',Inv w0 G' S' a' w'->Q .normal a' w'):(Code.region id ops true).wp P Q a w:=wp_region_any c (Yj b d hc h e)
theorem rU:∀(keys:List (Nat×Nat)) {G:Gh} {S:St} {a:Act} {w:World},Inv w0 G S a w->∃G',Inv w0 G' (S.puts (keys.map λq=>W.nomut q.1 q.2)) a w
 | [],G,S,a,w,h=>⟨G,h⟩
 | q::r,G,S,a,w,h=>by
  obtain⟨c,b,_⟩:=h.TM q.1 q.2;exact rU r b
theorem aaq{ρ:Type}(d:oP P E w0)(e:P.follows .mixedOrders=true){id:Nat}{k:St->Option ρ}{r:ρ}{G:Gh}{S:St}{a:Act}{w:World}
  (hv:acK E ops id S k=some r) (h:Inv w0 G S a w)
  (f:∀S' a' w' G',k S'=some r->Inv w0 G' S' a' w'->Q .normal a' w'):(Code.region id ops true).wp P Q a w:=by
 unfold acK at hv;obtain⟨i,j,c,b⟩:=NK hv;simp only[amA]at b;split at b
 case isFalse=>cases b
 rename_i hc;rw[zI]at hc;obtain⟨n,l⟩:=rU (aeL E id) h;exact aia d e (g:=i.reverse) (by rw[List.reverse_reverse];exact c) hc l λa' w' G' m=>f j a' w' G' b m
end regions
section loops
variable {w0:Bs} {G:Gh} {S:St} {a:Act} {w:World}
theorem uN:∀ {l:List (Nat×Nat)} {u:Unit},(GN l).val S=some u->∀b n,(b,n)∈l->∃cs,S.fK b=some cs/\cs.length=n
 | [],_,_,b,n,a=>by cases a
 | (f,g)::r,u,h,b,n,a=>by
  simp only[GN,Rd.val]at h;split at h
  ·rename_i cs c;split at h
   ·rename_i d;rcases bh.1 a with e | a
    ·cases e;exact⟨cs,c,d⟩
    ·exact uN h b n a
   ·cases h
  ·cases h
theorem Ny:∀ {l:List (Nat×Nat×Nat)} {u:Unit},(Nz l).val S=some u->∀i b off,(i,b,off)∈l->S.je i=.v (.one (.ptr b off))
 | [],_,_,i,b,off,a=>by cases a
 | (i0,f,off0)::r,u,h,i,b,off,a=>by
  simp only[Nz,Rd.val]at h;split at h
  ·rename_i b' off' d;split at h
   ·rename_i e;obtain⟨rfl,rfl⟩:=e;rcases bh.1 a with c | a
    ·cases c;exact d
    ·exact Ny h i b off a
   ·cases h
  ·cases h
def cellV(G:Gh)(a:Act)(w:World):It->Value->Prop
 | .t i _,v=>a.tmps.getD i undef=v
 | .b b off _,v=>w.cell? ⟨G.bk b,off,none⟩=some v
theorem aii(h:Inv w0 G S a w){it:It}{c:C}(hc:(cAt it).val S=some c):∃v,cellV G a w it v/\mV G w c v:=by
 cases it with
 | t i s=>
  simp only[cAt,Rd.val]at hc;have f:=h.je i;unfold avC at hc;split at hc
  ·rename_i c' j;simp only[Rd.val,zD]at hc;subst hc;rw[j]at f;exact⟨_,rfl,f⟩
  ·cases hc
 | b b off s=>
  simp only[cAt,Rd.val]at hc;split at hc
  ·rename_i cs g;simp only[Rd.val,zB,zD]at hc;obtain⟨c',d,rfl⟩:=hc;obtain⟨_,vs,E,hh,f⟩:=h.box b cs g;obtain⟨l,k⟩:=f.get;have e:off<vs.length:=by have:=(zC.1 d).1;omega
   refine⟨vs[off],?_,k off c' vs[off] d (by simp[e])⟩;show w.cell? _=_
   rw[cell_of_row _ _ _ _ _ _ hh];simp[e]
  ·cases hc
def Sr.live:Sr->Bool
 | .ro _=>false
 | _=>true
def agB(S0:Nat->Nat->Prop)(w:World):(sr:Sr)->sr.den->Value->(Nat->Prop)->Prop
 | .ro t,x,v,_=>∃d,t.cells x=[d]/\Rep w S0 d v
 | .own t deep m _,xs,v,lab=>OwT w S0 deep m t xs v lab
 | .part t _,z,v,lab=>iL w S0 t z.1 z.2 v lab
 | .tree t _,xs,v,lab=>∃fp:Nat->Prop,(∀b,fp b->lab b)/\Ow w (λ_ _=>False) true (.list t xs) v fp/\∀b o,S0 b o->¬fp b
theorem OwT.weak{S0:Nat->Nat->Prop}{deep deep' m m':Bool}{t:Ty}{xs:List t.den}{v:Value}{fp fp':Nat->Prop}(h:OwT w S0 deep' m' t xs v fp)(p:deep=true->deep'=true)(q:m=true->m'=true)(a:∀b,fp b->fp' b) :
  OwT w S0 deep m t xs v fp':=by
 rcases h with r | ⟨b,cap,arr,E,vs,fps,s,u,y,z,A,B,C,D,l,f,g⟩
 ·exact .inl r
 ·refine .inr ⟨b,cap,arr,E,vs,fps,s,u,y,z,A,a _ B,C,λi x j' d F j=>(D i x j' d F j).sub (λ_ hh=>hh) p,λi j' c e=>⟨a _ (l i j' c e).1,(l i j' c e).2⟩,f,λo G=>?_⟩;obtain⟨n,H⟩:=g o G;refine⟨?_,H⟩;cases k:m with
  | false=>rfl
  | true=>rw[q k]at n;cases n
def alp(S0:Nat->Nat->Prop)(w:World)(it:It)(x:it.sr.den)(v:Value)(lab:Nat->Prop):Prop:=agB S0 w it.sr x v lab
theorem ahY(h:Inv w0 G S a w){sr:Sr}{c:C}{x:sr.den}{v:Value}(f:(aam sr c).val S=some x)(hc:mV G w c v){S0:Nat->Nat->Prop}(roks:List (Nat×Nat))
  (J:∀b o,(G.S b o\/AK G S roks b o)->S0 b o) (D:∀t,sr=.ro t->∀k j,c=.own k j->(k,j)∈roks)
  (u:∀k j,c=.own k j->sr.live=true->∀b o,S0 b o->G.ow b=some (.own k j)->G.S b o) :
  agB S0 w sr x v (λb=>∃k j,c=.own k j/\G.ow b=some (.own k j)):=by
 cases sr with
 | ro t=>
  simp only[aam]at f;split at f
  ·rename_i E;simp only[Rd.aK,zB,Rd.val,zD]at f;obtain⟨ds,F,y,K,L⟩:=f;subst L;have H:t.tys.length=1:=by
    rw[lY];cases t with
    | base b=>cases b<;>first | rfl | cases E
    | list t=>rfl
   obtain⟨M,N⟩:=GK F (by simpa using H);match ds,M with
   | [d],_=>
    obtain⟨c',ty,z,I⟩:=N 0 d rfl;simp at z;subst z;refine⟨d,(Ty.eH K),?_⟩;exact (EC h I hc roks λk j e=>D t rfl k j e).move λb o p=>⟨J b o p,rfl⟩
  ·cases f
 | own t deep m key=>
  simp only[aam]at f;split at f
  ·simp only[Rd.val,zD]at f;subst f;exact .inl ⟨hc,rfl⟩
  ·rename_i k j;simp only[Rd.val]at f;split at f
   ·rename_i t' xs deep' m' hown;split at f
    ·rename_i l;subst l;split at f
     ·rename_i A;simp only[Rd.val,zD]at f;subst f;have n:=h.owns k j;rw[hown]at n;have q:OwT w G.S deep' m' t' xs (G.ov k j) (iZ G k j):=n;rw[<- hc.2.1]at q;have F:OwT w S0 deep' m' t' xs v (iZ G k j):=OwT.move q (λb o p=>⟨J b o (.inl p),rfl⟩) (λb g=>⟨g,rfl⟩) λb len cap hv g o p=>.inl (u k j rfl rfl b o p g)
      exact F.weak A.1 A.2 λb g=>⟨k,j,rfl,g⟩
     ·cases f
    ·cases f
   ·rename_i t' xs hown;split at f
    ·rename_i l;subst l;simp only[Rd.val,zD]at f;subst f;have n:=h.owns k j;rw[hown]at n;obtain⟨fp,r,s,B⟩:=n;rw[<- hc.2.1]at s;exact (OwT.D9 s r λb o p g=>B b o (u k j rfl rfl b o p (r b g)) g).weak (λ_=>rfl) (λ_=>rfl) λb g=>⟨k,j,rfl,g⟩
    ·cases f
   ·cases f
  ·cases f
 | part t key=>
  simp only[aam]at f;split at f
  ·rename_i k j;simp only[Rd.val]at f;split at f
   ·rename_i t' xs hown;split at f
    ·rename_i l;subst l;simp only[Rd.val,zD]at f;subst f;have n:=h.owns k j;rw[hown]at n;obtain⟨fp,r,s,B⟩:=n;rw[<- hc.2.1]at s;exact iL.D9 s (λb g=>⟨k,j,rfl,r b g⟩) λb o p g=>B b o (u k j rfl rfl b o p (r b g)) g
    ·cases f
   ·rename_i t' xs i hown;split at f
    ·rename_i l;subst l;simp only[Rd.val,zD]at f;subst f;have n:=h.owns k j;rw[hown]at n;have q:iL w G.S t' xs i (G.ov k j) (iZ G k j):=n;rw[<- hc.2.1]at q;exact iL.move q (λb g=>⟨⟨k,j,rfl,g⟩,rfl⟩) λb o g p=>u k j rfl rfl b o p g
    ·cases f
   ·cases f
  ·cases f
 | tree t key=>
  simp only[aam]at f;split at f
  ·rename_i k j;simp only[Rd.val]at f;split at f
   ·rename_i t' xs hown;split at f
    ·rename_i l;subst l;simp only[Rd.val,zD]at f;subst f;have n:=h.owns k j;rw[hown]at n;obtain⟨fp,r,s,B⟩:=n;rw[<- hc.2.1]at s;exact⟨fp,λb g=>⟨k,j,rfl,r b g⟩,s,λb o p g=>B b o (u k j rfl rfl b o p (r b g)) g⟩
    ·cases f
   ·cases f
  ·cases f
theorem Inv.L8(h:Inv w0 G S a w)(i:Nat){av:AV}(hv:ja G w av (a.tmps.getD i undef)):Inv w0 G (S.jh i av) a w:=by
 have c:=h.jh i hv;have e:a.put (some i) (a.tmps.getD i undef)=a:=by
  simp only[Act.put];cases a with
  | mk tmps defers=>
   congr 1;show tmps.setIfInBounds i (tmps.getD i undef)=tmps
   by_cases b:i<tmps.size
   ·have d:i<tmps.toList.length:=by simpa using b
    have f:tmps.getD i undef=tmps.toList[i]:=by simp[b]
    rw[<- Array.toList_inj,Array.toList_setIfInBounds,f,List.set_getElem_self]
   ·rw[Array.setIfInBounds_eq_of_size_le (Nat.le_of_not_lt b)]
 rw[e]at c;exact c
theorem Inv.Wp(h:Inv w0 G S a w)(b off:Nat){cs:List C}(g:S.fK b=some cs){c:C}{v:Value}(hv:w.cell? ⟨G.bk b,off,none⟩=some v)(hc:mV G w c v) :
  Inv w0 G (S.setB b (some (cs.set off c))) a w:=by
 refine⟨h.below,h.nodef,h.tsz,by simp[St.setB,h.bsz],by simp[St.setB,h.osz],h.tmps,h.olt,h.sok,?_,h.owns,h.lk,?_,h.sfr,h.st,h.fx⟩
 ·intro i cs' d;rw[gu]at d;split at d
  ·rename_i hi;obtain⟨rfl,_⟩:=hi;cases d
   obtain⟨j,vs,E,hh,k⟩:=h.box b cs g;refine⟨j,vs,E,hh,?_⟩;obtain⟨l,m⟩:=k.get;refine dh.mk (by simpa using l) λi c' v' e f=>?_
   rw[amz]at e;split at e
   ·rename_i hi;subst hi;split at e
    ·cases e
     rw[cell_of_row _ _ _ _ _ _ hh]at hv;simp at hv;rw[f]at hv;cases hv
     exact hc
    ·cases e
   ·exact m i c' v' e f
  ·exact h.box i cs' d
 ·intro i hi;rw[gu];split
  ·simp
  ·exact h.lb i hi
theorem Inv.oD(h:Inv w0 G S a w){it:It}{c:C}{v:Value}(hv:cellV G a w it v)(hc:mV G w c v)(e:∀b off s,it=.b b off s->∃cs,S.fK b=some cs):Inv w0 G (S.oD it c) a w:=by
 cases it with
 | t i s=>exact h.L8 i (by rw[show a.tmps.getD i undef=v from hv];exact hc)
 | b b off s=>
  obtain⟨cs,d⟩:=e b off s rfl;simp only[St.oD,d];exact h.Wp b off d hv hc
theorem Cm(S:St)(it:It)(c:C)(b:Nat)(h:∃cs,S.fK b=some cs):∃cs,(S.oD it c).fK b=some cs:=by
 obtain⟨cs,a⟩:=h;cases it with
 | t i s=>exact⟨cs,a⟩
 | b b' off s=>
  simp only[St.oD];split
  ·rw[gu];split
   ·exact⟨_,rfl⟩
   ·exact⟨cs,a⟩
  ·exact⟨cs,a⟩
theorem Cj(S:St)(it:It)(c:C)(k:Nat):(S.oD it c).aQ k=S.aQ k:=by
 cases it with
 | t i s=>rfl
 | b b off s=>simp only[St.oD];split<;>rfl
theorem Bz(S:St)(it:It)(c:C):(S.oD it c).tmps.length=S.tmps.length:=by
 cases it with
 | t i s=>simp[St.oD,St.jh]
 | b b off s=>simp only[St.oD];split<;>rfl
end loops
theorem foldl_set{α β:Type}(f:β->Nat)(g:β->α)(d:α):∀(l:List β) (init:List α) (t:Nat),(l.foldl (λacc p=>acc.set (f p) (g p)) init).length=init.length /\
  ((l.foldl (λacc p=>acc.set (f p) (g p)) init).getD t d=init.getD t d/\(t<init.length->∀p∈l,f p≠t)\/∃p,p∈l/\f p=t/\(l.foldl (λacc p=>acc.set (f p) (g p)) init).getD t d=g p)
 | [],init,t=>⟨rfl,.inl ⟨rfl,λ_ p hp=>by cases hp⟩⟩
 | p::r,init,t=>by
  obtain⟨i,a⟩:=foldl_set f g d r (init.set (f p) (g p)) t;simp only[List.foldl_cons];refine⟨by rw[i];simp,?_⟩;rcases a with ⟨a,j⟩ | ⟨q,b,k,m⟩
  ·by_cases c:f p=t
   ·by_cases e:t<init.length
    ·refine .inr ⟨p,aw,c,?_⟩;rw[a,zE,amz,if_pos c,if_pos (by omega)];rfl
    ·refine .inl ⟨?_,λh=>absurd h e⟩;rw[a,List.set_eq_of_length_le (by omega)]
   ·refine .inl ⟨?_,λe q b=>?_⟩
    ·rw[a,zE,amz,if_neg c,<- zE]
    ·rcases bh.1 b with rfl | b
     ·exact c
     ·exact j (by simpa using e) q b
  ·exact .inr ⟨q,ar _ b,k,m⟩
section loops
variable {w0:Bs} {G:Gh} {S:St} {a:Act} {w:World}
theorem adr(la:LA)(t:Nat):la.base.je t=.undef\/∃p,p∈la.ptrs/\p.1=t/\la.base.je t=.v (.one (.ptr p.2.1 p.2.2)):=by
 have:=(foldl_set (λp:Nat×Nat×Nat=>p.1) (λp=>AV.v (.one (.ptr p.2.1 p.2.2))) AV.undef la.ptrs (List.replicate la.n .undef) t).2;rcases this with ⟨a,_⟩ | a
 ·left;have e:la.base.je t=(la.ptrs.foldl (λacc (p:Nat×Nat×Nat)=>acc.set p.1 (AV.v (.one (.ptr p.2.1 p.2.2)))) (List.replicate la.n AV.undef)).getD t .undef:=rfl;rw[e,a,zE,List.getElem?_replicate];split<;>rfl
 ·exact .inr a
theorem Jf(la:LA)(t:Nat):(la.base.fK t=none/\(t<la.n->∀p∈la.boxes,p.1≠t))\/∃p,p∈la.boxes/\p.1=t/\la.base.fK t=some (List.replicate p.2 .undef):=by
 have:=(foldl_set (λp:Nat×Nat=>p.1) (λp=>some (List.replicate p.2 C.undef)) none la.boxes (List.replicate la.n none) t).2;rcases this with ⟨a,b⟩ | a
 ·left;refine⟨?_,by simpa using b⟩;have e:la.base.fK t=(la.boxes.foldl (λacc (p:Nat×Nat)=>acc.set p.1 (some (List.replicate p.2 C.undef))) (List.replicate la.n none)).getD t none:=rfl;rw[e,a,zE,List.getElem?_replicate];split<;>rfl
 ·exact .inr a
theorem Tf(la:LA)(t:Nat):la.base.aQ t=[]:=by
 show (List.replicate la.n ([]:List O)).getD t []=_
 rw[zE,List.getElem?_replicate];split<;>rfl
theorem Yw(la:LA):la.base.tmps.length=la.n/\la.base.boxes.length=la.n/\la.base.owns.length=la.n:=by
 refine⟨?_,?_,?_⟩
 ·have:=(foldl_set (λp:Nat×Nat×Nat=>p.1) (λp=>AV.v (.one (.ptr p.2.1 p.2.2))) AV.undef la.ptrs (List.replicate la.n .undef) 0).1;simpa [LA.base] using this
 ·have:=(foldl_set (λp:Nat×Nat=>p.1) (λp=>some (List.replicate p.2 C.undef)) none la.boxes (List.replicate la.n none) 0).1;simpa [LA.base] using this
 ·simp[LA.base]
def BR(la:LA)(i:Nat):Prop:=∃n,(i,n)∈la.boxes
open Classical in
theorem agu(h:Inv w0 G S a w){la:LA}(J:S.tmps.length=la.n){u:Unit}(K:(GN la.boxes).val S=some u){u':Unit}(hp:(Nz la.ptrs).val S=some u')
  (B:la.ptrs.all (λp=>la.boxes.any λq=>q.1==p.2.1)=true) (roks:List (Nat×Nat)) :
  ∃r,Inv w0 r la.base a w/\r.bk=G.bk/\(∀b o,(G.S b o\/AK G S roks b o)↔r.S b o)/\(∀c k j,r.ow c≠some (.own k j))/\(∀c i,r.ow c=some (.box i)->G.ow c=some (.box i)):=by
 let C:Nat->Option tu:=λb=>match G.ow b with
  | some (.box i)=>if BR la i then some (.box i)else none
  | _=>none
 let r:Gh:={ bk:=G.bk,ov:=G.ov,ow:=C,S:=λb o=>G.S b o\/AK G S roks b o,lk:=λ_=>False,lb:=BR la };have hbox0:∀c i,r.ow c=some (.box i)->G.ow c=some (.box i)/\BR la i:=by
  intro c i hc;have d:(match G.ow c with | some (.box i)=>if BR la i then some (tu.box i)else none | _=>none)=some (.box i):=hc;split at d
  ·rename_i j M;split at d
   ·rename_i D;cases d;exact⟨M,D⟩
   ·cases d
  ·cases d
 have hnown:∀c k j,r.ow c≠some (.own k j):=by
  intro c k j hc;have d:(match G.ow c with | some (.box i)=>if BR la i then some (tu.box i)else none | _=>none)=some (.own k j):=hc;split at d
  ·split at d<;>cases d
  ·cases d
 obtain⟨F,N,O⟩:=Yw la;have hblt:∀i n,(i,n)∈la.boxes->i<la.n:=by
  intro i n m;obtain⟨cs,e,_⟩:=uN K i n m;have:i<S.boxes.length:=by
   rcases Nat.lt_or_ge i S.boxes.length with t | t
   ·exact t
   ·simp[St.fK,zE,zJ t]at e
  rw[h.bsz,J]at this;exact this
 refine⟨r,⟨h.below,h.nodef,by rw[h.tsz,J,F],by rw[F,N],by rw[F,O],?_,?_,?_,?_,?_,λk hk=>hk.elim,?_,λb o f t=>f.elim (λf=>h.sfr b o f t) λ⟨_,_,_,_,_,_,_,_,g,_⟩=>.inr (Bs.nwF (h.kY g).1 t),λb o f=>⟨.inl (h.st b o f).1,(h.st b o f).2⟩,h.fx⟩,rfl,λb o=>Iff.rfl,hnown,λc i hc=>(hbox0 c i hc).1⟩
 ·intro i v hv;rcases adr la i with l | ⟨⟨i',b,off⟩,m,rfl,l⟩
  ·rw[l];trivial
  ·rw[l];have y:=h.tmps _ v hv;rw[Ny hp _ b off m]at y;have:=List.all_eq_true.1 B _ m;obtain⟨⟨b',n⟩,H,z⟩:=List.any_eq_true.1 this;simp at z;exact⟨⟨n,z▸H⟩,y.2⟩
 ·intro b x L;cases x with
  | box i=>exact h.olt _ _ (hbox0 b i L).1
  | own k j=>exact absurd L (hnown b k j)
 ·intro b o f;refine⟨?_,λi hi=>?_⟩
  ·rcases f with f | ⟨k,j,_,_,_,_,_,_,g,_⟩
   ·exact (h.sok b o f).1
   ·exact (h.olt _ _ g).2
  ·have s:=(hbox0 b i hi).1;rcases f with f | ⟨k,j,_,_,_,_,_,_,g,_⟩
   ·exact (h.sok b o f).2 i s
   ·rw[g]at s;cases s
 ·intro i cs e;rcases Jf la i with ⟨l,_⟩ | ⟨⟨i',n⟩,m,rfl,l⟩
  ·rw[l]at e;cases e
  ·rw[l]at e;cases e
   obtain⟨I,A,P⟩:=uN K _ n m;obtain⟨Q,vs,E,hh,y⟩:=h.box _ I A;refine⟨?_,vs,E,hh,?_⟩
   ·show (match G.ow (G.bk i')with | some (.box i)=>if BR la i then some (tu.box i)else none | _=>none)=_
    rw[Q];exact if_pos ⟨n,m⟩
   ·have hlen:=y.length;refine dh.mk (by simp;omega) λj c v hc hv=>?_
    have:c=.undef:=(List.mem_replicate.1 (zG hc)).2;subst this;exact y.one v (zG hv)
 ·intro k j;rw[Tf];trivial
 ·intro i hi;obtain⟨n,m⟩:=hi;rcases Jf la i with ⟨_,l⟩ | ⟨p,_,_,l⟩
  ·exact absurd rfl (l (hblt i n m) _ m)
  ·rw[l];simp
theorem Au{x:Nat}{r:List Nat}(h:Eb (x::r)=true):x∉r/\Eb r=true:=by
 simp only[Eb,zI,Bool.not_eq_true',List.any_eq_false,beq_iff_eq]at h;exact⟨λa=>h.1 x a rfl,h.2⟩
theorem aeI(h:Inv w0 G S a w){U:Gh}(R:G.bk=U.bk){it:It}{x:it.sr.den}{v:Value}{lab:Nat->Prop}(hv:cellV U a w it v)(l:alp G.S w it x v lab)
  (hlab:∀c,lab c->w0.nw c/\c<w.heap.size/\(∀i,G.ow c≠some (.box i))/\∀k j,G.ow c≠some (.own k j)) (H:∀b off s,it=.b b off s->∃cs,S.fK b=some cs)
  (hk:∀key,key∈dJ [it]->key<S.tmps.length/\S.aQ key=[]) :
  ∃G',Inv w0 G' (S.Nw it x) a w/\G'.bk=G.bk/\G'.S=G.S/\(∀c y,G'.ow c=some y->G.ow c=some y\/(lab c/\∀i,y≠.box i))/\(∀b,(∃cs,S.fK b=some cs)->∃cs,(S.Nw it x).fK b=some cs) /\
   (∀key,key∉dJ [it]->(S.Nw it x).aQ key=S.aQ key)/\(S.Nw it x).tmps.length=S.tmps.length:=by
 have u:cellV G a w it v:=by
  cases it with
  | t i s=>exact hv
  | b b off s=>show w.cell? ⟨G.bk b,off,none⟩=_;rw[R];exact hv
 unfold alp at l;unfold St.Nw;generalize I:it.sr=sr at *;unfold agB at l;cases sr with
 | ro t=>
  obtain⟨d,W,hrep⟩:=l;have T:dOf t x=.d d:=by unfold dOf;rw[W]
  simp only[T];exact⟨G,h.oD u (c:=.d d) hrep H,rfl,rfl,λc y hc=>.inl hc,λb p=>Cm S it _ b p,λkey _=>Cj S it _ key,Bz S it _⟩
 | own t deep m key=>
  have hkey:key∈dJ [it]:=by simp[dJ,I]
  obtain⟨z,A⟩:=hk key hkey;classical
  obtain⟨G',M,V,B,C,f,D,r⟩:=h.wK key [.own t x deep m] (λ_=>v) (λc=>if lab c then some 0 else none) A z (by simp)
   (λc j hc=>by
    by_cases g:lab c
    ·obtain⟨J,K,L,N⟩:=hlab c g;exact⟨J,K,L,λk' j' _ _ _ _ p=>absurd p (N k' j')⟩
    ·rw[if_neg g]at hc;cases hc)
   (λj=>by
    cases j with
    | zero=>
     show OwT w G.S deep m t x v _
     exact OwT.move l (λb o O=>⟨O,rfl⟩) (λb p=>⟨if_pos p,rfl⟩) (λ_ _ _ _ _ o O=>.inl O)
    | succ j=>trivial)
  have P:Inv w0 G' ((S.cO key [.own t x deep m]).oD it (.own key 0)) a w:=by
   refine M.oD (v:=v) ?_ ⟨B,(C 0).symm,(OwT.ow l).one⟩ λb off s Q=>H b off s Q
   cases it with
   | t i s=>exact u
   | b b off s=>show w.cell? ⟨G'.bk b,off,none⟩=_;rw[f];exact u
  refine⟨G',P,f,D,λc y hc=>?_,λb p=>Cm _ it _ b p,λkey' F=>?_,?_⟩
  ·rw[r]at hc;by_cases g:lab c
   ·rw[if_pos g]at hc;refine .inr ⟨g,λi e=>?_⟩;rw[e]at hc;cases hc
   ·rw[if_neg g]at hc;exact .inl hc
  ·show ((S.cO key _).oD it _).aQ key'=_
   rw[Cj,bK,if_neg (λe:key=key'/\_=>F (e.1▸hkey))]
  ·show ((S.cO key _).oD it _).tmps.length=_
   rw[Bz];rfl
 | part t key=>
  obtain⟨xs,n⟩:=x;have hkey:key∈dJ [it]:=by simp[dJ,I]
  obtain⟨z,A⟩:=hk key hkey;have hone:v.oneCell'=true:=by
   rcases l with ⟨rfl,_⟩ | ⟨b,cap,arr,E,vs,fps,rfl,_⟩<;>rfl
  classical
  obtain⟨G',M,V,B,C,f,D,r⟩:=h.wK key [.part t xs n] (λ_=>v) (λc=>if lab c then some 0 else none) A z (by simp)
   (λc j hc=>by
    by_cases g:lab c
    ·obtain⟨J,K,L,N⟩:=hlab c g;exact⟨J,K,L,λk' j' _ _ _ _ p=>absurd p (N k' j')⟩
    ·rw[if_neg g]at hc;cases hc)
   (λj=>by
    cases j with
    | zero=>
     show iL w G.S t xs n v _
     exact iL.move l (λb p=>⟨if_pos p,rfl⟩) (λ_ _ _ O=>O)
    | succ j=>trivial)
  have P:Inv w0 G' ((S.cO key [.part t xs n]).oD it (.own key 0)) a w:=by
   refine M.oD (v:=v) ?_ ⟨B,(C 0).symm,hone⟩ λb off s Q=>H b off s Q
   cases it with
   | t i s=>exact u
   | b b off s=>show w.cell? ⟨G'.bk b,off,none⟩=_;rw[f];exact u
  refine⟨G',P,f,D,λc y hc=>?_,λb p=>Cm _ it _ b p,λkey' F=>?_,?_⟩
  ·rw[r]at hc;by_cases g:lab c
   ·rw[if_pos g]at hc;refine .inr ⟨g,λi e=>?_⟩;rw[e]at hc;cases hc
   ·rw[if_neg g]at hc;exact .inl hc
  ·show ((S.cO key _).oD it _).aQ key'=_
   rw[Cj,bK,if_neg (λe:key=key'/\_=>F (e.1▸hkey))]
  ·show ((S.cO key _).oD it _).tmps.length=_
   rw[Bz];rfl
 | tree t key=>
  have hkey:key∈dJ [it]:=by simp[dJ,I]
  obtain⟨z,A⟩:=hk key hkey;have hone:v.oneCell'=true:=by
   obtain⟨_,_,q,_⟩:=l;exact q.one
  classical
  obtain⟨G',M,V,B,C,f,D,r⟩:=h.wK key [.tree t x] (λ_=>v) (λc=>if lab c then some 0 else none) A z (by simp)
   (λc j hc=>by
    by_cases g:lab c
    ·obtain⟨J,K,L,N⟩:=hlab c g;exact⟨J,K,L,λk' j' _ _ _ _ p=>absurd p (N k' j')⟩
    ·rw[if_neg g]at hc;cases hc)
   (λj=>by
    cases j with
    | zero=>
     obtain⟨fp,J,K,L⟩:=l;exact⟨fp,λb p=>if_pos (J b p),K,L⟩
    | succ j=>trivial)
  have P:Inv w0 G' ((S.cO key [.tree t x]).oD it (.own key 0)) a w:=by
   refine M.oD (v:=v) ?_ ⟨B,(C 0).symm,hone⟩ λb off s Q=>H b off s Q
   cases it with
   | t i s=>exact u
   | b b off s=>show w.cell? ⟨G'.bk b,off,none⟩=_;rw[f];exact u
  refine⟨G',P,f,D,λc y hc=>?_,λb p=>Cm _ it _ b p,λkey' F=>?_,?_⟩
  ·rw[r]at hc;by_cases g:lab c
   ·rw[if_pos g]at hc;refine .inr ⟨g,λi e=>?_⟩;rw[e]at hc;cases hc
   ·rw[if_neg g]at hc;exact .inl hc
  ·show ((S.cO key _).oD it _).aQ key'=_
   rw[Cj,bK,if_neg (λe:key=key'/\_=>F (e.1▸hkey))]
  ·show ((S.cO key _).oD it _).tmps.length=_
   rw[Bz];rfl
end loops
section loops
variable {w0:Bs} {G:Gh} {S:St} {a:Act} {w:World}
theorem yx(it:It)(r:List It):dJ (it::r)=dJ [it]++dJ r:=by
 simp only[dJ];split<;>rfl
theorem abb{f:Gh}{roks used:List (Nat×Nat)}{q:St}(D:Inv w0 f q a w)(h:Inv w0 G S a w)(r:G.bk=f.bk)(E:∀b o,(f.S b o\/AK f q roks b o)↔G.S b o)
  (hown:∀b k j,G.ow b=some (.own k j)->∃k' j',(k',j')∈used/\f.ow b=some (.own k' j')) (hbox:∀b i,G.ow b=some (.box i)->f.ow b=some (.box i))
  {it:It} {y:it.sr.den} {c:C} (hc:(cAt it).val q=some c) (P:(aam it.sr c).val q=some y) (F:∀t,it.sr=.ro t->∀k j,c=.own k j->(k,j)∈roks)
  (hnew:it.sr.live=true->∀k j,c=.own k j->(k,j)∉used/\(k,j)∉roks) (hk:∀key,key∈dJ [it]->key<S.tmps.length/\S.aQ key=[])
  (H:∀b off s,it=.b b off s->∃cs,S.fK b=some cs) :
  ∃n,Inv w0 n (S.Nw it y) a w/\n.bk=f.bk/\(∀b o,(f.S b o\/AK f q roks b o)↔n.S b o)/\(∀b k j,n.ow b=some (.own k j)->∃k' j',(k',j')∈used++aO [c]/\f.ow b=some (.own k' j')) /\
   (∀b i,n.ow b=some (.box i)->f.ow b=some (.box i))/\(∀b,(∃cs,S.fK b=some cs)->∃cs,(S.Nw it y).fK b=some cs)/\(∀key,key∉dJ [it]->(S.Nw it y).aQ key=S.aQ key)/\(S.Nw it y).tmps.length=S.tmps.length:=by
 obtain⟨v,hv,I⟩:=aii D hc;have J:=ahY D P I (S0:=G.S) roks (λb o u=>(E b o).1 u) F (λk j e p b o u d=>by
  rcases (E b o).2 u with u | ⟨k',j',_,_,_,_,hmem,_,x,_⟩
  ·exact u
  ·rw[d]at x;cases x
   exact absurd hmem (hnew p k j e).2)
 have K:∃lab:Nat->Prop,alp G.S w it y v lab/\∀b,lab b->∃k j,c=.own k j/\f.ow b=some (.own k j)/\it.sr.live=true:=by
  have key:∀(sr:Sr) (z:sr.den),agB G.S w sr z v (λb=>∃k j,c=.own k j/\f.ow b=some (.own k j)) ->
    ∃lab:Nat->Prop,agB G.S w sr z v lab/\∀b,lab b->∃k j,c=.own k j/\f.ow b=some (.own k j)/\sr.live=true:=by
   intro sr z B;cases sr with
   | ro t=>exact⟨λ_=>False,B,λ_ d=>d.elim⟩
   | own t deep m key=>exact⟨_,B,λb ⟨k,j,l,g⟩=>⟨k,j,l,g,rfl⟩⟩
   | part t key=>exact⟨_,B,λb ⟨k,j,l,g⟩=>⟨k,j,l,g,rfl⟩⟩
   | tree t key=>exact⟨_,B,λb ⟨k,j,l,g⟩=>⟨k,j,l,g,rfl⟩⟩
  exact key it.sr y J
 obtain⟨lab,L,hlab⟩:=K;obtain⟨n,Q,R,T,N,U,V,W⟩:=aeI h r hv L (λb d=>by
  obtain⟨k,j,l,g,p⟩:=hlab b d;have A:=D.kY g;refine⟨A.1,A.2,λi hi=>?_,λk' j' hi=>?_⟩
  ·rw[hbox b i hi]at g;cases g
  ·obtain⟨X,Y,M,O⟩:=hown b k' j' hi;rw[g]at O;cases O
   exact (hnew p k j l).1 M) H hk
 refine⟨n,Q,R.trans r,λb o=>by rw[T];exact E b o,λb k j d=>?_,λb i d=>?_,U,V,W⟩
 ·rcases N b _ d with d | ⟨d,_⟩
  ·obtain⟨k',j',M,e⟩:=hown b k j d;exact⟨k',j',amk _ M,e⟩
  ·obtain⟨k',j',l,g,_⟩:=hlab b d;exact⟨k',j',amj _ (by rw[l];simp[aO]),g⟩
 ·rcases N b _ d with d | ⟨_,d⟩
  ·exact hbox b i d
  ·exact absurd rfl (d i)
theorem RH{I:Gh}{roks:List (Nat×Nat)}{K:St}(R:Inv w0 I K a w):∀(l:List It) (x:Its l) (p:List (Nat×Nat)×List (Nat×Nat)) (used:List (Nat×Nat)) {G:Gh} {S:St},Inv w0 G S a w->G.bk=I.bk ->
  (∀b o,(I.S b o\/AK I K roks b o)↔G.S b o)->(∀b k j,G.ow b=some (.own k j)->∃k' j',(k',j')∈used/\I.ow b=some (.own k' j'))->(∀b i,G.ow b=some (.box i)->I.ow b=some (.box i)) ->
  (abp l).val K=some x->(keysOf l).val K=some p->nodupB p.1=true->(∀q,q∈p.1->q∉used/\q∉roks)->(∀q,q∈p.2->q∈roks) ->
  Eb (dJ l)=true->(∀key,key∈dJ l->key<S.tmps.length/\S.aQ key=[])->(∀b off s,It.b b off s∈l->∃cs,S.fK b=some cs) ->
  ∃G',Inv w0 G' (S.aa5 l x) a w/\G'.bk=I.bk
 | [],x,p,used,G,S,h,E,_,_,_,_,_,_,_,_,_,_,_=>⟨G,h,E⟩
 | it::r,x,p,used,G,S,h,E,hS,hown,hbox,T,hp,n,v,A,y,L,M=>by
  simp only[keysOf,Rd.aK,zB]at hp;obtain⟨c,hc,p',U,hp⟩:=hp;have N:∀t,it.sr=.ro t->∀k j,c=.own k j->(k,j)∈roks:=by
   intro t u k j e;rw[u]at hp;simp only[Rd.val,zD]at hp;subst hp;subst e;exact A _ (by simp[aO])
  have hnew:it.sr.live=true->∀k j,c=.own k j->(k,j)∉used/\(k,j)∉roks:=by
   intro hl k j e;cases u:it.sr with
   | ro t=>rw[u]at hl;cases hl
   | own t deep m key=>
    rw[u]at hp;simp only[Rd.val,zD]at hp;subst hp;subst e;exact v _ (by simp[aO])
   | part t key=>
    rw[u]at hp;simp only[Rd.val,zD]at hp;subst hp;subst e;exact v _ (by simp[aO])
   | tree t key=>
    rw[u]at hp;simp only[Rd.val,zD]at hp;subst hp;subst e;exact v _ (by simp[aO])
  have hrest:nodupB p'.1=true/\(∀q,q∈p'.1->q∉used++aO [c]/\q∉roks)/\(∀q,q∈p'.2->q∈roks):=by
   cases u:it.sr with
   | ro t=>
    rw[u]at hp;simp only[Rd.val,zD]at hp;subst hp;refine⟨n,λq f=>⟨λg=>?_,(v q f).2⟩,λq f=>A q (amj _ f)⟩;rcases List.mem_append.1 g with g | g
    ·exact (v q f).1 g
    ·exact (v q f).2 (A q (amk _ g))
   | own t deep m key=>
    rw[u]at hp;simp only[Rd.val,zD]at hp;subst hp;have hcase:nodupB p'.1=true/\∀q,q∈aO [c]->q∉p'.1:=by
     cases c with
     | own k j=>
      have z:nodupB ((k,j)::p'.1)=true:=n;obtain⟨B,C⟩:=gJ z;exact⟨C,λq f=>by simp[aO]at f;rw[f];exact B⟩
     | undef=>exact⟨n,λq f=>by cases f⟩
     | d x=>exact⟨n,λq f=>by cases f⟩
     | nil=>exact⟨n,λq f=>by cases f⟩
     | ptr b off=>exact⟨n,λq f=>by cases f⟩
    refine⟨hcase.1,λq f=>⟨λg=>?_,(v q (amj _ f)).2⟩,A⟩;rcases List.mem_append.1 g with g | g
    ·exact (v q (amj _ f)).1 g
    ·exact hcase.2 q g f
   | part t key=>
    rw[u]at hp;simp only[Rd.val,zD]at hp;subst hp;have hcase:nodupB p'.1=true/\∀q,q∈aO [c]->q∉p'.1:=by
     cases c with
     | own k j=>
      have z:nodupB ((k,j)::p'.1)=true:=n;obtain⟨B,C⟩:=gJ z;exact⟨C,λq f=>by simp[aO]at f;rw[f];exact B⟩
     | undef=>exact⟨n,λq f=>by cases f⟩
     | d x=>exact⟨n,λq f=>by cases f⟩
     | nil=>exact⟨n,λq f=>by cases f⟩
     | ptr b off=>exact⟨n,λq f=>by cases f⟩
    refine⟨hcase.1,λq f=>⟨λg=>?_,(v q (amj _ f)).2⟩,A⟩;rcases List.mem_append.1 g with g | g
    ·exact (v q (amj _ f)).1 g
    ·exact hcase.2 q g f
   | tree t key=>
    rw[u]at hp;simp only[Rd.val,zD]at hp;subst hp;have hcase:nodupB p'.1=true/\∀q,q∈aO [c]->q∉p'.1:=by
     cases c with
     | own k j=>
      have z:nodupB ((k,j)::p'.1)=true:=n;obtain⟨B,C⟩:=gJ z;exact⟨C,λq f=>by simp[aO]at f;rw[f];exact B⟩
     | undef=>exact⟨n,λq f=>by cases f⟩
     | d x=>exact⟨n,λq f=>by cases f⟩
     | nil=>exact⟨n,λq f=>by cases f⟩
     | ptr b off=>exact⟨n,λq f=>by cases f⟩
    refine⟨hcase.1,λq f=>⟨λg=>?_,(v q (amj _ f)).2⟩,A⟩;rcases List.mem_append.1 g with g | g
    ·exact (v q (amj _ f)).1 g
    ·exact hcase.2 q g f
  have O:∀key,key∈dJ [it]->key<S.tmps.length/\S.aQ key=[]:=λkey g=>L key (by rw[yx];exact amk _ g)
  have F:∀b off s,it=.b b off s->∃cs,S.fK b=some cs:=λb off s e=>M b off s (e▸aw)
  cases r with
  | nil=>
   have P:(afU it).val K=some x:=T;simp only[afU,Rd.aK,zB]at P;obtain⟨c',D,V⟩:=P;rw[hc]at D;cases D
   obtain⟨G2,W,X,_⟩:=abb R h E hS hown hbox hc V N hnew O F;exact⟨G2,W,X⟩
  | cons J r=>
   simp only[abp,Rd.aK,zB,Rd.val,zD]at T;obtain⟨x1,Q,x2,Y,rfl⟩:=T;simp only[afU,Rd.aK,zB]at Q;obtain⟨c',D,V⟩:=Q;rw[hc]at D;cases D
   obtain⟨G2,W,X,q3,q4,q5,q6,q7,q8⟩:=abb R h E hS hown hbox hc V N hnew O F;have H:Eb (dJ (J::r))=true/\∀key,key∈dJ [it]->key∉dJ (J::r):=by
    rw[yx]at y;cases u:it.sr with
    | ro t=>
     have:dJ [it]=[]:=by simp[dJ,u]
     rw[this]at y ⊢;exact⟨y,λkey g=>by cases g⟩
    | own t deep m key=>
     have:dJ [it]=[key]:=by simp[dJ,u]
     rw[this]at y ⊢;obtain⟨B,C⟩:=Au y;exact⟨C,λkey' g=>by simp at g;rw[g];exact B⟩
    | part t key=>
     have:dJ [it]=[key]:=by simp[dJ,u]
     rw[this]at y ⊢;obtain⟨B,C⟩:=Au y;exact⟨C,λkey' g=>by simp at g;rw[g];exact B⟩
    | tree t key=>
     have:dJ [it]=[key]:=by simp[dJ,u]
     rw[this]at y ⊢;obtain⟨B,C⟩:=Au y;exact⟨C,λkey' g=>by simp at g;rw[g];exact B⟩
   refine RH R (J::r) x2 p' (used++aO [c]) W X q3 q4 q5 Y U hrest.1 hrest.2.1 hrest.2.2 H.1 (λkey g=>?_) λb off s g=>q6 b (M b off s (ar _ g))
   have Z:key∉dJ [it]:=λhm'=>H.2 key hm' g
   have:=L key (by rw[yx];exact amj _ g);rw[q7 key Z,q8];exact this
theorem Tj:∀ {l:List (Nat×Nat×Nat)} {u:Unit},(abC l).val S=some u->∀i b off,(i,b,off)∈l->∃k j cs,S.je i=.v (.one (.own k j))/\S.fK b=some cs/\cs[off]?=some (.own k j)
 | [],_,_,i,b,off,a=>(by cases a)
 | (i',b',off')::r,u,h,i,b,off,a=>by
  simp only[abC,Rd.val]at h;split at h
  case h_2=>cases h
  rename_i k j c;simp only[Rd.val]at h;split at h
  case h_2=>cases h
  rename_i cs d;split at h
  case h_2=>cases h
  rename_i k' j' f;split at h
  case isFalse=>cases h
  rename_i g;obtain⟨rfl,rfl⟩:=g;rcases bh.1 a with e | a
  ·cases e;exact⟨k,j,cs,c,d,f⟩
  ·exact Tj h i b off a
theorem yh{G':Gh}:∀ {l:List (Nat×Nat×Nat)} {S':St},Inv w0 G' S' a w ->
  (∀i b off,(i,b,off)∈l->∃(vs:List Value) (E:TypeId),w.heap[G'.bk b]?=some (.cells vs.toArray E (0,0))/\vs[off]?=some (a.tmps.getD i undef))->Inv w0 G' (S'.Iz l) a w
 | [],S',h,_=>h
 | (i,b,off)::r,S',h,hv=>by
  have d:=λi' b' off' f=>hv i' b' off' (ar _ f)
  unfold St.Iz;split
  ·rename_i cs g;split
   ·rename_i k j m;refine yh (h.L8 i ?_) d;obtain⟨vs,E,n,o⟩:=hv i b off aw;obtain⟨_,vs',E',c,p⟩:=h.box b cs g;rw[n]at c;have e:vs=vs':=by
     injection c with c;injection c with c _ _;simpa using congrArg Array.toList c
    subst e;obtain⟨_,q⟩:=p.get;exact q off _ _ m o
   ·exact yh h d
  ·exact yh h d
theorem Td:∀ {l:List (Nat×Nat×Nat×Nat)} {u:Unit},(aby l).val S=some u->∀b' off' b off,(b',off',b,off)∈l->∃k j cs' cs,S.fK b'=some cs'/\S.fK b=some cs/\cs'[off']?=some (.own k j)/\cs[off]?=some (.own k j)
 | [],_,_,b',off',b,off,a=>(by cases a)
 | (b1',off1',m,off1)::r,u,h,b',off',b,off,a=>by
  simp only[aby,Rd.val]at h;split at h
  case h_2=>cases h
  rename_i cs' c;simp only[Rd.val]at h;split at h
  case h_2=>cases h
  rename_i cs f;split at h
  case h_2=>cases h
  rename_i k' j' k j d g;split at h
  case isFalse=>cases h
  rename_i i;obtain⟨rfl,rfl⟩:=i;rcases bh.1 a with e | a
  ·cases e;exact⟨k,j,cs',cs,c,f,d,g⟩
  ·exact Td h b' off' b off a
theorem yg{G':Gh}:∀ {l:List (Nat×Nat×Nat×Nat)} {S':St},Inv w0 G' S' a w ->
  (∀b' off' b off,(b',off',b,off)∈l->∃v,w.cell? ⟨G'.bk b',off',none⟩=some v/\w.cell? ⟨G'.bk b,off,none⟩=some v)->Inv w0 G' (S'.Iy l) a w
 | [],S',h,_=>h
 | (b',off',b,off)::r,S',h,hv=>by
  have c:=λf g i o2 m=>hv f g i o2 (ar _ m)
  unfold St.Iy;split
  ·rename_i cs' cs d n;split
   ·rename_i k j o;obtain⟨v,p,e⟩:=hv b' off' b off aw;obtain⟨_,vs,E,q,s⟩:=h.box b cs n;obtain⟨u,t⟩:=s.get;rw[cell_of_row _ _ _ _ _ _ q]at e;exact yg (h.Wp b' off' d p (t off _ v o (by simpa using e))) c
   ·exact yg h c
  ·exact yg h c
theorem Rj:∀ {l:List (Nat×Nat)} {u:Unit},(aaL l).val S=some u->∀i i',(i,i')∈l->∃k j,S.je i=.v (.one (.own k j))/\S.je i'=.v (.one (.own k j))
 | [],_,_,i,i',a=>(by cases a)
 | (f,i1')::r,u,h,i,i',a=>by
  simp only[aaL,Rd.val]at h;split at h
  case h_2=>cases h
  rename_i k j c;simp only[Rd.val]at h;split at h
  case h_2=>cases h
  rename_i k' j' b;split at h
  case isFalse=>cases h
  rename_i d;obtain⟨rfl,rfl⟩:=d;rcases bh.1 a with e | a
  ·cases e;exact⟨k,j,c,b⟩
  ·exact Rj h i i' a
theorem DX{G':Gh}:∀ {l:List (Nat×Nat)} {S':St},Inv w0 G' S' a w ->
  (∀i i',(i,i')∈l->a.tmps.getD i undef=a.tmps.getD i' undef)->Inv w0 G' (S'.Nv l) a w
 | [],S',h,_=>h
 | (i,i')::r,S',h,hv=>by
  have b:=λx y c=>hv x y (ar _ c)
  unfold St.Nv;split
  ·rename_i k j d;refine DX (h.L8 i ?_) b;rw[hv i i' aw,<- d];exact h.je i'
  ·exact DX h b
theorem Og(h:Inv w0 G S a w){la:LA}{x:Its la.its}(e:la.get.val S=some x):∃G',Inv w0 G' (la.put x) a w:=by
 simp only[LA.get,Rd.val]at e;split at e
 case isFalse=>cases e
 rename_i m;obtain⟨T,B,C,D,F⟩:=m;simp only[Rd.aK,zB]at e;obtain⟨u,U,u',hp,ua,H,ub,I,uc,J,p,hk,e⟩:=e;split at e
 case isFalse=>cases e
 rename_i hc;rw[zI]at hc;obtain⟨G0,V,K,L,W,X⟩:=agu h T U hp D p.2;suffices Y:∃G',Inv w0 G' (la.base.aa5 la.its x) a w/\G'.bk=G.bk by
  obtain⟨G',Z,g⟩:=Y;refine⟨G',DX (yg (yh Z λi b off c=>?_) λb' off' b off c=>?_) λi i' c=>?_⟩
  case refine_3=>
   obtain⟨k,j,o,r⟩:=Rj J i i' c
   have r1:ja G w (.v (.one (.own k j))) (a.tmps.getD i undef):=by rw[<- o];exact h.je i
   have r2:ja G w (.v (.one (.own k j))) (a.tmps.getD i' undef):=by rw[<- r];exact h.je i'
   exact r1.2.1.trans r2.2.1.symm
  case refine_2=>
   obtain⟨k,j,cs',cs,o,r,t,A⟩:=Td I b' off' b off c
   obtain⟨_,vs',E',q1,q2⟩:=h.box b' cs' o
   obtain⟨_,vs,E,q3,q4⟩:=h.box b cs r
   obtain⟨M,N⟩:=q2.get
   obtain⟨l,m⟩:=q4.get
   have f:off'<vs'.length:=by rw[<- M];exact (zC.1 t).1
   have d:off<vs.length:=by rw[<- l];exact (zC.1 A).1
   have K:=N off' _ _ t (zF f)
   have L:=m off _ _ A (zF d)
   refine⟨G.ov k j,?_,?_⟩
   ·rw[g,cell_of_row _ _ _ _ _ _ q1,List.getElem?_toArray,zF f,K.2.1]
   ·rw[g,cell_of_row _ _ _ _ _ _ q3,List.getElem?_toArray,zF d,L.2.1]
  obtain⟨k,j,cs,o,r,t⟩:=Tj H i b off c;obtain⟨_,vs,E,A,k5⟩:=h.box b cs r;refine⟨vs,E,by rw[g];exact A,?_⟩;have hr:ja G w (.v (.one (.own k j))) (a.tmps.getD i undef):=by rw[<- o];exact h.je i
  obtain⟨l,m⟩:=k5.get;have d:off<vs.length:=by rw[<- l];exact (zC.1 t).1
  have:=m off _ _ t (zF d);rw[zF d,this.2.1,<- hr.2.1]
 refine RH h la.its x p [] V K L (λb k j hh=>absurd hh (W b k j)) X e hk hc.1 (λq O=>⟨by simp,λc=>?_⟩) (λq O=>O) B (λkey c=>?_) λb off s c=>?_
 ·have:=List.all_eq_true.1 hc.2 q O;simp only[Bool.not_eq_true',List.any_eq_false,zI,beq_iff_eq,not_and]at this;exact this q c rfl rfl
 ·have:=List.all_eq_true.1 C key c;rw[(Yw la).1];exact⟨by simpa using this,Tf la key⟩
 ·have:=List.all_eq_true.1 F _ c;simp only at this;obtain⟨⟨b',n⟩,y,z⟩:=List.any_eq_true.1 this;simp at z;subst z;obtain⟨cs,P,_⟩:=uN U b' n y;have Q:b'<la.n:=by
   have:b'<S.boxes.length:=by
    rcases Nat.lt_or_ge b' S.boxes.length with l | l
    ·exact l
    ·simp[St.fK,zE,zJ l]at P
   rw[h.bsz,T]at this;exact this
  rcases Jf la b' with ⟨_,R⟩ | ⟨q,_,_,R⟩
  ·exact absurd rfl (R Q _ y)
  ·exact⟨_,R⟩
end loops
theorem IL{X ρ:Type}{f:X->Option (X⊕ρ)}:∀ {n:Nat} {x:X} {r:ρ},iter f n x=some r->∀ {m:Nat} {r':ρ},iter f m x=some r'->r=r'
 | 0,x,r,h,_,_,_=>by cases h
 | n+1,x,r,h,0,r',a=>by cases a
 | n+1,x,r,h,m+1,r',a=>by
  simp only[iter]at h a;split at h
  ·cases h
  ·rename_i y b;rw[b]at a;exact IL h a
  ·rename_i c b;rw[b]at a;simp only[zD]at h a;rw[<- h,<- a]
theorem yB{X ρ:Type}{f:X->Option (X⊕ρ)}{x:X}{r:ρ}(h:aN f x=some r):∃n,iter f n x=some r:=by
 unfold aN at h;split at h
 ·rename_i hh;simp only[zD]at h;have:=hh.choose_spec.choose_spec;rw[h]at this;exact⟨_,this⟩
 ·cases h
theorem aX{X ρ:Type}(f:X->Option (X⊕ρ))(x:X):aN f x=match f x with
  | none=>none
  | some (.inl y)=>aN f y
  | some (.inr r)=>some r:=by
 have up:∀ {y:X} {r:ρ} {n:Nat},iter f n y=some r->aN f y=some r:=by
  intro y r n a;have hh:∃n r,iter f n y=some r:=⟨n,r,a⟩;unfold aN;rw[dif_pos hh];exact congrArg some (IL hh.choose_spec.choose_spec a)
 have none_of:∀ {y:X},(∀n r,iter f n y≠some r)->aN f y=none:=by
  intro y c;unfold aN;rw[dif_neg];rintro⟨n,r,h⟩;exact c n r h
 split
 ·rename_i hf;refine none_of λn r a=>?_
  cases n with
  | zero=>cases a
  | succ n=>simp only[iter,hf]at a;cases a
 ·rename_i y hf;cases b:aN f y with
  | some r=>
   obtain⟨n,a⟩:=yB b;exact up (n:=n+1) (by simp only[iter,hf];exact a)
  | none=>
   refine none_of λn r a=>?_
   cases n with
   | zero=>cases a
   | succ n=>
    simp only[iter,hf]at a;rw[up a]at b;cases b
 ·rename_i r hf;exact up (n:=1) (by simp only[iter,hf])
def Ex.up:Ex->Exit
 | .normal=>.normal
 | .exit id=>.exit id
 | .ret=>.ret
section code
variable {P:Program} {w0:Bs} {E:Env} {an:List (Nat×LA)}
theorem ZM{c:Code}{ρ:Type}{r:ρ}{la:LA}{f:Its la.its->Option (Its la.its⊕ρ)}{B:Nat}{l:Its la.its}(o:iter f B l=some r){C:Gh}{a:Act}{w:World}(K:Inv w0 C (la.put l) a w)
  {k:Ex->St->Option ρ} {Q:Exit->Act->World->Prop}
  (hround:∀(x:Its la.its) (res:Its la.its⊕ρ) (a:Act) (w:World) (G:Gh),f x=some res->Inv w0 G (la.put x) a w->∀Q':Exit->Act->World->Prop,(∀y a' w' G',res=.inl y->Inv w0 G' (la.put y) a' w'->Q' .normal a' w') ->
   (∀(r:ρ) (e:Ex) S' a' w' G',res=.inr r->e≠.normal->k e S'=some r->Inv w0 G' S' a' w'->Q' e.up a' w')->c.wp P Q' a w)
  (D:∀e S' a' w' G',k e S'=some r->Inv w0 G' S' a' w'->Q e.up a' w'):(Code.loop c).wp P Q a w:=by
 let J:Nat->Act->World->Prop:=λn a w=>∃(x:Its la.its) (G:Gh),iter f n x=some r/\Inv w0 G (la.put x) a w
 classical
 have least:∀ {a:Act} {w:World},(∃n,J n a w)->∃n,J n a w/\∀m,J m a w->n<=m:=by
  intro a w ⟨n,p⟩;have key:∀n,J n a w->∃n,J n a w/\∀m,J m a w->n<=m:=by
   intro n;induction n using Nat.strongRecOn with
   | _ n ih=>
    intro p;by_cases j:∃m,m<n/\J m a w
    ·obtain⟨m,q,d⟩:=j;exact ih m q d
    ·refine⟨n,p,λm d=>?_⟩;rcases Nat.lt_or_ge m n with s | s
     ·exact absurd ⟨m,s,d⟩ j
     ·exact s
  exact key n p
 refine wp_loop (λa w=>∃n,J n a w) (λa w=>if hh:∃n,J n a w then (least hh).choose else 0) ⟨B,l,C,o,K⟩ ?_;intro E w1 t;obtain⟨F,hmin⟩:=(least t).choose_spec;rw[dif_pos t];generalize (least t).choose=n at F hmin;obtain⟨x,H,b,I⟩:=F;cases n with
 | zero=>cases b
 | succ n=>
  simp only[iter]at b;split at b
  ·cases b
  ·rename_i y u;refine hround x _ E w1 H u I _ (λz a' w' G' v i=>?_) (λr' e S' a' w' G' g _ _ _=>by cases g);cases v
   have h:∃n,J n a' w':=⟨n,y,G',b,i⟩;show (∃n,J n a' w')/\_
   refine⟨h,?_⟩;rw[dif_pos h];have:=(least h).choose_spec.2 n ⟨y,G',b,i⟩;omega
  ·rename_i L u;simp only[zD]at b;subst b;refine hround x _ E w1 H u I _ (λz a' w' G' v i=>by cases v) (λr' e S' a' w' G' g A hk i=>?_);cases g
   cases e with
   | normal=>exact absurd rfl A
   | exit id=>exact D (.exit id) S' a' w' G' hk i
   | ret=>exact D .ret S' a' w' G' hk i
theorem nX.split{w:World}{S:Nat->Nat->Prop}{dp:Bool}{t:Ty}{xs:List t.den}{cells:List Value}{lab:Nat->Prop}(h:nX w S dp t xs cells lab){m:Nat}(o:m<=xs.length) :
  ∃lab1 lab2:Nat->Prop,(∀c,lab1 c->lab c)/\(∀c,lab2 c->lab c)/\(∀c,lab1 c->lab2 c->False)/\nX w S dp t (xs.take m) (cells.take (m*t.size)) lab1/\nX w S dp t (xs.drop m) (cells.drop (m*t.size)) lab2:=by
 obtain⟨p,q,vs,fps,r,s,k⟩:=h;refine⟨λc=>∃i j,i<m/\fps i j c,λc=>∃i j,m<=i/\fps i j c,λc ⟨i,j,_,hc⟩=>s i j c hc,λc ⟨i,j,_,hc⟩=>s i j c hc,λc ⟨i,j,hi,hc⟩ ⟨i',j',u,a⟩=>?_,?_,?_⟩
 ·have:=(k i j i' j' c hc a).1;omega
 ·refine⟨?_,λv hv=>q v (List.mem_of_mem_take hv),vs,λi j c=>i<m/\fps i j c,λi x j d b g=>?_,λi j c hc=>⟨i,j,hc⟩,λi j i' j' c hc a=>k i j i' j' c hc.2 a.2⟩
  ·rw[bc,bc,p,Nat.min_eq_left o,Nat.min_eq_left (Nat.mul_le_mul_right _ o)]
  ·rw[amo]at b;split at b
   case isFalse=>cases b
   rename_i f;obtain⟨l,n⟩:=r i x j d b g;have y:j<t.size:=by rw[<- Ty.bn t x];exact (zC.1 g).1
   refine⟨?_,n.sub (λc hc=>⟨f,hc⟩) λe=>e⟩;rw[amo,if_pos (AL f y)];exact l
 ·refine⟨?_,λv hv=>q v (List.mem_of_mem_drop hv),λi j=>vs (m+i) j,λi j=>fps (m+i) j,λi x j d b g=>?_,λi j c hc=>⟨m+i,j,by omega,hc⟩,λi j i' j' c hc a=>?_⟩
  ·rw[amx,amx,p,Nat.sub_mul]
  ·rw[amn]at b;obtain⟨l,n⟩:=r _ x j d b g;refine⟨?_,n⟩;rw[amn,<- Nat.add_assoc,<- Nat.add_mul];exact l
  ·have:=k _ _ _ _ c hc a;exact⟨by omega,this.2⟩
theorem Px{G:Gh}{S:St}{a:Act}{w:World}{ρ:Type}{E:Env}{id:Nat}{k:St->Option ρ}{r:ρ}(hv:alh E id S k=some r)(h:Inv w0 G S a w):∃S' G',Inv w0 G' S' a w/\k S'=some r:=⟨S,G,h,hv⟩
theorem iD(m:oP P E w0)(n:P.follows .mixedOrders=true):∀(c:Code) {ρ:Type} {r:ρ} {S:St} {a:Act} {w:World} {G:Gh} {k:Ex->St->Option ρ} {Q:Exit->Act->World->Prop},
  den E an c S k=some r->Inv w0 G S a w->(∀e S' a' w' G',k e S'=some r->Inv w0 G' S' a' w'->Q e.up a' w')->c.wp P Q a w
 | .skip,ρ,r,S,a,w,G,k,Q,hv,h,b=>wp_skip (b .normal S a w G hv h)
 | .label l,ρ,r,S,a,w,G,k,Q,hv,h,b=>wp_label (b .normal S a w G hv h)
 | .region id ops false,ρ,r,S,a,w,G,k,Q,hv,h,b=>by
  obtain⟨K,H,p,g⟩:=Px (k:=λS=>akJ E ops ops.toList S λS=>k .normal S) hv h;refine wp_region ?_;have:=ZB (P:=P) (w0:=w0) (E:=E) (ops:=ops) (Q:=Q) m (k:=λS=>k .normal S) (λS' a' w' G' hk f=>b .normal S' a' w' G' hk f) (l:=ops.toList) (i:=0) (by simp) g p;rw[List.range_eq_range'];simpa using this
 | .region id ops true,ρ,r,S,a,w,G,k,Q,hv,h,b=>by
  obtain⟨K,H,p,g⟩:=Px (k:=λS=>acK E ops id S λS=>k .normal S) hv h;exact aaq m n (k:=λS=>k .normal S) g p λS' a' w' G' hk f=>b .normal S' a' w' G' hk f
 | .seq x y,ρ,r,S,a,w,G,k,Q,hv,h,b=>by
  simp only[den]at hv;split at hv
  ·refine wp_seq (iD m n x (Q:=Exit.then (y.wp P Q) Q) hv h λe S' a' w' G' hk f=>?_);cases e with
   | normal=>exact iD m n y hk f b
   | exit id=>exact b (.exit id) S' a' w' G' hk f
   | ret=>exact b .ret S' a' w' G' hk f
  ·rename_i la u;unfold jL at hv;rw[zB]at hv;obtain⟨j,L,hf⟩:=hv;refine wp_seq (iD m n x (Q:=Exit.then (y.wp P Q) Q) L h λe S' a' w' G' hk f=>?_);cases e with
   | normal=>
    simp only at hk;rw[Rd.ku,zB]at hk;obtain⟨z,v,hk⟩:=hk;cases hk
    obtain⟨I,A⟩:=Og f v;exact iD m n y hf A b
   | exit id=>
    simp only at hk;rw[zB]at hk;obtain⟨r',hk,d⟩:=hk;cases d
    cases hf
    exact b (.exit id) S' a' w' G' hk f
   | ret=>
    simp only at hk;rw[zB]at hk;obtain⟨r',hk,d⟩:=hk;cases d
    cases hf
    exact b .ret S' a' w' G' hk f
 | .cond c x y,ρ,r,S,a,w,G,k,Q,hv,h,b=>by
  simp only[den]at hv;split at hv
  ·rename_i t;have g:=SA hv;have q:=h.je t;split at g
   ·rename_i B;rw[B]at q;have d:Rep w G.S (.bool true) (a.eval (.tmp t)):=q;generalize o:a.eval (.tmp t)=vv at d;cases d
    exact wp_cond_true o (iD m n x g h b)
   ·rename_i B;rw[B]at q;have d:Rep w G.S (.bool false) (a.eval (.tmp t)):=q;generalize o:a.eval (.tmp t)=vv at d;cases d
    exact wp_cond_false o (iD m n y g h b)
   ·cases g
  ·cases hv
 | .block id c,ρ,r,S,a,w,G,k,Q,hv,h,b=>by
  refine wp_block (iD m n c (Q:=Exit.inBlock id Q) hv h λe S' a' w' G' hk f=>?_);cases e with
  | normal=>exact b .normal S' a' w' G' hk f
  | exit i=>
   simp only at hk;show (if i=id then Q .normal a' w' else Q (.exit i) a' w')
   by_cases hi:i=id
   ·rw[if_pos hi]at hk ⊢;exact b .normal S' a' w' G' hk f
   ·rw[if_neg hi]at hk ⊢;exact b (.exit i) S' a' w' G' hk f
  | ret=>exact b .ret S' a' w' G' hk f
 | .loop c,ρ,r,S,a,w,G,k,Q,hv,h,b=>by
  simp only[den]at hv;split at hv
  ·cases hv
  rename_i la u;rw[Rd.ku,zB]at hv;obtain⟨R,C,M⟩:=hv;obtain⟨T,D⟩:=yB M;obtain⟨U,N⟩:=Og h C;refine ZM D N (λx res V w1 H F p Q' O J=>iD m n c F p λe S' a' w' G' hk f=>?_) (λe S' a' w' G' hk f=>b e S' a' w' G' hk f);cases e with
  | normal=>
   simp only at hk;rw[Rd.ku,zB]at hk;obtain⟨z,v,hk⟩:=hk;obtain⟨I,A⟩:=Og f v;exact O z a' w' I (a7 hk).symm A
  | exit id=>
   simp only at hk;rw[zB]at hk;obtain⟨r',hk,d⟩:=hk;exact J r' (.exit id) S' a' w' G' (a7 d).symm (by simp) hk f
  | ret=>
   simp only at hk;rw[zB]at hk;obtain⟨r',hk,d⟩:=hk;exact J r' .ret S' a' w' G' (a7 d).symm (by simp) hk f
 | .exit id,ρ,r,S,a,w,G,k,Q,hv,h,b=>wp_exit (b (.exit id) S a w G hv h)
 | .ret,ρ,r,S,a,w,G,k,Q,hv,h,b=>wp_ret (b .ret S a w G hv h)
 | .scope c,ρ,r,S,a,w,G,k,Q,hv,h,b=>by cases hv
 | .goto l,ρ,r,S,a,w,G,k,Q,hv,h,b=>by cases hv
 | .rangeFunc ..,ρ,r,S,a,w,G,k,Q,hv,h,b=>by cases hv
 | .refuse s,ρ,r,S,a,w,G,k,Q,hv,h,b=>by cases hv
end code
section functions
variable {P:Program}
theorem Yf{G:Gh}{w:World}{n:Nat}{s:Sh}{x:s.t.den}{u:Value}(h:ShR (λ_ d u=>Rep w G.S d u) n s x u):tN G w (ade s x) u:=by
 have key:∀ {n:Nat} {ds:List D} {vs:List Value},aV (λ_ d u=>Rep w G.S d u) n ds vs->dh G w (ds.map .d) vs:=by
  intro n ds;induction ds generalizing n with
  | nil=>intro vs h;cases vs with
   | nil=>trivial
   | cons=>exact h.elim
  | cons d ds ih=>intro vs h;cases vs with
   | nil=>exact h.elim
   | cons v vs=>exact⟨h.1,ih h.2⟩
 unfold ShR at h;unfold ade;split at h
 ·rename_i a;obtain⟨vs,rfl,hc⟩:=h;rw[a];exact⟨vs,rfl,key hc⟩
 ·rename_i a;rw[a];have hc:=key h;match b:(s.t.cells x).map C.d,hc with
  | [c],hc=>exact hc.1
theorem qW{G:Gh}{w:World}:∀ {n:Nat} {ss:List Sh} {x:Tup ss} {us:List Value},jI (λ_ d u=>Rep w G.S d u) n ss x us->kE G w (xw ss x) us
 | n,[],x,[],_=>trivial
 | n,[s],x,[u],h=>⟨Yf h,trivial⟩
 | n,s::s'::r,(x,y),u::us,h=>⟨Yf h.1,qW h.2⟩
end functions
section functions
variable {P:Program}
theorem Ox{w:World}{S0:Nat->Nat->Prop}(h:∀b o,S0 b o->b<w.heap.size){n:Nat}{vs:List V}{us:List Value}(hv:∀G:Gh,G.S=S0->kE G w vs us) :
  ∃G,Inv ⟨w,S0,λ_=>False,none⟩ G (yE n vs) { tmps:=us.toArray++Array.replicate (n-us.toArray.size) undef,defers:=[] } w:=by
 let G:Gh:={ bk:=λ_=>0,ov:=λ_ _=>undef,ow:=λ_=>none,S:=S0,lk:=λ_=>False,lb:=λ_=>False };obtain⟨l,m⟩:=(hv G rfl).get;have f:∀i,(yE n vs).fK i=none:=by
  intro i;show (List.replicate _ (none:Option (List C))).getD i none=none
  rw[zE,List.getElem?_replicate];split<;>rfl
 have g:∀i,(yE n vs).aQ i=[]:=by
  intro i;show (List.replicate _ ([]:List O)).getD i []=[]
  rw[zE,List.getElem?_replicate];split<;>rfl
 refine⟨G,⟨jJ.refl _ _ _,rfl,?_,?_,?_,?_,(λb x p=>(by cases p)),(λb o d=>⟨h b o d,λi hi=>(by cases hi)⟩),?_,?_,(λk hk=>hk.elim),(λi hi=>hi.elim),(λb o d _=>.inl d),(λb o d=>⟨d,rfl⟩),(λb y q=>by cases q)⟩⟩
 ·simp[yE,l]
 ·simp[yE]
 ·simp[yE]
 ·intro i v a;simp only[Array.getElem?_append,List.size_toArray,List.getElem?_toArray]at a;show ja G w ((vs.map AV.v++List.replicate _ AV.undef).getD i .undef) v
  rw[zE,List.getElem?_append];by_cases hi:i<us.length
  ·rw[if_pos hi]at a;have c:i<vs.length:=by omega
   rw[if_pos (by simpa using c),amh,zF c];exact m i vs[i] v (by simp[c]) a
  ·rw[if_neg (by simp;omega),List.getElem?_replicate];split<;>trivial
 ·intro i cs e;rw[f]at e;cases e
 ·intro k j;rw[g];trivial
def xX(tmps:Array Value):ResultVar->Sem Value
 | .tmp t=>pure (tmps.getD t undef)
 | .cell p t=>do loadVar t (<- asAddr (tmps.getD p undef))
theorem aeB{w0:Bs}{E:Env}(r:E.tt.ok P=true){G:Gh}{S:St}{a:Act}{w:World}(h:Inv w0 G S a w){rv:ResultVar}{x:V}(c:(resV E rv).val S=some x) :
  ∃v,(xX a.tmps rv).run P w=.ok v w/\tN G w x v:=by
 cases rv with
 | tmp t=>
  simp only[resV,Rd.val]at c;exact⟨_,rfl,yQ c (h.je t)⟩
 | cell p t=>
  simp only[resV]at c;split at c
  ·cases c
  ·rename_i agg n s;obtain⟨d,i,m,hi,u,o⟩:=TT.zy r s;have q:=h.je p;change Rd.val (match S.je p with
   | .v (.one (.ptr b off))=>.gB b λ
    | some cs=>.opt (mkV agg (seg cs off n)) λv=>if (seg cs off n).length=n then .ret v else .fail
    | none=>.fail
   | _=>.fail) S=some x at c
   split at c
   ·rename_i b off z;rw[z]at q;have f:a.tmps.getD p undef=.pointer (some ⟨G.bk b,off,none⟩):=q.2;change Rd.val (match S.fK b with
     | some cs=>.opt (mkV agg (seg cs off n)) λv=>if (seg cs off n).length=n then .ret v else .fail
     | none=>.fail) S=some x at c
    split at c
    ·rename_i cs g;simp only[Rd.val,zB]at c;obtain⟨y,A,c⟩:=c;split at c
     ·rename_i D;simp only[Rd.val,zD]at c;subst c;obtain⟨_,vs,e,hh,hc⟩:=h.box b cs g;obtain⟨B,C⟩:=Ve A (hc.seg off n);have hlen:=(hc.seg off n).length;have hcell:∀(j:Nat) (v:Value),(seg vs off n)[j]?=some v->w.cell? ⟨G.bk b,off+j,none⟩=some v:=λj v hv=>by
       rw[cell_of_row w _ _ _ _ _ hh];simp only[Abs.seg,amo,amn]at hv;split at hv
       ·simpa using hv
       ·cases hv
      cases agg with
      | true=>
       have:=yY (P:=P) (w:=w) t (G.bk b) off d i m hi o (seg vs off n) (by omega) hcell;exact⟨_,by simp only[xX,f,asAddr,Sem.run_bind,Sem.run_pure,Result.andThen_ok,this],B rfl⟩
      | false=>
       obtain⟨v,k,l⟩:=C rfl;have:=qg (P:=P) (w:=w) t (G.bk b) off d m o v (by have:=hcell 0 v (by rw[k];rfl);simpa using this);exact⟨_,by simp only[xX,f,asAddr,Sem.run_bind,Sem.run_pure,Result.andThen_ok,this],l⟩
     ·cases c
    ·cases c
   ·cases c
theorem pK{w0:Bs}{E:Env}(c:E.tt.ok P=true){G:Gh}{S:St}{a:Act}{w:World}(h:Inv w0 G S a w):∀ {rvs:List ResultVar} {xs:List V},(Ak E rvs).val S=some xs ->
  ∃us,(rvs.mapM (xX a.tmps)).run P w=.ok us w/\kE G w xs us
 | [],xs,b=>by
  simp only[Ak,Rd.val,zD]at b;subst b;exact⟨[],rfl,trivial⟩
 | rv::r,xs,b=>by
  simp only[Ak,Rd.aK,zB,Rd.val,zD]at b;obtain⟨x,d,xs',e,rfl⟩:=b;obtain⟨v,f,g⟩:=aeB c h d;obtain⟨us,i,j⟩:=pK c h e;refine⟨v::us,?_,g,j⟩;simp only[List.mapM_cons,Sem.run_bind,f,Result.andThen_ok,i,Sem.run_pure]
theorem SY{w0:Bs}{G:Gh}{S:St}{a:Act}{w:World}(h:Inv w0 G S a w){all:List C}(hall:(vK all).val S=some true):∀ {tys:List (Option Ty)} {cs:List C} {ds:List D} {vs:List Value} {n:Nat} {pre post:List C},(cDs tys cs).val S=some ds ->
  tys.length=cs.length->dh G w cs vs->all=pre++cs++post->pre.length=n->aV (λi d v=>Ow w (λ_ _=>False) true d v (λb=>∃c,all[i]?=some c/\rowsOf G S c b)) n ds vs
 | [],[],ds,[],n,pre,post,f,_,_,_,_=>by
  simp only[cDs,Rd.val,zD]at f;subst f;trivial
 | ty::tys,c::cs,ds,v::vs,n,pre,post,f,q,hc,p,hp=>by
  simp only[cDs,Rd.aK,zB,Rd.val,zD]at f;obtain⟨d,r,ds',s,rfl⟩:=f;have g:all[n]?=some c:=by
   rw[p,ba,amD (by omega),hp];simp
  obtain⟨b,l,m⟩:=yO hall n c g;have t:=VO h r hc.1 l m (S':=λb o=>G.S b o\/AK G S (aO all) b o) (keys:=aO all) (λ_ _ hh=>hh) (λk j e=>fE (e▸zG g));exact⟨(t.anyS rfl).sub (λb u=>⟨c,g,u⟩) id,SY h hall (pre:=pre++[c]) (post:=post) s (by simpa using q) hc.2 (by rw[p];simp) (by simp[hp])⟩
theorem adF{w0:Bs}{G:Gh}{S:St}{a:Act}{w:World}(h:Inv w0 G S a w){all:List C}(hall:(vK all).val S=some true){s:Sh}{x:V}{y:s.t.den}{v:Value}{n:Nat}{pre post:List C}(e:(vT s x).val S=some y)(m:tN G w x v)
  (o:all=pre++x.cells++post) (hp:pre.length=n):ShR (λi d v=>Ow w (λ_ _=>False) true d v (λb=>∃c,all[i]?=some c/\rowsOf G S c b)) n s y v/\x.cells.length=s.t.size:=by
 simp only[vT]at e;split at e
 ·rename_i f;simp only[Rd.aK,zB,Rd.val]at e;obtain⟨ds,p,z,q,k⟩:=e;simp only[zD]at k;subst k;obtain⟨vs,hc,g,j⟩:=m.cells;have:=SY h hall p (by rw[lY];exact f.2.symm) hc o hp;rw[<- Ty.eH q]at this;refine⟨?_,f.2⟩;unfold ShR;cases l:s.agg with
  | true=>exact⟨vs,g (by rw[f.1,l]),this⟩
  | false=>rw[j (by rw[f.1,l])]at this;exact this
 ·cases e
theorem TJ{w0:Bs}{G:Gh}{S:St}{a:Act}{w:World}(h:Inv w0 G S a w){all:List C}(hall:(vK all).val S=some true):∀ {ss:List Sh} {xs:List V} {y:Tup ss} {us:List Value} {n:Nat} {pre post:List C},(vTs ss xs).val S=some y->kE G w xs us ->
  all=pre++xs.flatMap V.cells++post->pre.length=n->jI (λi d v=>Ow w (λ_ _=>False) true d v (λb=>∃c,all[i]?=some c/\rowsOf G S c b)) n ss y us
 | [],[],y,[],n,pre,post,_,_,_,_=>trivial
 | [s],[x],y,[u],n,pre,post,e,f,g,hp=>(adF h hall (post:=post) e f.1 (by rw[g];simp) hp).1
 | s::s'::r,x::xs,y,u::us,n,pre,post,e,f,g,hp=>by
  simp only[vTs,Rd.aK,zB,Rd.val,zD]at e;obtain⟨p,j,q,k,rfl⟩:=e;obtain⟨l,m⟩:=adF h hall (post:=xs.flatMap V.cells++post) j f.1 (by rw[g];simp) hp;exact⟨l,TJ h hall (pre:=pre++x.cells) (post:=post) k f.2 (by rw[g];simp) (by simp[hp,m])⟩
 | [s],x::x'::xs,y,us,n,pre,post,e,_,_,_=>by simp[vTs,Rd.val]at e
 | [s],[],y,us,n,pre,post,e,_,_,_=>by simp[vTs,Rd.val]at e
 | [],_::_,y,us,n,pre,post,e,_,_,_=>by simp[vTs,Rd.val]at e
 | s::s'::r,[],y,us,n,pre,post,e,_,_,_=>by simp[vTs,Rd.val]at e
theorem VI{w:World}{S0:Nat->Nat->Prop}{E:Env}(A:E.tt.ok P=true){fn:Func}{rs:List Sh}{ex:Bool}{G:Gh}{S:St}{a:Act}{w':World}{y:Tup rs}(hv:(finish E fn rs ex).val S=some y)(h:Inv ⟨w,S0,λ_=>False,none⟩ G S a w') :
  ∃v,(results fn a.tmps).run P w'=.ok v w'/\Tq w.heap.size w' S0 ex rs y v:=by
 simp only[finish,Rd.aK,zB]at hv;obtain⟨xs,B,ok,s,hv⟩:=hv;split at hv
 case isFalse=>cases hv
 rename_i l;subst l;obtain⟨us,C,g⟩:=pK A h B;refine⟨pack us,?_,us,rfl,?_⟩
 ·have e:(results fn a.tmps).run P w'=.ok (if h:us.toArray.size=1 then us.toArray[0]else .tuple us.toArray) w':=by
   change ((fn.results.mapM (xX a.tmps)) >>=λvs=>pure (if h:vs.size=1 then vs[0]else .tuple vs)).run P w'=_;simp only[Array.mapM_eq_mapM_toList,Sem.run_bind,Sem.run_map,C,Result.andThen_ok,Sem.run_pure]
  rw[e];match us with
  | []=>rfl
  | [u]=>rfl
  | u::u'::r=>rw[dif_neg (by simp)];rfl
 ·cases ex with
  | true=>
   simp only[if_true,ah5,Rd.aK,zB,Rd.val,zD]at s;obtain⟨b,D,t⟩:=s;rw[zI]at t;obtain⟨rfl,m⟩:=t;refine⟨λi b=>∃c,(xs.flatMap V.cells)[i]?=some c/\rowsOf G S c b,TJ h D (pre:=[]) (post:=[]) hv g (by simp) rfl,?_,?_⟩
   ·rintro i c ⟨cc,_,k,j,_,d,_⟩;exact⟨Bs.nw0 (h.kY d).1,(h.kY d).2⟩
   ·rintro i i' c ⟨cc,hc,k,j,rfl,d,_⟩ ⟨cc',n,k',j',rfl,f,_⟩;rw[d]at f;cases f
    exact jk m hc n
  | false=>
   refine⟨λb o=>G.S b o\/AK G S (aO (xs.flatMap V.cells)) b o,mY h _ 0 hv g λk j x F H=>mM F H,?_⟩;rintro b o (z | ⟨k,j,_,_,_,_,_,_,d,_⟩)
   ·refine⟨?_,(h.sok b o z).1⟩;rcases Nat.lt_or_ge b w.heap.size with p | p
    ·exact .inl ((h.sfr b o z p).resolve_right λq=>q.1)
    ·exact .inr p
   ·have:=h.kY d;exact⟨.inr (Bs.nw0 this.1),this.2⟩
theorem Sound.two{fid:Nat}{ps rs:List Sh}{ex sh:Bool}{f g:Tup ps->Option (Tup rs)}(b:Sound P { fid:=fid,ps:=ps,rs:=rs,ex:=ex,sh:=sh,fn:=f })(c:Sound P { fid:=fid,ps:=ps,rs:=rs,ex:=ex,sh:=sh,fn:=g }):Sound P { fid:=fid,ps:=ps,rs:=rs,ex:=ex,sh:=sh,fn:=λx=>(f x).or (g x) }:=
 λw S args x y a=>by
  have a:(f x).or (g x)=some y:=a;cases e:f x with
  | some z=>exact b w S args x y (by rw[e]at a;exact e.trans a)
  | none=>exact c w S args x y (by rw[e]at a;exact a)
theorem TW{E:Env}(i:jd P E)(j:P.follows .mixedOrders=true)(an:List (Nat×LA)){s:Fsp}{fn:Func}(hf:P.funcs[s.fid]?=some fn)
  (hden:∀x,ale E an fn s.ps s.rs s.ex x=s.fn x):Sound P s:=by
 intro w S args x y b d hargs k;rw[<- hden x]at b;unfold ale at b;split at b
 ·cases b
 ·rename_i c l;obtain⟨G,h⟩:=Ox k (n:=fn.ntmps) (vs:=xw s.ps x) (us:=args) (λG m=>qW (by rw[m];exact hargs));refine calls_of_wp hf l (iD (i.at (.none d) λ_ _=>nofun) j c b h λe S' a' w' G' hk f=>?_);have key:(finish E fn s.rs s.ex).val S'=some y->bodyPost P fn (λe w'=>∃v,e=.returned v/\Below w.heap.size w w'/\Tq w.heap.size w' S s.ex s.rs y v) .ret a' w':=by
   intro hv;obtain⟨v,o,p⟩:=VI i.1 hv f;exact⟨f.nodef,v,o,v,rfl,f.below.KA λ_ hf=>hf,p⟩
  cases e with
  | normal=>
   change (finish E fn s.rs s.ex).runK S' some=some y at hk;rw[Rd.ku,zB]at hk;obtain⟨z,g,a⟩:=hk;cases a
   exact key g
  | exit id=>cases hk
  | ret=>
   change (finish E fn s.rs s.ex).runK S' some=some y at hk;rw[Rd.ku,zB]at hk;obtain⟨z,g,a⟩:=hk;cases a
   exact key g
theorem aV.shift{Q:D->Value->Prop}:∀ {n m:Nat} {ds:List D} {vs:List Value},aV (λ_ d u=>Q d u) n ds vs->aV (λ_ d u=>Q d u) m ds vs
 | n,m,[],[],_=>trivial
 | n,m,d::ds,v::vs,h=>⟨h.1,aV.shift h.2⟩
theorem ShR.shift{Q:D->Value->Prop}{n m:Nat}{s:Sh}{x:s.t.den}{u:Value}(h:ShR (λ_ d u=>Q d u) n s x u):ShR (λ_ d u=>Q d u) m s x u:=by
 unfold ShR at *;split at h
 ·obtain⟨vs,e,hc⟩:=h;exact⟨vs,e,hc.shift⟩
 ·exact aV.shift h
theorem jI.shift{Q:D->Value->Prop}:∀ {n m:Nat} {ss:List Sh} {y:Tup ss} {us:List Value},jI (λ_ d u=>Q d u) n ss y us->jI (λ_ d u=>Q d u) m ss y us
 | n,m,[],y,[],_=>trivial
 | n,m,[s],y,[u],h=>ShR.shift (s:=s) h
 | n,m,s::s'::r,y,u::us,h=>⟨h.1.shift,h.2.shift⟩
theorem ShR.agg{Q:D->Value->Prop}{c:Sh}{x:c.t.den}{vs:List Value}(hc:c.agg=true)(h:ShR (λ_ d u=>Q d u) 0 c x (.agg vs.toArray)):aV (λ_ d u=>Q d u) 0 (c.t.cells x) vs:=by
 unfold ShR at h;rw[hc]at h;obtain⟨vs',e,h⟩:=h;have:vs=vs':=by simpa using e
 rw[this];exact h
theorem qH{fn:Func}{a:Act}{w':World}{us:List Value}(b:(fn.results.toList.mapM (xX a.tmps)).run P w'=.ok us w'):(results fn a.tmps).run P w'=.ok (pack us) w':=by
 have e:(results fn a.tmps).run P w'=.ok (if h:us.toArray.size=1 then us.toArray[0]else .tuple us.toArray) w':=by
  change ((fn.results.mapM (xX a.tmps)) >>=λvs=>pure (if h:vs.size=1 then vs[0]else .tuple vs)).run P w'=_;simp only[Array.mapM_eq_mapM_toList,Sem.run_bind,Sem.run_map,b,Result.andThen_ok,Sem.run_pure]
 rw[e];match us with
 | []=>rfl
 | [u]=>rfl
 | u::u'::r=>rw[dif_neg (by simp)];rfl
theorem acZ{w:World}{S0:Nat->Nat->Prop}{bb:Nat}(z:∀b o,S0 b o->b<w.heap.size/\b≠bb){f:List Value}{Et:TypeId}(hh:w.heap[bb]?=some (.cells f.toArray Et (0,0))){n:Nat}{cs:List C}{vs:List V}{us:List Value}
  (hv:∀G:Gh,G.S=S0->dh G w cs f/\kE G w vs us) :
  ∃G,Inv ⟨w,S0,λc=>c=bb,some (bb,true)⟩ G (nK n cs vs) { tmps:=(Value.pointer (some ⟨bb,0,none⟩)::us).toArray++Array.replicate (n-(Value.pointer (some ⟨bb,0,none⟩)::us).toArray.size) undef,defers:=[] } w:=by
 let G:Gh:={ bk:=λ_=>bb,ov:=λ_ _=>undef,ow:=λc=>if c=bb then some (.box 0)else none,S:=S0,lk:=λ_=>False,lb:=λi=>i=0 };obtain⟨q,r⟩:=hv G rfl;obtain⟨A,B⟩:=r.get;have s:bb<w.heap.size:=(a6.1 hh).1;have l:∀c x,G.ow c=some x->c=bb/\x=.box 0:=λc x t=>by
  have g:(if c=bb then some (tu.box 0)else none)=some x:=t;split at g
  ·rename_i e;cases g;exact⟨e,rfl⟩
  ·cases g
 have m:∀i,(nK n cs vs).fK i=if i=0 then some cs else none:=by
  intro i;show (some cs::List.replicate _ (none:Option (List C))).getD i none=_
  cases i with
  | zero=>rfl
  | succ i=>
   rw[zE,List.getElem?_cons_succ,List.getElem?_replicate,if_neg (Nat.succ_ne_zero i)];split<;>rfl
 have u:∀i,(nK n cs vs).aQ i=[]:=by
  intro i;show (List.replicate _ ([]:List O)).getD i []=[]
  rw[zE,List.getElem?_replicate];split<;>rfl
 refine⟨G,⟨jJ.refl _ _ _,rfl,?_,?_,?_,?_,(λb x t=>?_),(λb o h=>⟨(z b o h).1,λi hi=>(z b o h).2 (l _ _ hi).1⟩),?_,?_,(λk hk=>hk.elim),?_,(λb o h _=>.inl h),(λb o h=>⟨h,rfl⟩),(λb y D=>by cases D;exact⟨rfl,λ_ _=>.refl _ _⟩)⟩⟩
 ·simp[nK,A];omega
 ·simp[nK]
 ·simp[nK];omega
 ·intro i v d;simp only[Array.getElem?_append,List.size_toArray,List.getElem?_toArray]at d;show ja G w ((.v (.one (.ptr 0 0))::vs.map AV.v++List.replicate _ AV.undef).getD i .undef) v
  rw[zE,List.getElem?_append];by_cases hi:i<us.length+1
  ·rw[if_pos (by simpa using hi)]at d;rw[if_pos (by simp;omega)];cases i with
   | zero=>
    simp at d;subst d;exact⟨rfl,rfl⟩
   | succ i=>
    simp only[List.getElem?_cons_succ]at d ⊢;have p:i<vs.length:=by omega
    rw[amh,zF p];exact B i vs[i] v (by simp[p]) d
  ·rw[if_neg (by simp;omega),List.getElem?_replicate];split<;>trivial
 ·obtain⟨rfl,rfl⟩:=l b x t;exact⟨.inr ⟨rfl,rfl⟩,s⟩
 ·intro i cs' a;rw[m]at a;split at a
  ·rename_i e;cases a
   subst e;exact⟨if_pos rfl,f,Et,hh,q⟩
  ·cases a
 ·intro k j;rw[u];trivial
 ·intro i hi;rw[m,if_pos hi];simp
theorem aid{w0:Bs}{G:Gh}{S:St}{a:Act}{w:World}(h:Inv w0 G S a w){ty:Option Ty}{c:C}{d:D}{v:Value}(f:(cD ty c).val S=some d)(hc:mV G w c v)(o:(cSh c).val S=some true):Ku w G.S d v (rowsOf G S c):=by
 cases c with
 | undef=>cases f
 | ptr=>cases f
 | d x=>
  simp only[cD,Rd.val,zD]at f;subst f;cases x with
  | list t xs=>simp[cSh,Rd.val]at o
  | int=>exact hc
  | bool=>exact hc
  | str=>exact hc
 | nil=>
  cases ty with
  | none=>cases f
  | some t=>
   simp only[cD,Rd.val,zD]at f;subst f;exact .inl ⟨hc,rfl⟩
 | own k j=>
  simp only[cSh,Rd.val]at o;simp only[cD,Rd.val]at f;have B:=h.owns k j;split at o
  ·rename_i t xs dp g;rw[g]at f B;simp only[Rd.val,zD]at f;subst f;have p:OwT w G.S dp true t xs (G.ov k j) (iZ G k j):=B;show OwT w G.S false true t xs v _
   rw[hc.2.1];rcases p with F | ⟨b,cap,arr,E,vs,fps,e,H,hcap,hmax,q,r,s,u,l,hdis,y⟩
   ·exact .inl F
   ·have m:∀x,iZ G k j x->rowsOf G S (.own k j) x:=λx z=>⟨k,j,rfl,z,t,xs,dp,true,by rw[g];rfl⟩
    exact .inr ⟨b,cap,arr,E,vs,fps,e,H,hcap,hmax,q,m _ r,s,λi x j' d' z A=>(u i x j' d' z A).sub (λ_ hh=>hh) (λhh=>by cases hh),λi j' c n=>⟨m _ (l i j' c n).1,(l i j' c n).2⟩,hdis,y⟩
  ·simp[Rd.val]at o
theorem Yn{S:St}:∀ {cs:List C} {b:Bool},(aib cs).val S=some b->b=true->∀c,c∈cs->(cSh c).val S=some true
 | [],_,_,_,c,hc=>by cases hc
 | c0::cs,b,hv,d,c,hc=>by
  simp only[aib,Rd.aK,zB,Rd.val,zD]at hv;obtain⟨g,a,h,f,e⟩:=hv;rw[d,zI]at e;rcases bh.1 hc with rfl | hc
  ·rw[e.1]at a;exact a
  ·exact Yn f e.2 c hc
theorem Ku.sub{w:World}{S:Nat->Nat->Prop}{d:D}{v:Value}{fp fp':Nat->Prop}(h:Ku w S d v fp)(hf:∀b,fp b->fp' b):Ku w S d v fp':=by
 cases d with
 | list t xs=>exact OwT.rest (S:=S) h (λ_ _ hh=>hh) (λ_ _ _ hh=>hh) hf
 | int=>exact h
 | bool=>exact h
 | str=>exact h
theorem Yr{w0:Bs}{G:Gh}{S:St}{a:Act}{w:World}(h:Inv w0 G S a w){all:List C}(hall:∀c,c∈all->(cSh c).val S=some true):∀ {tys:List (Option Ty)} {cs:List C} {ds:List D} {vs:List Value} {n:Nat} {pre post:List C},(cDs tys cs).val S=some ds ->
  tys.length=cs.length->dh G w cs vs->all=pre++cs++post->pre.length=n->aV (λi d v=>Ku w G.S d v (λb=>∃c,all[i]?=some c/\rowsOf G S c b)) n ds vs
 | [],[],ds,[],n,pre,post,e,_,_,_,_=>by
  simp only[cDs,Rd.val,zD]at e;subst e;trivial
 | ty::tys,c::cs,ds,v::vs,n,pre,post,e,j,hc,f,hp=>by
  simp only[cDs,Rd.aK,zB,Rd.val,zD]at e;obtain⟨d,k,ds',l,rfl⟩:=e;have g:all[n]?=some c:=by
   rw[f,ba,amD (by omega),hp];simp
  exact⟨(aid h k hc.1 (hall c (zG g))).sub λb m=>⟨c,g,m⟩,Yr h hall (pre:=pre++[c]) (post:=post) l (by simpa using j) hc.2 (by rw[f];simp) (by simp[hp])⟩
theorem aix{w0:Bs}{G:Gh}{S:St}{a:Act}{w:World}(h:Inv w0 G S a w){all:List C}(hall:∀c,c∈all->(cSh c).val S=some true){s:Sh}{x:V}{y:s.t.den}{v:Value}{n:Nat}{pre post:List C}(e:(vT s x).val S=some y)(m:tN G w x v)
  (o:all=pre++x.cells++post) (hp:pre.length=n):ShR (λi d v=>Ku w G.S d v (λb=>∃c,all[i]?=some c/\rowsOf G S c b)) n s y v/\x.cells.length=s.t.size:=by
 simp only[vT]at e;split at e
 ·rename_i f;simp only[Rd.aK,zB,Rd.val]at e;obtain⟨ds,p,z,q,k⟩:=e;simp only[zD]at k;subst k;obtain⟨vs,hc,g,j⟩:=m.cells;have:=Yr h hall p (by rw[lY];exact f.2.symm) hc o hp;rw[<- Ty.eH q]at this;refine⟨?_,f.2⟩;unfold ShR;cases l:s.agg with
  | true=>exact⟨vs,g (by rw[f.1,l]),this⟩
  | false=>rw[j (by rw[f.1,l])]at this;exact this
 ·cases e
theorem adE{w0:Bs}{G:Gh}{S:St}{a:Act}{w:World}(h:Inv w0 G S a w){all:List C}(hall:∀c,c∈all->(cSh c).val S=some true):∀ {ss:List Sh} {xs:List V} {y:Tup ss} {us:List Value} {n:Nat} {pre post:List C},(vTs ss xs).val S=some y->kE G w xs us ->
  all=pre++xs.flatMap V.cells++post->pre.length=n->jI (λi d v=>Ku w G.S d v (λb=>∃c,all[i]?=some c/\rowsOf G S c b)) n ss y us
 | [],[],y,[],n,pre,post,_,_,_,_=>trivial
 | [s],[x],y,[u],n,pre,post,e,f,g,hp=>(aix h hall (post:=post) e f.1 (by rw[g];simp) hp).1
 | s::s'::r,x::xs,y,u::us,n,pre,post,e,f,g,hp=>by
  simp only[vTs,Rd.aK,zB,Rd.val,zD]at e;obtain⟨p,j,q,k,rfl⟩:=e;obtain⟨l,m⟩:=aix h hall (post:=xs.flatMap V.cells++post) j f.1 (by rw[g];simp) hp;exact⟨l,adE h hall (pre:=pre++x.cells) (post:=post) k f.2 (by rw[g];simp) (by simp[hp,m])⟩
 | [s],x::x'::xs,y,us,n,pre,post,e,_,_,_=>by simp[vTs,Rd.val]at e
 | [s],[],y,us,n,pre,post,e,_,_,_=>by simp[vTs,Rd.val]at e
 | [],_::_,y,us,n,pre,post,e,_,_,_=>by simp[vTs,Rd.val]at e
 | s::s'::r,[],y,us,n,pre,post,e,_,_,_=>by simp[vTs,Rd.val]at e
theorem WZ{w:World}{S0:Nat->Nat->Prop}{F:Nat->Prop}{bx:Option (Nat×Bool)}{G:Gh}{S:St}{a:Act}{w':World}(h:Inv ⟨w,S0,F,bx⟩ G S a w')(m:∀c,¬Bs.R ⟨w,S0,F,bx⟩ c){sh:Bool}{xs:List V}{us:List Value}(g:kE G w' xs us){rs:List Sh}{y:Tup rs}{ok:Bool}
  (l:(if sh then UL (xs.flatMap V.cells)else Rd.ret true).val S=some ok) (u:ok=true) (r:(vTs rs xs).val S=some y) :
  ∃S':Nat->Nat->Prop,(∀b o,G.S b o->S' b o)/\Tn w.heap.size w' S' sh rs y us/\∀b o,S' b o->(S0 b o\/w.heap.size<=b)/\b<w'.heap.size:=by
 have s:∀b o,G.S b o->(S0 b o\/w.heap.size<=b)/\b<w'.heap.size:=λb o f=>by
  refine⟨?_,(h.sok b o f).1⟩;rcases Nat.lt_or_ge b w.heap.size with n | n
  ·exact .inl ((h.sfr b o f n).resolve_right (m b))
  ·exact .inr n
 cases sh with
 | false=>
  refine⟨λb o=>G.S b o\/AK G S (aO (xs.flatMap V.cells)) b o,λb o=>.inl,mY h _ 0 r g λk j x v z=>mM v z,?_⟩;rintro b o (f | ⟨k,j,_,_,_,_,_,_,d,_⟩)
  ·exact s b o f
  ·have:=h.kY d;exact⟨.inr (this.1.resolve_right (m b)),this.2⟩
 | true=>
  simp only[if_true,UL,Rd.aK,zB,Rd.val,zD]at l;obtain⟨b,A,t⟩:=l;rw[u,zI]at t;obtain⟨B,p⟩:=t;refine⟨G.S,λb o f=>f,⟨λi b=>∃c,(xs.flatMap V.cells)[i]?=some c/\rowsOf G S c b,adE h (Yn A B) (pre:=[]) (post:=[]) r g (by simp) rfl,?_,?_⟩,s⟩
  ·rintro i c ⟨cc,_,k,j,_,d,_⟩;exact⟨(h.kY d).1.resolve_right (m c),(h.kY d).2⟩
  ·rintro i i' c ⟨cc,hc,k,j,rfl,d,_⟩ ⟨cc',q,k',j',rfl,e,_⟩;rw[d]at e;cases e
   exact jk p hc q
theorem cells_kept{w w':World}{S0 G:Nat->Nat->Prop}{bb:Nat}(C:jJ (λc=>c=bb) w.heap.size w w')(f:∀b o,S0 b o->b<w.heap.size/\b≠bb){t:Ty}{x z:t.den}{a vs':List Value}
  (hk:∀(i:Nat) p l c,a[i]?=some (Value.slice p l c)->vs'[i]?=some (Value.slice p l c)) (g:aV (λ_ d u=>Rep w S0 d u) 0 (t.cells z) a) (h:aV (λ_ d u=>Rep w' G d u) 0 (t.cells x) vs'):aV (λ_ d u=>Rep w' S0 d u) 0 (t.cells x) vs':=by
 have key:∀ {ds e:List D} {n:Nat} {a vs':List Value},ds.map qw=e.map qw->(∀(i:Nat) p l c,a[i]?=some (Value.slice p l c)->vs'[i]?=some (Value.slice p l c))->aV (λ_ d u=>Rep w S0 d u) n e a->aV (λ_ d u=>Rep w' G d u) n ds vs'->aV (λ_ d u=>Rep w' S0 d u) n ds vs':=by
  intro ds;induction ds with
  | nil=>intro e n a vs' _ _ _ h;cases vs' with
   | nil=>trivial
   | cons=>exact h.elim
  | cons d ds ih=>
   intro e n a vs' j hk g h;cases e with
   | nil=>cases j
   | cons A e=>
    cases vs' with
    | nil=>exact h.elim
    | cons v vs'=>
     cases a with
     | nil=>exact g.elim
     | cons E a=>
      simp only[List.map_cons,List.cons.injEq]at j;refine⟨?_,ih j.2 (λi p l c hi=>hk (i+1) p l c hi) g.2 h.2⟩;have q:=h.1;have m:=g.1;cases d with
      | int k n=>cases q;exact .int _ _
      | bool b=>cases q;exact .bool _
      | str s=>cases q;exact .str _
      | list F xs=>
       have r:∃p l c,E=.slice p l c:=by
        have:qw A=some F:=j.1.symm;cases m with
        | int=>cases this
        | bool=>cases this
        | str=>cases this
        | nil=>exact⟨_,_,_,rfl⟩
        | emp=>exact⟨_,_,_,rfl⟩
        | list=>exact⟨_,_,_,rfl⟩
       obtain⟨p,l,c,rfl⟩:=r;have:v=.slice p l c:=by
        have:=hk 0 p l c rfl;simpa using this
       subst this;have B:Rep w' S0 A (.slice p l c):=m.move λb o y=>⟨y,World.cell?_of_block (w:=w) (C.block b (f b o y).1 (f b o y).2)⟩
       rw[Rep.det q B j.1];exact B
 exact key ((LJ t x).trans (LJ t z).symm) hk g h
theorem QW{w:World}{S0:Nat->Nat->Prop}{bb:Nat}{E:Env}(X:E.tt.ok P=true){fn:Func}{rs:List Sh}{ex sh:Bool}{G:Gh}{S:St}{a:Act}{w':World}{y:Tup rs}(hv:(CO E fn rs ex sh).val S=some y)(h:Inv ⟨w,S0,λc=>c=bb,some (bb,true)⟩ G S a w')
  (p:∀b o,S0 b o->b<w.heap.size/\b≠bb) {m:List Value} {N:TypeId} (r:w.heap[bb]?=some (.cells m.toArray N (0,0))) (C:ex=true->∀c rs',rs=c::rs'->∃O:c.t.den,aV (λ_ d u=>Rep w S0 d u) 0 (c.t.cells O) m) :
  ∃v,(results fn a.tmps).run P w'=.ok v w'/\aiu w.heap.size w' S0 bb ex sh rs y v:=by
 unfold CO at hv;split at hv
 case isFalse=>cases hv
 rename_i s;simp only[Rd.val]at hv;split at hv
 case h_2=>cases hv
 rename_i cs D;split at hv
 case isFalse=>cases hv
 rename_i F;simp only[Rd.aK,zB]at hv;obtain⟨xs,Y,ok,n,hv⟩:=hv;split at hv
 case isFalse=>cases hv
 rename_i R;obtain⟨us,H,x⟩:=pK X h Y;obtain⟨ho,vs',Et,hh,I⟩:=h.box 0 cs D;rw[(h.fx bb _ rfl).1]at hh;refine⟨pack us,qH H,?_⟩;cases rs with
 | nil=>cases s
 | cons c rs=>
  obtain⟨Z,T⟩:=He hv;have U:=YL h [] 0 Z (v:=.agg vs'.toArray) ⟨vs',rfl,I⟩ λk j J=>by
   have:(k,j)∈aO cs:=fE J;rw[F]at this;cases this
  cases ex with
  | false=>
   obtain⟨S',hS,hres,z⟩:=WZ h (λc q=>q.2 true (by rw[q.1])) x n R T;refine⟨S',vs',Et,us,rfl,hh,ShR.agg (c:=c) (Q:=λd u=>Rep w' S' d u) s (U.imp λi d v H=>H.move λb o f=>⟨?_,rfl⟩),hres,λb o f=>⟨(z b o f).1.imp id λs=>⟨rfl,s⟩,(z b o f).2⟩⟩;rcases f with f | ⟨k,j,_,_,_,_,J,_⟩
   ·exact hS b o f
   ·cases J
  | true=>
   simp only[if_true,ah5,Rd.aK,zB,Rd.val,zD]at n;obtain⟨b0,h3,W⟩:=n;rw[R,zI]at W;obtain⟨rfl,K⟩:=W;obtain⟨A,E2,B,L⟩:=(h.fx bb _ rfl).2 rfl (a6.1 r).1 m N r;have e:A=vs':=by
    rw[hh]at B;cases B
    rfl
   subst e;obtain⟨O,hc⟩:=C rfl c rs rfl;refine⟨S0,A,Et,us,rfl,hh,cells_kept h.below p L hc (ShR.agg (c:=c) (Q:=λd u=>Rep w' (λb o=>G.S b o\/AK G S [] b o) d u) s U),?_,λb o f=>⟨.inl f,aL (p b o f).1 h.below.size⟩⟩;refine⟨λi b=>∃c,(xs.flatMap V.cells)[i]?=some c/\rowsOf G S c b,TJ h h3 (pre:=[]) (post:=[]) T x (by simp) rfl,?_,?_⟩
   ·rintro i c ⟨cc,_,k,j,_,g,_⟩;exact⟨Bs.nwB (h.kY g).1,(h.kY g).2⟩
   ·rintro i i' c ⟨cc,hc,k,j,rfl,g,_⟩ ⟨cc',M,k',j',rfl,l,_⟩;rw[g]at l;cases l
    exact jk K hc M
theorem QU{w:World}{S0:Nat->Nat->Prop}{E:Env}(g:E.tt.ok P=true){fn:Func}{rs:List Sh}{G:Gh}{S:St}{a:Act}{w':World}{y:Tup rs}(hv:(CG E fn rs).val S=some y)(h:Inv ⟨w,S0,λ_=>False,none⟩ G S a w') :
  ∃v,(results fn a.tmps).run P w'=.ok v w'/\∃(S':Nat->Nat->Prop) (us:List Value),v=pack us/\Tn w.heap.size w' S' true rs y us/\∀b o,S' b o->(S0 b o\/w.heap.size<=b)/\b<w'.heap.size:=by
 unfold CG at hv;simp only[Rd.aK,zB]at hv;obtain⟨xs,i,ok,d,hv⟩:=hv;split at hv
 case isFalse=>cases hv
 rename_i j;obtain⟨us,k,e⟩:=pK g h i;obtain⟨S',_,hres,f⟩:=WZ h (λc q=>q.1) (sh:=true) e (by simpa using d) j hv;exact⟨pack us,qH k,S',us,rfl,hres,f⟩
theorem PZ{E:Env}(j:jd P E)(k:P.follows .mixedOrders=true)(an:List (Nat×LA)){s:Fsp}{fn:Func}(hf:P.funcs[s.fid]?=some fn)
  (hden:∀x,alc E an fn s.ps s.rs x=s.fn x):PV P s:=by
 intro w S args x y d f hargs l;rw[<- hden x]at d;unfold alc at d;split at d
 ·cases d
 ·rename_i c m;obtain⟨G,h⟩:=Ox l (n:=fn.ntmps) (vs:=xw s.ps x) (us:=args) (λG p=>qW (by rw[p];exact hargs));refine calls_of_wp hf m (iD (j.at (.none f) λ_ _=>nofun) k c d h λe S' a' w' G' hk g=>?_);have key:(CG E fn s.rs).val S'=some y->bodyPost P fn (λe w'=>∃v,e=.returned v/\Below w.heap.size w w'/\∃(S':Nat->Nat->Prop) (us:List Value),v=pack us/\Tn w.heap.size w' S' true s.rs y us /\
    ∀b o,S' b o->(S b o\/w.heap.size<=b)/\b<w'.heap.size) .ret a' w':=by
   intro hv;obtain⟨v,q,r⟩:=QU j.1 hv g;exact⟨g.nodef,v,q,v,rfl,g.below.KA λ_ hf=>hf,r⟩
  cases e with
  | normal=>
   change (CG E fn s.rs).runK S' some=some y at hk;rw[Rd.ku,zB]at hk;obtain⟨z,i,a⟩:=hk;cases a
   exact key i
  | exit id=>cases hk
  | ret=>
   change (CG E fn s.rs).runK S' some=some y at hk;rw[Rd.ku,zB]at hk;obtain⟨z,i,a⟩:=hk;cases a
   exact key i
theorem agp{w:World}{S:Nat->Nat->Prop}{ps rs:List Sh}(a:sameBox ps rs=true){x:Tup ps}{b args:List Value}(hargs:jI (λ_ d u=>Rep w S d u) 0 ps x (.agg b.toArray::args)) :
  ∀c rs',rs=c::rs'->∃g:c.t.den,aV (λ_ d u=>Rep w S d u) 0 (c.t.cells g) b:=by
 intro c rs' h;cases ps with
 | nil=>cases a
 | cons p ps=>
  rw[h]at a;simp only[sameBox,zI,decide_eq_true_eq]at a;have i:ShR (λ_ d u=>Rep w S d u) 0 p (jX x) (.agg b.toArray):=by
   cases ps with
   | nil=>cases args with
    | nil=>exact hargs
    | cons=>exact hargs.elim
   | cons j ps=>exact hargs.1
  have f:=ShR.agg (c:=p) (Q:=λd u=>Rep w S d u) a.1 i;generalize jX x=g at f;obtain⟨pa,pt⟩:=p;obtain⟨ca,ct⟩:=c;obtain⟨_,e⟩:=a;cases e
  exact⟨g,f⟩
theorem QZ{E:Env}(q:jd P E)(d:P.follows .mixedOrders=true)(an:List (Nat×LA)){s:Fsp}{fn:Func}(hf:P.funcs[s.fid]?=some fn)
  (hden:∀x,alf E an fn s.ps s.rs s.ex s.sh x=s.fn x):jw P s:=by
 intro w S bb g Et args x y a i j hh hargs r;rw[<- hden x]at a;unfold alf at a;split at a
 case h_2=>cases a
 rename_i c cs vs t henc;split at a
 case isFalse=>cases a
 rename_i hsame;obtain⟨k,hsame⟩:=hsame;obtain⟨G,h⟩:=acZ r hh (n:=fn.ntmps) (cs:=cs) (vs:=vs) (us:=args) (λG u=>by
  have:=qW (G:=G) (by rw[u];exact hargs);rw[henc]at this;obtain⟨⟨vs',e,l⟩,m⟩:=this;have e':g=vs':=by simpa using e
  rw[e'];exact⟨l,m⟩)
 refine calls_of_wp hf t (iD (q.at (.box i j) λd=>(by rw[k]at d;cases d)) d c a h λe S' a' w' G' hk f=>?_);have key:(CO E fn s.rs s.ex s.sh).val S'=some y->bodyPost P fn (λe w'=>∃v,e=.returned v/\jJ (λc=>c=bb) w.heap.size w w'/\jv w w' bb/\aiu w.heap.size w' S bb s.ex s.sh s.rs y v) .ret a' w':=by
  intro hv;obtain⟨v,l,m⟩:=QW q.1 hv f r hh λo=>agp (hsame o) hargs
  exact⟨f.nodef,v,l,v,rfl,f.below,(f.fx bb _ rfl).2 rfl (a6.1 hh).1,m⟩
 cases e with
 | normal=>
  change (CO E fn s.rs s.ex s.sh).runK S' some=some y at hk;rw[Rd.ku,zB]at hk;obtain⟨z,p,b⟩:=hk;cases b
  exact key p
 | exit id=>cases hk
 | ret=>
  change (CO E fn s.rs s.ex s.sh).runK S' some=some y at hk;rw[Rd.ku,zB]at hk;obtain⟨z,p,b⟩:=hk;cases b
  exact key p
theorem Bs.RM{w:World}{S0:Nat->Nat->Prop}{R:Nat->Prop}{bb c:Nat}(h:Bs.R ⟨w,S0,λc=>c=bb\/R c,some (bb,false)⟩ c):R c:=
 h.1.resolve_left λe=>h.2 false (by rw[e])
theorem lq.iy{w:World}{S:Nat->Nat->Prop}{R:Nat->Prop}{bb:Nat}(h:amb w)(d:nT<=bb)(a:∀c,R c->nT<=c):lq ⟨w,S,λc=>c=bb\/R c,some (bb,false)⟩:=
 ⟨λ_ b=>h.keep b.size λk hk=>b.block k (aL hk h.size) λhf=>hf.elim (λe=>by omega) λe=>by have:=a k e;omega,λc hf=>hf.elim (λe=>by omega) (a c)⟩
theorem Z4{w:World}{S0:Nat->Nat->Prop}{R:Nat->Prop}{bb ap:Nat}(H:∀b o,S0 b o->b<w.heap.size/\b≠bb)(I:∀c,R c->c<w.heap.size/\c≠bb){g:List Value}{Et:TypeId}(hh:w.heap[bb]?=some (.cells g.toArray Et (0,0)))
  {n:Nat} {cs:List C} {vs:List V} {us:List Value} {t:Ty} {xs:List t.den} {u:Value} (L:cs[ap]?=some (.d (.list t xs))) (M:g[ap]?=some u) (J:OwT w S0 false false t xs u R) (hlen:cs.length=g.length)
  (hv:∀G:Gh,G.S=S0->(∀(i:Nat) (c:C) (v:Value),i≠ap->cs[i]?=some c->g[i]?=some v->mV G w c v)/\kE G w vs us) :
  ∃G,Inv ⟨w,S0,λc=>c=bb\/R c,some (bb,false)⟩ G (sD n ap cs vs t xs) { tmps:=(Value.pointer (some ⟨bb,0,none⟩)::us).toArray++Array.replicate (n-(Value.pointer (some ⟨bb,0,none⟩)::us).toArray.size) undef,defers:=[] } w:=by
 classical
 let G:Gh:={ bk:=λ_=>bb,ov:=λ_ _=>u,ow:=λc=>if c=bb then some (.box 0)else if R c then some (.own 0 0)else none,S:=S0,lk:=λk=>k=0,lb:=λi=>i=0 };obtain⟨B,D⟩:=hv G rfl;obtain⟨N,P⟩:=D.get;have E:bb<w.heap.size:=(a6.1 hh).1;have p:∀c x,G.ow c=some x->(c=bb/\x=.box 0)\/(c≠bb/\R c/\x=.own 0 0):=λc x F=>by
  have h:(if c=bb then some (tu.box 0)else if R c then some (.own 0 0)else none)=some x:=F;split at h
  ·rename_i e;cases h;exact .inl ⟨e,rfl⟩
  ·rename_i e;split at h
   ·rename_i r;cases h;exact .inr ⟨e,r,rfl⟩
   ·cases h
 have s:∀i,(sD n ap cs vs t xs).fK i=if i=0 then some (cs.set ap (.own 0 0))else none:=by
  intro i;show (some (cs.set ap (.own 0 0))::List.replicate _ (none:Option (List C))).getD i none=_
  cases i with
  | zero=>rfl
  | succ i=>
   rw[zE,List.getElem?_cons_succ,List.getElem?_replicate,if_neg (Nat.succ_ne_zero i)];split<;>rfl
 have z:∀i,(sD n ap cs vs t xs).aQ i=if i=0 then [.own t xs false false]else []:=by
  intro i;show ([O.own t xs false false]::List.replicate _ ([]:List O)).getD i []=_
  cases i with
  | zero=>rfl
  | succ i=>
   rw[zE,List.getElem?_cons_succ,List.getElem?_replicate,if_neg (Nat.succ_ne_zero i)];split<;>rfl
 refine⟨G,⟨jJ.refl _ _ _,rfl,?_,?_,?_,?_,(λb x F=>?_),(λb o l=>⟨(H b o l).1,λi hi=>?_⟩),?_,?_,?_,?_,(λb o l _=>.inl l),(λb o l=>⟨l,rfl⟩),(λb y m=>by cases m;exact⟨rfl,nofun⟩)⟩⟩
 ·simp[sD,nK,N];omega
 ·simp[sD,nK]
 ·simp[sD,nK]
 ·intro i v f;simp only[Array.getElem?_append,List.size_toArray,List.getElem?_toArray]at f;show ja G w ((.v (.one (.ptr 0 0))::vs.map AV.v++List.replicate _ AV.undef).getD i .undef) v
  rw[zE,List.getElem?_append];by_cases hi:i<us.length+1
  ·rw[if_pos (by simpa using hi)]at f;rw[if_pos (by simp;omega)];cases i with
   | zero=>
    simp at f;subst f;exact⟨rfl,rfl⟩
   | succ i=>
    simp only[List.getElem?_cons_succ]at f ⊢;have A:i<vs.length:=by omega
    rw[amh,zF A];exact P i vs[i] v (by simp[A]) f
  ·rw[if_neg (by simp;omega),List.getElem?_replicate];split<;>trivial
 ·rcases p b x F with ⟨rfl,rfl⟩ | ⟨m,K,rfl⟩
  ·exact⟨.inr ⟨rfl,.inl rfl⟩,E⟩
  ·exact⟨.inl (.inr ⟨.inr K,λq e=>m (by cases e;rfl)⟩),(I b K).1⟩
 ·rcases p b _ hi with ⟨e,_⟩ | ⟨_,_,e⟩
  ·exact (H b o l).2 e
  ·cases e
 ·intro i cs' a;rw[s]at a;split at a
  ·rename_i e;cases a
   subst e;refine⟨if_pos rfl,g,Et,hh,dh.mk (by simp[hlen]) λi c v hc hv=>?_⟩;rw[amz]at hc;split at hc
   ·rename_i hi;subst hi;split at hc
    ·cases hc
     rw[M]at hv;cases hv
     exact⟨rfl,rfl,(OwT.ow J).one⟩
    ·cases hc
   ·rename_i hi;exact B i c v (λe=>hi e.symm) hc hv
  ·cases a
 ·intro k j;rw[z];split
  ·rename_i e;subst e;cases j with
   | zero=>
    show OwT w S0 false false t xs u (iZ G 0 0)
    refine J.move (λb o l=>⟨l,rfl⟩) (λb m=>⟨?_,rfl⟩) λ_ _ _ _ _ o l=>.inl l
    show (if b=bb then some (tu.box 0)else if R b then some (.own 0 0)else none)=_
    rw[if_neg (I b m).2,if_pos m]
   | succ j=>trivial
  ·trivial
 ·intro k hk;have hk:k=0:=hk;rw[z,if_pos hk];simp
 ·intro i hi;rw[s,if_pos hi];simp
theorem O8{w:World}{S0:Nat->Nat->Prop}{R:Nat->Prop}{bb ap:Nat}{E:Env}(F:E.tt.ok P=true){fn:Func}{rs:List Sh}{G:Gh}{S:St}{a:Act}{w':World}{y:Tup rs}(hv:(xq E fn rs ap).val S=some y)
  (h:Inv ⟨w,S0,λc=>c=bb\/R c,some (bb,false)⟩ G S a w') :
  ∃v,(results fn a.tmps).run P w'=.ok v w'/\ais w.heap.size w' S0 R bb ap v rs y:=by
 unfold xq at hv;split at hv
 case isFalse=>cases hv
 rename_i n;simp only[Rd.val]at hv;split at hv
 case h_2=>cases hv
 rename_i cs r;split at hv
 case isFalse=>cases hv
 rename_i s;split at hv
 case h_2=>cases hv
 rename_i k j hcell;simp only[Rd.val]at hv;split at hv
 case h_2=>cases hv
 rename_i t xs deep m hown;simp only[Rd.aK,zB]at hv;obtain⟨vs,H,hv⟩:=hv;split at hv
 case isFalse=>cases hv
 rename_i u;obtain⟨z,_⟩:=gJ u;obtain⟨us,I,A⟩:=pK F h H;obtain⟨Y,vs',Et,hh,B⟩:=h.box 0 cs r;rw[(h.fx bb _ rfl).1]at hh;refine⟨pack us,qH I,?_⟩;cases rs with
 | nil=>cases n
 | cons c rs=>
  obtain⟨J,K⟩:=He hv;obtain⟨_,L,M⟩:=adG J;obtain⟨N,O⟩:=B.get;obtain⟨Q,T⟩:=GK M (by rw[lY];exact L.symm);have U:OwT w' G.S deep m t xs (G.ov k j) (iZ G k j):=by
   have:=h.owns k j;rw[hown]at this;exact this
  refine⟨λb o=>G.S b o\/AK G S (aO (vs.flatMap V.cells)) b o,iZ G k j,vs',Et,us,rfl,hh,.of (by rw[Q,N]) λi d v W hv=>?_,mY h _ 0 K A λk j x X C=>mM X C,λb o g=>.inl (h.st b o g).1,?_,λc hc=>⟨(h.kY hc).1.imp id Bs.RM,(h.kY hc).2⟩⟩
  ·rw[amw];obtain⟨c1,ty,hc,l⟩:=T i d W;have p:=O i c1 v hc hv;split
   ·rename_i hi;subst hi;rw[hcell]at hc;cases hc
    simp only[cD,Rd.val,hown,zD]at l;subst l;rw[show v=G.ov k j from p.2.1];refine U.app.move (λb o g=>⟨.inl g,rfl⟩) (λb n=>⟨n,rfl⟩) λb len cap _ n o g=>?_
    rcases g with g | ⟨k',j',_,_,_,_,C,_,f,_⟩
    ·exact .inl g
    ·rw[show G.ow b=some (.own k j)from n]at f;cases f
     exact absurd C z
   ·rename_i hi;refine EC h l p _ λk' j' e=>?_
    have:(k',j')∈aO (cs.set ap .nil):=fE (zG (i:=i) (by rw[List.getElem?_set_ne (λe=>hi e.symm),hc,e]));rw[s]at this;cases this
  ·rintro b o (g | ⟨k',j',_,_,_,_,_,_,f,_⟩)
   ·refine⟨?_,(h.sok b o g).1⟩;rcases Nat.lt_or_ge b w.heap.size with D | D
    ·exact (h.sfr b o g D).imp id λq=>.inr (Bs.RM q)
    ·exact .inr (.inl D)
   ·exact⟨.inr ((h.kY f).1.imp id Bs.RM),(h.kY f).2⟩
theorem acQ{w:World}{S:Nat->Nat->Prop}{R:Nat->Prop}{ap:Nat}{a args:List Value}{cs:List C}{vs:List V}:∀(ps:List Sh) (x:Tup ps),abI w S R ap a args ps x->xw ps x=.agg cs::vs ->
  (cs.length=a.length/\∀(i:Nat) (c:C) (v:Value),cs[i]?=some c->a[i]?=some v->∃d,c=.d d/\if i=ap then agD w S R d v else Rep w S d v)/\∀G:Gh,G.S=S->kE G w vs args
 | [],x,h,_=>h.elim
 | p::ps,x,⟨l,m,n⟩,k=>by
  have e:xw (p::ps) x=ade p (jX x)::xw ps (yS x):=by cases ps<;>rfl
  rw[e]at k;injection k with b g;have hc:cs=(p.t.cells (jX x)).map .d:=by
   unfold ade at b;rw[l]at b;have:V.agg ((p.t.cells (jX x)).map .d)=.agg cs:=b;injection this with this;exact this.symm
  obtain⟨o,q⟩:=m.pt;refine⟨⟨by rw[hc];simpa using o,λi c v f j=>?_⟩,λG r=>?_⟩
  ·rw[hc,amh,ami]at f;obtain⟨d,s,rfl⟩:=f;have:=q i d v s j;rw[amw]at this;exact⟨d,rfl,this⟩
  ·rw[<- g];exact qW (by rw[r];exact n)
theorem N7{E:Env}(r:jd P E)(H:P.follows .mixedOrders=true)(an:List (Nat×LA)){s:Fsp}{ap:Nat}{fn:Func}(hf:P.funcs[s.fid]?=some fn)
  (hden:∀x,af9 E an fn s.ps s.rs ap x=s.fn x):fH P s ap:=by
 intro w S R bb k Et args x y a l m hh hargs I A;rw[<- hden x]at a;unfold af9 at a;split at a
 case h_2=>cases a
 rename_i c cs vs J henc;split at a
 case h_2=>cases a
 rename_i t xs f;obtain⟨⟨hlen,hcell⟩,p⟩:=acQ s.ps x hargs henc;obtain⟨u,B⟩:∃u,k[ap]?=some u:=⟨_,zF (by have:=(zC.1 f).1;omega)⟩;obtain⟨O,K,C⟩:=hcell ap _ u f B;cases K
 rw[if_pos rfl]at C;obtain⟨G,h⟩:=Z4 (n:=fn.ntmps) I (λc hc=>(A c hc).2) hh f B C hlen λG D=>⟨λi c v hi hc hv=>by
  obtain⟨d,rfl,F⟩:=hcell i c v hc hv;rw[if_neg hi]at F;show Rep w G.S d v
  rw[D];exact F,p G D⟩
 refine calls_of_wp hf J (iD (r.at (.iy l m λc hc=>(A c hc).1) λ_ b=>nofun) H c a h λe S' a' w' G' hk j=>?_);have key:(xq E fn s.rs ap).val S'=some y->bodyPost P fn (λe w'=>∃v,e=.returned v/\jJ (λc=>c=bb\/R c) w.heap.size w w'/\(∀b o,S b o->w'.cell? ⟨b,o,none⟩=w.cell? ⟨b,o,none⟩)/\ais w.heap.size w' S R bb ap v s.rs y) .ret a' w':=by
  intro hv;obtain⟨v,L,M⟩:=O8 r.1 hv j;exact⟨j.nodef,v,L,v,rfl,j.below,λb o N=>(j.st b o N).2,M⟩
 cases e with
 | normal=>
  change (xq E fn s.rs ap).runK S' some=some y at hk;rw[Rd.ku,zB]at hk;obtain⟨z,q,g⟩:=hk;cases g
  exact key q
 | exit id=>cases hk
 | ret=>
  change (xq E fn s.rs ap).runK S' some=some y at hk;rw[Rd.ku,zB]at hk;obtain⟨z,q,g⟩:=hk;cases g
  exact key q
theorem QV{w:World}{S0:Nat->Nat->Prop}{fn:Func}{rs:List Sh}{G:Gh}{S:St}{a:Act}{w':World}{y:Tup rs}(hv:(CJ fn rs).val S=some y)(h:Inv ⟨w,S0,λ_=>False,none⟩ G S a w') :
  ∃bb,(results fn a.tmps).run P w'=.ok (.pointer (some ⟨bb,0,none⟩)) w'/\w.heap.size<=bb /\
  ∃(vs':List Value) (Et:TypeId) (S':Nat->Nat->Prop),w'.heap[bb]?=some (.cells vs'.toArray Et (0,0))/\aV (λ_ d u=>Rep w' S' d u) 0 (dI rs y) vs'/\∀b o,S' b o->(S0 b o\/w.heap.size<=b)/\b<w'.heap.size/\b≠bb:=by
 unfold CJ at hv;split at hv
 case isFalse=>cases hv
 rename_i z;split at hv
 case h_2=>cases hv
 rename_i t hres;simp only[Rd.val]at hv;split at hv
 case h_2=>cases hv
 rename_i b B;simp only[Rd.val]at hv;split at hv
 case h_2=>cases hv
 rename_i cs g;split at hv
 case isFalse=>cases hv
 rename_i i;have hp:=h.je t;rw[B]at hp;obtain⟨l,vs',Et,hh,m⟩:=h.box b cs g;refine⟨G.bk b,?_,?_,vs',Et,λb o=>G.S b o\/AK G S [] b o,hh,?_,?_⟩
 ·have:(fn.results.toList.mapM (xX a.tmps)).run P w'=.ok [Value.pointer (some ⟨G.bk b,0,none⟩)] w':=by
   rw[hres];simp only[List.mapM_cons,List.mapM_nil,Sem.run_bind,xX,Sem.run_pure,Result.andThen_ok];have:a.tmps.getD t undef=.pointer (some ⟨G.bk b,0,none⟩):=hp.2;rw[this]
  exact qH this
 ·rcases (h.olt _ _ l).1 with n | ⟨_,n⟩
  ·exact Bs.nw0 n
  ·exact n.elim
 ·cases rs with
  | nil=>cases z
  | cons c rs=>
   have A:=mY h [] 0 hv (us:=[.agg vs'.toArray]) ⟨⟨vs',rfl,m⟩,trivial⟩ λk j z' p C=>by
    rcases bh.1 p with rfl | p
    ·have:(k,j)∈aO cs:=fE C;rw[i]at this;cases this
    ·cases p
   cases rs with
   | nil=>
    have:=ShR.agg (c:=c) (Q:=λd u=>Rep w' (λb o=>G.S b o\/AK G S [] b o) d u) z A;simpa [dI] using this
   | cons s r=>exact absurd A.2 (by cases r<;>exactλh=>h)
 ·rintro bo o (v | ⟨k,j,_,_,_,_,_,_,f,_⟩)
  ·refine⟨?_,(h.sok bo o v).1,λe=>(h.sok bo o v).2 b (by rw[e];exact l)⟩;rcases Nat.lt_or_ge bo w.heap.size with x | x
   ·exact .inl ((h.sfr bo o v x).resolve_right λq=>q.1)
   ·exact .inr x
  ·have:=h.kY f;exact⟨.inr (Bs.nw0 this.1),this.2,λe=>by rw[e,l]at f;cases f⟩
theorem QA{E:Env}(k:jd P E)(l:P.follows .mixedOrders=true)(an:List (Nat×LA)){s:Fsp}{fn:Func}(hf:P.funcs[s.fid]?=some fn)
  (hden:∀x,ald E an fn s.ps s.rs x=s.fn x):PX P s:=by
 intro w S args x y f g hargs m;rw[<- hden x]at f;unfold ald at f;split at f
 ·cases f
 ·rename_i c p;obtain⟨G,h⟩:=Ox m (n:=fn.ntmps) (vs:=xw s.ps x) (us:=args) (λG q=>qW (by rw[q];exact hargs));refine calls_of_wp hf p (iD (k.at (.none g) λ_ _=>nofun) l c f h λe S' a' w' G' hk i=>?_);have key:(CJ fn s.rs).val S'=some y->bodyPost P fn (λe w'=>∃bb,e=.returned (.pointer (some ⟨bb,0,none⟩))/\Below w.heap.size w w'/\w.heap.size<=bb /\
    ∃(vs':List Value) (Et:TypeId) (S':Nat->Nat->Prop),w'.heap[bb]?=some (.cells vs'.toArray Et (0,0))/\aV (λ_ d u=>Rep w' S' d u) 0 (dI s.rs y) vs'/\∀b o,S' b o->(S b o\/w.heap.size<=b)/\b<w'.heap.size/\b≠bb) .ret a' w':=by
   intro hv;obtain⟨bb,r,t,v⟩:=QV hv i;exact⟨i.nodef,_,r,bb,rfl,i.below.KA λ_ hf=>hf,t,v⟩
  cases e with
  | normal=>
   change (CJ fn s.rs).runK S' some=some y at hk;rw[Rd.ku,zB]at hk;obtain⟨z,j,a⟩:=hk;cases a
   exact key j
  | exit id=>cases hk
  | ret=>
   change (CJ fn s.rs).runK S' some=some y at hk;rw[Rd.ku,zB]at hk;obtain⟨z,j,a⟩:=hk;cases a
   exact key j
end functions
