import Derived.Test.YtjbajpfonnnfoaaGreatDoorS3
set_option linter.unusedSimpArgs false
set_option linter.unusedVariables false
/- Regions, loops, code, functions. -/
namespace Go.Abs
open Go.RowKit
theorem QT{S:St}{t:Nat}{v:AV}(h:S.iP t=v)(a:v≠.undef):S.iV t v=S:=by
 cases S with
 | mk tmps boxes owns=>
  simp only[St.iV,St.iP]at *;congr 1;by_cases b:t<tmps.length
  ·rw[zE,zF b]at h;simp only[Option.getD_some]at h;rw[<- h,List.set_getElem_self]
  ·rw[List.set_eq_of_length_le (by omega)]
theorem RD{ρ:Type}{t:Nat}{S:St}{k:St->Option ρ}{r:ρ}(h:fork t S k=some r):k S=some r:=by
 unfold fork at h;split at h
 ·rename_i b a;cases b with
  | true=>rw[<- QT a (by simp)];exact h
  | false=>rw[<- QT a (by simp)];exact h
 ·exact h
theorem yA{ρ:Type}{x:Option Nat}{S:St}{k:St->Option ρ}{r:ρ}(h:Jr x S k=some r):k S=some r:=by
 unfold Jr at h;split at h
 ·exact h
 ·exact RD h
theorem ab5{S:St}{x:W}{l:L}(h:x.loc≠l):agree S (S.put x) l:=by
 cases x<;>cases l<;>simp only[W.loc,ne_eq,L.t.injEq,L.b.injEq,L.o.injEq]at h<;>simp only[agree,St.put]<;>
  first
   | rfl
   | (rw[Ry,if_neg λe=>h e.1])
   | (rw[gy,if_neg λe=>h e.1])
   | (rw[bg,if_neg λe=>h e.1])
theorem Ym{S S' S'':St}{l:L}(h:agree S S' l)(a:agree S' S'' l):agree S S'' l:=by
 cases l<;>exact a.trans h
theorem Dz:∀(ws:List W) {S:St} {l:L},(∀x,x∈ws->x.loc≠l)->agree S (S.puts ws) l
 | [],S,l,_=>by cases l<;>rfl
 | x::r,S,l,h=>Ym (ab5 (h x aq)) (Dz r λy a=>h y (ao _ a))
theorem agy{S:St}{x y:W}(h:x.loc≠y.loc):(S.put x).put y=(S.put y).put x:=by
 have key:∀ {α:Type} {l:List α} {i j:Nat} {a b:α},i≠j->(l.set i a).set j b=(l.set j b).set i a:=λc=>List.set_comm _ _ c
 cases x<;>cases y<;>simp only[W.loc,ne_eq,L.t.injEq,L.b.injEq,L.o.injEq]at h<;>simp only[St.put]<;>
  first
   | rfl
   | (simp only[St.iV];rw[key h])
   | (simp only[St.setB];rw[key h])
   | (rw[bg,if_neg (by omega),bg,if_neg (by omega)];simp only[St.bI];rw[key h])
   | (rw[bg,if_neg (by omega)];simp only[St.bI];rw[key h])
   | (simp only[St.bI];rw[key h])
theorem WI:∀(ws:List W) {S:St} {x:W},(∀y,y∈ws->y.loc≠x.loc)->(S.puts ws).put x=(S.put x).puts ws
 | [],S,x,_=>rfl
 | y::r,S,x,h=>by
  show ((S.put y).puts r).put x=((S.put x).put y).puts r
  rw[WI r λz a=>h z (ao _ a),agy (h y aq)]
theorem QY:∀(vs ws:List W) {S:St},(∀x y,x∈vs->y∈ws->y.loc≠x.loc)->(S.puts ws).puts vs=(S.puts vs).puts ws
 | [],ws,S,_=>rfl
 | x::r,ws,S,h=>by
  show ((S.puts ws).put x).puts r=((S.put x).puts r).puts ws
  rw[WI ws λy a=>h x y aq a,QY r ws λz y b a=>h z y (ao _ b) a]
theorem Af{a b:List L}(h:meets a b=false):∀x y,x∈a->y∈b->x≠y:=by
 intro x y c d e;simp only[meets,List.any_eq_false,List.any_eq_true,not_exists,not_and,decide_eq_true_eq]at h;exact h x c y d e
theorem Ic:∀(ws:List W) (S:St),(S.puts ws).tmps.length=S.tmps.length
 | [],S=>rfl
 | x::r,S=>(Ic r (S.put x)).trans (by cases x<;>simp[St.put,St.iV,St.setB,St.bI])
inductive Run(E:Env)(ops:Array Oper):List (Oper×Nat)->St->List Lg->St->Prop
 | nil (S:St):Run E ops [] S [] S
 | cons (o:Oper) (i:Nat) (r:List (Oper×Nat)) (S S':St) (ws:List W) (rs:List L) (g:List Lg) (h:(Eo E ops o).tH S []=some (ws,rs)) (hr:Run E ops r (S.puts ws) g S') :
   Run E ops ((o,i)::r) S ({ i,reads:=rs,writes:=ws.map W.loc } :: g) S'
theorem WV{ρ:Type}{E:Env}{ops:Array Oper}{k:St->List Lg->Option ρ}{r:ρ}:∀ {l:List (Oper×Nat)} {S:St} {g:List Lg},opsL E ops l S g k=some r ->
  ∃g' S',Run E ops l S g' S'/\k S' (g'.reverse++g)=some r
 | [],S,g,h=>⟨[],S,.nil S,h⟩
 | (o,i)::l,S,g,h=>by
  have a:=yA (yA h);rw[Rd.agt,zB]at a;obtain⟨⟨ws,rs⟩,b,c⟩:=a;obtain⟨g',S',d,e⟩:=WV c;exact⟨_,S',.cons o i l S S' ws rs g' b d,by simpa using e⟩
theorem Run.front{E:Env}{ops:Array Oper}{o:Oper}{i:Nat}{post:List (Oper×Nat)}:∀ {pre:List (Oper×Nat)} {S S':St} {g:List Lg},Run E ops (pre++(o,i)::post) S g S' ->
  (∀gpre gi gpost,g=gpre++gi::gpost->gpre.length=pre.length->∀b,b∈gpre->b.free gi=true) ->
  ∃ws rs gpre gpost,g=gpre ++ { i,reads:=rs,writes:=ws.map W.loc } :: gpost/\gpre.length=pre.length/\(Eo E ops o).tH S []=some (ws,rs)/\Run E ops (pre++post) (S.puts ws) (gpre++gpost) S'
 | [],S,S',g,h,_=>by
  cases h with
  | cons _ _ _ _ _ ws rs g j k=>exact⟨ws,rs,[],g,rfl,rfl,j,k⟩
 | (m,n)::pre,S,S',g,h,hf=>by
  cases h with
  | cons _ _ _ _ _ a c A j k=>
   obtain⟨ws,rs,gpre,gpost,rfl,f,p,q⟩:=Run.front k λgpre gi gpost r f b s=>
    hf (_::gpre) gi gpost (by rw[r];rfl) (by simp[f]) b (ao _ s)
   have hfree:=hf (_::gpre) _ gpost rfl (by simp[f]) _ aq;simp only[Lg.free,zI,Bool.not_eq_true']at hfree;obtain⟨⟨t,u⟩,v⟩:=hfree;have w:(Eo E ops o).tH S []=some (ws,rs):=Rd.La (Ic a S).symm p λx d=>by
    have:=Dz a (S:=S) (l:=x) λy e=>Af t y.loc x (List.mem_map_of_mem e) d
    cases x<;>exact Eq.symm this
   have z:(Eo E ops m).tH (S.puts ws) []=some (a,c):=Rd.La (Ic ws S) j λx d=>
    Dz ws λy e=>Af v y.loc x (List.mem_map_of_mem e) d
   refine⟨ws,rs,_::gpre,gpost,rfl,by simp[f],w,?_⟩;refine .cons m n _ _ _ a c _ z ?_;rw[QY a ws λx y d e=>Ne.symm (Af u x.loc y.loc (List.mem_map_of_mem d) (List.mem_map_of_mem e))];exact q
theorem aeD{acc:List Nat}{o:Oper}{k:Nat}(h:(Ag acc o).testBit k=true):∃e,e∈o.after.toList/\Region.binds .any e=true/\(k=e.on\/(acc.getD e.on 0).testBit k=true):=by
 have key:∀(es:List Edge) (s:Nat),(es.foldl (λs e=>if Region.binds .any e then s ||| 2 ^ e.on ||| acc.getD e.on 0 else s) s).testBit k=true->s.testBit k=true \/
   ∃e,e∈es/\Region.binds .any e=true/\(k=e.on\/(acc.getD e.on 0).testBit k=true):=by
  intro es;induction es with
  | nil=>intro s h;exact .inl h
  | cons e es ih=>
   intro s h;simp only[List.foldl_cons]at h;rcases ih _ h with a | ⟨e',b,d⟩
   ·split at a
    ·rename_i c;simp only[Nat.testBit_or,Bool.or_eq_true]at a;rcases a with (a | a) | a
     ·exact .inl a
     ·rw[Nat.testBit_two_pow]at a;exact .inr ⟨e,aq,c,.inl (by simp at a;exact a.symm)⟩
     ·exact .inr ⟨e,aq,c,.inr a⟩
    ·exact .inl a
   ·exact .inr ⟨e',ao _ b,d⟩
 rcases key _ _ h with a | a
 ·simp at a
 ·exact a
theorem Ro:∀(l:List Oper) (acc:List Nat) (i:Nat),(∀i,i<acc.length->(masks acc l)[i]?=acc[i]?)/\(∀o,l[i]?=some o->∃acc',(∀j,j<acc'.length->(masks acc l)[j]?=acc'[j]?)/\acc'.length=acc.length+i/\(masks acc l)[acc.length+i]?=some (Ag acc' o))
 | [],acc,i=>⟨λ_ _=>rfl,λo h=>by simp at h⟩
 | a::r,acc,i=>by
  have ih:=Ro r (acc++[Ag acc a]);have c:∀i,i<acc.length->(masks acc (a::r))[i]?=acc[i]?:=λi d=>by
   show (masks (acc++[Ag acc a]) r)[i]?=_
   rw[(ih 0).1 i (by simp;omega),List.getElem?_append_left d]
  refine⟨c,λo b=>?_⟩;cases i with
  | zero=>
   simp at b;subst b;refine⟨acc,c,rfl,?_⟩;show (masks (acc++[Ag acc a]) r)[acc.length+0]?=_
   rw[(ih 0).1 _ (by simp)];simp
  | succ i=>
   obtain⟨acc',f,g,k⟩:=(ih i).2 o (by simpa using b);refine⟨acc',f,by simp at g;omega,?_⟩;have e:acc.length+(i+1)=(acc++[Ag acc a]).length+i:=by simp;omega
   rw[e];exact k
section regions
variable {P:Program} {w0:Bs} {E:Env} {ops:Array Oper} {Q:Exit->Act->World->Prop}
theorem SQ{G:Gh}{S:St}{a:Act}{w:World}(h:Inv w0 G S a w){o:Oper}{b:Bool}(c:(SS ops o).val S=some b):Region.wanted o (yielded ops a.tmps)=b:=by
 unfold SS at c;unfold Region.wanted;split at c
 ·rename_i l;simp only[Rd.val,zD]at c;rw[l];exact c
 ·rename_i j want l;rw[l];split at c
  ·cases c
  ·rename_i t p;simp only[Rd.val]at c;have i:=h.iP t;have q:∀v,a.tmps.getD t undef=v->v≠undef->a.tmps[t]?=some v:=by
    intro v c m;cases k:a.tmps[t]? with
    | none=>simp[k]at c;exact absurd c.symm m
    | some u=>simp[k]at c;rw[c]
   split at c
   ·rename_i bb e;simp only[Rd.val,zD]at c;rw[e]at i;have f:Rep w G.S (.bool bb) (a.tmps.getD t undef):=i;generalize d:a.tmps.getD t undef=vv at f;cases f
    have:=q _ d (by simp[undef]);simp only[yielded,p,zA,this];rw[<- c];cases bb<;>cases want<;>rfl
   ·rename_i e;simp only[Rd.val,zD]at c;rw[e]at i;obtain⟨us,d,n⟩:=i;have g:us=[]:=by cases us with
     | nil=>rfl
     | cons=>exact n.elim
    subst g;rw[<- c];have:yielded ops a.tmps j=none:=by
     simp only[yielded,p,zA];cases k:a.tmps[t]? with
     | none=>rfl
     | some u=>
      simp[k]at d;rw[d]
    show (yielded ops a.tmps j==some want)=false
    rw[this];rfl
   ·cases c
theorem LC{G:Gh}{S:St}{a:Act}{w:World}(f:oM P E w0)(h:Inv w0 G S a w){o:Oper}{i:Nat}(g:ops[i]?=some o){ws:List W}(c:(Eo E ops o).val S=some ws){K:Act->World->Prop}
  (e:∀a' w' G',Inv w0 G' (S.puts ws) a' w'->K a' w'):wpOp P ops Q i K a w:=by
 unfold Eo at c;rw[Rd.aH,zB]at c;obtain⟨b,j,d⟩:=c;have k:=SQ h j;unfold wpOp;rw[g];simp only[k];cases b with
 | true=>exact .inl (acN h f d e)
 | false=>
  simp only[Rd.val,zD]at d;subst d;exact e _ _ _ (h.dst AU)
theorem Ep{i:Oper}{l:List Oper}{q:Srt×Operand×Nat×Nat×Nat×Oper}(h:Es E i l=some q):∃(o2 a:Oper) (r:List Oper) (T:Nat) (x:Operand) (d g:Nat) (first cap:Array Operand) (e:Nat) (c:Call) (f b:Nat) (s:Srt),
  l=o2::a::r/\i.op=.makeInterface T x/\i.dst=some d/\o2.op=.makeFunc (.func g) first cap/\o2.dst=some e/\a.op=.call c/\c.callee=.value (.func f)/\first.toList=[]/\cap.toList=[.tmp b]/\c.args.toList=[.tmp d,.tmp e] /\
  i.guard=none/\o2.guard=none/\a.guard=none/\d≠e/\b≠d/\s∈E.so/\s.fid=f/\s.g=g/\s.T=T/\q=(s,x,b,d,e,a):=by
 unfold Es at h;split at h
 case h_2=>cases h
 rename_i o2 a r;split at h
 case h_2=>cases h
 rename_i T x d g first cap e c k m n o p;split at h
 case h_2=>cases h
 rename_i f b t u v w y z;split at h
 case isFalse=>cases h
 rename_i hc;simp only[zI,Option.isNone_iff_eq_none,beq_iff_eq,bne_iff_ne,ne_eq]at hc;obtain⟨⟨⟨⟨⟨⟨A,B⟩,C⟩,c1⟩,c2⟩,c3⟩,c4⟩:=hc;rw[Option.map_eq_some_iff]at h;obtain⟨s,j,rfl⟩:=h;have hp:=List.find?_some j;simp only[zI,beq_iff_eq]at hp;subst c1 c2;exact⟨o2,a,r,T,x,t,g,first,cap,u,c,f,b,s,rfl,k,m,n,o,p,v,w,y,z,A,B,C,c3,c4,List.mem_of_find?_eq_some j,hp.1.1,hp.1.2,hp.2,rfl⟩
theorem Qa{T:TypeId}{d:TypeDesc}(a:P.underlying T=some d)(b:∀ms,d≠.interface ms)(v:Value)(w:World):(Instr.makeInterface T v).run P w=.ok (.iface T v) w:=by
 unfold Instr.makeInterface;have:=run_underlying a w;rw[Sem.run_bind,this];simp only[Result.andThen];cases d<;>first | rfl | exact absurd rfl (b _)
theorem CU{a:Act}{d:Nat}{v:Value}(h:d<a.tmps.size):(a.put (some d) v).eval (.tmp d)=v:=by
 simp[Act.put,Act.eval,h]
theorem AB{a:Act}{d e:Nat}{v:Value}(h:e≠d):(a.put (some d) v).eval (.tmp e)=a.eval (.tmp e):=by
 simp[Act.put,Act.eval,Array.getElem?_setIfInBounds,Ne.symm h]
theorem YE(hE:oM P E w0){G:Gh}{S:St}{a:Act}{w:World}(h:Inv w0 G S a w){o1 o2 A:Oper}{r:List Oper}{q:Srt×Operand×Nat×Nat×Nat×Oper}(hq:Es E o1 (o2::A::r)=some q)
  {ws:List W} (d:(KT q).val S=some ws) {K:Act->World->Prop} (hK:∀a' w' G',Inv w0 G' (S.puts ws) a' w'->K a' w') :
  o1.wp P a w (λa1 w1=>o2.wp P a1 w1 (λa2 w2=>A.wp P a2 w2 K Q) Q) Q:=by
 obtain⟨o2',o3',r',T,x,z,g,first,cap,B,c,f,b,s,hl,h1,h2,h3,h4,h5,k1,k2,k3,k4,g1,g2,g3,c3,c4,C,l,D,m,rfl⟩:=Ep hq;simp only[List.cons.injEq]at hl;obtain⟨rfl,rfl,rfl⟩:=hl;obtain⟨hcall,hsound,dd,hu,F⟩:=hE.2.2.2.2.2.2.1 s C;unfold KT at d;simp only[Rd.aH,zB]at d;obtain⟨ax,e1,v,e2,d⟩:=d;split at d
 case h_2=>cases d
 rename_i k j;simp only[Rd.val]at d;split at d
 case h_2=>cases d
 rename_i bi H;simp only[Rd.val]at d;split at d
 case h_2=>cases d
 rename_i k' j' I;split at d
 case isFalse=>cases d
 rename_i J;obtain⟨rfl,rfl⟩:=J;simp only[Rd.val]at d;split at d
 case h_2=>cases d
 rename_i t xs deep hown;split at d
 case isFalse=>cases d
 rename_i L;subst L;simp only[Rd.val,zB]at d;obtain⟨ys,h7,d⟩:=d;split at d
 case isFalse=>cases d
 rename_i n;simp only[Rd.val,zD]at d;subst d;have M:qV G w (.one (.own k j)) (a.eval x):=oW e2 (aY h e1);have i:a.eval x=G.ov k j:=M.2.1;have N:jc G w (.v (.one (.ptr bi 0))) (a.eval (.tmp b)):=by rw[<- H];exact h.iP b
 have O:a.eval (.tmp b)=.pointer (some ⟨G.bk bi,0,none⟩):=N.2;obtain⟨R,vs,Eb,hheap,U⟩:=h.box bi _ I;have V:vs=[a.eval x]:=by
  match vs,U with
  | [],hc=>exact hc.elim
  | [u],hc=>rw[i,<- hc.1.2.1]
  | _::_::_,hc=>exact hc.2.elim
 rw[V]at hheap;have X:OwT w G.S deep true s.t xs (a.eval x) (fM G k j):=by
  have:=h.owns k j;rw[hown]at this;rw[i];exact this
 have Y:¬fM G k j (G.bk bi):=λhf=>by
  have hf:G.ow (G.bk bi)=some (.own k j):=hf;rw[R]at hf;cases hf
 have hC:=hsound w G.S deep (G.bk bi) Eb (a.eval x) xs ys (fM G k j) h7 (hE.am.keep w h.below) X (λc hc=>(h.olt _ _ hc).2) (λb o C=>(h.sok b o C).1) hheap Y;have Z:z<a.tmps.size:=by rw[h.tsz];exact n.1
 have hz2:B<a.tmps.size:=by rw[h.tsz];exact n.2
 refine aW (v:=.iface T (a.eval x)) (w':=w) ?_ ?_
 ·unfold execOp;rw[h1];show ((Instr.makeInterface T (a.eval x)) >>=λy=>pure (Next.value y)).run P w=_
  rw[Sem.run_bind,Qa (m▸hu) F];rfl
 rw[h2];refine aW (v:=.func (.func g) #[] #[.pointer (some ⟨G.bk bi,0,none⟩)]) (w':=w) ?_ ?_
 ·unfold execOp;rw[h3];have ef:first = #[]:=by cases first;simp at k2;rw[k2]
  have ec:cap = #[.tmp b]:=by cases cap;simp at k3;rw[k3]
  subst ef ec;have:(a.put (some z) (.iface T (a.eval x))).eval (.tmp b)=.pointer (some ⟨G.bk bi,0,none⟩):=by rw[AB c4,O]
  simp only[List.map_toArray,List.map_cons,List.map_nil,this];rfl
 rw[h4];have hargs:c.args.map ((a.put (some z) (.iface T (a.eval x))).put (some B) (.func (.func g) #[] #[.pointer (some ⟨G.bk bi,0,none⟩)])).eval = #[.iface s.T (a.eval x),.func (.func s.g) #[] #[.pointer (some ⟨G.bk bi,0,none⟩)]]:=by
  rw[nX k4];simp only[List.map_toArray,List.map_cons,List.map_nil];rw[AB c3,CU Z,CU (by simp[Act.put];exact hz2),m,D]
 unfold Oper.wp;rw[jf h5 k1 (l▸hcall),hargs];subst l;refine Calls.mono hC λe w' he=>?_
 obtain⟨rfl,hoff,p⟩:=he;rw[i]at p;have h9:=WR h hown hoff p;refine hK _ _ G ?_;rw[eP];have h10:=h9.iV z (av:=.undef) (v:=.iface T (a.eval x)) trivial;have h11:=h10.iV B (av:=.undef) (v:=.func (.func g) #[] #[.pointer (some ⟨G.bk bi,0,none⟩)]) trivial;exact h11.dst (o:=A) (av:=.tup []) (v:=.tuple #[]) ⟨[],rfl,trivial⟩
theorem xq{o:Oper}{i:Nat}(b:ops[i]?=some o)(c:o.guard=none){K:Act->World->Prop}{a:Act}{w:World}(h:o.wp P a w K Q):wpOp P ops Q i K a w:=by
 unfold wpOp;have:Region.wanted o (yielded ops a.tmps)=true:=by unfold Region.wanted;rw[c]
 rw[b];simp only[this];exact .inl h
theorem DN{ρ:Type}(m:oM P E w0){k:St->Option ρ}{r:ρ}(v:∀S' a' w' G',k S'=some r->Inv w0 G' S' a' w'->Q .normal a' w') :
  ∀(n:Nat) {l:List Oper} {i:Nat} {G:Gh} {S:St} {a:Act} {w:World},l.length<=n->ops.toList.drop i=l->Qg E ops 0 l S k=some r->Inv w0 G S a w->wpOps P ops Q (List.range' i l.length) a w
 | _,[],i,G,S,a,w,_,_,e,h=>v S a w G e h
 | 0,o::l,i,G,S,a,w,p,_,_,_=>absurd p (by simp)
 | n+1,o::l,i,G,S,a,w,p,C,e,h=>by
  have get:∀(t:Nat) (y:Oper),(o::l)[t]?=some y->ops[i+t]?=some y:=λt y J=>by
   have:(ops.toList.drop i)[t]?=some y:=by rw[C];exact J
   rw[List.getElem?_drop]at this;simpa using this
  have dr:∀t,ops.toList.drop (i+t)=(o::l).drop t:=λt=>by rw[<- C,List.drop_drop]
  have D:=get 0 o rfl;cases u:Es E o l with
  | none=>
   have d:Jr (ZR ops o) S (λS=>Jr (aec o) S λS=>(Eo E ops o).runK S λws=>Qg E ops 0 l (S.puts ws) k)=some r:=by
    unfold Qg at e;rw[u]at e;exact e
   have j:=yA (yA d);rw[Rd.jg,zB]at j;obtain⟨ws,F,H⟩:=j;show wpOps P ops Q (i::List.range' (i+1) l.length) a w
   rw[wpOps_cons];exact LC m h D F λa' w' G' z=>DN m v n (by simpa using p) (dr 1) H z
  | some q=>
   obtain⟨o2,I,l',T,x,Y,g,first,cap,Z,c,f,b,s,L,h1,F,H,h4,h5,k1,k2,k3,k4,M,N,O,c3,c4,hs,R,U,V,W⟩:=Ep u;subst L;have d:(KT q).runK S (λws=>Qg E ops 2 (o2::I::l') (S.puts ws) k)=some r:=by
    unfold Qg at e;rw[u]at e;exact e
   rw[Rd.jg,zB]at d;obtain⟨ws,X,A⟩:=d;have A:Qg E ops 0 l' (S.puts ws) k=some r:=A;show wpOps P ops Q (i::(i+1)::(i+1+1)::List.range' (i+1+1+1) l'.length) a w
   rw[wpOps_cons];refine xq D M ?_;have:=YE (Q:=Q) m h u X (K:=wpOps P ops Q (List.range' (i+1+1+1) l'.length)) λa' w' G' z=>DN m v n (by simp at p ⊢;omega) (dr 3) A z
   refine Oper.wp_mono (λa1 w1 hh=>?_) this;rw[wpOps_cons];refine xq (get 1 o2 rfl) N ?_;refine Oper.wp_mono (λa2 w2 B=>?_) hh;rw[wpOps_cons];exact xq (get 2 I rfl) O B
theorem Zi{ρ:Type}(b:oM P E w0){k:St->Option ρ}{r:ρ}(c:∀S' a' w' G',k S'=some r->Inv w0 G' S' a' w'->Q .normal a' w')
  {l:List Oper} {i:Nat} {G:Gh} {S:St} {a:Act} {w:World} (d:ops.toList.drop i=l) (e:aj1 E ops l S k=some r) (h:Inv w0 G S a w):wpOps P ops Q (List.range' i l.length) a w:=
 DN b c l.length (ar _) d e h
end regions
theorem Zp{ops:Array Oper}{i k:Nat}(h:((masks [] ops.toList).getD i 0).testBit k=true) :
  ∃o e,ops[i]?=some o/\e∈o.after.toList/\Region.binds .any e=true/\(k=e.on\/(e.on<i/\((masks [] ops.toList).getD e.on 0).testBit k=true)):=by
 cases a:ops.toList[i]? with
 | none=>
  exfalso;have hlen:(masks [] ops.toList).length=ops.toList.length:=by
   have key:∀(l:List Oper) (acc:List Nat),(masks acc l).length=acc.length+l.length:=by
    intro l;induction l with
    | nil=>intro acc;rfl
    | cons o r ih=>intro acc;show (masks (acc++[Ag acc o]) r).length=_;rw[ih];simp;omega
   have:=key ops.toList [];simpa using this
  have m:ops.toList.length<=i:=by simpa using a
  rw[zE,zJ (by omega)]at h;simp at h
 | some o=>
  obtain⟨acc',d,f,c⟩:=(Ro ops.toList [] i).2 o a;simp only[List.length_nil,Nat.zero_add]at f c;rw[zE,c]at h;obtain⟨e,g,j,hk⟩:=aeD h;refine⟨o,e,by simpa using a,g,j,hk.imp id λhk=>?_⟩;by_cases b:e.on<i
  ·refine⟨b,?_⟩;rw[zE,d _ (by omega),<- zE];exact hk
  ·rw[zE,zJ (by omega)]at hk;simp at hk
def Closed(ops:Array Oper)(listed:Array Bool):Prop:=∀i o e,listed.getD i false=true->ops[i]?=some o->e∈o.after.toList->Region.binds .any e=true->listed.getD e.on false=true
theorem Jv{ops:Array Oper}{listed:Array Bool}(hc:Closed ops listed):∀(n i k:Nat),i<n->(∀o e,ops[i]?=some o->e∈o.after.toList->Region.binds .any e=true->listed.getD e.on false=true) ->
  ((masks [] ops.toList).getD i 0).testBit k=true->listed.getD k false=true
 | 0,i,k,g,_,_=>by omega
 | n+1,i,k,g,h,j=>by
  obtain⟨o,e,l,m,a,hk⟩:=Zp j;have f:=h o e l m a;rcases hk with rfl | ⟨p,hk⟩
  ·exact f
  ·exact Jv hc n e.on k (by omega) (λo' e' b c d=>hc e.on o' e' f b c d) hk
theorem xg{bf:List Nat}:∀ {g:List Lg},BU bf g=true->g.Pairwise λa b=>(bf.getD a.i 0).testBit b.i=true\/b.free a=true
 | [],_=>.nil
 | a::r,h=>by
  simp only[BU,zI,List.all_eq_true,Bool.or_eq_true]at h;exact .cons (λb c=>h.1 b c) (xg h.2)
theorem Run.idx{E:Env}{ops:Array Oper}{l:List (Oper×Nat)}{S S':St}{g:List Lg}(h:Run E ops l S g S'):g.map Lg.i=l.map (·.2):=by
 induction h with
 | nil S=>rfl
 | cons o i r S S' ws rs g h a ih=>simp[ih]
section regions
variable {P:Program} {w0:Bs} {E:Env} {ops:Array Oper} {Q:Exit->Act->World->Prop}
theorem SB(Z:oM P E w0){S':St}(J:∀a' w' G',Inv w0 G' S' a' w'->Q .normal a' w')(hback:∀i o e,ops[i]?=some o->e∈o.after.toList->Region.binds .any e=true->e.on<i) :
  ∀(fuel:Nat) {listed:Array Bool} {l:List (Oper×Nat)} {S:St} {g:List Lg} {a:Act} {w:World} {G:Gh},listed.size=ops.size->Closed ops listed ->
   (∀o i,(o,i)∈l->ops[i]?=some o/\listed.getD i true=false)->(∀o i,ops[i]?=some o->listed.getD i true=false->(o,i)∈l)->l.Pairwise (λx y=>x.2<y.2) ->
   Run E ops l S g S'->g.Pairwise (λb a=>((masks [] ops.toList).getD a.i 0).testBit b.i=true\/b.free a=true)->Inv w0 G S a w->l.length<=fuel->wpAny P .any ops Q fuel listed a w
 | 0,listed,l,S,g,a,w,G,_,_,_,v,_,z,_,h,hf=>by
  have hl:l=[]:=List.eq_nil_of_length_eq_zero (by omega);subst hl;cases z
  refine⟨?_,J _ _ _ h⟩;rw[List.eq_nil_iff_forall_not_mem];intro j hj;obtain⟨h0,o,k,_⟩:=mem_ready.1 hj;exact absurd (v o j k h0) (by simp)
 | fuel+1,listed,l,S,g,a,w,G,K,A,I,v,hp,z,t,h,hf=>by
  refine⟨λhnil=>?_,λi hi=>?_⟩
  ·cases l with
   | nil=>cases z;exact J _ _ _ h
   | cons x r=>
    obtain⟨o,i⟩:=x;exfalso;obtain⟨k,s⟩:=I o i aq;have hm:i∈Region.ready .any ops listed:=by
     refine mem_ready.2 ⟨s,o,k,λe he n=>?_⟩;have hlt:=hback i o e k (by simpa using he) n;have L:i<ops.size:=(aM.1 k).1;cases u:listed.getD e.on false with
     | true=>rfl
     | false=>
      have M:listed.getD e.on true=false:=by
       have:e.on<listed.size:=by omega
       simp[this]at u ⊢;exact u
      have hmem:=v ops[e.on] e.on (by simp) M;rcases ba.1 hmem with d | d
      ·have:=congrArg Prod.snd d;simp at this;omega
      ·have:=(List.pairwise_cons.1 hp).1 _ d;simp at this;omega
    rw[hnil]at hm;cases hm
  ·obtain⟨s,o,k,hall⟩:=mem_ready.1 hi;have hmem:=v o i k s;obtain⟨pre,post,rfl⟩:=List.append_of_mem hmem;have hidx:=z.idx;obtain⟨ws,rs,gpre,gpost,rfl,p,hv,N⟩:=z.front λgpre gi gpost O p b B=>by
    subst O;have R:gi.i=i:=by
     have:=congrArg (λl=>l[pre.length]?) hidx;simp[<- p]at this;simpa [p] using this
    have T:b.i∈pre.map (·.2):=by
     have e1:(gpre.map Lg.i)=pre.map (·.2):=by
      have:=congrArg (List.take pre.length) hidx;simp only[List.map_append,List.map_cons]at this;rw[List.take_left' (by simp[p]),List.take_left' (by simp)]at this;exact this
     rw[<- e1];exact List.mem_map_of_mem B
    rw[List.pairwise_append]at t;have:=t.2.2 b B gi aq;rcases this with hbit | U
    ·exfalso;rw[R]at hbit;have hlst:=Jv A (i+1) i b.i (by omega) (λo' e' f d V=>by
      rw[k]at f;cases f;exact hall e' (by simpa using d) V) hbit
     obtain⟨⟨o2,W⟩,C,D⟩:=List.mem_map.1 T;have:=(I o2 W (by simp[C])).2;simp only at D;rw[<- D]at hlst;have X:W<listed.size:=by
      have:=(I o2 W (by simp[C])).1;have:=(aM.1 this).1;omega
     simp[X]at hlst this;rw[hlst]at this;cases this
    ·exact U
   refine LC Z h k (Rd.ac7 hv) λa' w' G' h'=>?_
   have L:i<ops.size:=(aM.1 k).1;rw[List.pairwise_append]at hp t;refine SB Z J hback fuel (l:=pre++post) (by simp[K]) ?_ ?_ ?_ ?_ N ?_ h' (by simp at hf ⊢;omega)
   ·intro i' o' e' F f d n;by_cases H:i=i'
    ·subst H;rw[k]at f;cases f;exact getD_set_true (hall e' (by simpa using d) n)
    ·rw[getD_set_ne false H]at F;exact getD_set_true (A i' o' e' F f d n)
   ·intro o' i' c;have q:i≠i':=by
     rcases List.mem_append.1 c with c | c
     ·have:=hp.2.2 _ c _ aq;simp at this;omega
     ·have:=(List.pairwise_cons.1 hp.2.1).1 _ c;simp at this;omega
    have:=I o' i' (by rcases List.mem_append.1 c with c | c<;>simp[c])
    exact⟨this.1,by rw[getD_set_ne true q];exact this.2⟩
   ·intro o' i' f m;have q:i≠i':=by
     rintro rfl;have:i<listed.size:=by omega
     simp[this]at m
    rw[getD_set_ne true q]at m;have:=v o' i' f m;rcases List.mem_append.1 this with c | c
    ·exact List.mem_append_left _ c
    ·rcases ba.1 c with d | c
     ·have:=congrArg Prod.snd d;simp at this;exact absurd this.symm q
     ·exact List.mem_append_right _ c
   ·rw[List.pairwise_append];exact⟨hp.1,(List.pairwise_cons.1 hp.2.1).2,λx u y Y=>hp.2.2 x u y (ao _ Y)⟩
   ·rw[List.pairwise_append];exact⟨t.1,(List.pairwise_cons.1 t.2.1).2,λx u y Y=>t.2.2 x u y (ao _ Y)⟩
theorem afn(q:oM P E w0){G:Gh}{S S':St}{a:Act}{w:World}{g:List Lg}(r:Run E ops ops.toList.zipIdx S g.reverse S')
  (hc:IX ops.toList.zipIdx=true/\BU (masks [] ops.toList) g=true) (h:Inv w0 G S a w)
  (s:∀a' w' G',Inv w0 G' S' a' w'->Q .normal a' w'):wpAny P .any ops Q ops.size (Array.replicate ops.size false) a { w with drawn:=w.drawn+1 }:=by
 have hzip:∀o i,(o,i)∈ops.toList.zipIdx↔ops[i]?=some o:=by
  intro o i;rw[List.mem_zipIdx_iff_getElem?];simp
 have c:=xg hc.2;rw[<- List.pairwise_reverse]at c;refine SB q (S':=S') s (λi o e j t u=>?_) ops.size (l:=ops.toList.zipIdx) (by simp) ?_ (λo i d=>⟨(hzip o i).1 d,?_⟩) (λo i j _=>(hzip o i).2 j) ?_ r c (h.grow ((Below.refl _ _).drew)) (by simp)
 ·have:=List.all_eq_true.1 hc.1 _ ((hzip o i).2 j);simp only[List.all_eq_true,Bool.or_eq_true,Bool.not_eq_true',decide_eq_true_eq]at this;rcases this e t with b | b
  ·rw[u]at b;cases b
  ·exact b
 ·intro i o e k;by_cases m:i<ops.size
  ·simp[m]at k
  ·simp[m]at k
 ·have:=(aM.1 ((hzip o i).1 d)).1;simp[this]
 ·have key:∀(l:List Oper) (n:Nat),(l.zipIdx n).Pairwise (λx y=>x.2<y.2)/\∀x∈l.zipIdx n,n<=x.2:=by
   intro l;induction l with
   | nil=>intro n;exact⟨.nil,λx f=>by cases f⟩
   | cons o l ih=>
    intro n;obtain⟨b,p⟩:=ih (n+1);refine⟨.cons (λy v=>?_) b,λx f=>?_⟩
    ·have:=p y v;simp;omega
    ·rcases ba.1 f with rfl | f
     ·exact ar _
     ·have:=p x f;omega
  exact (key _ 0).1
theorem ahv(b:oM P E w0)(c:P.follows .mixedOrders=true){id:Nat}{G:Gh}{S S':St}{a:Act}{w:World}{g:List Lg}(d:Run E ops ops.toList.zipIdx S g.reverse S')
  (hc:IX ops.toList.zipIdx=true/\BU (masks [] ops.toList) g=true) (h:Inv w0 G S a w)
  (e:∀a' w' G',Inv w0 G' S' a' w'->Q .normal a' w'):(Code.region id ops true).wp P Q a w:=wp_region_any c (afn b d hc h e)
theorem zW:∀(keys:List (Nat×Nat)) {G:Gh} {S:St} {a:Act} {w:World},Inv w0 G S a w->∃G',Inv w0 G' (S.puts (keys.map λq=>W.nomut q.1 q.2)) a w
 | [],G,S,a,w,h=>⟨G,h⟩
 | q::r,G,S,a,w,h=>by
  obtain⟨c,b,_⟩:=h.Tj q.1 q.2;exact zW r b
theorem Z5{ρ:Type}(e:oM P E w0)(f:P.follows .mixedOrders=true){id:Nat}{k:St->Option ρ}{r:ρ}{G:Gh}{S:St}{a:Act}{w:World}
  (d:agG E ops id S k=some r) (h:Inv w0 G S a w)
  (i:∀S' a' w' G',k S'=some r->Inv w0 G' S' a' w'->Q .normal a' w'):(Code.region id ops true).wp P Q a w:=by
 unfold agG at d;obtain⟨j,l,c,b⟩:=WV d;simp only[List.append_nil]at b;split at b
 case isFalse=>cases b
 rename_i hc;rw[zI]at hc;obtain⟨o,m⟩:=zW (ahS E id) h;exact ahv e f (g:=j.reverse) (by rw[List.reverse_reverse];exact c) hc m λa' w' G' n=>i l a' w' G' b n
end regions
section loops
variable {w0:Bs} {G:Gh} {S:St} {a:Act} {w:World}
theorem uJ:∀ {l:List (Nat×Nat)} {u:Unit},(Gt l).val S=some u->∀b n,(b,n)∈l->∃cs,S.fJ b=some cs/\cs.length=n
 | [],_,_,b,n,a=>by cases a
 | (f,g)::r,u,h,b,n,a=>by
  simp only[Gt,Rd.val]at h;split at h
  ·rename_i cs c;split at h
   ·rename_i d;rcases ba.1 a with e | a
    ·cases e;exact⟨cs,c,d⟩
    ·exact uJ h b n a
   ·cases h
  ·cases h
theorem Nj:∀ {l:List (Nat×Nat×Nat)} {u:Unit},(Nk l).val S=some u->∀i b off,(i,b,off)∈l->S.iP i=.v (.one (.ptr b off))
 | [],_,_,i,b,off,a=>by cases a
 | (i0,f,off0)::r,u,h,i,b,off,a=>by
  simp only[Nk,Rd.val]at h;split at h
  ·rename_i b' off' d;split at h
   ·rename_i e;obtain⟨rfl,rfl⟩:=e;rcases ba.1 a with c | a
    ·cases c;exact d
    ·exact Nj h i b off a
   ·cases h
  ·cases h
def cellV(G:Gh)(a:Act)(w:World):It->Value->Prop
 | .t i _,v=>a.tmps.getD i undef=v
 | .b b off _,v=>w.cell? ⟨G.bk b,off,none⟩=some v
theorem ahA(h:Inv w0 G S a w){it:It}{c:C}(hc:(cAt it).val S=some c):∃v,cellV G a w it v/\l9 G w c v:=by
 cases it with
 | t i s=>
  simp only[cAt,Rd.val]at hc;have f:=h.iP i;unfold avC at hc;split at hc
  ·rename_i c' j;simp only[Rd.val,zD]at hc;subst hc;rw[j]at f;exact⟨_,rfl,f⟩
  ·cases hc
 | b b off s=>
  simp only[cAt,Rd.val]at hc;split at hc
  ·rename_i cs g;simp only[Rd.val,zB,zD]at hc;obtain⟨c',d,rfl⟩:=hc;obtain⟨_,vs,E,hh,f⟩:=h.box b cs g;obtain⟨l,k⟩:=f.get;have e:off<vs.length:=by have:=(zC.1 d).1;omega
   refine⟨vs[off],?_,k off c' vs[off] d (by simp[e])⟩;show w.cell? _=_
   rw[cell_of_row _ _ _ _ _ _ hh];simp[e]
  ·cases hc
def Sr.live:Sr->Bool
 | .ro _=>false
 | _=>true
def afO(S0:Nat->Nat->Prop)(w:World):(sr:Sr)->sr.den->Value->(Nat->Prop)->Prop
 | .ro t,x,v,_=>∃d,t.cells x=[d]/\Rep w S0 d v
 | .own t deep m _,xs,v,lab=>OwT w S0 deep m t xs v lab
 | .part t _,z,v,lab=>iD w S0 t z.1 z.2 v lab
 | .tree t _,xs,v,lab=>∃fp:Nat->Prop,(∀b,fp b->lab b)/\Ow w (λ_ _=>False) true (.list t xs) v fp/\∀b o,S0 b o->¬fp b
theorem OwT.weak{S0:Nat->Nat->Prop}{deep deep' m m':Bool}{t:Ty}{xs:List t.den}{v:Value}{fp fp':Nat->Prop}(h:OwT w S0 deep' m' t xs v fp)(p:deep=true->deep'=true)(q:m=true->m'=true)(a:∀b,fp b->fp' b) :
  OwT w S0 deep m t xs v fp':=by
 rcases h with r | ⟨b,cap,arr,E,vs,fps,s,u,y,z,A,B,C,D,l,f,g⟩
 ·exact .inl r
 ·refine .inr ⟨b,cap,arr,E,vs,fps,s,u,y,z,A,a _ B,C,λi x j' d F j=>(D i x j' d F j).sub (λ_ hh=>hh) p,λi j' c e=>⟨a _ (l i j' c e).1,(l i j' c e).2⟩,f,λo G=>?_⟩;obtain⟨n,H⟩:=g o G;refine⟨?_,H⟩;cases k:m with
  | false=>rfl
  | true=>rw[q k]at n;cases n
def akH(S0:Nat->Nat->Prop)(w:World)(it:It)(x:it.sr.den)(v:Value)(lab:Nat->Prop):Prop:=afO S0 w it.sr x v lab
theorem ahk(h:Inv w0 G S a w){sr:Sr}{c:C}{x:sr.den}{v:Value}(f:(ZV sr c).val S=some x)(hc:l9 G w c v){S0:Nat->Nat->Prop}(roks:List (Nat×Nat))
  (J:∀b o,(G.S b o\/AK G S roks b o)->S0 b o) (D:∀t,sr=.ro t->∀k j,c=.own k j->(k,j)∈roks)
  (u:∀k j,c=.own k j->sr.live=true->∀b o,S0 b o->G.ow b=some (.own k j)->G.S b o) :
  afO S0 w sr x v (λb=>∃k j,c=.own k j/\G.ow b=some (.own k j)):=by
 cases sr with
 | ro t=>
  simp only[ZV]at f;split at f
  ·rename_i E;simp only[Rd.aH,zB,Rd.val,zD]at f;obtain⟨ds,F,y,K,L⟩:=f;subst L;have H:t.tys.length=1:=by
    rw[kE];cases t with
    | base b=>cases b<;>first | rfl | cases E
    | list t=>rfl
   obtain⟨M,N⟩:=Gq F (by simpa using H);match ds,M with
   | [d],_=>
    obtain⟨c',ty,z,I⟩:=N 0 d rfl;simp at z;subst z;refine⟨d,(Ty.dU K),?_⟩;exact (Eg h I hc roks λk j e=>D t rfl k j e).move λb o p=>⟨J b o p,rfl⟩
  ·cases f
 | own t deep m key=>
  simp only[ZV]at f;split at f
  ·simp only[Rd.val,zD]at f;subst f;exact .inl ⟨hc,rfl⟩
  ·rename_i k j;simp only[Rd.val]at f;split at f
   ·rename_i t' xs deep' m' hown;split at f
    ·rename_i l;subst l;split at f
     ·rename_i A;simp only[Rd.val,zD]at f;subst f;have n:=h.owns k j;rw[hown]at n;have q:OwT w G.S deep' m' t' xs (G.ov k j) (fM G k j):=n;rw[<- hc.2.1]at q;have F:OwT w S0 deep' m' t' xs v (fM G k j):=OwT.move q (λb o p=>⟨J b o (.inl p),rfl⟩) (λb g=>⟨g,rfl⟩) λb len cap O g o p=>.inl (u k j rfl rfl b o p g)
      exact F.weak A.1 A.2 λb g=>⟨k,j,rfl,g⟩
     ·cases f
    ·cases f
   ·rename_i t' xs hown;split at f
    ·rename_i l;subst l;simp only[Rd.val,zD]at f;subst f;have n:=h.owns k j;rw[hown]at n;obtain⟨fp,r,s,B⟩:=n;rw[<- hc.2.1]at s;exact (OwT.DT s r λb o p g=>B b o (u k j rfl rfl b o p (r b g)) g).weak (λ_=>rfl) (λ_=>rfl) λb g=>⟨k,j,rfl,g⟩
    ·cases f
   ·cases f
  ·cases f
 | part t key=>
  simp only[ZV]at f;split at f
  ·rename_i k j;simp only[Rd.val]at f;split at f
   ·rename_i t' xs hown;split at f
    ·rename_i l;subst l;simp only[Rd.val,zD]at f;subst f;have n:=h.owns k j;rw[hown]at n;obtain⟨fp,r,s,B⟩:=n;rw[<- hc.2.1]at s;exact iD.DT s (λb g=>⟨k,j,rfl,r b g⟩) λb o p g=>B b o (u k j rfl rfl b o p (r b g)) g
    ·cases f
   ·rename_i t' xs i hown;split at f
    ·rename_i l;subst l;simp only[Rd.val,zD]at f;subst f;have n:=h.owns k j;rw[hown]at n;have q:iD w G.S t' xs i (G.ov k j) (fM G k j):=n;rw[<- hc.2.1]at q;exact iD.move q (λb g=>⟨⟨k,j,rfl,g⟩,rfl⟩) λb o g p=>u k j rfl rfl b o p g
    ·cases f
   ·cases f
  ·cases f
 | tree t key=>
  simp only[ZV]at f;split at f
  ·rename_i k j;simp only[Rd.val]at f;split at f
   ·rename_i t' xs hown;split at f
    ·rename_i l;subst l;simp only[Rd.val,zD]at f;subst f;have n:=h.owns k j;rw[hown]at n;obtain⟨fp,r,s,B⟩:=n;rw[<- hc.2.1]at s;exact⟨fp,λb g=>⟨k,j,rfl,r b g⟩,s,λb o p g=>B b o (u k j rfl rfl b o p (r b g)) g⟩
    ·cases f
   ·cases f
  ·cases f
theorem Inv.TD(h:Inv w0 G S a w)(i:Nat){av:AV}(d:jc G w av (a.tmps.getD i undef)):Inv w0 G (S.iV i av) a w:=by
 have c:=h.iV i d;have e:a.put (some i) (a.tmps.getD i undef)=a:=by
  simp only[Act.put];cases a with
  | mk tmps defers=>
   congr 1;show tmps.setIfInBounds i (tmps.getD i undef)=tmps
   by_cases b:i<tmps.size
   ·have f:i<tmps.toList.length:=by simpa using b
    have g:tmps.getD i undef=tmps.toList[i]:=by simp[b]
    rw[<- Array.toList_inj,Array.toList_setIfInBounds,g,List.set_getElem_self]
   ·rw[Array.setIfInBounds_eq_of_size_le (Nat.le_of_not_lt b)]
 rw[e]at c;exact c
theorem Inv.VW(h:Inv w0 G S a w)(b off:Nat){cs:List C}(k:S.fJ b=some cs){c:C}{v:Value}(j:w.cell? ⟨G.bk b,off,none⟩=some v)(hc:l9 G w c v) :
  Inv w0 G (S.setB b (some (cs.set off c))) a w:=by
 refine⟨h.below,h.nodef,h.tsz,by simp[St.setB,h.bsz],by simp[St.setB,h.osz],h.tmps,h.olt,h.sok,?_,h.owns,h.lk,?_,h.sfr,h.st,h.fx⟩
 ·intro i cs' d;rw[gy]at d;split at d
  ·rename_i f;obtain⟨rfl,_⟩:=f;cases d
   obtain⟨l,vs,E,hh,m⟩:=h.box b cs k;refine⟨l,vs,E,hh,?_⟩;obtain⟨n,o⟩:=m.get;refine cu.mk (by simpa using n) λi c' v' e g=>?_
   rw[List.getElem?_set]at e;split at e
   ·rename_i f;subst f;split at e
    ·cases e
     rw[cell_of_row _ _ _ _ _ _ hh]at j;simp at j;rw[g]at j;cases j
     exact hc
    ·cases e
   ·exact o i c' v' e g
  ·exact h.box i cs' d
 ·intro i f;rw[gy];split
  ·simp
  ·exact h.lb i f
theorem Inv.ou(h:Inv w0 G S a w){it:It}{c:C}{v:Value}(e:cellV G a w it v)(hc:l9 G w c v)(f:∀b off s,it=.b b off s->∃cs,S.fJ b=some cs):Inv w0 G (S.ou it c) a w:=by
 cases it with
 | t i s=>exact h.TD i (by rw[show a.tmps.getD i undef=v from e];exact hc)
 | b b off s=>
  obtain⟨cs,d⟩:=f b off s rfl;simp only[St.ou,d];exact h.VW b off d e hc
theorem BM(S:St)(it:It)(c:C)(b:Nat)(h:∃cs,S.fJ b=some cs):∃cs,(S.ou it c).fJ b=some cs:=by
 obtain⟨cs,a⟩:=h;cases it with
 | t i s=>exact⟨cs,a⟩
 | b b' off s=>
  simp only[St.ou];split
  ·rw[gy];split
   ·exact⟨_,rfl⟩
   ·exact⟨cs,a⟩
  ·exact⟨cs,a⟩
theorem BL(S:St)(it:It)(c:C)(k:Nat):(S.ou it c).aI k=S.aI k:=by
 cases it with
 | t i s=>rfl
 | b b off s=>simp only[St.ou];split<;>rfl
theorem AX(S:St)(it:It)(c:C):(S.ou it c).tmps.length=S.tmps.length:=by
 cases it with
 | t i s=>simp[St.ou,St.iV]
 | b b off s=>simp only[St.ou];split<;>rfl
end loops
theorem foldl_set{α β:Type}(f:β->Nat)(g:β->α)(d:α):∀(l:List β) (init:List α) (t:Nat),(l.foldl (λacc p=>acc.set (f p) (g p)) init).length=init.length /\
  ((l.foldl (λacc p=>acc.set (f p) (g p)) init).getD t d=init.getD t d/\(t<init.length->∀p∈l,f p≠t)\/∃p,p∈l/\f p=t/\(l.foldl (λacc p=>acc.set (f p) (g p)) init).getD t d=g p)
 | [],init,t=>⟨rfl,.inl ⟨rfl,λ_ p hp=>by cases hp⟩⟩
 | p::r,init,t=>by
  obtain⟨i,a⟩:=foldl_set f g d r (init.set (f p) (g p)) t;simp only[List.foldl_cons];refine⟨by rw[i];simp,?_⟩;rcases a with ⟨a,j⟩ | ⟨q,b,k,m⟩
  ·by_cases c:f p=t
   ·by_cases e:t<init.length
    ·refine .inr ⟨p,aq,c,?_⟩;rw[a,zE,List.getElem?_set,if_pos c,if_pos (by omega)];rfl
    ·refine .inl ⟨?_,λh=>absurd h e⟩;rw[a,List.set_eq_of_length_le (by omega)]
   ·refine .inl ⟨?_,λe q b=>?_⟩
    ·rw[a,zE,List.getElem?_set,if_neg c,<- zE]
    ·rcases ba.1 b with rfl | b
     ·exact c
     ·exact j (by simpa using e) q b
  ·exact .inr ⟨q,ao _ b,k,m⟩
section loops
variable {w0:Bs} {G:Gh} {S:St} {a:Act} {w:World}
theorem acW(la:LA)(t:Nat):la.base.iP t=.undef\/∃p,p∈la.ptrs/\p.1=t/\la.base.iP t=.v (.one (.ptr p.2.1 p.2.2)):=by
 have:=(foldl_set (λp:Nat×Nat×Nat=>p.1) (λp=>AV.v (.one (.ptr p.2.1 p.2.2))) AV.undef la.ptrs (List.replicate la.n .undef) t).2;rcases this with ⟨a,_⟩ | a
 ·left;have e:la.base.iP t=(la.ptrs.foldl (λacc (p:Nat×Nat×Nat)=>acc.set p.1 (AV.v (.one (.ptr p.2.1 p.2.2)))) (List.replicate la.n AV.undef)).getD t .undef:=rfl;rw[e,a,zE,List.getElem?_replicate];split<;>rfl
 ·exact .inr a
theorem I4(la:LA)(t:Nat):(la.base.fJ t=none/\(t<la.n->∀p∈la.boxes,p.1≠t))\/∃p,p∈la.boxes/\p.1=t/\la.base.fJ t=some (List.replicate p.2 .undef):=by
 have:=(foldl_set (λp:Nat×Nat=>p.1) (λp=>some (List.replicate p.2 C.undef)) none la.boxes (List.replicate la.n none) t).2;rcases this with ⟨a,b⟩ | a
 ·left;refine⟨?_,by simpa using b⟩;have e:la.base.fJ t=(la.boxes.foldl (λacc (p:Nat×Nat)=>acc.set p.1 (some (List.replicate p.2 C.undef))) (List.replicate la.n none)).getD t none:=rfl;rw[e,a,zE,List.getElem?_replicate];split<;>rfl
 ·exact .inr a
theorem SA(la:LA)(t:Nat):la.base.aI t=[]:=by
 show (List.replicate la.n ([]:List O)).getD t []=_
 rw[zE,List.getElem?_replicate];split<;>rfl
theorem Yf(la:LA):la.base.tmps.length=la.n/\la.base.boxes.length=la.n/\la.base.owns.length=la.n:=by
 refine⟨?_,?_,?_⟩
 ·have:=(foldl_set (λp:Nat×Nat×Nat=>p.1) (λp=>AV.v (.one (.ptr p.2.1 p.2.2))) AV.undef la.ptrs (List.replicate la.n .undef) 0).1;simpa [LA.base] using this
 ·have:=(foldl_set (λp:Nat×Nat=>p.1) (λp=>some (List.replicate p.2 C.undef)) none la.boxes (List.replicate la.n none) 0).1;simpa [LA.base] using this
 ·simp[LA.base]
def BB(la:LA)(i:Nat):Prop:=∃n,(i,n)∈la.boxes
open Classical in
theorem afH(h:Inv w0 G S a w){la:LA}(L:S.tmps.length=la.n){u:Unit}(M:(Gt la.boxes).val S=some u){u':Unit}(hp:(Nk la.ptrs).val S=some u')
  (B:la.ptrs.all (λp=>la.boxes.any λq=>q.1==p.2.1)=true) (roks:List (Nat×Nat)) :
  ∃r,Inv w0 r la.base a w/\r.bk=G.bk/\(∀b o,(G.S b o\/AK G S roks b o)↔r.S b o)/\(∀c k j,r.ow c≠some (.own k j))/\(∀c i,r.ow c=some (.box i)->G.ow c=some (.box i)):=by
 let C:Nat->Option sZ:=λb=>match G.ow b with
  | some (.box i)=>if BB la i then some (.box i)else none
  | _=>none
 let r:Gh:={ bk:=G.bk,ov:=G.ov,ow:=C,S:=λb o=>G.S b o\/AK G S roks b o,lk:=λ_=>False,lb:=BB la };have hbox0:∀c i,r.ow c=some (.box i)->G.ow c=some (.box i)/\BB la i:=by
  intro c i hc;have d:(match G.ow c with | some (.box i)=>if BB la i then some (sZ.box i)else none | _=>none)=some (.box i):=hc;split at d
  ·rename_i j O;split at d
   ·rename_i D;cases d;exact⟨O,D⟩
   ·cases d
  ·cases d
 have hnown:∀c k j,r.ow c≠some (.own k j):=by
  intro c k j hc;have d:(match G.ow c with | some (.box i)=>if BB la i then some (sZ.box i)else none | _=>none)=some (.own k j):=hc;split at d
  ·split at d<;>cases d
  ·cases d
 obtain⟨F,P,Q⟩:=Yf la;have hblt:∀i n,(i,n)∈la.boxes->i<la.n:=by
  intro i n m;obtain⟨cs,e,_⟩:=uJ M i n m;have:i<S.boxes.length:=by
   rcases Nat.lt_or_ge i S.boxes.length with t | t
   ·exact t
   ·simp[St.fJ,zE,zJ t]at e
  rw[h.bsz,L]at this;exact this
 refine⟨r,⟨h.below,h.nodef,by rw[h.tsz,L,F],by rw[F,P],by rw[F,Q],?_,?_,?_,?_,?_,λk hk=>hk.elim,?_,λb o f t=>f.elim (λf=>h.sfr b o f t) λ⟨_,_,_,_,_,_,_,_,g,_⟩=>.inr (Bs.nwF (h.iR g).1 t),λb o f=>⟨.inl (h.st b o f).1,(h.st b o f).2⟩,h.fx⟩,rfl,λb o=>Iff.rfl,hnown,λc i hc=>(hbox0 c i hc).1⟩
 ·intro i v H;rcases acW la i with l | ⟨⟨i',b,off⟩,m,rfl,l⟩
  ·rw[l];trivial
  ·rw[l];have y:=h.tmps _ v H;rw[Nj hp _ b off m]at y;have:=List.all_eq_true.1 B _ m;obtain⟨⟨b',n⟩,I,z⟩:=List.any_eq_true.1 this;simp at z;exact⟨⟨n,z▸I⟩,y.2⟩
 ·intro b x N;cases x with
  | box i=>exact h.olt _ _ (hbox0 b i N).1
  | own k j=>exact absurd N (hnown b k j)
 ·intro b o f;refine⟨?_,λi J=>?_⟩
  ·rcases f with f | ⟨k,j,_,_,_,_,_,_,g,_⟩
   ·exact (h.sok b o f).1
   ·exact (h.olt _ _ g).2
  ·have s:=(hbox0 b i J).1;rcases f with f | ⟨k,j,_,_,_,_,_,_,g,_⟩
   ·exact (h.sok b o f).2 i s
   ·rw[g]at s;cases s
 ·intro i cs e;rcases I4 la i with ⟨l,_⟩ | ⟨⟨i',n⟩,m,rfl,l⟩
  ·rw[l]at e;cases e
  ·rw[l]at e;cases e
   obtain⟨K,A,R⟩:=uJ M _ n m;obtain⟨T,vs,E,hh,y⟩:=h.box _ K A;refine⟨?_,vs,E,hh,?_⟩
   ·show (match G.ow (G.bk i')with | some (.box i)=>if BB la i then some (sZ.box i)else none | _=>none)=_
    rw[T];exact if_pos ⟨n,m⟩
   ·have hlen:=y.length;refine cu.mk (by simp;omega) λj c v hc H=>?_
    have:c=.undef:=(List.mem_replicate.1 (zG hc)).2;subst this;exact y.one v (zG H)
 ·intro k j;rw[SA];trivial
 ·intro i J;obtain⟨n,m⟩:=J;rcases I4 la i with ⟨_,l⟩ | ⟨p,_,_,l⟩
  ·exact absurd rfl (l (hblt i n m) _ m)
  ·rw[l];simp
theorem Ac{x:Nat}{r:List Nat}(h:DV (x::r)=true):x∉r/\DV r=true:=by
 simp only[DV,zI,Bool.not_eq_true',List.any_eq_false,beq_iff_eq]at h;exact⟨λa=>h.1 x a rfl,h.2⟩
theorem ad6(h:Inv w0 G S a w){U:Gh}(R:G.bk=U.bk){it:It}{x:it.sr.den}{v:Value}{lab:Nat->Prop}(V:cellV U a w it v)(l:akH G.S w it x v lab)
  (hlab:∀c,lab c->w0.nw c/\c<w.heap.size/\(∀i,G.ow c≠some (.box i))/\∀k j,G.ow c≠some (.own k j)) (H:∀b off s,it=.b b off s->∃cs,S.fJ b=some cs)
  (hk:∀key,key∈dG [it]->key<S.tmps.length/\S.aI key=[]) :
  ∃G',Inv w0 G' (S.Nh it x) a w/\G'.bk=G.bk/\G'.S=G.S/\(∀c y,G'.ow c=some y->G.ow c=some y\/(lab c/\∀i,y≠.box i))/\(∀b,(∃cs,S.fJ b=some cs)->∃cs,(S.Nh it x).fJ b=some cs) /\
   (∀key,key∉dG [it]->(S.Nh it x).aI key=S.aI key)/\(S.Nh it x).tmps.length=S.tmps.length:=by
 have u:cellV G a w it v:=by
  cases it with
  | t i s=>exact V
  | b b off s=>show w.cell? ⟨G.bk b,off,none⟩=_;rw[R];exact V
 unfold akH at l;unfold St.Nh;generalize I:it.sr=sr at *;unfold afO at l;cases sr with
 | ro t=>
  obtain⟨d,X,hrep⟩:=l;have T:dOf t x=.d d:=by unfold dOf;rw[X]
  simp only[T];exact⟨G,h.ou u (c:=.d d) hrep H,rfl,rfl,λc y hc=>.inl hc,λb p=>BM S it _ b p,λkey _=>BL S it _ key,AX S it _⟩
 | own t deep m key=>
  have hkey:key∈dG [it]:=by simp[dG,I]
  obtain⟨z,A⟩:=hk key hkey;classical
  obtain⟨G',M,W,B,C,f,D,r⟩:=h.nC key [.own t x deep m] (λ_=>v) (λc=>if lab c then some 0 else none) A z (by simp)
   (λc j hc=>by
    by_cases g:lab c
    ·obtain⟨J,K,L,N⟩:=hlab c g;exact⟨J,K,L,λk' j' _ _ _ _ p=>absurd p (N k' j')⟩
    ·rw[if_neg g]at hc;cases hc)
   (λj=>by
    cases j with
    | zero=>
     show OwT w G.S deep m t x v _
     exact OwT.move l (λb o O=>⟨O,rfl⟩) (λb p=>⟨if_pos p,rfl⟩) (λ_ _ _ _ _ o O=>.inl O)
    | succ j=>trivial)
  have P:Inv w0 G' ((S.bI key [.own t x deep m]).ou it (.own key 0)) a w:=by
   refine M.ou (v:=v) ?_ ⟨B,(C 0).symm,(OwT.ow l).one⟩ λb off s Q=>H b off s Q
   cases it with
   | t i s=>exact u
   | b b off s=>show w.cell? ⟨G'.bk b,off,none⟩=_;rw[f];exact u
  refine⟨G',P,f,D,λc y hc=>?_,λb p=>BM _ it _ b p,λkey' F=>?_,?_⟩
  ·rw[r]at hc;by_cases g:lab c
   ·rw[if_pos g]at hc;refine .inr ⟨g,λi e=>?_⟩;rw[e]at hc;cases hc
   ·rw[if_neg g]at hc;exact .inl hc
  ·show ((S.bI key _).ou it _).aI key'=_
   rw[BL,bg,if_neg (λe:key=key'/\_=>F (e.1▸hkey))]
  ·show ((S.bI key _).ou it _).tmps.length=_
   rw[AX];rfl
 | part t key=>
  obtain⟨xs,n⟩:=x;have hkey:key∈dG [it]:=by simp[dG,I]
  obtain⟨z,A⟩:=hk key hkey;have hone:v.oneCell'=true:=by
   rcases l with ⟨rfl,_⟩ | ⟨b,cap,arr,E,vs,fps,rfl,_⟩<;>rfl
  classical
  obtain⟨G',M,W,B,C,f,D,r⟩:=h.nC key [.part t xs n] (λ_=>v) (λc=>if lab c then some 0 else none) A z (by simp)
   (λc j hc=>by
    by_cases g:lab c
    ·obtain⟨J,K,L,N⟩:=hlab c g;exact⟨J,K,L,λk' j' _ _ _ _ p=>absurd p (N k' j')⟩
    ·rw[if_neg g]at hc;cases hc)
   (λj=>by
    cases j with
    | zero=>
     show iD w G.S t xs n v _
     exact iD.move l (λb p=>⟨if_pos p,rfl⟩) (λ_ _ _ O=>O)
    | succ j=>trivial)
  have P:Inv w0 G' ((S.bI key [.part t xs n]).ou it (.own key 0)) a w:=by
   refine M.ou (v:=v) ?_ ⟨B,(C 0).symm,hone⟩ λb off s Q=>H b off s Q
   cases it with
   | t i s=>exact u
   | b b off s=>show w.cell? ⟨G'.bk b,off,none⟩=_;rw[f];exact u
  refine⟨G',P,f,D,λc y hc=>?_,λb p=>BM _ it _ b p,λkey' F=>?_,?_⟩
  ·rw[r]at hc;by_cases g:lab c
   ·rw[if_pos g]at hc;refine .inr ⟨g,λi e=>?_⟩;rw[e]at hc;cases hc
   ·rw[if_neg g]at hc;exact .inl hc
  ·show ((S.bI key _).ou it _).aI key'=_
   rw[BL,bg,if_neg (λe:key=key'/\_=>F (e.1▸hkey))]
  ·show ((S.bI key _).ou it _).tmps.length=_
   rw[AX];rfl
 | tree t key=>
  have hkey:key∈dG [it]:=by simp[dG,I]
  obtain⟨z,A⟩:=hk key hkey;have hone:v.oneCell'=true:=by
   obtain⟨_,_,q,_⟩:=l;exact q.one
  classical
  obtain⟨G',M,W,B,C,f,D,r⟩:=h.nC key [.tree t x] (λ_=>v) (λc=>if lab c then some 0 else none) A z (by simp)
   (λc j hc=>by
    by_cases g:lab c
    ·obtain⟨J,K,L,N⟩:=hlab c g;exact⟨J,K,L,λk' j' _ _ _ _ p=>absurd p (N k' j')⟩
    ·rw[if_neg g]at hc;cases hc)
   (λj=>by
    cases j with
    | zero=>
     obtain⟨fp,J,K,L⟩:=l;exact⟨fp,λb p=>if_pos (J b p),K,L⟩
    | succ j=>trivial)
  have P:Inv w0 G' ((S.bI key [.tree t x]).ou it (.own key 0)) a w:=by
   refine M.ou (v:=v) ?_ ⟨B,(C 0).symm,hone⟩ λb off s Q=>H b off s Q
   cases it with
   | t i s=>exact u
   | b b off s=>show w.cell? ⟨G'.bk b,off,none⟩=_;rw[f];exact u
  refine⟨G',P,f,D,λc y hc=>?_,λb p=>BM _ it _ b p,λkey' F=>?_,?_⟩
  ·rw[r]at hc;by_cases g:lab c
   ·rw[if_pos g]at hc;refine .inr ⟨g,λi e=>?_⟩;rw[e]at hc;cases hc
   ·rw[if_neg g]at hc;exact .inl hc
  ·show ((S.bI key _).ou it _).aI key'=_
   rw[BL,bg,if_neg (λe:key=key'/\_=>F (e.1▸hkey))]
  ·show ((S.bI key _).ou it _).tmps.length=_
   rw[AX];rfl
end loops
section loops
variable {w0:Bs} {G:Gh} {S:St} {a:Act} {w:World}
theorem xU(it:It)(r:List It):dG (it::r)=dG [it]++dG r:=by
 simp only[dG];split<;>rfl
theorem aaK{f:Gh}{roks used:List (Nat×Nat)}{q:St}(D:Inv w0 f q a w)(h:Inv w0 G S a w)(r:G.bk=f.bk)(E:∀b o,(f.S b o\/AK f q roks b o)↔G.S b o)
  (hown:∀b k j,G.ow b=some (.own k j)->∃k' j',(k',j')∈used/\f.ow b=some (.own k' j')) (hbox:∀b i,G.ow b=some (.box i)->f.ow b=some (.box i))
  {it:It} {y:it.sr.den} {c:C} (hc:(cAt it).val q=some c) (Q:(ZV it.sr c).val q=some y) (F:∀t,it.sr=.ro t->∀k j,c=.own k j->(k,j)∈roks)
  (hnew:it.sr.live=true->∀k j,c=.own k j->(k,j)∉used/\(k,j)∉roks) (hk:∀key,key∈dG [it]->key<S.tmps.length/\S.aI key=[])
  (H:∀b off s,it=.b b off s->∃cs,S.fJ b=some cs) :
  ∃n,Inv w0 n (S.Nh it y) a w/\n.bk=f.bk/\(∀b o,(f.S b o\/AK f q roks b o)↔n.S b o)/\(∀b k j,n.ow b=some (.own k j)->∃k' j',(k',j')∈used++aP [c]/\f.ow b=some (.own k' j')) /\
   (∀b i,n.ow b=some (.box i)->f.ow b=some (.box i))/\(∀b,(∃cs,S.fJ b=some cs)->∃cs,(S.Nh it y).fJ b=some cs)/\(∀key,key∉dG [it]->(S.Nh it y).aI key=S.aI key)/\(S.Nh it y).tmps.length=S.tmps.length:=by
 obtain⟨v,R,I⟩:=ahA D hc;have J:=ahk D Q I (S0:=G.S) roks (λb o u=>(E b o).1 u) F (λk j e p b o u d=>by
  rcases (E b o).2 u with u | ⟨k',j',_,_,_,_,hmem,_,x,_⟩
  ·exact u
  ·rw[d]at x;cases x
   exact absurd hmem (hnew p k j e).2)
 have K:∃lab:Nat->Prop,akH G.S w it y v lab/\∀b,lab b->∃k j,c=.own k j/\f.ow b=some (.own k j)/\it.sr.live=true:=by
  have key:∀(sr:Sr) (z:sr.den),afO G.S w sr z v (λb=>∃k j,c=.own k j/\f.ow b=some (.own k j)) ->
    ∃lab:Nat->Prop,afO G.S w sr z v lab/\∀b,lab b->∃k j,c=.own k j/\f.ow b=some (.own k j)/\sr.live=true:=by
   intro sr z B;cases sr with
   | ro t=>exact⟨λ_=>False,B,λ_ d=>d.elim⟩
   | own t deep m key=>exact⟨_,B,λb ⟨k,j,l,g⟩=>⟨k,j,l,g,rfl⟩⟩
   | part t key=>exact⟨_,B,λb ⟨k,j,l,g⟩=>⟨k,j,l,g,rfl⟩⟩
   | tree t key=>exact⟨_,B,λb ⟨k,j,l,g⟩=>⟨k,j,l,g,rfl⟩⟩
  exact key it.sr y J
 obtain⟨lab,L,hlab⟩:=K;obtain⟨n,T,U,V,O,W,X,Y⟩:=ad6 h r R L (λb d=>by
  obtain⟨k,j,l,g,p⟩:=hlab b d;have A:=D.iR g;refine⟨A.1,A.2,λi M=>?_,λk' j' M=>?_⟩
  ·rw[hbox b i M]at g;cases g
  ·obtain⟨Z,j2,N,P⟩:=hown b k' j' M;rw[g]at P;cases P
   exact (hnew p k j l).1 N) H hk
 refine⟨n,T,U.trans r,λb o=>by rw[V];exact E b o,λb k j d=>?_,λb i d=>?_,W,X,Y⟩
 ·rcases O b _ d with d | ⟨d,_⟩
  ·obtain⟨k',j',N,e⟩:=hown b k j d;exact⟨k',j',List.mem_append_left _ N,e⟩
  ·obtain⟨k',j',l,g,_⟩:=hlab b d;exact⟨k',j',List.mem_append_right _ (by rw[l];simp[aP]),g⟩
 ·rcases O b _ d with d | ⟨_,d⟩
  ·exact hbox b i d
  ·exact absurd rfl (d i)
theorem Q5{I:Gh}{roks:List (Nat×Nat)}{K:St}(R:Inv w0 I K a w):∀(l:List It) (x:Its l) (p:List (Nat×Nat)×List (Nat×Nat)) (used:List (Nat×Nat)) {G:Gh} {S:St},Inv w0 G S a w->G.bk=I.bk ->
  (∀b o,(I.S b o\/AK I K roks b o)↔G.S b o)->(∀b k j,G.ow b=some (.own k j)->∃k' j',(k',j')∈used/\I.ow b=some (.own k' j'))->(∀b i,G.ow b=some (.box i)->I.ow b=some (.box i)) ->
  (aaU l).val K=some x->(keysOf l).val K=some p->nodupB p.1=true->(∀q,q∈p.1->q∉used/\q∉roks)->(∀q,q∈p.2->q∈roks) ->
  DV (dG l)=true->(∀key,key∈dG l->key<S.tmps.length/\S.aI key=[])->(∀b off s,It.b b off s∈l->∃cs,S.fJ b=some cs) ->
  ∃G',Inv w0 G' (S.aaF l x) a w/\G'.bk=I.bk
 | [],x,p,used,G,S,h,E,_,_,_,_,_,_,_,_,_,_,_=>⟨G,h,E⟩
 | it::r,x,p,used,G,S,h,E,hS,hown,hbox,T,hp,n,v,A,y,L,M=>by
  simp only[keysOf,Rd.aH,zB]at hp;obtain⟨c,hc,p',U,hp⟩:=hp;have N:∀t,it.sr=.ro t->∀k j,c=.own k j->(k,j)∈roks:=by
   intro t u k j e;rw[u]at hp;simp only[Rd.val,zD]at hp;subst hp;subst e;exact A _ (by simp[aP])
  have hnew:it.sr.live=true->∀k j,c=.own k j->(k,j)∉used/\(k,j)∉roks:=by
   intro hl k j e;cases u:it.sr with
   | ro t=>rw[u]at hl;cases hl
   | own t deep m key=>
    rw[u]at hp;simp only[Rd.val,zD]at hp;subst hp;subst e;exact v _ (by simp[aP])
   | part t key=>
    rw[u]at hp;simp only[Rd.val,zD]at hp;subst hp;subst e;exact v _ (by simp[aP])
   | tree t key=>
    rw[u]at hp;simp only[Rd.val,zD]at hp;subst hp;subst e;exact v _ (by simp[aP])
  have hrest:nodupB p'.1=true/\(∀q,q∈p'.1->q∉used++aP [c]/\q∉roks)/\(∀q,q∈p'.2->q∈roks):=by
   cases u:it.sr with
   | ro t=>
    rw[u]at hp;simp only[Rd.val,zD]at hp;subst hp;refine⟨n,λq f=>⟨λg=>?_,(v q f).2⟩,λq f=>A q (List.mem_append_right _ f)⟩;rcases List.mem_append.1 g with g | g
    ·exact (v q f).1 g
    ·exact (v q f).2 (A q (List.mem_append_left _ g))
   | own t deep m key=>
    rw[u]at hp;simp only[Rd.val,zD]at hp;subst hp;have hcase:nodupB p'.1=true/\∀q,q∈aP [c]->q∉p'.1:=by
     cases c with
     | own k j=>
      have z:nodupB ((k,j)::p'.1)=true:=n;obtain⟨B,C⟩:=gQ z;exact⟨C,λq f=>by simp[aP]at f;rw[f];exact B⟩
     | undef=>exact⟨n,λq f=>by cases f⟩
     | d x=>exact⟨n,λq f=>by cases f⟩
     | nil=>exact⟨n,λq f=>by cases f⟩
     | ptr b off=>exact⟨n,λq f=>by cases f⟩
    refine⟨hcase.1,λq f=>⟨λg=>?_,(v q (List.mem_append_right _ f)).2⟩,A⟩;rcases List.mem_append.1 g with g | g
    ·exact (v q (List.mem_append_right _ f)).1 g
    ·exact hcase.2 q g f
   | part t key=>
    rw[u]at hp;simp only[Rd.val,zD]at hp;subst hp;have hcase:nodupB p'.1=true/\∀q,q∈aP [c]->q∉p'.1:=by
     cases c with
     | own k j=>
      have z:nodupB ((k,j)::p'.1)=true:=n;obtain⟨B,C⟩:=gQ z;exact⟨C,λq f=>by simp[aP]at f;rw[f];exact B⟩
     | undef=>exact⟨n,λq f=>by cases f⟩
     | d x=>exact⟨n,λq f=>by cases f⟩
     | nil=>exact⟨n,λq f=>by cases f⟩
     | ptr b off=>exact⟨n,λq f=>by cases f⟩
    refine⟨hcase.1,λq f=>⟨λg=>?_,(v q (List.mem_append_right _ f)).2⟩,A⟩;rcases List.mem_append.1 g with g | g
    ·exact (v q (List.mem_append_right _ f)).1 g
    ·exact hcase.2 q g f
   | tree t key=>
    rw[u]at hp;simp only[Rd.val,zD]at hp;subst hp;have hcase:nodupB p'.1=true/\∀q,q∈aP [c]->q∉p'.1:=by
     cases c with
     | own k j=>
      have z:nodupB ((k,j)::p'.1)=true:=n;obtain⟨B,C⟩:=gQ z;exact⟨C,λq f=>by simp[aP]at f;rw[f];exact B⟩
     | undef=>exact⟨n,λq f=>by cases f⟩
     | d x=>exact⟨n,λq f=>by cases f⟩
     | nil=>exact⟨n,λq f=>by cases f⟩
     | ptr b off=>exact⟨n,λq f=>by cases f⟩
    refine⟨hcase.1,λq f=>⟨λg=>?_,(v q (List.mem_append_right _ f)).2⟩,A⟩;rcases List.mem_append.1 g with g | g
    ·exact (v q (List.mem_append_right _ f)).1 g
    ·exact hcase.2 q g f
  have O:∀key,key∈dG [it]->key<S.tmps.length/\S.aI key=[]:=λkey g=>L key (by rw[xU];exact List.mem_append_left _ g)
  have F:∀b off s,it=.b b off s->∃cs,S.fJ b=some cs:=λb off s e=>M b off s (e▸aq)
  cases r with
  | nil=>
   have P:(ae9 it).val K=some x:=T;simp only[ae9,Rd.aH,zB]at P;obtain⟨c',D,V⟩:=P;rw[hc]at D;cases D
   obtain⟨G2,W,X,_⟩:=aaK R h E hS hown hbox hc V N hnew O F;exact⟨G2,W,X⟩
  | cons J r=>
   simp only[aaU,Rd.aH,zB,Rd.val,zD]at T;obtain⟨x1,Q,x2,Y,rfl⟩:=T;simp only[ae9,Rd.aH,zB]at Q;obtain⟨c',D,V⟩:=Q;rw[hc]at D;cases D
   obtain⟨G2,W,X,q3,q4,q5,q6,q7,q8⟩:=aaK R h E hS hown hbox hc V N hnew O F;have H:DV (dG (J::r))=true/\∀key,key∈dG [it]->key∉dG (J::r):=by
    rw[xU]at y;cases u:it.sr with
    | ro t=>
     have:dG [it]=[]:=by simp[dG,u]
     rw[this]at y ⊢;exact⟨y,λkey g=>by cases g⟩
    | own t deep m key=>
     have:dG [it]=[key]:=by simp[dG,u]
     rw[this]at y ⊢;obtain⟨B,C⟩:=Ac y;exact⟨C,λkey' g=>by simp at g;rw[g];exact B⟩
    | part t key=>
     have:dG [it]=[key]:=by simp[dG,u]
     rw[this]at y ⊢;obtain⟨B,C⟩:=Ac y;exact⟨C,λkey' g=>by simp at g;rw[g];exact B⟩
    | tree t key=>
     have:dG [it]=[key]:=by simp[dG,u]
     rw[this]at y ⊢;obtain⟨B,C⟩:=Ac y;exact⟨C,λkey' g=>by simp at g;rw[g];exact B⟩
   refine Q5 R (J::r) x2 p' (used++aP [c]) W X q3 q4 q5 Y U hrest.1 hrest.2.1 hrest.2.2 H.1 (λkey g=>?_) λb off s g=>q6 b (M b off s (ao _ g))
   have Z:key∉dG [it]:=λhm'=>H.2 key hm' g
   have:=L key (by rw[xU];exact List.mem_append_right _ g);rw[q7 key Z,q8];exact this
theorem SC:∀ {l:List (Nat×Nat×Nat)} {u:Unit},(aa8 l).val S=some u->∀i b off,(i,b,off)∈l->∃k j cs,S.iP i=.v (.one (.own k j))/\S.fJ b=some cs/\cs[off]?=some (.own k j)
 | [],_,_,i,b,off,a=>(by cases a)
 | (i',b',off')::r,u,h,i,b,off,a=>by
  simp only[aa8,Rd.val]at h;split at h
  case h_2=>cases h
  rename_i k j c;simp only[Rd.val]at h;split at h
  case h_2=>cases h
  rename_i cs d;split at h
  case h_2=>cases h
  rename_i k' j' f;split at h
  case isFalse=>cases h
  rename_i g;obtain⟨rfl,rfl⟩:=g;rcases ba.1 a with e | a
  ·cases e;exact⟨k,j,cs,c,d,f⟩
  ·exact SC h i b off a
theorem xO{G':Gh}:∀ {l:List (Nat×Nat×Nat)} {S':St},Inv w0 G' S' a w ->
  (∀i b off,(i,b,off)∈l->∃(vs:List Value) (E:TypeId),w.heap[G'.bk b]?=some (.cells vs.toArray E (0,0))/\vs[off]?=some (a.tmps.getD i undef))->Inv w0 G' (S'.Ih l) a w
 | [],S',h,_=>h
 | (i,b,off)::r,S',h,f=>by
  have d:=λi' b' off' g=>f i' b' off' (ao _ g)
  unfold St.Ih;split
  ·rename_i cs m;split
   ·rename_i k j n;refine xO (h.TD i ?_) d;obtain⟨vs,E,o,p⟩:=f i b off aq;obtain⟨_,vs',E',c,q⟩:=h.box b cs m;rw[o]at c;have e:vs=vs':=by
     injection c with c;injection c with c _ _;simpa using congrArg Array.toList c
    subst e;obtain⟨_,s⟩:=q.get;exact s off _ _ n p
   ·exact xO h d
  ·exact xO h d
theorem Sz:∀ {l:List (Nat×Nat×Nat×Nat)} {u:Unit},(aa4 l).val S=some u->∀b' off' b off,(b',off',b,off)∈l->∃k j cs' cs,S.fJ b'=some cs'/\S.fJ b=some cs/\cs'[off']?=some (.own k j)/\cs[off]?=some (.own k j)
 | [],_,_,b',off',b,off,a=>(by cases a)
 | (b1',off1',m,off1)::r,u,h,b',off',b,off,a=>by
  simp only[aa4,Rd.val]at h;split at h
  case h_2=>cases h
  rename_i cs' c;simp only[Rd.val]at h;split at h
  case h_2=>cases h
  rename_i cs f;split at h
  case h_2=>cases h
  rename_i k' j' k j d g;split at h
  case isFalse=>cases h
  rename_i i;obtain⟨rfl,rfl⟩:=i;rcases ba.1 a with e | a
  ·cases e;exact⟨k,j,cs',cs,c,f,d,g⟩
  ·exact Sz h b' off' b off a
theorem xN{G':Gh}:∀ {l:List (Nat×Nat×Nat×Nat)} {S':St},Inv w0 G' S' a w ->
  (∀b' off' b off,(b',off',b,off)∈l->∃v,w.cell? ⟨G'.bk b',off',none⟩=some v/\w.cell? ⟨G'.bk b,off,none⟩=some v)->Inv w0 G' (S'.Ig l) a w
 | [],S',h,_=>h
 | (b',off',b,off)::r,S',h,e=>by
  have c:=λg i m o2 n=>e g i m o2 (ao _ n)
  unfold St.Ig;split
  ·rename_i cs' cs d o;split
   ·rename_i k j p;obtain⟨v,q,f⟩:=e b' off' b off aq;obtain⟨_,vs,E,s,t⟩:=h.box b cs o;obtain⟨x,u⟩:=t.get;rw[cell_of_row _ _ _ _ _ _ s]at f;exact xN (h.VW b' off' d q (u off _ v p (by simpa using f))) c
   ·exact xN h c
  ·exact xN h c
theorem QM:∀ {l:List (Nat×Nat)} {u:Unit},(aao l).val S=some u->∀i i',(i,i')∈l->∃k j,S.iP i=.v (.one (.own k j))/\S.iP i'=.v (.one (.own k j))
 | [],_,_,i,i',a=>(by cases a)
 | (f,i1')::r,u,h,i,i',a=>by
  simp only[aao,Rd.val]at h;split at h
  case h_2=>cases h
  rename_i k j c;simp only[Rd.val]at h;split at h
  case h_2=>cases h
  rename_i k' j' b;split at h
  case isFalse=>cases h
  rename_i d;obtain⟨rfl,rfl⟩:=d;rcases ba.1 a with e | a
  ·cases e;exact⟨k,j,c,b⟩
  ·exact QM h i i' a
theorem DC{G':Gh}:∀ {l:List (Nat×Nat)} {S':St},Inv w0 G' S' a w ->
  (∀i i',(i,i')∈l->a.tmps.getD i undef=a.tmps.getD i' undef)->Inv w0 G' (S'.Nc l) a w
 | [],S',h,_=>h
 | (i,i')::r,S',h,b=>by
  have c:=λx y d=>b x y (ao _ d)
  unfold St.Nc;split
  ·rename_i k j e;refine DC (h.TD i ?_) c;rw[b i i' aq,<- e];exact h.iP i'
  ·exact DC h c
theorem NS(h:Inv w0 G S a w){la:LA}{x:Its la.its}(e:la.get.val S=some x):∃G',Inv w0 G' (la.put x) a w:=by
 simp only[LA.get,Rd.val]at e;split at e
 case isFalse=>cases e
 rename_i m;obtain⟨T,B,C,D,F⟩:=m;simp only[Rd.aH,zB]at e;obtain⟨u,U,u',hp,ua,H,ub,I,uc,J,p,hk,e⟩:=e;split at e
 case isFalse=>cases e
 rename_i hc;rw[zI]at hc;obtain⟨G0,V,K,L,W,X⟩:=afH h T U hp D p.2;suffices Y:∃G',Inv w0 G' (la.base.aaF la.its x) a w/\G'.bk=G.bk by
  obtain⟨G',Z,g⟩:=Y;refine⟨G',DC (xN (xO Z λi b off c=>?_) λb' off' b off c=>?_) λi i' c=>?_⟩
  case refine_3=>
   obtain⟨k,j,o,r⟩:=QM J i i' c
   have r1:jc G w (.v (.one (.own k j))) (a.tmps.getD i undef):=by rw[<- o];exact h.iP i
   have r2:jc G w (.v (.one (.own k j))) (a.tmps.getD i' undef):=by rw[<- r];exact h.iP i'
   exact r1.2.1.trans r2.2.1.symm
  case refine_2=>
   obtain⟨k,j,cs',cs,o,r,t,A⟩:=Sz I b' off' b off c
   obtain⟨_,vs',E',q1,q2⟩:=h.box b' cs' o
   obtain⟨_,vs,E,q3,q4⟩:=h.box b cs r
   obtain⟨M,N⟩:=q2.get
   obtain⟨l,m⟩:=q4.get
   have f:off'<vs'.length:=by rw[<- M];exact (zC.1 t).1
   have d:off<vs.length:=by rw[<- l];exact (zC.1 A).1
   have K:=N off' _ _ t (zF f)
   have L:=m off _ _ A (zF d)
   refine⟨G.ov k j,?_,?_⟩
   ·rw[g,cell_of_row _ _ _ _ _ _ q1,List.getElem?_toArray,zF f,K.2.1]
   ·rw[g,cell_of_row _ _ _ _ _ _ q3,List.getElem?_toArray,zF d,L.2.1]
  obtain⟨k,j,cs,o,r,t⟩:=SC H i b off c;obtain⟨_,vs,E,A,k5⟩:=h.box b cs r;refine⟨vs,E,by rw[g];exact A,?_⟩;have hr:jc G w (.v (.one (.own k j))) (a.tmps.getD i undef):=by rw[<- o];exact h.iP i
  obtain⟨l,m⟩:=k5.get;have d:off<vs.length:=by rw[<- l];exact (zC.1 t).1
  have:=m off _ _ t (zF d);rw[zF d,this.2.1,<- hr.2.1]
 refine Q5 h la.its x p [] V K L (λb k j hh=>absurd hh (W b k j)) X e hk hc.1 (λq O=>⟨by simp,λc=>?_⟩) (λq O=>O) B (λkey c=>?_) λb off s c=>?_
 ·have:=List.all_eq_true.1 hc.2 q O;simp only[Bool.not_eq_true',List.any_eq_false,zI,beq_iff_eq,not_and]at this;exact this q c rfl rfl
 ·have:=List.all_eq_true.1 C key c;rw[(Yf la).1];exact⟨by simpa using this,SA la key⟩
 ·have:=List.all_eq_true.1 F _ c;simp only at this;obtain⟨⟨b',n⟩,y,z⟩:=List.any_eq_true.1 this;simp at z;subst z;obtain⟨cs,P,_⟩:=uJ U b' n y;have Q:b'<la.n:=by
   have:b'<S.boxes.length:=by
    rcases Nat.lt_or_ge b' S.boxes.length with l | l
    ·exact l
    ·simp[St.fJ,zE,zJ l]at P
   rw[h.bsz,T]at this;exact this
  rcases I4 la b' with ⟨_,R⟩ | ⟨q,_,_,R⟩
  ·exact absurd rfl (R Q _ y)
  ·exact⟨_,R⟩
end loops
theorem Iw{X ρ:Type}{f:X->Option (X⊕ρ)}:∀ {n:Nat} {x:X} {r:ρ},iter f n x=some r->∀ {m:Nat} {r':ρ},iter f m x=some r'->r=r'
 | 0,x,r,h,_,_,_=>by cases h
 | n+1,x,r,h,0,r',a=>by cases a
 | n+1,x,r,h,m+1,r',a=>by
  simp only[iter]at h a;split at h
  ·cases h
  ·rename_i y b;rw[b]at a;exact Iw h a
  ·rename_i c b;rw[b]at a;simp only[zD]at h a;rw[<- h,<- a]
theorem xX{X ρ:Type}{f:X->Option (X⊕ρ)}{x:X}{r:ρ}(h:aO f x=some r):∃n,iter f n x=some r:=by
 unfold aO at h;split at h
 ·rename_i hh;simp only[zD]at h;have:=hh.choose_spec.choose_spec;rw[h]at this;exact⟨_,this⟩
 ·cases h
theorem aX{X ρ:Type}(f:X->Option (X⊕ρ))(x:X):aO f x=match f x with
  | none=>none
  | some (.inl y)=>aO f y
  | some (.inr r)=>some r:=by
 have up:∀ {y:X} {r:ρ} {n:Nat},iter f n y=some r->aO f y=some r:=by
  intro y r n a;have hh:∃n r,iter f n y=some r:=⟨n,r,a⟩;unfold aO;rw[dif_pos hh];exact congrArg some (Iw hh.choose_spec.choose_spec a)
 have none_of:∀ {y:X},(∀n r,iter f n y≠some r)->aO f y=none:=by
  intro y c;unfold aO;rw[dif_neg];rintro⟨n,r,h⟩;exact c n r h
 split
 ·rename_i hf;refine none_of λn r a=>?_
  cases n with
  | zero=>cases a
  | succ n=>simp only[iter,hf]at a;cases a
 ·rename_i y hf;cases b:aO f y with
  | some r=>
   obtain⟨n,a⟩:=xX b;exact up (n:=n+1) (by simp only[iter,hf];exact a)
  | none=>
   refine none_of λn r a=>?_
   cases n with
   | zero=>cases a
   | succ n=>
    simp only[iter,hf]at a;rw[up a]at b;cases b
 ·rename_i r hf;exact up (n:=1) (by simp only[iter,hf])
def Ex.up:Ex->Exit
 | .normal=>.normal
 | .exit id=>.exit id
 | .ret=>.ret
section code
variable {P:Program} {w0:Bs} {E:Env} {an:List (Nat×LA)}
theorem Zr{c:Code}{ρ:Type}{r:ρ}{la:LA}{f:Its la.its->Option (Its la.its⊕ρ)}{B:Nat}{l:Its la.its}(o:iter f B l=some r){C:Gh}{a:Act}{w:World}(K:Inv w0 C (la.put l) a w)
  {k:Ex->St->Option ρ} {Q:Exit->Act->World->Prop}
  (hround:∀(x:Its la.its) (res:Its la.its⊕ρ) (a:Act) (w:World) (G:Gh),f x=some res->Inv w0 G (la.put x) a w->∀Q':Exit->Act->World->Prop,(∀y a' w' G',res=.inl y->Inv w0 G' (la.put y) a' w'->Q' .normal a' w') ->
   (∀(r:ρ) (e:Ex) S' a' w' G',res=.inr r->e≠.normal->k e S'=some r->Inv w0 G' S' a' w'->Q' e.up a' w')->c.wp P Q' a w)
  (D:∀e S' a' w' G',k e S'=some r->Inv w0 G' S' a' w'->Q e.up a' w'):(Code.loop c).wp P Q a w:=by
 let J:Nat->Act->World->Prop:=λn a w=>∃(x:Its la.its) (G:Gh),iter f n x=some r/\Inv w0 G (la.put x) a w
 classical
 have least:∀ {a:Act} {w:World},(∃n,J n a w)->∃n,J n a w/\∀m,J m a w->n<=m:=by
  intro a w ⟨n,p⟩;have key:∀n,J n a w->∃n,J n a w/\∀m,J m a w->n<=m:=by
   intro n;induction n using Nat.strongRecOn with
   | _ n ih=>
    intro p;by_cases j:∃m,m<n/\J m a w
    ·obtain⟨m,q,d⟩:=j;exact ih m q d
    ·refine⟨n,p,λm d=>?_⟩;rcases Nat.lt_or_ge m n with s | s
     ·exact absurd ⟨m,s,d⟩ j
     ·exact s
  exact key n p
 refine wp_loop (λa w=>∃n,J n a w) (λa w=>if hh:∃n,J n a w then (least hh).choose else 0) ⟨B,l,C,o,K⟩ ?_;intro E w1 t;obtain⟨F,hmin⟩:=(least t).choose_spec;rw[dif_pos t];generalize (least t).choose=n at F hmin;obtain⟨x,H,b,I⟩:=F;cases n with
 | zero=>cases b
 | succ n=>
  simp only[iter]at b;split at b
  ·cases b
  ·rename_i y u;refine hround x _ E w1 H u I _ (λz a' w' G' v i=>?_) (λr' e S' a' w' G' g _ _ _=>by cases g);cases v
   have h:∃n,J n a' w':=⟨n,y,G',b,i⟩;show (∃n,J n a' w')/\_
   refine⟨h,?_⟩;rw[dif_pos h];have:=(least h).choose_spec.2 n ⟨y,G',b,i⟩;omega
  ·rename_i L u;simp only[zD]at b;subst b;refine hround x _ E w1 H u I _ (λz a' w' G' v i=>by cases v) (λr' e S' a' w' G' g A hk i=>?_);cases g
   cases e with
   | normal=>exact absurd rfl A
   | exit id=>exact D (.exit id) S' a' w' G' hk i
   | ret=>exact D .ret S' a' w' G' hk i
theorem lg.split{w:World}{S:Nat->Nat->Prop}{dp:Bool}{t:Ty}{xs:List t.den}{cells:List Value}{lab:Nat->Prop}(h:lg w S dp t xs cells lab){m:Nat}(p:m<=xs.length) :
  ∃lab1 lab2:Nat->Prop,(∀c,lab1 c->lab c)/\(∀c,lab2 c->lab c)/\(∀c,lab1 c->lab2 c->False)/\lg w S dp t (xs.take m) (cells.take (m*t.size)) lab1/\lg w S dp t (xs.drop m) (cells.drop (m*t.size)) lab2:=by
 obtain⟨q,r,vs,fps,s,u,k⟩:=h;refine⟨λc=>∃i j,i<m/\fps i j c,λc=>∃i j,m<=i/\fps i j c,λc ⟨i,j,_,hc⟩=>u i j c hc,λc ⟨i,j,_,hc⟩=>u i j c hc,λc ⟨i,j,A,hc⟩ ⟨i',j',y,a⟩=>?_,?_,?_⟩
 ·have:=(k i j i' j' c hc a).1;omega
 ·refine⟨?_,λv l=>r v (List.mem_of_mem_take l),vs,λi j c=>i<m/\fps i j c,λi x j d b g=>?_,λi j c hc=>⟨i,j,hc⟩,λi j i' j' c hc a=>k i j i' j' c hc.2 a.2⟩
  ·rw[a8,a8,q,Nat.min_eq_left p,Nat.min_eq_left (Nat.mul_le_mul_right _ p)]
  ·rw[List.getElem?_take]at b;split at b
   case isFalse=>cases b
   rename_i f;obtain⟨n,o⟩:=s i x j d b g;have z:j<t.size:=by rw[<- Ty.bn t x];exact (zC.1 g).1
   refine⟨?_,o.sub (λc hc=>⟨f,hc⟩) λe=>e⟩;rw[List.getElem?_take,if_pos (wF f z)];exact n
 ·refine⟨?_,λv l=>r v (List.mem_of_mem_drop l),λi j=>vs (m+i) j,λi j=>fps (m+i) j,λi x j d b g=>?_,λi j c hc=>⟨m+i,j,by omega,hc⟩,λi j i' j' c hc a=>?_⟩
  ·rw[List.length_drop,List.length_drop,q,Nat.sub_mul]
  ·rw[List.getElem?_drop]at b;obtain⟨n,o⟩:=s _ x j d b g;refine⟨?_,o⟩;rw[List.getElem?_drop,<- Nat.add_assoc,<- Nat.add_mul];exact n
  ·have:=k _ _ _ _ c hc a;exact⟨by omega,this.2⟩
theorem acP{G:Gh}{S:St}{a:Act}{w:World}{s i A B:Nat}{ws:List W}(g:(afp s i A B).val S=some ws)(h:Inv w0 G S a w):∃G',Inv w0 G' (S.puts ws) a w:=by
 simp only[afp,Rd.val]at g;split at g
 case h_2=>cases g
 rename_i k j C;simp only[Rd.val]at g;split at g
 case h_2=>cases g
 rename_i t xs m hown;simp only[Rd.val,Rd.aH,zB]at g;obtain⟨n,_,m',z,w1,h1,w2,h2,g⟩:=g;split at g
 case isFalse=>cases g
 rename_i hc;obtain⟨c1,c2,c3,c4,c5⟩:=hc;simp only[Rd.val,zD]at g;subst g;obtain⟨U,rfl⟩:=fG h1;obtain⟨V,rfl⟩:=fG h2;have q:m'<=xs.length:=by
  unfold cutAt at z;split at z
  ·rename_i hn;cases z;omega
  ·cases z
 have hslot:=h.iP s;rw[C]at hslot;obtain⟨hlk,N,_⟩:=hslot;have hO:=h.owns k j;rw[hown]at hO;have X:OwT w G.S true m t xs (G.ov k j) (fM G k j):=hO;have hA:=h.tJ k j .dead trivial;have hdead:aZ ((S.bI k ((S.aI k).set j .dead)).aI k) j=.dead:=mG;have e1:(S.bI k ((S.aI k).set j .dead)).aI A=[]:=jR U;have e2:(S.bI k ((S.aI k).set j .dead)).aI B=[]:=jR V;have etl:(S.bI k ((S.aI k).set j .dead)).tmps.length=S.tmps.length:=rfl;generalize Y:S.bI k ((S.aI k).set j .dead)=T at *;have fin:∀ {D:Gh} (lab1 lab2:Nat->Prop) (K L:Value),Inv w0 D T a w->D.ow=G.ow->(∀c,lab1 c->fM G k j c)->(∀c,lab2 c->fM G k j c)->(∀c,lab1 c->lab2 c->False) ->
   yT w D.S t (xs.take m') K lab1->yT w D.S t (xs.drop m') L lab2 ->
   ((G.ov k j=.slice none 0 0/\m'=0/\K=.slice none 0 0/\L=.slice none 0 0) \/
    ∃b cap,G.ov k j=.slice (some ⟨b,0,none⟩) xs.length cap/\xs.length<=cap/\m'<=xs.length/\K=.slice (some ⟨b,0,none⟩) m' cap/\L=.slice (some ⟨b,if cap=m' then 0 else m'*t.size,none⟩) (xs.length-m') (cap-m')) ->
   ∃G',Inv w0 G' (((T.bI A [.seg t (xs.take m')]).bI B [.seg t (xs.drop m')]).iV s (.cut t xs.length m' A B)) a w:=by
  intro D lab1 lab2 K L Z F hl1 hl2 hdis hs1 hs2 hval;classical
  obtain⟨G2,hB2,hm2,q1,q2,q3,q4,q5⟩:=Z.nC A [.seg t (xs.take m')] (λ_=>K) (λc=>if lab1 c then some 0 else none) e1 (by rw[etl];exact c4) (by simp)
   (λc j' hc=>by
    by_cases M:lab1 c
    ·have hf:=hl1 c M;have f:=h.iR hf;refine⟨f.1,f.2,λi' l=>?_,λk' j'' t2 H d2 m2 l=>?_⟩
     ·rw[F,show G.ow c=_ from hf]at l;cases l
     ·rw[F,show G.ow c=_ from hf]at l;cases l;rw[hdead];simp[O.dY]
    ·rw[if_neg M]at hc;cases hc)
   (λj'=>by
    cases j' with
    | zero=>
     show yT w D.S t (xs.take m') K _
     exact hs1.move (λb o C=>⟨C,rfl⟩) λc hc=>⟨if_pos hc,rfl⟩
    | succ j'=>trivial)
  have e3:(T.bI A [.seg t (xs.take m')]).aI B=[]:=by
   rw[bg,if_neg (λe=>c1 e.1)];exact e2
  obtain⟨G3,hB3,P,r1,r2,r3,r4,r5⟩:=hB2.nC B [.seg t (xs.drop m')] (λ_=>L) (λc=>if lab2 c then some 0 else none) e3 (by show B<T.tmps.length;rw[etl];exact c5) (by simp)
   (λc j' hc=>by
    by_cases M:lab2 c
    ·have hf:=hl2 c M;have f:=h.iR hf;have Q:G2.ow c=some (.own k j):=by
      rw[q5,if_neg (λhh=>hdis c hh M)];show D.ow c=_
      rw[F];exact hf
     refine⟨f.1,f.2,λi' l=>?_,λk' j'' t2 H d2 m2 l=>?_⟩
     ·rw[Q]at l;cases l
     ·rw[Q]at l;cases l;rw[bg,if_neg (λe=>c2 e.1),hdead];simp[O.dY]
    ·rw[if_neg M]at hc;cases hc)
   (λj'=>by
    cases j' with
    | zero=>
     show yT w G2.S t (xs.drop m') L _
     rw[q4];exact hs2.move (λb o C=>⟨C,rfl⟩) λc hc=>⟨if_pos hc,rfl⟩
    | succ j'=>trivial)
  refine⟨G3,hB3.TD s ?_⟩;refine⟨(P.k A q1).1,r1,?_⟩;rw[(P.k A q1).2 0,q2,r2];rcases hval with ⟨f1,f2,f3,f4⟩ | ⟨b,cap,f1,f2,f3,f4,f5⟩
  ·exact .inl ⟨by rw[N];exact f1,f2,f3,f4⟩
  ·exact .inr ⟨b,cap,by rw[N];exact f1,f2,f3,f4,f5⟩
 show ∃G',Inv w0 G' ((S.bI k ((S.aI k).set j .dead)).puts _) a w
 rw[Y];rcases X.laid with ⟨I,J⟩ | ⟨b,cap,arr,E,rest,cells,I,l,hcap,hmax,hasz,r,harr,hL,hsS⟩
 ·have hm0:m'=0:=by rw[J]at q;simpa using q
  have hempty:∀(ys:List t.den),ys=[]->yT w G.S t ys (.slice none 0 0) (λ_=>False):=λys hy=>.inl ⟨⟨none,0,rfl,λ_=>rfl⟩,hy⟩
  exact fin (λ_=>False) (λ_=>False) (.slice none 0 0) (.slice none 0 0) hA rfl (λ_ hh=>hh.elim) (λ_ hh=>hh.elim) (λ_ hh=>hh.elim) (hempty _ (by rw[J];simp)) (hempty _ (by rw[J];simp)) (.inl ⟨I,hm0,rfl,rfl⟩)
 ·obtain⟨Z,hmB⟩:=hA.VI (λb' o=>b'=b/\o<xs.length*t.size)
   (λb' o v=>by
    obtain⟨rfl,_⟩:=v;have f:=h.iR r;refine⟨f.2,λi' R=>?_,λk' j' t2 H d2 m2 x len cap' hov' d=>?_⟩
    ·rw[show G.ow b'=_ from r]at R;cases R
    ·rw[show G.ow b'=_ from r]at d;cases d;rw[hdead]at x;cases x)
   (λb' o v=>by obtain⟨rfl,_⟩:=v;exact (h.iR r).1)
   (λb' o v k' j' t2 H x d=>by
    obtain⟨rfl,_⟩:=v;rw[show G.ow b'=_ from r]at d;cases d;rcases x with x | ⟨_,x⟩ | x | ⟨_,_,x⟩<;>rw[hdead]at x<;>cases x)
  have hL':=hL.move (S':=λb' o=>G.S b' o\/(b'=b/\o<xs.length*t.size)) (w':=w) (λb' o C=>⟨.inl C,rfl⟩) (λc hc=>⟨hc,rfl⟩);obtain⟨lab1,lab2,l1,l2,l3,l4,l5⟩:=hL'.split q;have hcell:∀p u,cells[p]?=some u->w.cell? ⟨b,p,none⟩=some u/\p<xs.length*t.size:=by
   intro p u y;have hp:=(zC.1 y).1;refine⟨?_,by rw[<- hL.1];exact hp⟩;rw[cell_of_row _ _ _ _ _ _ l,<- Array.getElem?_toList,harr,List.getElem?_append_left hp];exact y
  have hmul:m'*t.size<=xs.length*t.size:=Nat.mul_le_mul_right _ q;refine fin lab1 lab2 (.slice (some ⟨b,0,none⟩) m' cap) (.slice (some ⟨b,if cap=m' then 0 else m'*t.size,none⟩) (xs.length-m') (cap-m')) Z rfl (λc hc=>(l1 c hc).1) (λc hc=>(l2 c hc).1) l3 ?_ ?_ (.inr ⟨b,cap,I,hcap,q,rfl,rfl⟩)
  ·have hlen:(xs.take m').length=m':=by rw[a8];omega
   refine .inr ⟨b,0,cap,cells.take (m'*t.size),by rw[hlen],λp u y=>?_,l4⟩;rw[List.getElem?_take]at y;split at y
   case isFalse=>cases y
   obtain⟨g1,g2⟩:=hcell p u y;rw[Nat.zero_add];exact⟨g1,.inr ⟨rfl,g2⟩⟩
  ·have hlen:(xs.drop m').length=xs.length-m':=List.length_drop;by_cases hz:xs.length=m'
   ·refine .inl ⟨⟨_,cap-m',by rw[hz,Nat.sub_self],λhh=>by cases hh⟩,?_⟩;exact List.eq_nil_of_length_eq_zero (by rw[hlen];omega)
   ·have hcm:¬cap=m':=by omega
    rw[if_neg hcm];refine .inr ⟨b,m'*t.size,cap-m',cells.drop (m'*t.size),by rw[hlen],λp u y=>?_,l5⟩;rw[List.getElem?_drop]at y;obtain⟨g1,g2⟩:=hcell _ u y;exact⟨g1,.inr ⟨rfl,g2⟩⟩
theorem O4{G:Gh}{S:St}{a:Act}{w:World}{ρ:Type}{E:Env}{id:Nat}{k:St->Option ρ}{r:ρ}(b:ahw E id S k=some r)(h:Inv w0 G S a w):∃S' G',Inv w0 G' S' a w/\k S'=some r:=by
 unfold ahw at b;split at b
 ·exact⟨S,G,h,b⟩
 ·rw[Rd.jg,zB]at b;obtain⟨ws,c,d⟩:=b;obtain⟨G',e⟩:=acP c h;exact⟨_,G',e,d⟩
theorem iG(n:oM P E w0)(o:P.follows .mixedOrders=true):∀(c:Code) {ρ:Type} {r:ρ} {S:St} {a:Act} {w:World} {G:Gh} {k:Ex->St->Option ρ} {Q:Exit->Act->World->Prop},
  den E an c S k=some r->Inv w0 G S a w->(∀e S' a' w' G',k e S'=some r->Inv w0 G' S' a' w'->Q e.up a' w')->c.wp P Q a w
 | .skip,ρ,r,S,a,w,G,k,Q,b,h,d=>wp_skip (d .normal S a w G b h)
 | .label l,ρ,r,S,a,w,G,k,Q,b,h,d=>wp_label (d .normal S a w G b h)
 | .region id ops false,ρ,r,S,a,w,G,k,Q,b,h,d=>by
  obtain⟨M,I,q,m⟩:=O4 (k:=λS=>aj1 E ops ops.toList S λS=>k .normal S) b h;refine wp_region ?_;have:=Zi (P:=P) (w0:=w0) (E:=E) (ops:=ops) (Q:=Q) n (k:=λS=>k .normal S) (λS' a' w' G' hk g=>d .normal S' a' w' G' hk g) (l:=ops.toList) (i:=0) (by simp) m q;rw[List.range_eq_range'];simpa using this
 | .region id ops true,ρ,r,S,a,w,G,k,Q,b,h,d=>by
  obtain⟨M,I,q,m⟩:=O4 (k:=λS=>agG E ops id S λS=>k .normal S) b h;exact Z5 n o (k:=λS=>k .normal S) m q λS' a' w' G' hk g=>d .normal S' a' w' G' hk g
 | .seq x y,ρ,r,S,a,w,G,k,Q,b,h,d=>by
  simp only[den]at b;split at b
  ·refine wp_seq (iG n o x (Q:=Exit.then (y.wp P Q) Q) b h λe S' a' w' G' hk g=>?_);cases e with
   | normal=>exact iG n o y hk g d
   | exit id=>exact d (.exit id) S' a' w' G' hk g
   | ret=>exact d .ret S' a' w' G' hk g
  ·rename_i la v;unfold lJ at b;rw[zB]at b;obtain⟨j,N,hf⟩:=b;refine wp_seq (iG n o x (Q:=Exit.then (y.wp P Q) Q) N h λe S' a' w' G' hk g=>?_);cases e with
   | normal=>
    simp only at hk;rw[Rd.jg,zB]at hk;obtain⟨z,A,hk⟩:=hk;cases hk
    obtain⟨J,B⟩:=NS g A;exact iG n o y hf B d
   | exit id=>
    simp only at hk;rw[zB]at hk;obtain⟨r',hk,f⟩:=hk;cases f
    cases hf
    exact d (.exit id) S' a' w' G' hk g
   | ret=>
    simp only at hk;rw[zB]at hk;obtain⟨r',hk,f⟩:=hk;cases f
    cases hf
    exact d .ret S' a' w' G' hk g
 | .cond c x y,ρ,r,S,a,w,G,k,Q,b,h,d=>by
  simp only[den]at b;split at b
  ·rename_i t;have m:=RD b;have u:=h.iP t;split at m
   ·rename_i C;rw[C]at u;have f:Rep w G.S (.bool true) (a.eval (.tmp t)):=u;generalize p:a.eval (.tmp t)=vv at f;cases f
    exact wp_cond_true p (iG n o x m h d)
   ·rename_i C;rw[C]at u;have f:Rep w G.S (.bool false) (a.eval (.tmp t)):=u;generalize p:a.eval (.tmp t)=vv at f;cases f
    exact wp_cond_false p (iG n o y m h d)
   ·cases m
  ·cases b
 | .block id c,ρ,r,S,a,w,G,k,Q,b,h,d=>by
  refine wp_block (iG n o c (Q:=Exit.inBlock id Q) b h λe S' a' w' G' hk g=>?_);cases e with
  | normal=>exact d .normal S' a' w' G' hk g
  | exit i=>
   simp only at hk;show (if i=id then Q .normal a' w' else Q (.exit i) a' w')
   by_cases K:i=id
   ·rw[if_pos K]at hk ⊢;exact d .normal S' a' w' G' hk g
   ·rw[if_neg K]at hk ⊢;exact d (.exit i) S' a' w' G' hk g
  | ret=>exact d .ret S' a' w' G' hk g
 | .loop c,ρ,r,S,a,w,G,k,Q,b,h,d=>by
  simp only[den]at b;split at b
  ·cases b
  rename_i la v;rw[Rd.jg,zB]at b;obtain⟨U,D,O⟩:=b;obtain⟨V,F⟩:=xX O;obtain⟨W,R⟩:=NS h D;refine Zr F R (λx res X w1 I H q Q' T L=>iG n o c H q λe S' a' w' G' hk g=>?_) (λe S' a' w' G' hk g=>d e S' a' w' G' hk g);cases e with
  | normal=>
   simp only at hk;rw[Rd.jg,zB]at hk;obtain⟨z,A,hk⟩:=hk;obtain⟨J,B⟩:=NS g A;exact T z a' w' J (aR hk).symm B
  | exit id=>
   simp only at hk;rw[zB]at hk;obtain⟨r',hk,f⟩:=hk;exact L r' (.exit id) S' a' w' G' (aR f).symm (by simp) hk g
  | ret=>
   simp only at hk;rw[zB]at hk;obtain⟨r',hk,f⟩:=hk;exact L r' .ret S' a' w' G' (aR f).symm (by simp) hk g
 | .exit id,ρ,r,S,a,w,G,k,Q,b,h,d=>wp_exit (d (.exit id) S a w G b h)
 | .ret,ρ,r,S,a,w,G,k,Q,b,h,d=>wp_ret (d .ret S a w G b h)
 | .scope c,ρ,r,S,a,w,G,k,Q,b,h,d=>by cases b
 | .goto l,ρ,r,S,a,w,G,k,Q,b,h,d=>by cases b
 | .rangeFunc ..,ρ,r,S,a,w,G,k,Q,b,h,d=>by cases b
 | .refuse s,ρ,r,S,a,w,G,k,Q,b,h,d=>by cases b
end code
section functions
variable {P:Program}
theorem XW{G:Gh}{w:World}{n:Nat}{s:Sh}{x:s.t.den}{u:Value}(h:ShR (λ_ d u=>Rep w G.S d u) n s x u):qV G w (acL s x) u:=by
 have key:∀ {n:Nat} {ds:List D} {vs:List Value},aV (λ_ d u=>Rep w G.S d u) n ds vs->cu G w (ds.map .d) vs:=by
  intro n ds;induction ds generalizing n with
  | nil=>intro vs h;cases vs with
   | nil=>trivial
   | cons=>exact h.elim
  | cons d ds ih=>intro vs h;cases vs with
   | nil=>exact h.elim
   | cons v vs=>exact⟨h.1,ih h.2⟩
 unfold ShR at h;unfold acL;split at h
 ·rename_i a;obtain⟨vs,rfl,hc⟩:=h;rw[a];exact⟨vs,rfl,key hc⟩
 ·rename_i a;rw[a];have hc:=key h;match b:(s.t.cells x).map C.d,hc with
  | [c],hc=>exact hc.1
theorem qZ{G:Gh}{w:World}:∀ {n:Nat} {ss:List Sh} {x:Tup ss} {us:List Value},jG (λ_ d u=>Rep w G.S d u) n ss x us->kz G w (wX ss x) us
 | n,[],x,[],_=>trivial
 | n,[s],x,[u],h=>⟨XW h,trivial⟩
 | n,s::s'::r,(x,y),u::us,h=>⟨XW h.1,qZ h.2⟩
end functions
section functions
variable {P:Program}
theorem Oa{w:World}{S0:Nat->Nat->Prop}(l:∀b o,S0 b o->b<w.heap.size){n:Nat}{vs:List V}{us:List Value}(m:∀G:Gh,G.S=S0->kz G w vs us) :
  ∃G,Inv ⟨w,S0,λ_=>False,none⟩ G (yc n vs) { tmps:=us.toArray++Array.replicate (n-us.toArray.size) undef,defers:=[] } w:=by
 let G:Gh:={ bk:=λ_=>0,ov:=λ_ _=>undef,ow:=λ_=>none,S:=S0,lk:=λ_=>False,lb:=λ_=>False };obtain⟨p,q⟩:=(m G rfl).get;have g:∀i,(yc n vs).fJ i=none:=by
  intro i;show (List.replicate _ (none:Option (List C))).getD i none=none
  rw[zE,List.getElem?_replicate];split<;>rfl
 have h:∀i,(yc n vs).aI i=[]:=by
  intro i;show (List.replicate _ ([]:List O)).getD i []=[]
  rw[zE,List.getElem?_replicate];split<;>rfl
 refine⟨G,⟨jL.refl _ _ _,rfl,?_,?_,?_,?_,(λb x r=>(by cases r)),(λb o d=>⟨l b o d,λi e=>(by cases e)⟩),?_,?_,(λk hk=>hk.elim),(λi e=>e.elim),(λb o d _=>.inl d),(λb o d=>⟨d,rfl⟩),(λb y s=>by cases s)⟩⟩
 ·simp[yc,p]
 ·simp[yc]
 ·simp[yc]
 ·intro i v a;simp only[Array.getElem?_append,List.size_toArray,List.getElem?_toArray]at a;show jc G w ((vs.map AV.v++List.replicate _ AV.undef).getD i .undef) v
  rw[zE,List.getElem?_append];by_cases e:i<us.length
  ·rw[if_pos e]at a;have c:i<vs.length:=by omega
   rw[if_pos (by simpa using c),List.getElem?_map,zF c];exact q i vs[i] v (by simp[c]) a
  ·rw[if_neg (by simp;omega),List.getElem?_replicate];split<;>trivial
 ·intro i cs f;rw[g]at f;cases f
 ·intro k j;rw[h];trivial
def xJ(tmps:Array Value):ResultVar->Sem Value
 | .tmp t=>pure (tmps.getD t undef)
 | .cell p t=>do loadVar t (<- asAddr (tmps.getD p undef))
theorem adZ{w0:Bs}{E:Env}(s:E.tt.ok P=true){G:Gh}{S:St}{a:Act}{w:World}(h:Inv w0 G S a w){rv:ResultVar}{x:V}(c:(resV E rv).val S=some x) :
  ∃v,(xJ a.tmps rv).run P w=.ok v w/\qV G w x v:=by
 cases rv with
 | tmp t=>
  simp only[resV,Rd.val]at c;exact⟨_,rfl,oW c (h.iP t)⟩
 | cell p t=>
  simp only[resV]at c;split at c
  ·cases c
  ·rename_i agg n u;obtain⟨d,i,o,z,A,q⟩:=TT.vG s u;have r:=h.iP p;change Rd.val (match S.iP p with
   | .v (.one (.ptr b off))=>.gB b λ
    | some cs=>.opt (mkV agg (seg cs off n)) λv=>if (seg cs off n).length=n then .ret v else .fail
    | none=>.fail
   | _=>.fail) S=some x at c
   split at c
   ·rename_i b off B;rw[B]at r;have f:a.tmps.getD p undef=.pointer (some ⟨G.bk b,off,none⟩):=r.2;change Rd.val (match S.fJ b with
     | some cs=>.opt (mkV agg (seg cs off n)) λv=>if (seg cs off n).length=n then .ret v else .fail
     | none=>.fail) S=some x at c
    split at c
    ·rename_i cs k;simp only[Rd.val,zB]at c;obtain⟨y,C,c⟩:=c;split at c
     ·rename_i H;simp only[Rd.val,zD]at c;subst c;obtain⟨_,vs,e,hh,hc⟩:=h.box b cs k;obtain⟨D,F⟩:=UY C (hc.seg off n);have hlen:=(hc.seg off n).length;have hcell:∀(j:Nat) (v:Value),(seg vs off n)[j]?=some v->w.cell? ⟨G.bk b,off+j,none⟩=some v:=λj v g=>by
       rw[cell_of_row w _ _ _ _ _ hh];simp only[Abs.seg,List.getElem?_take,List.getElem?_drop]at g;split at g
       ·simpa using g
       ·cases g
      cases agg with
      | true=>
       have:=ql (P:=P) (w:=w) t (G.bk b) off d i o z q (seg vs off n) (by omega) hcell;exact⟨_,by simp only[xJ,f,asAddr,Sem.run_bind,Sem.run_pure,Result.andThen_ok,this],D rfl⟩
      | false=>
       obtain⟨v,l,m⟩:=F rfl;have:=qj (P:=P) (w:=w) t (G.bk b) off d o q v (by have:=hcell 0 v (by rw[l];rfl);simpa using this);exact⟨_,by simp only[xJ,f,asAddr,Sem.run_bind,Sem.run_pure,Result.andThen_ok,this],m⟩
     ·cases c
    ·cases c
   ·cases c
theorem pK{w0:Bs}{E:Env}(c:E.tt.ok P=true){G:Gh}{S:St}{a:Act}{w:World}(h:Inv w0 G S a w):∀ {rvs:List ResultVar} {xs:List V},(zU E rvs).val S=some xs ->
  ∃us,(rvs.mapM (xJ a.tmps)).run P w=.ok us w/\kz G w xs us
 | [],xs,b=>by
  simp only[zU,Rd.val,zD]at b;subst b;exact⟨[],rfl,trivial⟩
 | rv::r,xs,b=>by
  simp only[zU,Rd.aH,zB,Rd.val,zD]at b;obtain⟨x,d,xs',e,rfl⟩:=b;obtain⟨v,f,g⟩:=adZ c h d;obtain⟨us,i,j⟩:=pK c h e;refine⟨v::us,?_,g,j⟩;simp only[List.mapM_cons,Sem.run_bind,f,Result.andThen_ok,i,Sem.run_pure]
theorem Si{w0:Bs}{G:Gh}{S:St}{a:Act}{w:World}(h:Inv w0 G S a w){all:List C}(hall:(vz all).val S=some true):∀ {tys:List (Option Ty)} {cs:List C} {ds:List D} {vs:List Value} {n:Nat} {pre post:List C},(cDs tys cs).val S=some ds ->
  tys.length=cs.length->cu G w cs vs->all=pre++cs++post->pre.length=n->aV (λi d v=>Ow w (λ_ _=>False) true d v (λb=>∃c,all[i]?=some c/\rowsOf G S c b)) n ds vs
 | [],[],ds,[],n,pre,post,f,_,_,_,_=>by
  simp only[cDs,Rd.val,zD]at f;subst f;trivial
 | ty::tys,c::cs,ds,v::vs,n,pre,post,f,q,hc,p,hp=>by
  simp only[cDs,Rd.aH,zB,Rd.val,zD]at f;obtain⟨d,r,ds',s,rfl⟩:=f;have g:all[n]?=some c:=by
   rw[p,a7,List.getElem?_append_right (by omega),hp];simp
  obtain⟨b,l,m⟩:=yB hall n c g;have t:=VD h r hc.1 l m (S':=λb o=>G.S b o\/AK G S (aP all) b o) (keys:=aP all) (λ_ _ hh=>hh) (λk j e=>fD (e▸zG g));exact⟨(t.anyS rfl).sub (λb u=>⟨c,g,u⟩) id,Si h hall (pre:=pre++[c]) (post:=post) s (by simpa using q) hc.2 (by rw[p];simp) (by simp[hp])⟩
theorem ac9{w0:Bs}{G:Gh}{S:St}{a:Act}{w:World}(h:Inv w0 G S a w){all:List C}(hall:(vz all).val S=some true){s:Sh}{x:V}{y:s.t.den}{v:Value}{n:Nat}{pre post:List C}(e:(vT s x).val S=some y)(m:qV G w x v)
  (o:all=pre++x.cells++post) (hp:pre.length=n):ShR (λi d v=>Ow w (λ_ _=>False) true d v (λb=>∃c,all[i]?=some c/\rowsOf G S c b)) n s y v/\x.cells.length=s.t.size:=by
 simp only[vT]at e;split at e
 ·rename_i f;simp only[Rd.aH,zB,Rd.val]at e;obtain⟨ds,p,z,q,k⟩:=e;simp only[zD]at k;subst k;obtain⟨vs,hc,g,j⟩:=m.cells;have:=Si h hall p (by rw[kE];exact f.2.symm) hc o hp;rw[<- Ty.dU q]at this;refine⟨?_,f.2⟩;unfold ShR;cases l:s.agg with
  | true=>exact⟨vs,g (by rw[f.1,l]),this⟩
  | false=>rw[j (by rw[f.1,l])]at this;exact this
 ·cases e
theorem Tc{w0:Bs}{G:Gh}{S:St}{a:Act}{w:World}(h:Inv w0 G S a w){all:List C}(hall:(vz all).val S=some true):∀ {ss:List Sh} {xs:List V} {y:Tup ss} {us:List Value} {n:Nat} {pre post:List C},(vTs ss xs).val S=some y->kz G w xs us ->
  all=pre++xs.flatMap V.cells++post->pre.length=n->jG (λi d v=>Ow w (λ_ _=>False) true d v (λb=>∃c,all[i]?=some c/\rowsOf G S c b)) n ss y us
 | [],[],y,[],n,pre,post,_,_,_,_=>trivial
 | [s],[x],y,[u],n,pre,post,e,f,g,hp=>(ac9 h hall (post:=post) e f.1 (by rw[g];simp) hp).1
 | s::s'::r,x::xs,y,u::us,n,pre,post,e,f,g,hp=>by
  simp only[vTs,Rd.aH,zB,Rd.val,zD]at e;obtain⟨p,j,q,k,rfl⟩:=e;obtain⟨l,m⟩:=ac9 h hall (post:=xs.flatMap V.cells++post) j f.1 (by rw[g];simp) hp;exact⟨l,Tc h hall (pre:=pre++x.cells) (post:=post) k f.2 (by rw[g];simp) (by simp[hp,m])⟩
 | [s],x::x'::xs,y,us,n,pre,post,e,_,_,_=>by simp[vTs,Rd.val]at e
 | [s],[],y,us,n,pre,post,e,_,_,_=>by simp[vTs,Rd.val]at e
 | [],_::_,y,us,n,pre,post,e,_,_,_=>by simp[vTs,Rd.val]at e
 | s::s'::r,[],y,us,n,pre,post,e,_,_,_=>by simp[vTs,Rd.val]at e
theorem Vu{w:World}{S0:Nat->Nat->Prop}{E:Env}(B:E.tt.ok P=true){fn:Func}{rs:List Sh}{ex:Bool}{G:Gh}{S:St}{a:Act}{w':World}{y:Tup rs}(g:(finish E fn rs ex).val S=some y)(h:Inv ⟨w,S0,λ_=>False,none⟩ G S a w') :
  ∃v,(results fn a.tmps).run P w'=.ok v w'/\Yq w.heap.size w' S0 ex rs y v:=by
 simp only[finish,Rd.aH,zB]at g;obtain⟨xs,C,ok,t,g⟩:=g;split at g
 case isFalse=>cases g
 rename_i m;subst m;obtain⟨us,D,l⟩:=pK B h C;refine⟨pack us,?_,us,rfl,?_⟩
 ·have e:(results fn a.tmps).run P w'=.ok (if h:us.toArray.size=1 then us.toArray[0]else .tuple us.toArray) w':=by
   change ((fn.results.mapM (xJ a.tmps)) >>=λvs=>pure (if h:vs.size=1 then vs[0]else .tuple vs)).run P w'=_;simp only[Array.mapM_eq_mapM_toList,Sem.run_bind,Sem.run_map,D,Result.andThen_ok,Sem.run_pure]
  rw[e];match us with
  | []=>rfl
  | [u]=>rfl
  | u::u'::r=>rw[dif_neg (by simp)];rfl
 ·cases ex with
  | true=>
   simp only[if_true,ahr,Rd.aH,zB,Rd.val,zD]at t;obtain⟨b,F,z⟩:=t;rw[zI]at z;obtain⟨rfl,n⟩:=z;refine⟨λi b=>∃c,(xs.flatMap V.cells)[i]?=some c/\rowsOf G S c b,Tc h F (pre:=[]) (post:=[]) g l (by simp) rfl,?_,?_⟩
   ·rintro i c ⟨cc,_,k,j,_,d,_⟩;exact⟨Bs.nw0 (h.iR d).1,(h.iR d).2⟩
   ·rintro i i' c ⟨cc,hc,k,j,rfl,d,_⟩ ⟨cc',p,k',j',rfl,f,_⟩;rw[d]at f;cases f
    exact gJ n hc p
  | false=>
   refine⟨λb o=>G.S b o\/AK G S (aP (xs.flatMap V.cells)) b o,mQ h _ 0 g l λk j x H I=>mJ H I,?_⟩;rintro b o (A | ⟨k,j,_,_,_,_,_,_,d,_⟩)
   ·refine⟨?_,(h.sok b o A).1⟩;rcases Nat.lt_or_ge b w.heap.size with s | s
    ·exact .inl ((h.sfr b o A s).resolve_right λq=>q.1)
    ·exact .inr s
   ·have:=h.iR d;exact⟨.inr (Bs.nw0 this.1),this.2⟩
theorem Sound.two{fid:Nat}{ps rs:List Sh}{ex sh:Bool}{f g:Tup ps->Option (Tup rs)}(b:Sound P { fid:=fid,ps:=ps,rs:=rs,ex:=ex,sh:=sh,fn:=f })(c:Sound P { fid:=fid,ps:=ps,rs:=rs,ex:=ex,sh:=sh,fn:=g }):Sound P { fid:=fid,ps:=ps,rs:=rs,ex:=ex,sh:=sh,fn:=λx=>(f x).or (g x) }:=
 λw S args x y a=>by
  have a:(f x).or (g x)=some y:=a;cases e:f x with
  | some z=>exact b w S args x y (by rw[e]at a;exact e.trans a)
  | none=>exact c w S args x y (by rw[e]at a;exact a)
theorem TB{E:Env}(i:kM P E)(j:P.follows .mixedOrders=true)(an:List (Nat×LA)){s:Fsp}{fn:Func}(hf:P.funcs[s.fid]?=some fn)
  (hden:∀x,aky E an fn s.ps s.rs s.ex x=s.fn x):Sound P s:=by
 intro w S args x y b d hargs k;rw[<- hden x]at b;unfold aky at b;split at b
 ·cases b
 ·rename_i c l;obtain⟨G,h⟩:=Oa k (n:=fn.ntmps) (vs:=wX s.ps x) (us:=args) (λG m=>qZ (by rw[m];exact hargs));refine calls_of_wp hf l (iG (i.at (.none d) λ_ _=>nofun) j c b h λe S' a' w' G' hk f=>?_);have key:(finish E fn s.rs s.ex).val S'=some y->bodyPost P fn (λe w'=>∃v,e=.returned v/\Below w.heap.size w w'/\Yq w.heap.size w' S s.ex s.rs y v) .ret a' w':=by
   intro o;obtain⟨v,p,q⟩:=Vu i.1 o f;exact⟨f.nodef,v,p,v,rfl,f.below.Tm λ_ hf=>hf,q⟩
  cases e with
  | normal=>
   change (finish E fn s.rs s.ex).runK S' some=some y at hk;rw[Rd.jg,zB]at hk;obtain⟨z,g,a⟩:=hk;cases a
   exact key g
  | exit id=>cases hk
  | ret=>
   change (finish E fn s.rs s.ex).runK S' some=some y at hk;rw[Rd.jg,zB]at hk;obtain⟨z,g,a⟩:=hk;cases a
   exact key g
theorem aV.shift{Q:D->Value->Prop}:∀ {n m:Nat} {ds:List D} {vs:List Value},aV (λ_ d u=>Q d u) n ds vs->aV (λ_ d u=>Q d u) m ds vs
 | n,m,[],[],_=>trivial
 | n,m,d::ds,v::vs,h=>⟨h.1,aV.shift h.2⟩
theorem ShR.shift{Q:D->Value->Prop}{n m:Nat}{s:Sh}{x:s.t.den}{u:Value}(h:ShR (λ_ d u=>Q d u) n s x u):ShR (λ_ d u=>Q d u) m s x u:=by
 unfold ShR at *;split at h
 ·obtain⟨vs,e,hc⟩:=h;exact⟨vs,e,hc.shift⟩
 ·exact aV.shift h
theorem jG.shift{Q:D->Value->Prop}:∀ {n m:Nat} {ss:List Sh} {y:Tup ss} {us:List Value},jG (λ_ d u=>Q d u) n ss y us->jG (λ_ d u=>Q d u) m ss y us
 | n,m,[],y,[],_=>trivial
 | n,m,[s],y,[u],h=>ShR.shift (s:=s) h
 | n,m,s::s'::r,y,u::us,h=>⟨h.1.shift,h.2.shift⟩
theorem ShR.agg{Q:D->Value->Prop}{c:Sh}{x:c.t.den}{vs:List Value}(hc:c.agg=true)(h:ShR (λ_ d u=>Q d u) 0 c x (.agg vs.toArray)):aV (λ_ d u=>Q d u) 0 (c.t.cells x) vs:=by
 unfold ShR at h;rw[hc]at h;obtain⟨vs',e,h⟩:=h;have:vs=vs':=by simpa using e
 rw[this];exact h
theorem qL{fn:Func}{a:Act}{w':World}{us:List Value}(b:(fn.results.toList.mapM (xJ a.tmps)).run P w'=.ok us w'):(results fn a.tmps).run P w'=.ok (pack us) w':=by
 have e:(results fn a.tmps).run P w'=.ok (if h:us.toArray.size=1 then us.toArray[0]else .tuple us.toArray) w':=by
  change ((fn.results.mapM (xJ a.tmps)) >>=λvs=>pure (if h:vs.size=1 then vs[0]else .tuple vs)).run P w'=_;simp only[Array.mapM_eq_mapM_toList,Sem.run_bind,Sem.run_map,b,Result.andThen_ok,Sem.run_pure]
 rw[e];match us with
 | []=>rfl
 | [u]=>rfl
 | u::u'::r=>rw[dif_neg (by simp)];rfl
theorem acw{w:World}{S0:Nat->Nat->Prop}{bb:Nat}(A:∀b o,S0 b o->b<w.heap.size/\b≠bb){f:List Value}{Et:TypeId}(hh:w.heap[bb]?=some (.cells f.toArray Et (0,0))){n:Nat}{cs:List C}{vs:List V}{us:List Value}
  (B:∀G:Gh,G.S=S0->cu G w cs f/\kz G w vs us) :
  ∃G,Inv ⟨w,S0,λc=>c=bb,some (bb,true)⟩ G (nG n cs vs) { tmps:=(Value.pointer (some ⟨bb,0,none⟩)::us).toArray++Array.replicate (n-(Value.pointer (some ⟨bb,0,none⟩)::us).toArray.size) undef,defers:=[] } w:=by
 let G:Gh:={ bk:=λ_=>bb,ov:=λ_ _=>undef,ow:=λc=>if c=bb then some (.box 0)else none,S:=S0,lk:=λ_=>False,lb:=λi=>i=0 };obtain⟨r,s⟩:=B G rfl;obtain⟨D,E⟩:=s.get;have t:bb<w.heap.size:=(aM.1 hh).1;have l:∀c x,G.ow c=some x->c=bb/\x=.box 0:=λc x u=>by
  have g:(if c=bb then some (sZ.box 0)else none)=some x:=u;split at g
  ·rename_i e;cases g;exact⟨e,rfl⟩
  ·cases g
 have m:∀i,(nG n cs vs).fJ i=if i=0 then some cs else none:=by
  intro i;show (some cs::List.replicate _ (none:Option (List C))).getD i none=_
  cases i with
  | zero=>rfl
  | succ i=>
   rw[zE,List.getElem?_cons_succ,List.getElem?_replicate,if_neg (Nat.succ_ne_zero i)];split<;>rfl
 have z:∀i,(nG n cs vs).aI i=[]:=by
  intro i;show (List.replicate _ ([]:List O)).getD i []=[]
  rw[zE,List.getElem?_replicate];split<;>rfl
 refine⟨G,⟨jL.refl _ _ _,rfl,?_,?_,?_,?_,(λb x u=>?_),(λb o h=>⟨(A b o h).1,λi p=>(A b o h).2 (l _ _ p).1⟩),?_,?_,(λk hk=>hk.elim),?_,(λb o h _=>.inl h),(λb o h=>⟨h,rfl⟩),(λb y F=>by cases F;exact⟨rfl,λ_ _=>.refl _ _⟩)⟩⟩
 ·simp[nG,D];omega
 ·simp[nG]
 ·simp[nG];omega
 ·intro i v d;simp only[Array.getElem?_append,List.size_toArray,List.getElem?_toArray]at d;show jc G w ((.v (.one (.ptr 0 0))::vs.map AV.v++List.replicate _ AV.undef).getD i .undef) v
  rw[zE,List.getElem?_append];by_cases p:i<us.length+1
  ·rw[if_pos (by simpa using p)]at d;rw[if_pos (by simp;omega)];cases i with
   | zero=>
    simp at d;subst d;exact⟨rfl,rfl⟩
   | succ i=>
    simp only[List.getElem?_cons_succ]at d ⊢;have q:i<vs.length:=by omega
    rw[List.getElem?_map,zF q];exact E i vs[i] v (by simp[q]) d
  ·rw[if_neg (by simp;omega),List.getElem?_replicate];split<;>trivial
 ·obtain⟨rfl,rfl⟩:=l b x u;exact⟨.inr ⟨rfl,rfl⟩,t⟩
 ·intro i cs' a;rw[m]at a;split at a
  ·rename_i e;cases a
   subst e;exact⟨if_pos rfl,f,Et,hh,r⟩
  ·cases a
 ·intro k j;rw[z];trivial
 ·intro i p;rw[m,if_pos p];simp
theorem ahz{w0:Bs}{G:Gh}{S:St}{a:Act}{w:World}(h:Inv w0 G S a w){ty:Option Ty}{c:C}{d:D}{v:Value}(f:(cD ty c).val S=some d)(hc:l9 G w c v)(o:(cSh c).val S=some true):J5 w G.S d v (rowsOf G S c):=by
 cases c with
 | undef=>cases f
 | ptr=>cases f
 | d x=>
  simp only[cD,Rd.val,zD]at f;subst f;cases x with
  | list t xs=>simp[cSh,Rd.val]at o
  | int=>exact hc
  | bool=>exact hc
  | str=>exact hc
 | nil=>
  cases ty with
  | none=>cases f
  | some t=>
   simp only[cD,Rd.val,zD]at f;subst f;exact .inl ⟨hc,rfl⟩
 | own k j=>
  simp only[cSh,Rd.val]at o;simp only[cD,Rd.val]at f;have B:=h.owns k j;split at o
  ·rename_i t xs dp g;rw[g]at f B;simp only[Rd.val,zD]at f;subst f;have p:OwT w G.S dp true t xs (G.ov k j) (fM G k j):=B;show OwT w G.S false true t xs v _
   rw[hc.2.1];rcases p with F | ⟨b,cap,arr,E,vs,fps,e,H,hcap,hmax,q,r,s,u,l,hdis,y⟩
   ·exact .inl F
   ·have m:∀x,fM G k j x->rowsOf G S (.own k j) x:=λx z=>⟨k,j,rfl,z,t,xs,dp,true,by rw[g];rfl⟩
    exact .inr ⟨b,cap,arr,E,vs,fps,e,H,hcap,hmax,q,m _ r,s,λi x j' d' z A=>(u i x j' d' z A).sub (λ_ hh=>hh) (λhh=>by cases hh),λi j' c n=>⟨m _ (l i j' c n).1,(l i j' c n).2⟩,hdis,y⟩
  ·simp[Rd.val]at o
theorem X8{S:St}:∀ {cs:List C} {b:Bool},(ahx cs).val S=some b->b=true->∀c,c∈cs->(cSh c).val S=some true
 | [],_,_,_,c,hc=>by cases hc
 | c0::cs,b,a,f,c,hc=>by
  simp only[ahx,Rd.aH,zB,Rd.val,zD]at a;obtain⟨h,d,i,g,e⟩:=a;rw[f,zI]at e;rcases ba.1 hc with rfl | hc
  ·rw[e.1]at d;exact d
  ·exact X8 g e.2 c hc
theorem J5.sub{w:World}{S:Nat->Nat->Prop}{d:D}{v:Value}{fp fp':Nat->Prop}(h:J5 w S d v fp)(hf:∀b,fp b->fp' b):J5 w S d v fp':=by
 cases d with
 | list t xs=>exact OwT.rest (S:=S) h (λ_ _ hh=>hh) (λ_ _ _ hh=>hh) hf
 | int=>exact h
 | bool=>exact h
 | str=>exact h
theorem Yb{w0:Bs}{G:Gh}{S:St}{a:Act}{w:World}(h:Inv w0 G S a w){all:List C}(hall:∀c,c∈all->(cSh c).val S=some true):∀ {tys:List (Option Ty)} {cs:List C} {ds:List D} {vs:List Value} {n:Nat} {pre post:List C},(cDs tys cs).val S=some ds ->
  tys.length=cs.length->cu G w cs vs->all=pre++cs++post->pre.length=n->aV (λi d v=>J5 w G.S d v (λb=>∃c,all[i]?=some c/\rowsOf G S c b)) n ds vs
 | [],[],ds,[],n,pre,post,e,_,_,_,_=>by
  simp only[cDs,Rd.val,zD]at e;subst e;trivial
 | ty::tys,c::cs,ds,v::vs,n,pre,post,e,j,hc,f,hp=>by
  simp only[cDs,Rd.aH,zB,Rd.val,zD]at e;obtain⟨d,k,ds',l,rfl⟩:=e;have g:all[n]?=some c:=by
   rw[f,a7,List.getElem?_append_right (by omega),hp];simp
  exact⟨(ahz h k hc.1 (hall c (zG g))).sub λb m=>⟨c,g,m⟩,Yb h hall (pre:=pre++[c]) (post:=post) l (by simpa using j) hc.2 (by rw[f];simp) (by simp[hp])⟩
theorem ahO{w0:Bs}{G:Gh}{S:St}{a:Act}{w:World}(h:Inv w0 G S a w){all:List C}(hall:∀c,c∈all->(cSh c).val S=some true){s:Sh}{x:V}{y:s.t.den}{v:Value}{n:Nat}{pre post:List C}(e:(vT s x).val S=some y)(m:qV G w x v)
  (o:all=pre++x.cells++post) (hp:pre.length=n):ShR (λi d v=>J5 w G.S d v (λb=>∃c,all[i]?=some c/\rowsOf G S c b)) n s y v/\x.cells.length=s.t.size:=by
 simp only[vT]at e;split at e
 ·rename_i f;simp only[Rd.aH,zB,Rd.val]at e;obtain⟨ds,p,z,q,k⟩:=e;simp only[zD]at k;subst k;obtain⟨vs,hc,g,j⟩:=m.cells;have:=Yb h hall p (by rw[kE];exact f.2.symm) hc o hp;rw[<- Ty.dU q]at this;refine⟨?_,f.2⟩;unfold ShR;cases l:s.agg with
  | true=>exact⟨vs,g (by rw[f.1,l]),this⟩
  | false=>rw[j (by rw[f.1,l])]at this;exact this
 ·cases e
theorem ac8{w0:Bs}{G:Gh}{S:St}{a:Act}{w:World}(h:Inv w0 G S a w){all:List C}(hall:∀c,c∈all->(cSh c).val S=some true):∀ {ss:List Sh} {xs:List V} {y:Tup ss} {us:List Value} {n:Nat} {pre post:List C},(vTs ss xs).val S=some y->kz G w xs us ->
  all=pre++xs.flatMap V.cells++post->pre.length=n->jG (λi d v=>J5 w G.S d v (λb=>∃c,all[i]?=some c/\rowsOf G S c b)) n ss y us
 | [],[],y,[],n,pre,post,_,_,_,_=>trivial
 | [s],[x],y,[u],n,pre,post,e,f,g,hp=>(ahO h hall (post:=post) e f.1 (by rw[g];simp) hp).1
 | s::s'::r,x::xs,y,u::us,n,pre,post,e,f,g,hp=>by
  simp only[vTs,Rd.aH,zB,Rd.val,zD]at e;obtain⟨p,j,q,k,rfl⟩:=e;obtain⟨l,m⟩:=ahO h hall (post:=xs.flatMap V.cells++post) j f.1 (by rw[g];simp) hp;exact⟨l,ac8 h hall (pre:=pre++x.cells) (post:=post) k f.2 (by rw[g];simp) (by simp[hp,m])⟩
 | [s],x::x'::xs,y,us,n,pre,post,e,_,_,_=>by simp[vTs,Rd.val]at e
 | [s],[],y,us,n,pre,post,e,_,_,_=>by simp[vTs,Rd.val]at e
 | [],_::_,y,us,n,pre,post,e,_,_,_=>by simp[vTs,Rd.val]at e
 | s::s'::r,[],y,us,n,pre,post,e,_,_,_=>by simp[vTs,Rd.val]at e
theorem WE{w:World}{S0:Nat->Nat->Prop}{F:Nat->Prop}{bx:Option (Nat×Bool)}{G:Gh}{S:St}{a:Act}{w':World}(h:Inv ⟨w,S0,F,bx⟩ G S a w')(m:∀c,¬Bs.R ⟨w,S0,F,bx⟩ c){sh:Bool}{xs:List V}{us:List Value}(g:kz G w' xs us){rs:List Sh}{y:Tup rs}{ok:Bool}
  (l:(if sh then Ux (xs.flatMap V.cells)else Rd.ret true).val S=some ok) (u:ok=true) (r:(vTs rs xs).val S=some y) :
  ∃S':Nat->Nat->Prop,(∀b o,G.S b o->S' b o)/\SH w.heap.size w' S' sh rs y us/\∀b o,S' b o->(S0 b o\/w.heap.size<=b)/\b<w'.heap.size:=by
 have s:∀b o,G.S b o->(S0 b o\/w.heap.size<=b)/\b<w'.heap.size:=λb o f=>by
  refine⟨?_,(h.sok b o f).1⟩;rcases Nat.lt_or_ge b w.heap.size with n | n
  ·exact .inl ((h.sfr b o f n).resolve_right (m b))
  ·exact .inr n
 cases sh with
 | false=>
  refine⟨λb o=>G.S b o\/AK G S (aP (xs.flatMap V.cells)) b o,λb o=>.inl,mQ h _ 0 r g λk j x v z=>mJ v z,?_⟩;rintro b o (f | ⟨k,j,_,_,_,_,_,_,d,_⟩)
  ·exact s b o f
  ·have:=h.iR d;exact⟨.inr (this.1.resolve_right (m b)),this.2⟩
 | true=>
  simp only[if_true,Ux,Rd.aH,zB,Rd.val,zD]at l;obtain⟨b,A,t⟩:=l;rw[u,zI]at t;obtain⟨B,p⟩:=t;refine⟨G.S,λb o f=>f,⟨λi b=>∃c,(xs.flatMap V.cells)[i]?=some c/\rowsOf G S c b,ac8 h (X8 A B) (pre:=[]) (post:=[]) r g (by simp) rfl,?_,?_⟩,s⟩
  ·rintro i c ⟨cc,_,k,j,_,d,_⟩;exact⟨(h.iR d).1.resolve_right (m c),(h.iR d).2⟩
  ·rintro i i' c ⟨cc,hc,k,j,rfl,d,_⟩ ⟨cc',q,k',j',rfl,e,_⟩;rw[d]at e;cases e
   exact gJ p hc q
theorem cells_kept{w w':World}{S0 G:Nat->Nat->Prop}{bb:Nat}(C:jL (λc=>c=bb) w.heap.size w w')(f:∀b o,S0 b o->b<w.heap.size/\b≠bb){t:Ty}{x z:t.den}{a vs':List Value}
  (hk:∀(i:Nat) p l c,a[i]?=some (Value.slice p l c)->vs'[i]?=some (Value.slice p l c)) (g:aV (λ_ d u=>Rep w S0 d u) 0 (t.cells z) a) (h:aV (λ_ d u=>Rep w' G d u) 0 (t.cells x) vs'):aV (λ_ d u=>Rep w' S0 d u) 0 (t.cells x) vs':=by
 have key:∀ {ds e:List D} {n:Nat} {a vs':List Value},ds.map mr=e.map mr->(∀(i:Nat) p l c,a[i]?=some (Value.slice p l c)->vs'[i]?=some (Value.slice p l c))->aV (λ_ d u=>Rep w S0 d u) n e a->aV (λ_ d u=>Rep w' G d u) n ds vs'->aV (λ_ d u=>Rep w' S0 d u) n ds vs':=by
  intro ds;induction ds with
  | nil=>intro e n a vs' _ _ _ h;cases vs' with
   | nil=>trivial
   | cons=>exact h.elim
  | cons d ds ih=>
   intro e n a vs' j hk g h;cases e with
   | nil=>cases j
   | cons A e=>
    cases vs' with
    | nil=>exact h.elim
    | cons v vs'=>
     cases a with
     | nil=>exact g.elim
     | cons E a=>
      simp only[List.map_cons,List.cons.injEq]at j;refine⟨?_,ih j.2 (λi p l c F=>hk (i+1) p l c F) g.2 h.2⟩;have q:=h.1;have m:=g.1;cases d with
      | int k n=>cases q;exact .int _ _
      | bool b=>cases q;exact .bool _
      | str s=>cases q;exact .str _
      | list H xs=>
       have r:∃p l c,E=.slice p l c:=by
        have:mr A=some H:=j.1.symm;cases m with
        | int=>cases this
        | bool=>cases this
        | str=>cases this
        | nil=>exact⟨_,_,_,rfl⟩
        | emp=>exact⟨_,_,_,rfl⟩
        | list=>exact⟨_,_,_,rfl⟩
       obtain⟨p,l,c,rfl⟩:=r;have:v=.slice p l c:=by
        have:=hk 0 p l c rfl;simpa using this
       subst this;have B:Rep w' S0 A (.slice p l c):=m.move λb o y=>⟨y,World.cell?_of_block (w:=w) (C.block b (f b o y).1 (f b o y).2)⟩
       rw[Rep.det q B j.1];exact B
 exact key ((Ll t x).trans (Ll t z).symm) hk g h
theorem QE{w:World}{S0:Nat->Nat->Prop}{bb:Nat}{E:Env}(Y:E.tt.ok P=true){fn:Func}{rs:List Sh}{ex sh:Bool}{G:Gh}{S:St}{a:Act}{w':World}{y:Tup rs}(f:(BQ E fn rs ex sh).val S=some y)(h:Inv ⟨w,S0,λc=>c=bb,some (bb,true)⟩ G S a w')
  (r:∀b o,S0 b o->b<w.heap.size/\b≠bb) {n:List Value} {O:TypeId} (s:w.heap[bb]?=some (.cells n.toArray O (0,0))) (D:ex=true->∀c rs',rs=c::rs'->∃R:c.t.den,aV (λ_ d u=>Rep w S0 d u) 0 (c.t.cells R) n) :
  ∃v,(results fn a.tmps).run P w'=.ok v w'/\ahL w.heap.size w' S0 bb ex sh rs y v:=by
 unfold BQ at f;split at f
 case isFalse=>cases f
 rename_i x;simp only[Rd.val]at f;split at f
 case h_2=>cases f
 rename_i cs F;split at f
 case isFalse=>cases f
 rename_i H;simp only[Rd.aH,zB]at f;obtain⟨xs,Z,ok,p,f⟩:=f;split at f
 case isFalse=>cases f
 rename_i T;obtain⟨us,I,z⟩:=pK Y h Z;obtain⟨ho,vs',Et,hh,J⟩:=h.box 0 cs F;rw[(h.fx bb _ rfl).1]at hh;refine⟨pack us,qL I,?_⟩;cases rs with
 | nil=>cases x
 | cons c rs=>
  obtain⟨e1,U⟩:=GU f;have W:=Yv h [] 0 e1 (v:=.agg vs'.toArray) ⟨vs',rfl,J⟩ λk j K=>by
   have:(k,j)∈aP cs:=fD K;rw[H]at this;cases this
  cases ex with
  | false=>
   obtain⟨S',hS,hres,A⟩:=WE h (λc q=>q.2 true (by rw[q.1])) z p T U;refine⟨S',vs',Et,us,rfl,hh,ShR.agg (c:=c) (Q:=λd u=>Rep w' S' d u) x (W.imp λi d v I=>I.move λb o g=>⟨?_,rfl⟩),hres,λb o g=>⟨(A b o g).1.imp id λx=>⟨rfl,x⟩,(A b o g).2⟩⟩;rcases g with g | ⟨k,j,_,_,_,_,K,_⟩
   ·exact hS b o g
   ·cases K
  | true=>
   simp only[if_true,ahr,Rd.aH,zB,Rd.val,zD]at p;obtain⟨b0,h3,X⟩:=p;rw[T,zI]at X;obtain⟨rfl,L⟩:=X;obtain⟨B,E2,C,M⟩:=(h.fx bb _ rfl).2 rfl (aM.1 s).1 n O s;have e:B=vs':=by
    rw[hh]at C;cases C
    rfl
   subst e;obtain⟨R,hc⟩:=D rfl c rs rfl;refine⟨S0,B,Et,us,rfl,hh,cells_kept h.below r M hc (ShR.agg (c:=c) (Q:=λd u=>Rep w' (λb o=>G.S b o\/AK G S [] b o) d u) x W),?_,λb o g=>⟨.inl g,aD (r b o g).1 h.below.size⟩⟩;refine⟨λi b=>∃c,(xs.flatMap V.cells)[i]?=some c/\rowsOf G S c b,Tc h h3 (pre:=[]) (post:=[]) U z (by simp) rfl,?_,?_⟩
   ·rintro i c ⟨cc,_,k,j,_,l,_⟩;exact⟨Bs.nwB (h.iR l).1,(h.iR l).2⟩
   ·rintro i i' c ⟨cc,hc,k,j,rfl,l,_⟩ ⟨cc',N,k',j',rfl,m,_⟩;rw[l]at m;cases m
    exact gJ L hc N
theorem QC{w:World}{S0:Nat->Nat->Prop}{E:Env}(i:E.tt.ok P=true){fn:Func}{rs:List Sh}{G:Gh}{S:St}{a:Act}{w':World}{y:Tup rs}(d:(BO E fn rs).val S=some y)(h:Inv ⟨w,S0,λ_=>False,none⟩ G S a w') :
  ∃v,(results fn a.tmps).run P w'=.ok v w'/\∃(S':Nat->Nat->Prop) (us:List Value),v=pack us/\SH w.heap.size w' S' true rs y us/\∀b o,S' b o->(S0 b o\/w.heap.size<=b)/\b<w'.heap.size:=by
 unfold BO at d;simp only[Rd.aH,zB]at d;obtain⟨xs,j,ok,e,d⟩:=d;split at d
 case isFalse=>cases d
 rename_i k;obtain⟨us,l,f⟩:=pK i h j;obtain⟨S',_,hres,g⟩:=WE h (λc q=>q.1) (sh:=true) f (by simpa using e) k d;exact⟨pack us,qL l,S',us,rfl,hres,g⟩
theorem Py{E:Env}(j:kM P E)(k:P.follows .mixedOrders=true)(an:List (Nat×LA)){s:Fsp}{fn:Func}(hf:P.funcs[s.fid]?=some fn)
  (hden:∀x,akw E an fn s.ps s.rs x=s.fn x):Pn P s:=by
 intro w S args x y d f hargs l;rw[<- hden x]at d;unfold akw at d;split at d
 ·cases d
 ·rename_i c m;obtain⟨G,h⟩:=Oa l (n:=fn.ntmps) (vs:=wX s.ps x) (us:=args) (λG p=>qZ (by rw[p];exact hargs));refine calls_of_wp hf m (iG (j.at (.none f) λ_ _=>nofun) k c d h λe S' a' w' G' hk g=>?_);have key:(BO E fn s.rs).val S'=some y->bodyPost P fn (λe w'=>∃v,e=.returned v/\Below w.heap.size w w'/\∃(S':Nat->Nat->Prop) (us:List Value),v=pack us/\SH w.heap.size w' S' true s.rs y us /\
    ∀b o,S' b o->(S b o\/w.heap.size<=b)/\b<w'.heap.size) .ret a' w':=by
   intro q;obtain⟨v,r,t⟩:=QC j.1 q g;exact⟨g.nodef,v,r,v,rfl,g.below.Tm λ_ hf=>hf,t⟩
  cases e with
  | normal=>
   change (BO E fn s.rs).runK S' some=some y at hk;rw[Rd.jg,zB]at hk;obtain⟨z,i,a⟩:=hk;cases a
   exact key i
  | exit id=>cases hk
  | ret=>
   change (BO E fn s.rs).runK S' some=some y at hk;rw[Rd.jg,zB]at hk;obtain⟨z,i,a⟩:=hk;cases a
   exact key i
theorem afC{w:World}{S:Nat->Nat->Prop}{ps rs:List Sh}(a:sameBox ps rs=true){x:Tup ps}{b args:List Value}(hargs:jG (λ_ d u=>Rep w S d u) 0 ps x (.agg b.toArray::args)) :
  ∀c rs',rs=c::rs'->∃g:c.t.den,aV (λ_ d u=>Rep w S d u) 0 (c.t.cells g) b:=by
 intro c rs' h;cases ps with
 | nil=>cases a
 | cons p ps=>
  rw[h]at a;simp only[sameBox,zI,decide_eq_true_eq]at a;have i:ShR (λ_ d u=>Rep w S d u) 0 p (jV x) (.agg b.toArray):=by
   cases ps with
   | nil=>cases args with
    | nil=>exact hargs
    | cons=>exact hargs.elim
   | cons j ps=>exact hargs.1
  have f:=ShR.agg (c:=p) (Q:=λd u=>Rep w S d u) a.1 i;generalize jV x=g at f;obtain⟨pa,pt⟩:=p;obtain⟨ca,ct⟩:=c;obtain⟨_,e⟩:=a;cases e
  exact⟨g,f⟩
theorem QG{E:Env}(q:kM P E)(d:P.follows .mixedOrders=true)(an:List (Nat×LA)){s:Fsp}{fn:Func}(hf:P.funcs[s.fid]?=some fn)
  (hden:∀x,akz E an fn s.ps s.rs s.ex s.sh x=s.fn x):jv P s:=by
 intro w S bb g Et args x y a i j hh hargs r;rw[<- hden x]at a;unfold akz at a;split at a
 case h_2=>cases a
 rename_i c cs vs t henc;split at a
 case isFalse=>cases a
 rename_i hsame;obtain⟨k,hsame⟩:=hsame;obtain⟨G,h⟩:=acw r hh (n:=fn.ntmps) (cs:=cs) (vs:=vs) (us:=args) (λG u=>by
  have:=qZ (G:=G) (by rw[u];exact hargs);rw[henc]at this;obtain⟨⟨vs',e,l⟩,m⟩:=this;have e':g=vs':=by simpa using e
  rw[e'];exact⟨l,m⟩)
 refine calls_of_wp hf t (iG (q.at (.box i j) λd=>(by rw[k]at d;cases d)) d c a h λe S' a' w' G' hk f=>?_);have key:(BQ E fn s.rs s.ex s.sh).val S'=some y->bodyPost P fn (λe w'=>∃v,e=.returned v/\jL (λc=>c=bb) w.heap.size w w'/\jr w w' bb/\ahL w.heap.size w' S bb s.ex s.sh s.rs y v) .ret a' w':=by
  intro A;obtain⟨v,l,m⟩:=QE q.1 A f r hh λo=>afC (hsame o) hargs
  exact⟨f.nodef,v,l,v,rfl,f.below,(f.fx bb _ rfl).2 rfl (aM.1 hh).1,m⟩
 cases e with
 | normal=>
  change (BQ E fn s.rs s.ex s.sh).runK S' some=some y at hk;rw[Rd.jg,zB]at hk;obtain⟨z,p,b⟩:=hk;cases b
  exact key p
 | exit id=>cases hk
 | ret=>
  change (BQ E fn s.rs s.ex s.sh).runK S' some=some y at hk;rw[Rd.jg,zB]at hk;obtain⟨z,p,b⟩:=hk;cases b
  exact key p
theorem Bs.RM{w:World}{S0:Nat->Nat->Prop}{R:Nat->Prop}{bb c:Nat}(h:Bs.R ⟨w,S0,λc=>c=bb\/R c,some (bb,false)⟩ c):R c:=
 h.1.resolve_left λe=>h.2 false (by rw[e])
theorem lT.iE{w:World}{S:Nat->Nat->Prop}{R:Nat->Prop}{bb:Nat}(h:amb w)(d:qi<=bb)(a:∀c,R c->qi<=c):lT ⟨w,S,λc=>c=bb\/R c,some (bb,false)⟩:=
 ⟨λ_ b=>h.keep b.size λk hk=>b.block k (aD hk h.size) λhf=>hf.elim (λe=>by omega) λe=>by have:=a k e;omega,λc hf=>hf.elim (λe=>by omega) (a c)⟩
theorem ZF{w:World}{S0:Nat->Nat->Prop}{R:Nat->Prop}{bb ap:Nat}(J:∀b o,S0 b o->b<w.heap.size/\b≠bb)(K:∀c,R c->c<w.heap.size/\c≠bb){g:List Value}{Et:TypeId}(hh:w.heap[bb]?=some (.cells g.toArray Et (0,0)))
  {n:Nat} {cs:List C} {vs:List V} {us:List Value} {t:Ty} {xs:List t.den} {u:Value} (N:cs[ap]?=some (.d (.list t xs))) (P:g[ap]?=some u) (L:OwT w S0 false false t xs u R) (hlen:cs.length=g.length)
  (s:∀G:Gh,G.S=S0->(∀(i:Nat) (c:C) (v:Value),i≠ap->cs[i]?=some c->g[i]?=some v->l9 G w c v)/\kz G w vs us) :
  ∃G,Inv ⟨w,S0,λc=>c=bb\/R c,some (bb,false)⟩ G (sF n ap cs vs t xs) { tmps:=(Value.pointer (some ⟨bb,0,none⟩)::us).toArray++Array.replicate (n-(Value.pointer (some ⟨bb,0,none⟩)::us).toArray.size) undef,defers:=[] } w:=by
 classical
 let G:Gh:={ bk:=λ_=>bb,ov:=λ_ _=>u,ow:=λc=>if c=bb then some (.box 0)else if R c then some (.own 0 0)else none,S:=S0,lk:=λk=>k=0,lb:=λi=>i=0 };obtain⟨E,F⟩:=s G rfl;obtain⟨Q,T⟩:=F.get;have H:bb<w.heap.size:=(aM.1 hh).1;have z:∀c x,G.ow c=some x->(c=bb/\x=.box 0)\/(c≠bb/\R c/\x=.own 0 0):=λc x I=>by
  have h:(if c=bb then some (sZ.box 0)else if R c then some (.own 0 0)else none)=some x:=I;split at h
  ·rename_i e;cases h;exact .inl ⟨e,rfl⟩
  ·rename_i e;split at h
   ·rename_i r;cases h;exact .inr ⟨e,r,rfl⟩
   ·cases h
 have A:∀i,(sF n ap cs vs t xs).fJ i=if i=0 then some (cs.set ap (.own 0 0))else none:=by
  intro i;show (some (cs.set ap (.own 0 0))::List.replicate _ (none:Option (List C))).getD i none=_
  cases i with
  | zero=>rfl
  | succ i=>
   rw[zE,List.getElem?_cons_succ,List.getElem?_replicate,if_neg (Nat.succ_ne_zero i)];split<;>rfl
 have B:∀i,(sF n ap cs vs t xs).aI i=if i=0 then [.own t xs false false]else []:=by
  intro i;show ([O.own t xs false false]::List.replicate _ ([]:List O)).getD i []=_
  cases i with
  | zero=>rfl
  | succ i=>
   rw[zE,List.getElem?_cons_succ,List.getElem?_replicate,if_neg (Nat.succ_ne_zero i)];split<;>rfl
 refine⟨G,⟨jL.refl _ _ _,rfl,?_,?_,?_,?_,(λb x I=>?_),(λb o l=>⟨(J b o l).1,λi m=>?_⟩),?_,?_,?_,?_,(λb o l _=>.inl l),(λb o l=>⟨l,rfl⟩),(λb y p=>by cases p;exact⟨rfl,nofun⟩)⟩⟩
 ·simp[sF,nG,Q];omega
 ·simp[sF,nG]
 ·simp[sF,nG]
 ·intro i v f;simp only[Array.getElem?_append,List.size_toArray,List.getElem?_toArray]at f;show jc G w ((.v (.one (.ptr 0 0))::vs.map AV.v++List.replicate _ AV.undef).getD i .undef) v
  rw[zE,List.getElem?_append];by_cases m:i<us.length+1
  ·rw[if_pos (by simpa using m)]at f;rw[if_pos (by simp;omega)];cases i with
   | zero=>
    simp at f;subst f;exact⟨rfl,rfl⟩
   | succ i=>
    simp only[List.getElem?_cons_succ]at f ⊢;have D:i<vs.length:=by omega
    rw[List.getElem?_map,zF D];exact T i vs[i] v (by simp[D]) f
  ·rw[if_neg (by simp;omega),List.getElem?_replicate];split<;>trivial
 ·rcases z b x I with ⟨rfl,rfl⟩ | ⟨p,M,rfl⟩
  ·exact⟨.inr ⟨rfl,.inl rfl⟩,H⟩
  ·exact⟨.inl (.inr ⟨.inr M,λq e=>p (by cases e;rfl)⟩),(K b M).1⟩
 ·rcases z b _ m with ⟨e,_⟩ | ⟨_,_,e⟩
  ·exact (J b o l).2 e
  ·cases e
 ·intro i cs' a;rw[A]at a;split at a
  ·rename_i e;cases a
   subst e;refine⟨if_pos rfl,g,Et,hh,cu.mk (by simp[hlen]) λi c v hc s=>?_⟩;rw[List.getElem?_set]at hc;split at hc
   ·rename_i m;subst m;split at hc
    ·cases hc
     rw[P]at s;cases s
     exact⟨rfl,rfl,(OwT.ow L).one⟩
    ·cases hc
   ·rename_i m;exact E i c v (λe=>m e.symm) hc s
  ·cases a
 ·intro k j;rw[B];split
  ·rename_i e;subst e;cases j with
   | zero=>
    show OwT w S0 false false t xs u (fM G 0 0)
    refine L.move (λb o l=>⟨l,rfl⟩) (λb p=>⟨?_,rfl⟩) λ_ _ _ _ _ o l=>.inl l
    show (if b=bb then some (sZ.box 0)else if R b then some (.own 0 0)else none)=_
    rw[if_neg (K b p).2,if_pos p]
   | succ j=>trivial
  ·trivial
 ·intro k hk;have hk:k=0:=hk;rw[B,if_pos hk];simp
 ·intro i m;rw[A,if_pos m];simp
theorem OT{w:World}{S0:Nat->Nat->Prop}{R:Nat->Prop}{bb ap:Nat}{E:Env}(I:E.tt.ok P=true){fn:Func}{rs:List Sh}{G:Gh}{S:St}{a:Act}{w':World}{y:Tup rs}(f:(wV E fn rs ap).val S=some y)
  (h:Inv ⟨w,S0,λc=>c=bb\/R c,some (bb,false)⟩ G S a w') :
  ∃v,(results fn a.tmps).run P w'=.ok v w'/\ahJ w.heap.size w' S0 R bb ap v rs y:=by
 unfold wV at f;split at f
 case isFalse=>cases f
 rename_i p;simp only[Rd.val]at f;split at f
 case h_2=>cases f
 rename_i cs s;split at f
 case isFalse=>cases f
 rename_i u;split at f
 case h_2=>cases f
 rename_i k j hcell;simp only[Rd.val]at f;split at f
 case h_2=>cases f
 rename_i t xs deep m hown;simp only[Rd.aH,zB]at f;obtain⟨vs,J,f⟩:=f;split at f
 case isFalse=>cases f
 rename_i z;obtain⟨A,_⟩:=gQ z;obtain⟨us,K,B⟩:=pK I h J;obtain⟨ho,vs',Et,hh,C⟩:=h.box 0 cs s;rw[(h.fx bb _ rfl).1]at hh;refine⟨pack us,qL K,?_⟩;cases rs with
 | nil=>cases p
 | cons c rs=>
  obtain⟨L,M⟩:=GU f;obtain⟨_,N,O⟩:=ada L;obtain⟨Q,T⟩:=C.get;obtain⟨U,W⟩:=Gq O (by rw[kE];exact N.symm);have X:OwT w' G.S deep m t xs (G.ov k j) (fM G k j):=by
   have:=h.owns k j;rw[hown]at this;exact this
  refine⟨λb o=>G.S b o\/AK G S (aP (vs.flatMap V.cells)) b o,fM G k j,vs',Et,us,rfl,hh,.of (by rw[U,Q]) λi d v Y f=>?_,mQ h _ 0 M B λk j x Z D=>mJ Z D,λb o l=>.inl (h.st b o l).1,?_,λc hc=>⟨(h.iR hc).1.imp id Bs.RM,(h.iR hc).2⟩⟩
  ·rw[Nat.zero_add];obtain⟨c1,ty,hc,n⟩:=W i d Y;have r:=T i c1 v hc f;split
   ·rename_i F;subst F;rw[hcell]at hc;cases hc
    simp only[cD,Rd.val,hown,zD]at n;subst n;rw[show v=G.ov k j from r.2.1];refine X.app.move (λb o l=>⟨.inl l,rfl⟩) (λb p=>⟨p,rfl⟩) λb len cap _ p o l=>?_
    rcases l with l | ⟨k',j',_,_,_,_,D,_,g,_⟩
    ·exact .inl l
    ·rw[show G.ow b=some (.own k j)from p]at g;cases g
     exact absurd D A
   ·rename_i F;refine Eg h n r _ λk' j' e=>?_
    have:(k',j')∈aP (cs.set ap .nil):=fD (zG (i:=i) (by rw[List.getElem?_set_ne (λe=>F e.symm),hc,e]));rw[u]at this;cases this
  ·rintro b o (l | ⟨k',j',_,_,_,_,_,_,g,_⟩)
   ·refine⟨?_,(h.sok b o l).1⟩;rcases Nat.lt_or_ge b w.heap.size with H | H
    ·exact (h.sfr b o l H).imp id λq=>.inr (Bs.RM q)
    ·exact .inr (.inl H)
   ·exact⟨.inr ((h.iR g).1.imp id Bs.RM),(h.iR g).2⟩
theorem acj{w:World}{S:Nat->Nat->Prop}{R:Nat->Prop}{ap:Nat}{a args:List Value}{cs:List C}{vs:List V}:∀(ps:List Sh) (x:Tup ps),abe w S R ap a args ps x->wX ps x=.agg cs::vs ->
  (cs.length=a.length/\∀(i:Nat) (c:C) (v:Value),cs[i]?=some c->a[i]?=some v->∃d,c=.d d/\if i=ap then afQ w S R d v else Rep w S d v)/\∀G:Gh,G.S=S->kz G w vs args
 | [],x,h,_=>h.elim
 | p::ps,x,⟨l,m,n⟩,k=>by
  have e:wX (p::ps) x=acL p (jV x)::wX ps (yG x):=by cases ps<;>rfl
  rw[e]at k;injection k with b g;have hc:cs=(p.t.cells (jV x)).map .d:=by
   unfold acL at b;rw[l]at b;have:V.agg ((p.t.cells (jV x)).map .d)=.agg cs:=b;injection this with this;exact this.symm
  obtain⟨o,q⟩:=m.pt;refine⟨⟨by rw[hc];simpa using o,λi c v f j=>?_⟩,λG r=>?_⟩
  ·rw[hc,List.getElem?_map,Option.map_eq_some_iff]at f;obtain⟨d,s,rfl⟩:=f;have:=q i d v s j;rw[Nat.zero_add]at this;exact⟨d,rfl,this⟩
  ·rw[<- g];exact qZ (by rw[r];exact n)
theorem NJ{E:Env}(A:kM P E)(I:P.follows .mixedOrders=true)(an:List (Nat×LA)){s:Fsp}{ap:Nat}{fn:Func}(hf:P.funcs[s.fid]?=some fn)
  (hden:∀x,afo E an fn s.ps s.rs ap x=s.fn x):fO P s ap:=by
 intro w S R bb k Et args x y a l m hh hargs J B;rw[<- hden x]at a;unfold afo at a;split at a
 case h_2=>cases a
 rename_i c cs vs K henc;split at a
 case h_2=>cases a
 rename_i t xs f;obtain⟨⟨hlen,hcell⟩,p⟩:=acj s.ps x hargs henc;obtain⟨u,C⟩:∃u,k[ap]?=some u:=⟨_,zF (by have:=(zC.1 f).1;omega)⟩;obtain⟨T,L,D⟩:=hcell ap _ u f C;cases L
 rw[if_pos rfl]at D;obtain⟨G,h⟩:=ZF (n:=fn.ntmps) J (λc hc=>(B c hc).2) hh f C D hlen λG F=>⟨λi c v M hc q=>by
  obtain⟨d,rfl,H⟩:=hcell i c v hc q;rw[if_neg M]at H;show Rep w G.S d v
  rw[F];exact H,p G F⟩
 refine calls_of_wp hf K (iG (A.at (.iE l m λc hc=>(B c hc).1) λ_ b=>nofun) I c a h λe S' a' w' G' hk j=>?_);have key:(wV E fn s.rs ap).val S'=some y->bodyPost P fn (λe w'=>∃v,e=.returned v/\jL (λc=>c=bb\/R c) w.heap.size w w'/\(∀b o,S b o->w'.cell? ⟨b,o,none⟩=w.cell? ⟨b,o,none⟩)/\ahJ w.heap.size w' S R bb ap v s.rs y) .ret a' w':=by
  intro q;obtain⟨v,N,O⟩:=OT A.1 q j;exact⟨j.nodef,v,N,v,rfl,j.below,λb o Q=>(j.st b o Q).2,O⟩
 cases e with
 | normal=>
  change (wV E fn s.rs ap).runK S' some=some y at hk;rw[Rd.jg,zB]at hk;obtain⟨z,r,g⟩:=hk;cases g
  exact key r
 | exit id=>cases hk
 | ret=>
  change (wV E fn s.rs ap).runK S' some=some y at hk;rw[Rd.jg,zB]at hk;obtain⟨z,r,g⟩:=hk;cases g
  exact key r
theorem QD{w:World}{S0:Nat->Nat->Prop}{fn:Func}{rs:List Sh}{G:Gh}{S:St}{a:Act}{w':World}{y:Tup rs}(f:(BP fn rs).val S=some y)(h:Inv ⟨w,S0,λ_=>False,none⟩ G S a w') :
  ∃bb,(results fn a.tmps).run P w'=.ok (.pointer (some ⟨bb,0,none⟩)) w'/\w.heap.size<=bb /\
  ∃(vs':List Value) (Et:TypeId) (S':Nat->Nat->Prop),w'.heap[bb]?=some (.cells vs'.toArray Et (0,0))/\aV (λ_ d u=>Rep w' S' d u) 0 (dF rs y) vs'/\∀b o,S' b o->(S0 b o\/w.heap.size<=b)/\b<w'.heap.size/\b≠bb:=by
 unfold BP at f;split at f
 case isFalse=>cases f
 rename_i A;split at f
 case h_2=>cases f
 rename_i t hres;simp only[Rd.val]at f;split at f
 case h_2=>cases f
 rename_i b C;simp only[Rd.val]at f;split at f
 case h_2=>cases f
 rename_i cs i;split at f
 case isFalse=>cases f
 rename_i l;have hp:=h.iP t;rw[C]at hp;obtain⟨m,vs',Et,hh,n⟩:=h.box b cs i;refine⟨G.bk b,?_,?_,vs',Et,λb o=>G.S b o\/AK G S [] b o,hh,?_,?_⟩
 ·have:(fn.results.toList.mapM (xJ a.tmps)).run P w'=.ok [Value.pointer (some ⟨G.bk b,0,none⟩)] w':=by
   rw[hres];simp only[List.mapM_cons,List.mapM_nil,Sem.run_bind,xJ,Sem.run_pure,Result.andThen_ok];have:a.tmps.getD t undef=.pointer (some ⟨G.bk b,0,none⟩):=hp.2;rw[this]
  exact qL this
 ·rcases (h.olt _ _ m).1 with p | ⟨_,p⟩
  ·exact Bs.nw0 p
  ·exact p.elim
 ·cases rs with
  | nil=>cases A
  | cons c rs=>
   have B:=mQ h [] 0 f (us:=[.agg vs'.toArray]) ⟨⟨vs',rfl,n⟩,trivial⟩ λk j z' v D=>by
    rcases ba.1 v with rfl | v
    ·have:(k,j)∈aP cs:=fD D;rw[l]at this;cases this
    ·cases v
   cases rs with
   | nil=>
    have:=ShR.agg (c:=c) (Q:=λd u=>Rep w' (λb o=>G.S b o\/AK G S [] b o) d u) A B;simpa [dF] using this
   | cons s r=>exact absurd B.2 (by cases r<;>exactλh=>h)
 ·rintro bo o (x | ⟨k,j,_,_,_,_,_,_,g,_⟩)
  ·refine⟨?_,(h.sok bo o x).1,λe=>(h.sok bo o x).2 b (by rw[e];exact m)⟩;rcases Nat.lt_or_ge bo w.heap.size with z | z
   ·exact .inl ((h.sfr bo o x z).resolve_right λq=>q.1)
   ·exact .inr z
  ·have:=h.iR g;exact⟨.inr (Bs.nw0 this.1),this.2,λe=>by rw[e,m]at g;cases g⟩
theorem Ql{E:Env}(k:kM P E)(l:P.follows .mixedOrders=true)(an:List (Nat×LA)){s:Fsp}{fn:Func}(hf:P.funcs[s.fid]?=some fn)
  (hden:∀x,akx E an fn s.ps s.rs x=s.fn x):Pq P s:=by
 intro w S args x y f g hargs m;rw[<- hden x]at f;unfold akx at f;split at f
 ·cases f
 ·rename_i c p;obtain⟨G,h⟩:=Oa m (n:=fn.ntmps) (vs:=wX s.ps x) (us:=args) (λG q=>qZ (by rw[q];exact hargs));refine calls_of_wp hf p (iG (k.at (.none g) λ_ _=>nofun) l c f h λe S' a' w' G' hk i=>?_);have key:(BP fn s.rs).val S'=some y->bodyPost P fn (λe w'=>∃bb,e=.returned (.pointer (some ⟨bb,0,none⟩))/\Below w.heap.size w w'/\w.heap.size<=bb /\
    ∃(vs':List Value) (Et:TypeId) (S':Nat->Nat->Prop),w'.heap[bb]?=some (.cells vs'.toArray Et (0,0))/\aV (λ_ d u=>Rep w' S' d u) 0 (dF s.rs y) vs'/\∀b o,S' b o->(S b o\/w.heap.size<=b)/\b<w'.heap.size/\b≠bb) .ret a' w':=by
   intro r;obtain⟨bb,t,v,A⟩:=QD r i;exact⟨i.nodef,_,t,bb,rfl,i.below.Tm λ_ hf=>hf,v,A⟩
  cases e with
  | normal=>
   change (BP fn s.rs).runK S' some=some y at hk;rw[Rd.jg,zB]at hk;obtain⟨z,j,a⟩:=hk;cases a
   exact key j
  | exit id=>cases hk
  | ret=>
   change (BP fn s.rs).runK S' some=some y at hk;rw[Rd.jg,zB]at hk;obtain⟨z,j,a⟩:=hk;cases a
   exact key j
end functions
