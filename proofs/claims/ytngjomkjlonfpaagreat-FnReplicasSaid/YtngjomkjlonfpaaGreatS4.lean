import Derived.Test.YtngjomkjlonfpaaGreatS3
set_option linter.unusedSimpArgs false
set_option linter.unusedVariables false
/- Regions, loops, code, functions. -/
namespace Go.Abs
open Go.RowKit
theorem Ux{S:St}{t:Nat}{v:AV}(h:S.jm t=v)(a:v≠.undef):S.jW t v=S:=by
 cases S with
 | mk tmps boxes owns=>
  simp only[St.jW,St.jm]at *;congr 1;by_cases b:t<tmps.length
  ·rw[zE,zF b]at h;simp only[Option.getD_some]at h;rw[<- h,List.set_getElem_self]
  ·rw[List.set_eq_of_length_le (by omega)]
theorem UY{ρ:Type}{t:Nat}{S:St}{k:St->Option ρ}{r:ρ}(h:fork t S k=some r):k S=some r:=by
 unfold fork at h;split at h
 ·rename_i b a;cases b with
  | true=>rw[<- Ux a (by simp)];exact h
  | false=>rw[<- Ux a (by simp)];exact h
 ·exact h
theorem AL{ρ:Type}{x:Option Nat}{S:St}{k:St->Option ρ}{r:ρ}(h:Nj x S k=some r):k S=some r:=by
 unfold Nj at h;split at h
 ·exact h
 ·exact UY h
theorem aeV{S:St}{x:W}{l:L}(h:x.loc≠l):agree S (S.put x) l:=by
 cases x<;>cases l<;>simp only[W.loc,ne_eq,L.t.injEq,L.b.injEq,L.o.injEq]at h<;>simp only[agree,St.put]<;>
  first
   | rfl
   | (rw[UW,if_neg fun e=>h e.1])
   | (rw[kF,if_neg fun e=>h e.1])
   | (rw[bY,if_neg fun e=>h e.1])
theorem aao{S S' S'':St}{l:L}(h:agree S S' l)(a:agree S' S'' l):agree S S'' l:=by
 cases l<;>exact a.trans h
theorem FW:∀(ws:List W) {S:St} {l:L},(∀x,x∈ws->x.loc≠l)->agree S (S.puts ws) l
 | [],S,l,_=>by cases l<;>rfl
 | x::r,S,l,h=>aao (aeV (h x aq)) (FW r fun y a=>h y (ao _ a))
theorem aiY{S:St}{x y:W}(h:x.loc≠y.loc):(S.put x).put y=(S.put y).put x:=by
 have key:∀ {α:Type} {l:List α} {i j:Nat} {a b:α},i≠j->(l.set i a).set j b=(l.set j b).set i a:=fun c=>List.set_comm _ _ c
 cases x<;>cases y<;>simp only[W.loc,ne_eq,L.t.injEq,L.b.injEq,L.o.injEq]at h<;>simp only[St.put]<;>
  first
   | rfl
   | (simp only[St.jW];rw[key h])
   | (simp only[St.setB];rw[key h])
   | (rw[bY,if_neg (by omega),bY,if_neg (by omega)];simp only[St.dI];rw[key h])
   | (rw[bY,if_neg (by omega)];simp only[St.dI];rw[key h])
   | (simp only[St.dI];rw[key h])
theorem YU:∀(ws:List W) {S:St} {x:W},(∀y,y∈ws->y.loc≠x.loc)->(S.puts ws).put x=(S.put x).puts ws
 | [],S,x,_=>rfl
 | y::r,S,x,h=>by
  show ((S.put y).puts r).put x=((S.put x).put y).puts r
  rw[YU r fun z a=>h z (ao _ a),aiY (h y aq)]
theorem UF:∀(vs ws:List W) {S:St},(∀x y,x∈vs->y∈ws->y.loc≠x.loc)->(S.puts ws).puts vs=(S.puts vs).puts ws
 | [],ws,S,_=>rfl
 | x::r,ws,S,h=>by
  show ((S.puts ws).put x).puts r=((S.put x).puts r).puts ws
  rw[YU ws fun y a=>h x y aq a,UF r ws fun z y b a=>h z y (ao _ b) a]
theorem C9{a b:List L}(h:meets a b=false):∀x y,x∈a->y∈b->x≠y:=by
 intro x y c d e;simp only[meets,List.any_eq_false,List.any_eq_true,not_exists,not_and,decide_eq_true_eq]at h;exact h x c y d e
inductive Run(E:Env)(ops:Array Oper):List (Oper×Nat)->St->List Lg->St->Prop
 | nil (S:St):Run E ops [] S [] S
 | cons (o:Oper) (i:Nat) (r:List (Oper×Nat)) (S S':St) (ws:List W) (rs:List L) (g:List Lg) (h:(GU E ops o).Bz S []=some (ws,rs)) (hr:Run E ops r (S.puts ws) g S') :
   Run E ops ((o,i)::r) S ({ i,reads:=rs,writes:=ws.map W.loc } :: g) S'
theorem Y0{ρ:Type}{E:Env}{ops:Array Oper}{k:St->List Lg->Option ρ}{r:ρ}:∀ {l:List (Oper×Nat)} {S:St} {g:List Lg},opsL E ops l S g k=some r ->
  ∃g' S',Run E ops l S g' S'/\k S' (g'.reverse++g)=some r
 | [],S,g,h=>⟨[],S,.nil S,h⟩
 | (o,i)::l,S,g,h=>by
  have a:=AL (AL h);rw[Rd.aiW,zB]at a;obtain⟨⟨ws,rs⟩,b,c⟩:=a;obtain⟨g',S',d,e⟩:=Y0 c;exact⟨_,S',.cons o i l S S' ws rs g' b d,by simpa using e⟩
theorem Run.front{E:Env}{ops:Array Oper}{o:Oper}{i:Nat}{post:List (Oper×Nat)}:∀ {pre:List (Oper×Nat)} {S S':St} {g:List Lg},Run E ops (pre++(o,i)::post) S g S' ->
  (∀gpre gi gpost,g=gpre++gi::gpost->gpre.length=pre.length->∀b,b∈gpre->b.free gi=true) ->
  ∃ws rs gpre gpost,g=gpre ++ { i,reads:=rs,writes:=ws.map W.loc } :: gpost/\gpre.length=pre.length/\(GU E ops o).Bz S []=some (ws,rs)/\Run E ops (pre++post) (S.puts ws) (gpre++gpost) S'
 | [],S,S',g,h,_=>by
  cases h with
  | cons _ _ _ _ _ ws rs g j k=>exact⟨ws,rs,[],g,rfl,rfl,j,k⟩
 | (m,p)::pre,S,S',g,h,n=>by
  cases h with
  | cons _ _ _ _ _ a c B j k=>
   obtain⟨ws,rs,gpre,gpost,rfl,f,q,r⟩:=Run.front k fun gpre gi gpost s f b t=>
    n (_::gpre) gi gpost (by rw[s];rfl) (by simp[f]) b (ao _ t)
   have hfree:=n (_::gpre) _ gpost rfl (by simp[f]) _ aq;simp only[Lg.free,zI,Bool.not_eq_true']at hfree;obtain⟨⟨u,v⟩,w⟩:=hfree;have z:(GU E ops o).Bz S []=some (ws,rs):=Rd.Oy q fun x d=>by
    have:=FW a (S:=S) (l:=x) fun y e=>C9 u y.loc x (List.mem_map_of_mem e) d
    cases x<;>exact Eq.symm this
   have A:(GU E ops m).Bz (S.puts ws) []=some (a,c):=Rd.Oy j fun x d=>
    FW ws fun y e=>C9 w y.loc x (List.mem_map_of_mem e) d
   refine⟨ws,rs,_::gpre,gpost,rfl,by simp[f],z,?_⟩;refine .cons m p _ _ _ a c _ A ?_;rw[UF a ws fun x y d e=>Ne.symm (C9 v x.loc y.loc (List.mem_map_of_mem d) (List.mem_map_of_mem e))];exact r
theorem ahh{acc:List Nat}{o:Oper}{k:Nat}(h:(Dc acc o).testBit k=true):∃e,e∈o.after.toList/\Region.binds .any e=true/\(k=e.on\/(acc.getD e.on 0).testBit k=true):=by
 have key:∀(es:List Edge) (s:Nat),(es.foldl (fun s e=>if Region.binds .any e then s ||| 2 ^ e.on ||| acc.getD e.on 0 else s) s).testBit k=true->s.testBit k=true \/
   ∃e,e∈es/\Region.binds .any e=true/\(k=e.on\/(acc.getD e.on 0).testBit k=true):=by
  intro es;induction es with
  | nil=>intro s h;exact .inl h
  | cons e es ih=>
   intro s h;simp only[List.foldl_cons]at h;rcases ih _ h with a | ⟨e',b,d⟩
   ·split at a
    ·rename_i c;simp only[Nat.testBit_or,Bool.or_eq_true]at a;rcases a with (a | a) | a
     ·exact .inl a
     ·rw[Nat.testBit_two_pow]at a;exact .inr ⟨e,aq,c,.inl (by simp at a;exact a.symm)⟩
     ·exact .inr ⟨e,aq,c,.inr a⟩
    ·exact .inl a
   ·exact .inr ⟨e',ao _ b,d⟩
 rcases key _ _ h with a | a
 ·simp at a
 ·exact a
theorem UL:∀(l:List Oper) (acc:List Nat) (i:Nat),(∀i,i<acc.length->(masks acc l)[i]?=acc[i]?)/\(∀o,l[i]?=some o->∃acc',(∀j,j<acc'.length->(masks acc l)[j]?=acc'[j]?)/\acc'.length=acc.length+i/\(masks acc l)[acc.length+i]?=some (Dc acc' o))
 | [],acc,i=>⟨fun _ _=>rfl,fun o h=>by simp at h⟩
 | a::r,acc,i=>by
  have ih:=UL r (acc++[Dc acc a]);have c:∀i,i<acc.length->(masks acc (a::r))[i]?=acc[i]?:=fun i hi=>by
   show (masks (acc++[Dc acc a]) r)[i]?=_
   rw[(ih 0).1 i (by simp;omega),List.getElem?_append_left hi]
  refine⟨c,fun o b=>?_⟩;cases i with
  | zero=>
   simp at b;subst b;refine⟨acc,c,rfl,?_⟩;show (masks (acc++[Dc acc a]) r)[acc.length+0]?=_
   rw[(ih 0).1 _ (by simp)];simp
  | succ i=>
   obtain⟨acc',d,f,g⟩:=(ih i).2 o (by simpa using b);refine⟨acc',d,by simp at f;omega,?_⟩;have e:acc.length+(i+1)=(acc++[Dc acc a]).length+i:=by simp;omega
   rw[e];exact g
section regions
variable {P:Program} {w0:Bs} {E:Env} {ops:Array Oper} {Q:Exit->Act->World->Prop}
theorem Vu{G:Gh}{S:St}{a:Act}{w:World}(h:Inv w0 G S a w){o:Oper}{b:Bool}(c:(Vw ops o).val S=some b):Region.wanted o (yielded ops a.tmps)=b:=by
 unfold Vw at c;unfold Region.wanted;split at c
 ·rename_i l;simp only[Rd.val,zD]at c;rw[l];exact c
 ·rename_i j want l;rw[l];split at c
  ·cases c
  ·rename_i t p;simp only[Rd.val]at c;have i:=h.jm t;have q:∀v,a.tmps.getD t undef=v->v≠undef->a.tmps[t]?=some v:=by
    intro v c m;cases k:a.tmps[t]? with
    | none=>simp[k]at c;exact absurd c.symm m
    | some u=>simp[k]at c;rw[c]
   split at c
   ·rename_i bb e;simp only[Rd.val,zD]at c;rw[e]at i;have f:Rep w G.S (.bool bb) (a.tmps.getD t undef):=i;generalize d:a.tmps.getD t undef=vv at f;cases f
    have:=q _ d (by simp[undef]);simp only[yielded,p,zA,this];rw[<- c];cases bb<;>cases want<;>rfl
   ·rename_i e;simp only[Rd.val,zD]at c;rw[e]at i;obtain⟨us,d,n⟩:=i;have g:us=[]:=by cases us with
     | nil=>rfl
     | cons=>exact n.elim
    subst g;rw[<- c];have:yielded ops a.tmps j=none:=by
     simp only[yielded,p,zA];cases k:a.tmps[t]? with
     | none=>rfl
     | some u=>
      simp[k]at d;rw[d]
    show (yielded ops a.tmps j==some want)=false
    rw[this];rfl
   ·cases c
theorem OQ{G:Gh}{S:St}{a:Act}{w:World}(f:DT P E w0)(h:Inv w0 G S a w){o:Oper}{i:Nat}(hi:ops[i]?=some o){ws:List W}(c:(GU E ops o).val S=some ws){K:Act->World->Prop}
  (e:∀a' w' G',Inv w0 G' (S.puts ws) a' w'->K a' w'):wpOp P ops Q i K a w:=by
 unfold GU at c;rw[Rd.aC,zB]at c;obtain⟨b,g,d⟩:=c;have j:=Vu h g;unfold wpOp;rw[hi];simp only[j];cases b with
 | true=>exact .inl (afv h f d e)
 | false=>
  simp only[Rd.val,zD]at d;subst d;exact e _ _ _ (h.dst JJ)
theorem GX{j:Oper}{l:List Oper}{q:Srt×Operand×Nat×Nat×Nat×Oper}(h:GY E j l=some q):∃(a d:Oper) (r:List Oper) (T:Nat) (x:Operand) (e g:Nat) (first cap:Array Operand) (i:Nat) (c:Call) (f b:Nat) (s:Srt),
  l=a::d::r/\j.op=.makeInterface T x/\j.dst=some e/\a.op=.makeFunc (.func g) first cap/\a.dst=some i/\d.op=.call c/\c.callee=.value (.func f)/\first.toList=[]/\cap.toList=[.tmp b]/\c.args.toList=[.tmp e,.tmp i] /\
  j.guard=none/\a.guard=none/\d.guard=none/\e≠i/\b≠e/\s∈E.so/\s.fid=f/\s.g=g/\s.T=T/\q=(s,x,b,e,i,d):=by
 unfold GY at h;split at h
 case h_2=>cases h
 rename_i a d r;split at h
 case h_2=>cases h
 rename_i T x e g first cap i c o p t u v;split at h
 case h_2=>cases h
 rename_i f b w y z A B k4;split at h
 case isFalse=>cases h
 rename_i m;simp only[zI,Option.isNone_iff_eq_none,beq_iff_eq,bne_iff_ne,ne_eq]at m;obtain⟨⟨⟨⟨⟨⟨C,D⟩,F⟩,G⟩,H⟩,I⟩,J⟩:=m;rw[Option.map_eq_some_iff]at h;obtain⟨s,n,rfl⟩:=h;have k:=List.find?_some n;simp only[zI,beq_iff_eq]at k;subst G H;exact⟨a,d,r,T,x,w,g,first,cap,y,c,f,b,s,rfl,o,p,t,u,v,z,A,B,k4,C,D,F,I,J,List.mem_of_find?_eq_some n,k.1.1,k.1.2,k.2,rfl⟩
theorem Tt{T:TypeId}{d:TypeDesc}(a:P.underlying T=some d)(b:∀ms,d≠.interface ms)(v:Value)(w:World):(Instr.makeInterface T v).run P w=.ok (.iface T v) w:=by
 unfold Instr.makeInterface;have:=run_underlying a w;rw[Sem.run_bind,this];simp only[Result.andThen];cases d<;>first | rfl | exact absurd rfl (b _)
theorem Fj{a:Act}{d:Nat}{v:Value}(h:d<a.tmps.size):(a.put (some d) v).eval (.tmp d)=v:=by
 simp[Act.put,Act.eval,h]
theorem Dy{a:Act}{d e:Nat}{v:Value}(h:e≠d):(a.put (some d) v).eval (.tmp e)=a.eval (.tmp e):=by
 simp[Act.put,Act.eval,Array.getElem?_setIfInBounds,Ne.symm h]
theorem aaB(hE:DT P E w0){G:Gh}{S:St}{a:Act}{w:World}(h:Inv w0 G S a w){o1 o2 C:Oper}{r:List Oper}{q:Srt×Operand×Nat×Nat×Nat×Oper}(hq:GY E o1 (o2::C::r)=some q)
  {ws:List W} (d:(Om q).val S=some ws) {K:Act->World->Prop} (hK:∀a' w' G',Inv w0 G' (S.puts ws) a' w'->K a' w') :
  o1.wp P a w (fun a1 w1=>o2.wp P a1 w1 (fun a2 w2=>C.wp P a2 w2 K Q) Q) Q:=by
 obtain⟨o2',o3',r',T,x,A,g,first,cap,D,c,f,b,s,hl,h1,h2,h3,h4,h5,k1,k2,k3,k4,g1,g2,g3,c3,c4,F,m,H,n,rfl⟩:=GX hq;simp only[List.cons.injEq]at hl;obtain⟨rfl,rfl,rfl⟩:=hl;obtain⟨hcall,hsound,dd,hu,I⟩:=hE.2.2.2.2.2.2.1 s F;unfold Om at d;simp only[Rd.aC,zB]at d;obtain⟨ax,e1,v,e2,d⟩:=d;split at d
 case h_2=>cases d
 rename_i k j;simp only[Rd.val]at d;split at d
 case h_2=>cases d
 rename_i bi J;simp only[Rd.val]at d;split at d
 case h_2=>cases d
 rename_i k' j' L;split at d
 case isFalse=>cases d
 rename_i M;obtain⟨rfl,rfl⟩:=M;simp only[Rd.val]at d;split at d
 case h_2=>cases d
 rename_i t xs deep hown;split at d
 case isFalse=>cases d
 rename_i N;subst N;simp only[Rd.val,zB]at d;obtain⟨ys,h7,d⟩:=d;split at d
 case isFalse=>cases d
 rename_i p;simp only[Rd.val,zD]at d;subst d;have O:vY G w (.one (.own k j)) (a.eval x):=qY e2 (bH h e1);have i:a.eval x=G.ov k j:=O.2.1;have R:jV G w (.v (.one (.ptr bi 0))) (a.eval (.tmp b)):=by rw[<- J];exact h.jm b
 have U:a.eval (.tmp b)=.pointer (some ⟨G.bk bi,0,none⟩):=R.2;obtain⟨V,vs,Eb,hheap,X⟩:=h.box bi _ L;have Y:vs=[a.eval x]:=by
  match vs,X with
  | [],l=>exact l.elim
  | [u],l=>rw[i,<- l.1.2.1]
  | _::_::_,l=>exact l.2.elim
 rw[Y]at hheap;have Z:OwT w G.S deep true s.t xs (a.eval x) (iE G k j):=by
  have:=h.owns k j;rw[hown]at this;rw[i];exact this
 have hno:¬iE G k j (G.bk bi):=fun B=>by
  have B:G.ow (G.bk bi)=some (.own k j):=B;rw[V]at B;cases B
 have hC:=hsound w G.S deep (G.bk bi) Eb (a.eval x) xs ys (iE G k j) h7 (hE.am.keep w h.below) Z (fun c l=>(h.olt _ _ l).2) (fun b o F=>(h.sok b o F).1) hheap hno;have hz1:A<a.tmps.size:=by rw[h.tsz];exact p.1
 have hz2:D<a.tmps.size:=by rw[h.tsz];exact p.2
 refine aT (v:=.iface T (a.eval x)) (w':=w) ?_ ?_
 ·unfold execOp;rw[h1];show ((Instr.makeInterface T (a.eval x)) >>= fun y=>pure (Next.value y)).run P w=_
  rw[Sem.run_bind,Tt (n▸hu) I];rfl
 rw[h2];refine aT (v:=.func (.func g) #[] #[.pointer (some ⟨G.bk bi,0,none⟩)]) (w':=w) ?_ ?_
 ·unfold execOp;rw[h3];have ef:first = #[]:=by cases first;simp at k2;rw[k2]
  have ec:cap = #[.tmp b]:=by cases cap;simp at k3;rw[k3]
  subst ef ec;have:(a.put (some A) (.iface T (a.eval x))).eval (.tmp b)=.pointer (some ⟨G.bk bi,0,none⟩):=by rw[Dy c4,U]
  simp only[List.map_toArray,List.map_cons,List.map_nil,this];rfl
 rw[h4];have hargs:c.args.map ((a.put (some A) (.iface T (a.eval x))).put (some D) (.func (.func g) #[] #[.pointer (some ⟨G.bk bi,0,none⟩)])).eval = #[.iface s.T (a.eval x),.func (.func s.g) #[] #[.pointer (some ⟨G.bk bi,0,none⟩)]]:=by
  rw[qi k4];simp only[List.map_toArray,List.map_cons,List.map_nil];rw[Dy c3,Fj hz1,Fj (by simp[Act.put];exact hz2),n,H]
 unfold Oper.wp;rw[nZ h5 k1 (m▸hcall),hargs];subst m;refine Calls.mono hC fun e w' he=>?_
 obtain⟨rfl,hoff,z⟩:=he;rw[i]at z;have h9:=YX h hown hoff z;refine hK _ _ G ?_;rw[gq];have h10:=h9.jW A (av:=.undef) (v:=.iface T (a.eval x)) trivial;have h11:=h10.jW D (av:=.undef) (v:=.func (.func g) #[] #[.pointer (some ⟨G.bk bi,0,none⟩)]) trivial;exact h11.dst (o:=C) (av:=.tup []) (v:=.tuple #[]) ⟨[],rfl,trivial⟩
theorem zn{o:Oper}{i:Nat}(hi:ops[i]?=some o)(b:o.guard=none){K:Act->World->Prop}{a:Act}{w:World}(h:o.wp P a w K Q):wpOp P ops Q i K a w:=by
 unfold wpOp;have:Region.wanted o (yielded ops a.tmps)=true:=by unfold Region.wanted;rw[b]
 rw[hi];simp only[this];exact .inl h
theorem F5{ρ:Type}(m:DT P E w0){k:St->Option ρ}{r:ρ}(v:∀S' a' w' G',k S'=some r->Inv w0 G' S' a' w'->Q .normal a' w') :
  ∀(n:Nat) {l:List Oper} {i:Nat} {G:Gh} {S:St} {a:Act} {w:World},l.length<=n->ops.toList.drop i=l->Tv E ops 0 l S k=some r->Inv w0 G S a w->wpOps P ops Q (List.range' i l.length) a w
 | _,[],i,G,S,a,w,_,_,e,h=>v S a w G e h
 | 0,o::l,i,G,S,a,w,p,_,_,_=>absurd p (by simp)
 | n+1,o::l,i,G,S,a,w,p,C,e,h=>by
  have get:∀(t:Nat) (y:Oper),(o::l)[t]?=some y->ops[i+t]?=some y:=fun t y J=>by
   have:(ops.toList.drop i)[t]?=some y:=by rw[C];exact J
   rw[List.getElem?_drop]at this;simpa using this
  have dr:∀t,ops.toList.drop (i+t)=(o::l).drop t:=fun t=>by rw[<- C,List.drop_drop]
  have hi:=get 0 o rfl;cases u:GY E o l with
  | none=>
   have d:Nj (acs ops o) S (fun S=>Nj (agT o) S fun S=>(GU E ops o).runK S fun ws=>Tv E ops 0 l (S.puts ws) k)=some r:=by
    unfold Tv at e;rw[u]at e;exact e
   have j:=AL (AL d);rw[Rd.lH,zB]at j;obtain⟨ws,D,F⟩:=j;show wpOps P ops Q (i::List.range' (i+1) l.length) a w
   rw[wpOps_cons];exact OQ m h hi D fun a' w' G' z=>F5 m v n (by simpa using p) (dr 1) F z
  | some q=>
   obtain⟨H,I,l',T,x,Y,g,first,cap,Z,c,f,b,s,L,h1,D,F,h4,h5,k1,k2,k3,k4,M,N,O,c3,c4,hs,R,U,V,W⟩:=GX u;subst L;have d:(Om q).runK S (fun ws=>Tv E ops 2 (H::I::l') (S.puts ws) k)=some r:=by
    unfold Tv at e;rw[u]at e;exact e
   rw[Rd.lH,zB]at d;obtain⟨ws,X,A⟩:=d;have A:Tv E ops 0 l' (S.puts ws) k=some r:=A;show wpOps P ops Q (i::(i+1)::(i+1+1)::List.range' (i+1+1+1) l'.length) a w
   rw[wpOps_cons];refine zn hi M ?_;have:=aaB (Q:=Q) m h u X (K:=wpOps P ops Q (List.range' (i+1+1+1) l'.length)) fun a' w' G' z=>F5 m v n (by simp at p ⊢;omega) (dr 3) A z
   refine Oper.wp_mono (fun a1 w1 hh=>?_) this;rw[wpOps_cons];refine zn (get 1 H rfl) N ?_;refine Oper.wp_mono (fun a2 w2 B=>?_) hh;rw[wpOps_cons];exact zn (get 2 I rfl) O B
theorem abR{ρ:Type}(b:DT P E w0){k:St->Option ρ}{r:ρ}(c:∀S' a' w' G',k S'=some r->Inv w0 G' S' a' w'->Q .normal a' w')
  {l:List Oper} {i:Nat} {G:Gh} {S:St} {a:Act} {w:World} (d:ops.toList.drop i=l) (e:alT E ops l S k=some r) (h:Inv w0 G S a w):wpOps P ops Q (List.range' i l.length) a w:=
 F5 b c l.length (ar _) d e h
end regions
end Go.Abs
namespace Go.Abs
open Go.RowKit
theorem ab3{ops:Array Oper}{i k:Nat}(h:((masks [] ops.toList).getD i 0).testBit k=true) :
  ∃o e,ops[i]?=some o/\e∈o.after.toList/\Region.binds .any e=true/\(k=e.on\/(e.on<i/\((masks [] ops.toList).getD e.on 0).testBit k=true)):=by
 cases b:ops.toList[i]? with
 | none=>
  exfalso;have hlen:(masks [] ops.toList).length=ops.toList.length:=by
   have key:∀(l:List Oper) (acc:List Nat),(masks acc l).length=acc.length+l.length:=by
    intro l;induction l with
    | nil=>intro acc;rfl
    | cons o r ih=>intro acc;show (masks (acc++[Dc acc o]) r).length=_;rw[ih];simp;omega
   have:=key ops.toList [];simpa using this
  have hi:ops.toList.length<=i:=by simpa using b
  rw[zE,zJ (by omega)]at h;simp at h
 | some o=>
  obtain⟨acc',f,g,d⟩:=(UL ops.toList [] i).2 o b;simp only[List.length_nil,Nat.zero_add]at g d;rw[zE,d]at h;obtain⟨e,j,m,a⟩:=ahh h;refine⟨o,e,by simpa using b,j,m,a.imp id fun a=>?_⟩;by_cases c:e.on<i
  ·refine⟨c,?_⟩;rw[zE,f _ (by omega),<- zE];exact a
  ·rw[zE,zJ (by omega)]at a;simp at a
def Closed(ops:Array Oper)(listed:Array Bool):Prop:=∀i o e,listed.getD i false=true->ops[i]?=some o->e∈o.after.toList->Region.binds .any e=true->listed.getD e.on false=true
theorem Nu{ops:Array Oper}{listed:Array Bool}(g:Closed ops listed):∀(n i k:Nat),i<n->(∀o e,ops[i]?=some o->e∈o.after.toList->Region.binds .any e=true->listed.getD e.on false=true) ->
  ((masks [] ops.toList).getD i 0).testBit k=true->listed.getD k false=true
 | 0,i,k,j,_,_=>by omega
 | n+1,i,k,j,hi,l=>by
  obtain⟨o,e,m,p,a,b⟩:=ab3 l;have h:=hi o e m p a;rcases b with rfl | ⟨q,b⟩
  ·exact h
  ·exact Nu g n e.on k (by omega) (fun o' e' c d f=>g e.on o' e' h c d f) b
theorem zi{bf:List Nat}:∀ {g:List Lg},EL bf g=true->g.Pairwise fun a b=>(bf.getD a.i 0).testBit b.i=true\/b.free a=true
 | [],_=>.nil
 | a::r,h=>by
  simp only[EL,zI,List.all_eq_true,Bool.or_eq_true]at h;exact .cons (fun b c=>h.1 b c) (zi h.2)
theorem Run.idx{E:Env}{ops:Array Oper}{l:List (Oper×Nat)}{S S':St}{g:List Lg}(h:Run E ops l S g S'):g.map Lg.i=l.map (·.2):=by
 induction h with
 | nil S=>rfl
 | cons o i r S S' ws rs g h a ih=>simp[ih]
section regions
variable {P:Program} {w0:Bs} {E:Env} {ops:Array Oper} {Q:Exit->Act->World->Prop}
theorem Vg(hE:DT P E w0){S':St}(K:∀a' w' G',Inv w0 G' S' a' w'->Q .normal a' w')(hback:∀i o e,ops[i]?=some o->e∈o.after.toList->Region.binds .any e=true->e.on<i) :
  ∀(fuel:Nat) {listed:Array Bool} {l:List (Oper×Nat)} {S:St} {g:List Lg} {a:Act} {w:World} {G:Gh},listed.size=ops.size->Closed ops listed ->
   (∀o i,(o,i)∈l->ops[i]?=some o/\listed.getD i true=false)->(∀o i,ops[i]?=some o->listed.getD i true=false->(o,i)∈l)->l.Pairwise (fun x y=>x.2<y.2) ->
   Run E ops l S g S'->g.Pairwise (fun b a=>((masks [] ops.toList).getD a.i 0).testBit b.i=true\/b.free a=true)->Inv w0 G S a w->l.length<=fuel->wpAny P .any ops Q fuel listed a w
 | 0,listed,l,S,g,a,w,G,_,_,_,z,_,A,_,h,hf=>by
  have hl:l=[]:=List.eq_nil_of_length_eq_zero (by omega);subst hl;cases A
  refine⟨?_,K _ _ _ h⟩;rw[List.eq_nil_iff_forall_not_mem];intro j hj;obtain⟨h0,o,k,_⟩:=mem_ready.1 hj;exact absurd (z o j k h0) (by simp)
 | fuel+1,listed,l,S,g,a,w,G,L,B,J,z,s,A,u,h,hf=>by
  refine⟨fun hnil=>?_,fun i hi=>?_⟩
  ·cases l with
   | nil=>cases A;exact K _ _ _ h
   | cons x r=>
    obtain⟨o,i⟩:=x;exfalso;obtain⟨k,t⟩:=J o i aq;have hm:i∈Region.ready .any ops listed:=by
     refine mem_ready.2 ⟨t,o,k,fun e he n=>?_⟩;have hlt:=hback i o e k (by simpa using he) n;have M:i<ops.size:=(aL.1 k).1;cases v:listed.getD e.on false with
     | true=>rfl
     | false=>
      have N:listed.getD e.on true=false:=by
       have:e.on<listed.size:=by omega
       simp[this]at v ⊢;exact v
      have hmem:=z ops[e.on] e.on (by simp) N;rcases a8.1 hmem with d | d
      ·have:=congrArg Prod.snd d;simp at this;omega
      ·have:=(List.pairwise_cons.1 s).1 _ d;simp at this;omega
    rw[hnil]at hm;cases hm
  ·obtain⟨t,o,k,hall⟩:=mem_ready.1 hi;have hmem:=z o i k t;obtain⟨pre,post,rfl⟩:=List.append_of_mem hmem;have hidx:=A.idx;obtain⟨ws,rs,gpre,gpost,rfl,p,hv,O⟩:=A.front fun gpre gi gpost R p b C=>by
    subst R;have T:gi.i=i:=by
     have:=congrArg (fun l=>l[pre.length]?) hidx;simp[<- p]at this;simpa [p] using this
    have U:b.i∈pre.map (·.2):=by
     have e1:(gpre.map Lg.i)=pre.map (·.2):=by
      have:=congrArg (List.take pre.length) hidx;simp only[List.map_append,List.map_cons]at this;rw[List.take_left' (by simp[p]),List.take_left' (by simp)]at this;exact this
     rw[<- e1];exact List.mem_map_of_mem C
    rw[List.pairwise_append]at u;have:=u.2.2 b C gi aq;rcases this with hbit | V
    ·exfalso;rw[T]at hbit;have hlst:=Nu B (i+1) i b.i (by omega) (fun o' e' f d W=>by
      rw[k]at f;cases f;exact hall e' (by simpa using d) W) hbit
     obtain⟨⟨o2,X⟩,D,F⟩:=List.mem_map.1 U;have:=(J o2 X (by simp[D])).2;simp only at F;rw[<- F]at hlst;have Y:X<listed.size:=by
      have:=(J o2 X (by simp[D])).1;have:=(aL.1 this).1;omega
     simp[Y]at hlst this;rw[hlst]at this;cases this
    ·exact V
   refine OQ hE h k (Rd.afO hv) fun a' w' G' h'=>?_
   have M:i<ops.size:=(aL.1 k).1;rw[List.pairwise_append]at s u;refine Vg hE K hback fuel (l:=pre++post) (by simp[L]) ?_ ?_ ?_ ?_ O ?_ h' (by simp at hf ⊢;omega)
   ·intro i' o' e' H f d n;by_cases I:i=i'
    ·subst I;rw[k]at f;cases f;exact getD_set_true (hall e' (by simpa using d) n)
    ·rw[getD_set_ne false I]at H;exact getD_set_true (B i' o' e' H f d n)
   ·intro o' i' c;have q:i≠i':=by
     rcases List.mem_append.1 c with c | c
     ·have:=s.2.2 _ c _ aq;simp at this;omega
     ·have:=(List.pairwise_cons.1 s.2.1).1 _ c;simp at this;omega
    have:=J o' i' (by rcases List.mem_append.1 c with c | c<;>simp[c])
    exact⟨this.1,by rw[getD_set_ne true q];exact this.2⟩
   ·intro o' i' f m;have q:i≠i':=by
     rintro rfl;have:i<listed.size:=by omega
     simp[this]at m
    rw[getD_set_ne true q]at m;have:=z o' i' f m;rcases List.mem_append.1 this with c | c
    ·exact List.mem_append_left _ c
    ·rcases a8.1 c with d | c
     ·have:=congrArg Prod.snd d;simp at this;exact absurd this.symm q
     ·exact List.mem_append_right _ c
   ·rw[List.pairwise_append];exact⟨s.1,(List.pairwise_cons.1 s.2.1).2,fun x v y Z=>s.2.2 x v y (ao _ Z)⟩
   ·rw[List.pairwise_append];exact⟨u.1,(List.pairwise_cons.1 u.2.1).2,fun x v y Z=>u.2.2 x v y (ao _ Z)⟩
theorem ahU(q:DT P E w0){G:Gh}{S S':St}{a:Act}{w:World}{g:List Lg}(r:Run E ops ops.toList.zipIdx S g.reverse S')
  (k:Ld ops.toList.zipIdx=true/\EL (masks [] ops.toList) g=true) (h:Inv w0 G S a w)
  (s:∀a' w' G',Inv w0 G' S' a' w'->Q .normal a' w'):wpAny P .any ops Q ops.size (Array.replicate ops.size false) a { w with drawn:=w.drawn+1 }:=by
 have hzip:∀o i,(o,i)∈ops.toList.zipIdx↔ops[i]?=some o:=by
  intro o i;rw[List.mem_zipIdx_iff_getElem?];simp
 have c:=zi k.2;rw[<- List.pairwise_reverse]at c;refine Vg q (S':=S') s (fun i o e j t u=>?_) ops.size (l:=ops.toList.zipIdx) (by simp) ?_ (fun o i d=>⟨(hzip o i).1 d,?_⟩) (fun o i j _=>(hzip o i).2 j) ?_ r c (h.grow ((Below.refl _ _).drew)) (by simp)
 ·have:=List.all_eq_true.1 k.1 _ ((hzip o i).2 j);simp only[List.all_eq_true,Bool.or_eq_true,Bool.not_eq_true',decide_eq_true_eq]at this;rcases this e t with b | b
  ·rw[u]at b;cases b
  ·exact b
 ·intro i o e hi;by_cases m:i<ops.size
  ·simp[m]at hi
  ·simp[m]at hi
 ·have:=(aL.1 ((hzip o i).1 d)).1;simp[this]
 ·have key:∀(l:List Oper) (n:Nat),(l.zipIdx n).Pairwise (fun x y=>x.2<y.2)/\∀x∈l.zipIdx n,n<=x.2:=by
   intro l;induction l with
   | nil=>intro n;exact⟨.nil,fun x f=>by cases f⟩
   | cons o l ih=>
    intro n;obtain⟨b,p⟩:=ih (n+1);refine⟨.cons (fun y v=>?_) b,fun x f=>?_⟩
    ·have:=p y v;simp;omega
    ·rcases a8.1 f with rfl | f
     ·exact ar _
     ·have:=p x f;omega
  exact (key _ 0).1
theorem ajR(b:DT P E w0)(c:P.follows .mixedOrders=true){id:Nat}{G:Gh}{S S':St}{a:Act}{w:World}{g:List Lg}(d:Run E ops ops.toList.zipIdx S g.reverse S')
  (e:Ld ops.toList.zipIdx=true/\EL (masks [] ops.toList) g=true) (h:Inv w0 G S a w)
  (f:∀a' w' G',Inv w0 G' S' a' w'->Q .normal a' w'):(Code.region id ops true).wp P Q a w:=wp_region_any c (ahU b d e h f)
theorem CV:∀(keys:List (Nat×Nat)) {G:Gh} {S:St} {a:Act} {w:World},Inv w0 G S a w->∃G',Inv w0 G' (S.puts (keys.map fun q=>W.nomut q.1 q.2)) a w
 | [],G,S,a,w,h=>⟨G,h⟩
 | q::r,G,S,a,w,h=>by
  obtain⟨c,b,_⟩:=h.VH q.1 q.2;exact CV r b
theorem acu{ρ:Type}(f:DT P E w0)(i:P.follows .mixedOrders=true){id:Nat}{k:St->Option ρ}{r:ρ}{G:Gh}{S:St}{a:Act}{w:World}
  (d:ai7 E ops id S k=some r) (h:Inv w0 G S a w)
  (j:∀S' a' w' G',k S'=some r->Inv w0 G' S' a' w'->Q .normal a' w'):(Code.region id ops true).wp P Q a w:=by
 unfold ai7 at d;obtain⟨l,m,c,b⟩:=Y0 d;simp only[List.append_nil]at b;split at b
 case isFalse=>cases b
 rename_i e;rw[zI]at e;obtain⟨p,n⟩:=CV (akm E id) h;exact ajR f i (g:=l.reverse) (by rw[List.reverse_reverse];exact c) e n fun a' w' G' o=>j m a' w' G' b o
end regions
end Go.Abs
namespace Go.Abs
open Go.RowKit
section loops
variable {w0:Bs} {G:Gh} {S:St} {a:Act} {w:World}
theorem xh:∀ {l:List (Nat×Nat)} {u:Unit},(JC l).val S=some u->∀b n,(b,n)∈l->∃cs,S.gW b=some cs/\cs.length=n
 | [],_,_,b,n,a=>by cases a
 | (f,n0)::r,u,h,b,n,a=>by
  simp only[JC,Rd.val]at h;split at h
  ·rename_i cs c;split at h
   ·rename_i d;rcases a8.1 a with e | a
    ·cases e;exact⟨cs,c,d⟩
    ·exact xh h b n a
   ·cases h
  ·cases h
theorem Qe:∀ {l:List (Nat×Nat×Nat)} {u:Unit},(Qg l).val S=some u->∀i b off,(i,b,off)∈l->S.jm i=.v (.one (.ptr b off))
 | [],_,_,i,b,off,a=>by cases a
 | (f,g,off0)::r,u,h,i,b,off,a=>by
  simp only[Qg,Rd.val]at h;split at h
  ·rename_i b' off' d;split at h
   ·rename_i e;obtain⟨rfl,rfl⟩:=e;rcases a8.1 a with c | a
    ·cases c;exact d
    ·exact Qe h i b off a
   ·cases h
  ·cases h
def cellV(G:Gh)(a:Act)(w:World):It->Value->Prop
 | .t i _,v=>a.tmps.getD i undef=v
 | .b b off _,v=>w.cell? ⟨G.bk b,off,none⟩=some v
theorem aj7(h:Inv w0 G S a w){it:It}{c:C}(d:(cAt it).val S=some c):∃v,cellV G a w it v/\qc G w c v:=by
 cases it with
 | t i s=>
  simp only[cAt,Rd.val]at d;have g:=h.jm i;unfold avC at d;split at d
  ·rename_i c' k;simp only[Rd.val,zD]at d;subst d;rw[k]at g;exact⟨_,rfl,g⟩
  ·cases d
 | b b off s=>
  simp only[cAt,Rd.val]at d;split at d
  ·rename_i cs j;simp only[Rd.val,zB,zD]at d;obtain⟨c',e,rfl⟩:=d;obtain⟨_,vs,E,hh,g⟩:=h.box b cs j;obtain⟨m,l⟩:=g.get;have f:off<vs.length:=by have:=(zC.1 e).1;omega
   refine⟨vs[off],?_,l off c' vs[off] e (by simp[f])⟩;show w.cell? _=_
   rw[cell_of_row _ _ _ _ _ _ hh];simp[f]
  ·cases d
def Sr.live:Sr->Bool
 | .ro _=>false
 | _=>true
def ait(S0:Nat->Nat->Prop)(w:World):(sr:Sr)->sr.den->Value->(Nat->Prop)->Prop
 | .ro t,x,v,_=>∃d,t.cells x=[d]/\Rep w S0 d v
 | .own t deep m _,xs,v,lab=>OwT w S0 deep m t xs v lab
 | .part t _,z,v,lab=>jr w S0 t z.1 z.2 v lab
theorem OwT.weak{S0:Nat->Nat->Prop}{deep deep' m m':Bool}{t:Ty}{xs:List t.den}{v:Value}{fp fp':Nat->Prop}(h:OwT w S0 deep' m' t xs v fp)(p:deep=true->deep'=true)(q:m=true->m'=true)(a:∀b,fp b->fp' b) :
  OwT w S0 deep m t xs v fp':=by
 rcases h with r | ⟨b,cap,arr,E,vs,fps,s,u,y,z,A,B,C,D,l,f,g⟩
 ·exact .inl r
 ·refine .inr ⟨b,cap,arr,E,vs,fps,s,u,y,z,A,a _ B,C,fun i x j' d F j=>(D i x j' d F j).sub (fun _ hh=>hh) p,fun i j' c e=>⟨a _ (l i j' c e).1,(l i j' c e).2⟩,f,fun o G=>?_⟩;obtain⟨n,H⟩:=g o G;refine⟨?_,H⟩;cases k:m with
  | false=>rfl
  | true=>rw[q k]at n;cases n
def amn(S0:Nat->Nat->Prop)(w:World)(it:It)(x:it.sr.den)(v:Value)(lab:Nat->Prop):Prop:=ait S0 w it.sr x v lab
theorem ajJ(h:Inv w0 G S a w){sr:Sr}{c:C}{x:sr.den}{v:Value}(f:(afq sr c).val S=some x)(r:qc G w c v){S0:Nat->Nat->Prop}(roks:List (Nat×Nat))
  (K:∀b o,(G.S b o\/AK G S roks b o)->S0 b o) (D:∀t,sr=.ro t->∀k j,c=.own k j->(k,j)∈roks)
  (B:∀k j,c=.own k j->sr.live=true->∀b o,S0 b o->G.ow b=some (.own k j)->G.S b o) :
  ait S0 w sr x v (fun b=>∃k j,c=.own k j/\G.ow b=some (.own k j)):=by
 cases sr with
 | ro t=>
  simp only[afq]at f;split at f
  ·rename_i E;simp only[Rd.aC,zB,Rd.val,zD]at f;obtain⟨ds,F,y,L,M⟩:=f;subst M;have H:t.tys.length=1:=by
    rw[qh];cases t with
    | base b=>cases b<;>first | rfl | cases E
    | list t=>rfl
   obtain⟨N,O⟩:=XH F (by simpa using H);match ds,N with
   | [d],_=>
    obtain⟨c',ty,s,I⟩:=O 0 d rfl;simp at s;subst s;refine⟨d,(Ty.fU L),?_⟩;exact (RD h I r roks fun k j e=>D t rfl k j e).move fun b o n=>⟨K b o n,rfl⟩
  ·cases f
 | own t deep m key=>
  simp only[afq]at f;split at f
  ·simp only[Rd.val,zD]at f;subst f;exact .inl ⟨r,rfl⟩
  ·rename_i k j;simp only[Rd.val]at f;split at f
   ·rename_i t' xs deep' m' hown;split at f
    ·rename_i l;subst l;split at f
     ·rename_i u;simp only[Rd.val,zD]at f;subst f;have p:=h.owns k j;rw[hown]at p;have q:OwT w G.S deep' m' t' xs (G.ov k j) (iE G k j):=p;rw[<- r.2.1]at q;have F:OwT w S0 deep' m' t' xs v (iE G k j):=OwT.move q (fun b o n=>⟨K b o (.inl n),rfl⟩) (fun b g=>⟨g,rfl⟩) fun b len cap P g o n=>.inl (B k j rfl rfl b o n g)
      exact F.weak u.1 u.2 fun b g=>⟨k,j,rfl,g⟩
     ·cases f
    ·cases f
   ·rename_i t' xs hown;split at f
    ·rename_i l;subst l;simp only[Rd.val,zD]at f;subst f;have p:=h.owns k j;rw[hown]at p;obtain⟨fp,z,A,J⟩:=p;rw[<- r.2.1]at A;exact (OwT.Qu A z fun b o n g=>J b o (B k j rfl rfl b o n (z b g)) g).weak (fun _=>rfl) (fun _=>rfl) fun b g=>⟨k,j,rfl,g⟩
    ·cases f
   ·cases f
  ·cases f
 | part t key=>
  simp only[afq]at f;split at f
  ·rename_i k j;simp only[Rd.val]at f;split at f
   ·rename_i t' xs hown;split at f
    ·rename_i l;subst l;simp only[Rd.val,zD]at f;subst f;have p:=h.owns k j;rw[hown]at p;obtain⟨fp,z,A,J⟩:=p;rw[<- r.2.1]at A;exact jr.Qu A (fun b g=>⟨k,j,rfl,z b g⟩) fun b o n g=>J b o (B k j rfl rfl b o n (z b g)) g
    ·cases f
   ·rename_i t' xs i hown;split at f
    ·rename_i l;subst l;simp only[Rd.val,zD]at f;subst f;have p:=h.owns k j;rw[hown]at p;have q:jr w G.S t' xs i (G.ov k j) (iE G k j):=p;rw[<- r.2.1]at q;exact jr.move q (fun b g=>⟨⟨k,j,rfl,g⟩,rfl⟩) fun b o g n=>B k j rfl rfl b o n g
    ·cases f
   ·cases f
  ·cases f
theorem Inv.VQ(h:Inv w0 G S a w)(i:Nat){av:AV}(d:jV G w av (a.tmps.getD i undef)):Inv w0 G (S.jW i av) a w:=by
 have c:=h.jW i d;have e:a.put (some i) (a.tmps.getD i undef)=a:=by
  simp only[Act.put];cases a with
  | mk tmps defers=>
   congr 1;show tmps.setIfInBounds i (tmps.getD i undef)=tmps
   by_cases b:i<tmps.size
   ·have f:i<tmps.toList.length:=by simpa using b
    have g:tmps.getD i undef=tmps.toList[i]:=by simp[b]
    rw[<- Array.toList_inj,Array.toList_setIfInBounds,g,List.set_getElem_self]
   ·rw[Array.setIfInBounds_eq_of_size_le (Nat.le_of_not_lt b)]
 rw[e]at c;exact c
theorem Inv.X3(h:Inv w0 G S a w)(b off:Nat){cs:List C}(j:S.gW b=some cs){c:C}{v:Value}(g:w.cell? ⟨G.bk b,off,none⟩=some v)(k:qc G w c v) :
  Inv w0 G (S.setB b (some (cs.set off c))) a w:=by
 refine⟨h.below,h.nodef,h.tsz,by simp[St.setB,h.bsz],by simp[St.setB,h.osz],h.tmps,h.olt,h.sok,?_,h.owns,h.lk,?_,h.sfr,h.fx⟩
 ·intro i cs' d;rw[kF]at d;split at d
  ·rename_i hi;obtain⟨rfl,_⟩:=hi;cases d
   obtain⟨l,vs,E,hh,m⟩:=h.box b cs j;refine⟨l,vs,E,hh,?_⟩;obtain⟨n,o⟩:=m.get;refine dR.mk (by simpa using n) fun i c' v' e f=>?_
   rw[List.getElem?_set]at e;split at e
   ·rename_i hi;subst hi;split at e
    ·cases e
     rw[cell_of_row _ _ _ _ _ _ hh]at g;simp at g;rw[f]at g;cases g
     exact k
    ·cases e
   ·exact o i c' v' e f
  ·exact h.box i cs' d
 ·intro i hi;rw[kF];split
  ·simp
  ·exact h.lb i hi
theorem Inv.wu(h:Inv w0 G S a w){it:It}{c:C}{v:Value}(e:cellV G a w it v)(f:qc G w c v)(g:∀b off s,it=.b b off s->∃cs,S.gW b=some cs):Inv w0 G (S.wu it c) a w:=by
 cases it with
 | t i s=>exact h.VQ i (by rw[show a.tmps.getD i undef=v from e];exact f)
 | b b off s=>
  obtain⟨cs,d⟩:=g b off s rfl;simp only[St.wu,d];exact h.X3 b off d e f
theorem KX(S:St)(it:It)(c:C)(b:Nat)(h:∃cs,S.gW b=some cs):∃cs,(S.wu it c).gW b=some cs:=by
 obtain⟨cs,a⟩:=h;cases it with
 | t i s=>exact⟨cs,a⟩
 | b b' off s=>
  simp only[St.wu];split
  ·rw[kF];split
   ·exact⟨_,rfl⟩
   ·exact⟨cs,a⟩
  ·exact⟨cs,a⟩
theorem KW(S:St)(it:It)(c:C)(k:Nat):(S.wu it c).aH k=S.aH k:=by
 cases it with
 | t i s=>rfl
 | b b off s=>simp only[St.wu];split<;>rfl
theorem JK(S:St)(it:It)(c:C):(S.wu it c).tmps.length=S.tmps.length:=by
 cases it with
 | t i s=>simp[St.wu,St.jW]
 | b b off s=>simp only[St.wu];split<;>rfl
end loops
end Go.Abs
namespace Go.Abs
open Go.RowKit
theorem foldl_set{α β:Type}(f:β->Nat)(g:β->α)(d:α):∀(l:List β) (init:List α) (t:Nat),(l.foldl (fun acc p=>acc.set (f p) (g p)) init).length=init.length /\
  ((l.foldl (fun acc p=>acc.set (f p) (g p)) init).getD t d=init.getD t d/\(t<init.length->∀p∈l,f p≠t)\/∃p,p∈l/\f p=t/\(l.foldl (fun acc p=>acc.set (f p) (g p)) init).getD t d=g p)
 | [],init,t=>⟨rfl,.inl ⟨rfl,fun _ p i=>by cases i⟩⟩
 | p::r,init,t=>by
  obtain⟨j,a⟩:=foldl_set f g d r (init.set (f p) (g p)) t;simp only[List.foldl_cons];refine⟨by rw[j];simp,?_⟩;rcases a with ⟨a,k⟩ | ⟨q,b,m,n⟩
  ·by_cases c:f p=t
   ·by_cases e:t<init.length
    ·refine .inr ⟨p,aq,c,?_⟩;rw[a,zE,List.getElem?_set,if_pos c,if_pos (by omega)];rfl
    ·refine .inl ⟨?_,fun h=>absurd h e⟩;rw[a,List.set_eq_of_length_le (by omega)]
   ·refine .inl ⟨?_,fun e q b=>?_⟩
    ·rw[a,zE,List.getElem?_set,if_neg c,<- zE]
    ·rcases a8.1 b with rfl | b
     ·exact c
     ·exact k (by simpa using e) q b
  ·exact .inr ⟨q,ao _ b,m,n⟩
section loops
variable {w0:Bs} {G:Gh} {S:St} {a:Act} {w:World}
theorem afH(la:LA)(t:Nat):la.base.jm t=.undef\/∃p,p∈la.ptrs/\p.1=t/\la.base.jm t=.v (.one (.ptr p.2.1 p.2.2)):=by
 have:=(foldl_set (fun p:Nat×Nat×Nat=>p.1) (fun p=>AV.v (.one (.ptr p.2.1 p.2.2))) AV.undef la.ptrs (List.replicate la.n .undef) t).2;rcases this with ⟨a,_⟩ | a
 ·left;have e:la.base.jm t=(la.ptrs.foldl (fun acc (p:Nat×Nat×Nat)=>acc.set p.1 (AV.v (.one (.ptr p.2.1 p.2.2)))) (List.replicate la.n AV.undef)).getD t .undef:=rfl;rw[e,a,zE,List.getElem?_replicate];split<;>rfl
 ·exact .inr a
theorem Lj(la:LA)(t:Nat):(la.base.gW t=none/\(t<la.n->∀p∈la.boxes,p.1≠t))\/∃p,p∈la.boxes/\p.1=t/\la.base.gW t=some (List.replicate p.2 .undef):=by
 have:=(foldl_set (fun p:Nat×Nat=>p.1) (fun p=>some (List.replicate p.2 C.undef)) none la.boxes (List.replicate la.n none) t).2;rcases this with ⟨a,b⟩ | a
 ·left;refine⟨?_,by simpa using b⟩;have e:la.base.gW t=(la.boxes.foldl (fun acc (p:Nat×Nat)=>acc.set p.1 (some (List.replicate p.2 C.undef))) (List.replicate la.n none)).getD t none:=rfl;rw[e,a,zE,List.getElem?_replicate];split<;>rfl
 ·exact .inr a
theorem Vf(la:LA)(t:Nat):la.base.aH t=[]:=by
 show (List.replicate la.n ([]:List O)).getD t []=_
 rw[zE,List.getElem?_replicate];split<;>rfl
theorem aag(la:LA):la.base.tmps.length=la.n/\la.base.boxes.length=la.n/\la.base.owns.length=la.n:=by
 refine⟨?_,?_,?_⟩
 ·have:=(foldl_set (fun p:Nat×Nat×Nat=>p.1) (fun p=>AV.v (.one (.ptr p.2.1 p.2.2))) AV.undef la.ptrs (List.replicate la.n .undef) 0).1;simpa [LA.base] using this
 ·have:=(foldl_set (fun p:Nat×Nat=>p.1) (fun p=>some (List.replicate p.2 C.undef)) none la.boxes (List.replicate la.n none) 0).1;simpa [LA.base] using this
 ·simp[LA.base]
def En(la:LA)(i:Nat):Prop:=∃n,(i,n)∈la.boxes
open Classical in
theorem aic(h:Inv w0 G S a w){la:LA}(L:S.tmps.length=la.n){u:Unit}(M:(JC la.boxes).val S=some u){u':Unit}(O:(Qg la.ptrs).val S=some u')
  (C:la.ptrs.all (fun p=>la.boxes.any fun q=>q.1==p.2.1)=true) (roks:List (Nat×Nat)) :
  ∃r,Inv w0 r la.base a w/\r.bk=G.bk/\(∀b o,(G.S b o\/AK G S roks b o)↔r.S b o)/\(∀c k j,r.ow c≠some (.own k j))/\(∀c i,r.ow c=some (.box i)->G.ow c=some (.box i)):=by
 let D:Nat->Option Bv:=fun b=>match G.ow b with
  | some (.box i)=>if En la i then some (.box i)else none
  | _=>none
 let r:Gh:={ bk:=G.bk,ov:=G.ov,ow:=D,S:=fun b o=>G.S b o\/AK G S roks b o,lk:=fun _=>False,lb:=En la };have hbox0:∀c i,r.ow c=some (.box i)->G.ow c=some (.box i)/\En la i:=by
  intro c i s;have d:(match G.ow c with | some (.box i)=>if En la i then some (Bv.box i)else none | _=>none)=some (.box i):=s;split at d
  ·rename_i j P;split at d
   ·rename_i F;cases d;exact⟨P,F⟩
   ·cases d
  ·cases d
 have hnown:∀c k j,r.ow c≠some (.own k j):=by
  intro c k j s;have d:(match G.ow c with | some (.box i)=>if En la i then some (Bv.box i)else none | _=>none)=some (.own k j):=s;split at d
  ·split at d<;>cases d
  ·cases d
 obtain⟨H,Q,R⟩:=aag la;have hblt:∀i n,(i,n)∈la.boxes->i<la.n:=by
  intro i n l;obtain⟨cs,e,_⟩:=xh M i n l;have:i<S.boxes.length:=by
   rcases Nat.lt_or_ge i S.boxes.length with y | y
   ·exact y
   ·simp[St.gW,zE,zJ y]at e
  rw[h.bsz,L]at this;exact this
 refine⟨r,⟨h.below,h.nodef,by rw[h.tsz,L,H],by rw[H,Q],by rw[H,R],?_,?_,?_,?_,?_,fun k T=>T.elim,?_,fun b o m y=>m.elim (fun m=>h.sfr b o m y) fun⟨_,_,_,_,_,_,_,_,f,_⟩=>absurd (h.oh f).1 (by omega),h.fx⟩,rfl,fun b o=>Iff.rfl,hnown,fun c i s=>(hbox0 c i s).1⟩
 ·intro i v I;rcases afH la i with g | ⟨⟨i',b,off⟩,l,rfl,g⟩
  ·rw[g];trivial
  ·rw[g];have z:=h.tmps _ v I;rw[Qe O _ b off l]at z;have:=List.all_eq_true.1 C _ l;obtain⟨⟨b',n⟩,J,A⟩:=List.any_eq_true.1 this;simp at A;exact⟨⟨n,A▸J⟩,z.2⟩
 ·intro b x N;cases x with
  | box i=>exact h.olt _ _ (hbox0 b i N).1
  | own k j=>exact absurd N (hnown b k j)
 ·intro b o m;refine⟨?_,fun i hi=>?_⟩
  ·rcases m with m | ⟨k,j,_,_,_,_,_,_,f,_⟩
   ·exact (h.sok b o m).1
   ·exact (h.olt _ _ f).2
  ·have t:=(hbox0 b i hi).1;rcases m with m | ⟨k,j,_,_,_,_,_,_,f,_⟩
   ·exact (h.sok b o m).2 i t
   ·rw[f]at t;cases t
 ·intro i cs e;rcases Lj la i with ⟨g,_⟩ | ⟨⟨i',n⟩,l,rfl,g⟩
  ·rw[g]at e;cases e
  ·rw[g]at e;cases e
   obtain⟨K,B,U⟩:=xh M _ n l;obtain⟨V,vs,E,hh,z⟩:=h.box _ K B;refine⟨?_,vs,E,hh,?_⟩
   ·show (match G.ow (G.bk i')with | some (.box i)=>if En la i then some (Bv.box i)else none | _=>none)=_
    rw[V];exact if_pos ⟨n,l⟩
   ·have hlen:=z.length;refine dR.mk (by simp;omega) fun j c v s I=>?_
    have:c=.undef:=(List.mem_replicate.1 (zG s)).2;subst this;exact z.one v (zG I)
 ·intro k j;rw[Vf];trivial
 ·intro i hi;obtain⟨n,l⟩:=hi;rcases Lj la i with ⟨_,g⟩ | ⟨p,_,_,g⟩
  ·exact absurd rfl (g (hblt i n l) _ l)
  ·rw[g];simp
theorem MP{x:Nat}{r:List Nat}(h:F7 (x::r)=true):x∉r/\F7 r=true:=by
 simp only[F7,zI,Bool.not_eq_true',List.any_eq_false,beq_iff_eq]at h;exact⟨fun a=>h.1 x a rfl,h.2⟩
theorem agL(h:Inv w0 G S a w){U:Gh}(K:G.bk=U.bk){it:It}{x:it.sr.den}{v:Value}{lab:Nat->Prop}(V:cellV U a w it v)(l:amn G.S w it x v lab)
  (hlab:∀c,lab c->w0.w.heap.size<=c/\c<w.heap.size/\(∀i,G.ow c≠some (.box i))/\∀k j,G.ow c≠some (.own k j)) (z:∀b off s,it=.b b off s->∃cs,S.gW b=some cs)
  (W:∀key,key∈eP [it]->key<S.tmps.length/\S.aH key=[]) :
  ∃G',Inv w0 G' (S.Qd it x) a w/\G'.bk=G.bk/\G'.S=G.S/\(∀c y,G'.ow c=some y->G.ow c=some y\/(lab c/\∀i,y≠.box i))/\(∀b,(∃cs,S.gW b=some cs)->∃cs,(S.Qd it x).gW b=some cs) /\
   (∀key,key∉eP [it]->(S.Qd it x).aH key=S.aH key)/\(S.Qd it x).tmps.length=S.tmps.length:=by
 have r:cellV G a w it v:=by
  cases it with
  | t i s=>exact V
  | b b off s=>show w.cell? ⟨G.bk b,off,none⟩=_;rw[K];exact V
 unfold amn at l;unfold St.Qd;generalize I:it.sr=sr at *;unfold ait at l;cases sr with
 | ro t=>
  obtain⟨d,X,hrep⟩:=l;have L:dOf t x=.d d:=by unfold dOf;rw[X]
  simp only[L];exact⟨G,h.wu r (c:=.d d) hrep z,rfl,rfl,fun c y f=>.inl f,fun b p=>KX S it _ b p,fun key _=>KW S it _ key,JK S it _⟩
 | own t deep m key=>
  have hkey:key∈eP [it]:=by simp[eP,I]
  obtain⟨A,B⟩:=W key hkey;classical
  obtain⟨G',M,Y,C,D,g,F,u⟩:=h.yN key [.own t x deep m] (fun _=>v) (fun c=>if lab c then some 0 else none) B A (by simp)
   (fun c j f=>by
    by_cases q:lab c
    ·obtain⟨N,O,P,Q⟩:=hlab c q;exact⟨N,O,P,fun k' j' _ _ _ _ p=>absurd p (Q k' j')⟩
    ·rw[if_neg q]at f;cases f)
   (fun j=>by
    cases j with
    | zero=>
     show OwT w G.S deep m t x v _
     exact OwT.move l (fun b o J=>⟨J,rfl⟩) (fun b p=>⟨if_pos p,rfl⟩) (fun _ _ _ _ _ o J=>.inl J)
    | succ j=>trivial)
  have R:Inv w0 G' ((S.dI key [.own t x deep m]).wu it (.own key 0)) a w:=by
   refine M.wu (v:=v) ?_ ⟨C,(D 0).symm,(OwT.ow l).one⟩ fun b off s T=>z b off s T
   cases it with
   | t i s=>exact r
   | b b off s=>show w.cell? ⟨G'.bk b,off,none⟩=_;rw[g];exact r
  refine⟨G',R,g,F,fun c y f=>?_,fun b p=>KX _ it _ b p,fun key' H=>?_,?_⟩
  ·rw[u]at f;by_cases q:lab c
   ·rw[if_pos q]at f;refine .inr ⟨q,fun i e=>?_⟩;rw[e]at f;cases f
   ·rw[if_neg q]at f;exact .inl f
  ·show ((S.dI key _).wu it _).aH key'=_
   rw[KW,bY,if_neg (fun e:key=key'/\_=>H (e.1▸hkey))]
  ·show ((S.dI key _).wu it _).tmps.length=_
   rw[JK];rfl
 | part t key=>
  obtain⟨xs,n⟩:=x;have hkey:key∈eP [it]:=by simp[eP,I]
  obtain⟨A,B⟩:=W key hkey;have hone:v.oneCell'=true:=by
   rcases l with ⟨rfl,_⟩ | ⟨b,cap,arr,E,vs,fps,rfl,_⟩<;>rfl
  classical
  obtain⟨G',M,Y,C,D,g,F,u⟩:=h.yN key [.part t xs n] (fun _=>v) (fun c=>if lab c then some 0 else none) B A (by simp)
   (fun c j f=>by
    by_cases q:lab c
    ·obtain⟨N,O,P,Q⟩:=hlab c q;exact⟨N,O,P,fun k' j' _ _ _ _ p=>absurd p (Q k' j')⟩
    ·rw[if_neg q]at f;cases f)
   (fun j=>by
    cases j with
    | zero=>
     show jr w G.S t xs n v _
     exact jr.move l (fun b p=>⟨if_pos p,rfl⟩) (fun _ _ _ J=>J)
    | succ j=>trivial)
  have R:Inv w0 G' ((S.dI key [.part t xs n]).wu it (.own key 0)) a w:=by
   refine M.wu (v:=v) ?_ ⟨C,(D 0).symm,hone⟩ fun b off s T=>z b off s T
   cases it with
   | t i s=>exact r
   | b b off s=>show w.cell? ⟨G'.bk b,off,none⟩=_;rw[g];exact r
  refine⟨G',R,g,F,fun c y f=>?_,fun b p=>KX _ it _ b p,fun key' H=>?_,?_⟩
  ·rw[u]at f;by_cases q:lab c
   ·rw[if_pos q]at f;refine .inr ⟨q,fun i e=>?_⟩;rw[e]at f;cases f
   ·rw[if_neg q]at f;exact .inl f
  ·show ((S.dI key _).wu it _).aH key'=_
   rw[KW,bY,if_neg (fun e:key=key'/\_=>H (e.1▸hkey))]
  ·show ((S.dI key _).wu it _).tmps.length=_
   rw[JK];rfl
end loops
end Go.Abs
namespace Go.Abs
open Go.RowKit
section loops
variable {w0:Bs} {G:Gh} {S:St} {a:Act} {w:World}
theorem Aa(it:It)(r:List It):eP (it::r)=eP [it]++eP r:=by
 simp only[eP];split<;>rfl
theorem adm{f:Gh}{roks used:List (Nat×Nat)}{q:St}(B:Inv w0 f q a w)(h:Inv w0 G S a w)(r:G.bk=f.bk)(D:∀b o,(f.S b o\/AK f q roks b o)↔G.S b o)
  (hown:∀b k j,G.ow b=some (.own k j)->∃k' j',(k',j')∈used/\f.ow b=some (.own k' j')) (hbox:∀b i,G.ow b=some (.box i)->f.ow b=some (.box i))
  {it:It} {y:it.sr.den} {c:C} (P:(cAt it).val q=some c) (Q:(afq it.sr c).val q=some y) (E:∀t,it.sr=.ro t->∀k j,c=.own k j->(k,j)∈roks)
  (hnew:it.sr.live=true->∀k j,c=.own k j->(k,j)∉used/\(k,j)∉roks) (R:∀key,key∈eP [it]->key<S.tmps.length/\S.aH key=[])
  (F:∀b off s,it=.b b off s->∃cs,S.gW b=some cs) :
  ∃l,Inv w0 l (S.Qd it y) a w/\l.bk=f.bk/\(∀b o,(f.S b o\/AK f q roks b o)↔l.S b o)/\(∀b k j,l.ow b=some (.own k j)->∃k' j',(k',j')∈used++aQ [c]/\f.ow b=some (.own k' j')) /\
   (∀b i,l.ow b=some (.box i)->f.ow b=some (.box i))/\(∀b,(∃cs,S.gW b=some cs)->∃cs,(S.Qd it y).gW b=some cs)/\(∀key,key∉eP [it]->(S.Qd it y).aH key=S.aH key)/\(S.Qd it y).tmps.length=S.tmps.length:=by
 obtain⟨v,T,H⟩:=aj7 B P;have I:=ajJ B Q H (S0:=G.S) roks (fun b o u=>(D b o).1 u) E (fun k j e n b o u d=>by
  rcases (D b o).2 u with u | ⟨k',j',_,_,_,_,hmem,_,x,_⟩
  ·exact u
  ·rw[d]at x;cases x
   exact absurd hmem (hnew n k j e).2)
 have J:∃lab:Nat->Prop,amn G.S w it y v lab/\∀b,lab b->∃k j,c=.own k j/\f.ow b=some (.own k j)/\it.sr.live=true:=by
  have key:∀(sr:Sr) (z:sr.den),ait G.S w sr z v (fun b=>∃k j,c=.own k j/\f.ow b=some (.own k j)) ->
    ∃lab:Nat->Prop,ait G.S w sr z v lab/\∀b,lab b->∃k j,c=.own k j/\f.ow b=some (.own k j)/\sr.live=true:=by
   intro sr z K;cases sr with
   | ro t=>exact⟨fun _=>False,K,fun _ d=>d.elim⟩
   | own t deep m key=>exact⟨_,K,fun b ⟨k,j,p,g⟩=>⟨k,j,p,g,rfl⟩⟩
   | part t key=>exact⟨_,K,fun b ⟨k,j,p,g⟩=>⟨k,j,p,g,rfl⟩⟩
  exact key it.sr y I
 obtain⟨lab,L,hlab⟩:=J;obtain⟨l,U,V,W,N,X,Y,Z⟩:=agL h r T L (fun b d=>by
  obtain⟨k,j,p,g,n⟩:=hlab b d;have A:=B.oh g;refine⟨A.1,A.2,fun i hi=>?_,fun k' j' hi=>?_⟩
  ·rw[hbox b i hi]at g;cases g
  ·obtain⟨k2,j2,M,O⟩:=hown b k' j' hi;rw[g]at O;cases O
   exact (hnew n k j p).1 M) F R
 refine⟨l,U,V.trans r,fun b o=>by rw[W];exact D b o,fun b k j d=>?_,fun b i d=>?_,X,Y,Z⟩
 ·rcases N b _ d with d | ⟨d,_⟩
  ·obtain⟨k',j',M,e⟩:=hown b k j d;exact⟨k',j',List.mem_append_left _ M,e⟩
  ·obtain⟨k',j',p,g,_⟩:=hlab b d;exact⟨k',j',List.mem_append_right _ (by rw[p];simp[aQ]),g⟩
 ·rcases N b _ d with d | ⟨_,d⟩
  ·exact hbox b i d
  ·exact absurd rfl (d i)
theorem UG{H:Gh}{roks:List (Nat×Nat)}{L:St}(U:Inv w0 H L a w):∀(l:List It) (x:Its l) (p:List (Nat×Nat)×List (Nat×Nat)) (used:List (Nat×Nat)) {G:Gh} {S:St},Inv w0 G S a w->G.bk=H.bk ->
  (∀b o,(H.S b o\/AK H L roks b o)↔G.S b o)->(∀b k j,G.ow b=some (.own k j)->∃k' j',(k',j')∈used/\H.ow b=some (.own k' j'))->(∀b i,G.ow b=some (.box i)->H.ow b=some (.box i)) ->
  (adR l).val L=some x->(keysOf l).val L=some p->nodupB p.1=true->(∀q,q∈p.1->q∉used/\q∉roks)->(∀q,q∈p.2->q∈roks) ->
  F7 (eP l)=true->(∀key,key∈eP l->key<S.tmps.length/\S.aH key=[])->(∀b off s,It.b b off s∈l->∃cs,S.gW b=some cs) ->
  ∃G',Inv w0 G' (S.adf l x) a w/\G'.bk=H.bk
 | [],x,p,used,G,S,h,D,_,_,_,_,_,_,_,_,_,_,_=>⟨G,h,D⟩
 | it::r,x,p,used,G,S,h,D,hS,hown,hbox,V,v,u,y,A,z,M,N=>by
  simp only[keysOf,Rd.aC,zB]at v;obtain⟨c,T,p',W,v⟩:=v;have O:∀t,it.sr=.ro t->∀k j,c=.own k j->(k,j)∈roks:=by
   intro t n k j e;rw[n]at v;simp only[Rd.val,zD]at v;subst v;subst e;exact A _ (by simp[aQ])
  have hnew:it.sr.live=true->∀k j,c=.own k j->(k,j)∉used/\(k,j)∉roks:=by
   intro hl k j e;cases n:it.sr with
   | ro t=>rw[n]at hl;cases hl
   | own t deep m key=>
    rw[n]at v;simp only[Rd.val,zD]at v;subst v;subst e;exact y _ (by simp[aQ])
   | part t key=>
    rw[n]at v;simp only[Rd.val,zD]at v;subst v;subst e;exact y _ (by simp[aQ])
  have hrest:nodupB p'.1=true/\(∀q,q∈p'.1->q∉used++aQ [c]/\q∉roks)/\(∀q,q∈p'.2->q∈roks):=by
   cases n:it.sr with
   | ro t=>
    rw[n]at v;simp only[Rd.val,zD]at v;subst v;refine⟨u,fun q f=>⟨fun g=>?_,(y q f).2⟩,fun q f=>A q (List.mem_append_right _ f)⟩;rcases List.mem_append.1 g with g | g
    ·exact (y q f).1 g
    ·exact (y q f).2 (A q (List.mem_append_left _ g))
   | own t deep m key=>
    rw[n]at v;simp only[Rd.val,zD]at v;subst v;have hcase:nodupB p'.1=true/\∀q,q∈aQ [c]->q∉p'.1:=by
     cases c with
     | own k j=>
      have B:nodupB ((k,j)::p'.1)=true:=u;obtain⟨I,J⟩:=lZ B;exact⟨J,fun q f=>by simp[aQ]at f;rw[f];exact I⟩
     | undef=>exact⟨u,fun q f=>by cases f⟩
     | d x=>exact⟨u,fun q f=>by cases f⟩
     | nil=>exact⟨u,fun q f=>by cases f⟩
     | ptr b off=>exact⟨u,fun q f=>by cases f⟩
    refine⟨hcase.1,fun q f=>⟨fun g=>?_,(y q (List.mem_append_right _ f)).2⟩,A⟩;rcases List.mem_append.1 g with g | g
    ·exact (y q (List.mem_append_right _ f)).1 g
    ·exact hcase.2 q g f
   | part t key=>
    rw[n]at v;simp only[Rd.val,zD]at v;subst v;have hcase:nodupB p'.1=true/\∀q,q∈aQ [c]->q∉p'.1:=by
     cases c with
     | own k j=>
      have B:nodupB ((k,j)::p'.1)=true:=u;obtain⟨I,J⟩:=lZ B;exact⟨J,fun q f=>by simp[aQ]at f;rw[f];exact I⟩
     | undef=>exact⟨u,fun q f=>by cases f⟩
     | d x=>exact⟨u,fun q f=>by cases f⟩
     | nil=>exact⟨u,fun q f=>by cases f⟩
     | ptr b off=>exact⟨u,fun q f=>by cases f⟩
    refine⟨hcase.1,fun q f=>⟨fun g=>?_,(y q (List.mem_append_right _ f)).2⟩,A⟩;rcases List.mem_append.1 g with g | g
    ·exact (y q (List.mem_append_right _ f)).1 g
    ·exact hcase.2 q g f
  have P:∀key,key∈eP [it]->key<S.tmps.length/\S.aH key=[]:=fun key g=>M key (by rw[Aa];exact List.mem_append_left _ g)
  have E:∀b off s,it=.b b off s->∃cs,S.gW b=some cs:=fun b off s e=>N b off s (e▸aq)
  cases r with
  | nil=>
   have Q:(ahL it).val L=some x:=V;simp only[ahL,Rd.aC,zB]at Q;obtain⟨c',C,X⟩:=Q;rw[T]at C;cases C
   obtain⟨G2,Y,Z,_⟩:=adm U h D hS hown hbox T X O hnew P E;exact⟨G2,Y,Z⟩
  | cons K r=>
   simp only[adR,Rd.aC,zB,Rd.val,zD]at V;obtain⟨x1,R,x2,hx2,rfl⟩:=V;simp only[ahL,Rd.aC,zB]at R;obtain⟨c',C,X⟩:=R;rw[T]at C;cases C
   obtain⟨G2,Y,Z,q3,q4,q5,q6,q7,q8⟩:=adm U h D hS hown hbox T X O hnew P E;have F:F7 (eP (K::r))=true/\∀key,key∈eP [it]->key∉eP (K::r):=by
    rw[Aa]at z;cases n:it.sr with
    | ro t=>
     have:eP [it]=[]:=by simp[eP,n]
     rw[this]at z ⊢;exact⟨z,fun key g=>by cases g⟩
    | own t deep m key=>
     have:eP [it]=[key]:=by simp[eP,n]
     rw[this]at z ⊢;obtain⟨I,J⟩:=MP z;exact⟨J,fun key' g=>by simp at g;rw[g];exact I⟩
    | part t key=>
     have:eP [it]=[key]:=by simp[eP,n]
     rw[this]at z ⊢;obtain⟨I,J⟩:=MP z;exact⟨J,fun key' g=>by simp at g;rw[g];exact I⟩
   refine UG U (K::r) x2 p' (used++aQ [c]) Y Z q3 q4 q5 hx2 W hrest.1 hrest.2.1 hrest.2.2 F.1 (fun key g=>?_) fun b off s g=>q6 b (N b off s (ao _ g))
   have hne:key∉eP [it]:=fun hm'=>F.2 key hm' g
   have:=M key (by rw[Aa];exact List.mem_append_right _ g);rw[q7 key hne,q8];exact this
theorem Vh:∀ {l:List (Nat×Nat×Nat)} {u:Unit},(adZ l).val S=some u->∀i b off,(i,b,off)∈l->∃k j cs,S.jm i=.v (.one (.own k j))/\S.gW b=some cs/\cs[off]?=some (.own k j)
 | [],_,_,i,b,off,a=>(by cases a)
 | (i',b',off')::r,u,h,i,b,off,a=>by
  simp only[adZ,Rd.val]at h;split at h
  case h_2=>cases h
  rename_i k j c;simp only[Rd.val]at h;split at h
  case h_2=>cases h
  rename_i cs d;split at h
  case h_2=>cases h
  rename_i k' j' f;split at h
  case isFalse=>cases h
  rename_i g;obtain⟨rfl,rfl⟩:=g;rcases a8.1 a with e | a
  ·cases e;exact⟨k,j,cs,c,d,f⟩
  ·exact Vh h i b off a
theorem zY{G':Gh}:∀ {l:List (Nat×Nat×Nat)} {S':St},Inv w0 G' S' a w ->
  (∀i b off,(i,b,off)∈l->∃(vs:List Value) (E:TypeId),w.heap[G'.bk b]?=some (.cells vs.toArray E (0,0))/\vs[off]?=some (a.tmps.getD i undef))->Inv w0 G' (S'.Kq l) a w
 | [],S',h,_=>h
 | (i,b,off)::r,S',h,f=>by
  have d:=fun i' b' off' g=>f i' b' off' (ao _ g)
  unfold St.Kq;split
  ·rename_i cs m;split
   ·rename_i k j n;refine zY (h.VQ i ?_) d;obtain⟨vs,E,o,p⟩:=f i b off aq;obtain⟨_,vs',E',c,q⟩:=h.box b cs m;rw[o]at c;have e:vs=vs':=by
     injection c with c;injection c with c _ _;simpa using congrArg Array.toList c
    subst e;obtain⟨_,s⟩:=q.get;exact s off _ _ n p
   ·exact zY h d
  ·exact zY h d
theorem Ve:∀ {l:List (Nat×Nat×Nat×Nat)} {u:Unit},(adY l).val S=some u->∀b' off' b off,(b',off',b,off)∈l->∃k j cs' cs,S.gW b'=some cs'/\S.gW b=some cs/\cs'[off']?=some (.own k j)/\cs[off]?=some (.own k j)
 | [],_,_,b',off',b,off,a=>(by cases a)
 | (b1',off1',m,off1)::r,u,h,b',off',b,off,a=>by
  simp only[adY,Rd.val]at h;split at h
  case h_2=>cases h
  rename_i cs' c;simp only[Rd.val]at h;split at h
  case h_2=>cases h
  rename_i cs f;split at h
  case h_2=>cases h
  rename_i k' j' k j d g;split at h
  case isFalse=>cases h
  rename_i i;obtain⟨rfl,rfl⟩:=i;rcases a8.1 a with e | a
  ·cases e;exact⟨k,j,cs',cs,c,f,d,g⟩
  ·exact Ve h b' off' b off a
theorem zX{G':Gh}:∀ {l:List (Nat×Nat×Nat×Nat)} {S':St},Inv w0 G' S' a w ->
  (∀b' off' b off,(b',off',b,off)∈l->∃v,w.cell? ⟨G'.bk b',off',none⟩=some v/\w.cell? ⟨G'.bk b,off,none⟩=some v)->Inv w0 G' (S'.Ko l) a w
 | [],S',h,_=>h
 | (b',off',b,off)::r,S',h,e=>by
  have c:=fun g i m n o=>e g i m n (ao _ o)
  unfold St.Ko;split
  ·rename_i cs' cs d p;split
   ·rename_i k j q;obtain⟨v,s,f⟩:=e b' off' b off aq;obtain⟨_,vs,E,t,u⟩:=h.box b cs p;obtain⟨y,x⟩:=u.get;rw[cell_of_row _ _ _ _ _ _ t]at f;exact zX (h.X3 b' off' d s (x off _ v q (by simpa using f))) c
   ·exact zX h c
  ·exact zX h c
theorem Um:∀ {l:List (Nat×Nat)} {u:Unit},(acR l).val S=some u->∀i i',(i,i')∈l->∃k j,S.jm i=.v (.one (.own k j))/\S.jm i'=.v (.one (.own k j))
 | [],_,_,i,i',a=>(by cases a)
 | (f,i1')::r,u,h,i,i',a=>by
  simp only[acR,Rd.val]at h;split at h
  case h_2=>cases h
  rename_i k j c;simp only[Rd.val]at h;split at h
  case h_2=>cases h
  rename_i k' j' b;split at h
  case isFalse=>cases h
  rename_i d;obtain⟨rfl,rfl⟩:=d;rcases a8.1 a with e | a
  ·cases e;exact⟨k,j,c,b⟩
  ·exact Um h i i' a
theorem FX{G':Gh}:∀ {l:List (Nat×Nat)} {S':St},Inv w0 G' S' a w ->
  (∀i i',(i,i')∈l->a.tmps.getD i undef=a.tmps.getD i' undef)->Inv w0 G' (S'.Qb l) a w
 | [],S',h,_=>h
 | (i,i')::r,S',h,b=>by
  have c:=fun x y d=>b x y (ao _ d)
  unfold St.Qb;split
  ·rename_i k j e;refine FX (h.VQ i ?_) c;rw[b i i' aq,<- e];exact h.jm i'
  ·exact FX h c
theorem QG(h:Inv w0 G S a w){la:LA}{x:Its la.its}(e:la.get.val S=some x):∃G',Inv w0 G' (la.put x) a w:=by
 simp only[LA.get,Rd.val]at e;split at e
 case isFalse=>cases e
 rename_i m;obtain⟨T,A,B,C,D⟩:=m;simp only[Rd.aC,zB]at e;obtain⟨u,U,u',V,ua,F,ub,H,uc,I,p,W,e⟩:=e;split at e
 case isFalse=>cases e
 rename_i J;rw[zI]at J;obtain⟨G0,X,K,L,Y,Z⟩:=aic h T U V C p.2;suffices hs:∃G',Inv w0 G' (la.base.adf la.its x) a w/\G'.bk=G.bk by
  obtain⟨G',h',g⟩:=hs;refine⟨G',FX (zX (zY h' fun i b off c=>?_) fun b' off' b off c=>?_) fun i i' c=>?_⟩
  case refine_3=>
   obtain⟨k,j,o,r⟩:=Um I i i' c
   have r1:jV G w (.v (.one (.own k j))) (a.tmps.getD i undef):=by rw[<- o];exact h.jm i
   have r2:jV G w (.v (.one (.own k j))) (a.tmps.getD i' undef):=by rw[<- r];exact h.jm i'
   exact r1.2.1.trans r2.2.1.symm
  case refine_2=>
   obtain⟨k,j,cs',cs,o,r,t,k4⟩:=Ve H b' off' b off c
   obtain⟨_,vs',E',q1,q2⟩:=h.box b' cs' o
   obtain⟨_,vs,E,q3,q4⟩:=h.box b cs r
   obtain⟨M,N⟩:=q2.get
   obtain⟨l,m⟩:=q4.get
   have f:off'<vs'.length:=by rw[<- M];exact (zC.1 t).1
   have d:off<vs.length:=by rw[<- l];exact (zC.1 k4).1
   have K:=N off' _ _ t (zF f)
   have L:=m off _ _ k4 (zF d)
   refine⟨G.ov k j,?_,?_⟩
   ·rw[g,cell_of_row _ _ _ _ _ _ q1,List.getElem?_toArray,zF f,K.2.1]
   ·rw[g,cell_of_row _ _ _ _ _ _ q3,List.getElem?_toArray,zF d,L.2.1]
  obtain⟨k,j,cs,o,r,t⟩:=Vh F i b off c;obtain⟨_,vs,E,k4,k5⟩:=h.box b cs r;refine⟨vs,E,by rw[g];exact k4,?_⟩;have hr:jV G w (.v (.one (.own k j))) (a.tmps.getD i undef):=by rw[<- o];exact h.jm i
  obtain⟨l,m⟩:=k5.get;have d:off<vs.length:=by rw[<- l];exact (zC.1 t).1
  have:=m off _ _ t (zF d);rw[zF d,this.2.1,<- hr.2.1]
 refine UG h la.its x p [] X K L (fun b k j hh=>absurd hh (Y b k j)) Z e W J.1 (fun q O=>⟨by simp,fun c=>?_⟩) (fun q O=>O) A (fun key c=>?_) fun b off s c=>?_
 ·have:=List.all_eq_true.1 J.2 q O;simp only[Bool.not_eq_true',List.any_eq_false,zI,beq_iff_eq,not_and]at this;exact this q c rfl rfl
 ·have:=List.all_eq_true.1 B key c;rw[(aag la).1];exact⟨by simpa using this,Vf la key⟩
 ·have:=List.all_eq_true.1 D _ c;simp only at this;obtain⟨⟨b',n⟩,y,z⟩:=List.any_eq_true.1 this;simp at z;subst z;obtain⟨cs,P,_⟩:=xh U b' n y;have Q:b'<la.n:=by
   have:b'<S.boxes.length:=by
    rcases Nat.lt_or_ge b' S.boxes.length with l | l
    ·exact l
    ·simp[St.gW,zE,zJ l]at P
   rw[h.bsz,T]at this;exact this
  rcases Lj la b' with ⟨_,R⟩ | ⟨q,_,_,R⟩
  ·exact absurd rfl (R Q _ y)
  ·exact⟨_,R⟩
end loops
theorem KH{X ρ:Type}{f:X->Option (X⊕ρ)}:∀ {n:Nat} {x:X} {r:ρ},iter f n x=some r->∀ {m:Nat} {r':ρ},iter f m x=some r'->r=r'
 | 0,x,r,h,_,_,_=>by cases h
 | n+1,x,r,h,0,r',a=>by cases a
 | n+1,x,r,h,m+1,r',a=>by
  simp only[iter]at h a;split at h
  ·cases h
  ·rename_i y b;rw[b]at a;exact KH h a
  ·rename_i c b;rw[b]at a;simp only[zD]at h a;rw[<- h,<- a]
theorem qH{X ρ:Type}{f:X->Option (X⊕ρ)}{x:X}{r:ρ}(h:aA f x=some r):∃n,iter f n x=some r:=by
 unfold aA at h;split at h
 ·rename_i hh;simp only[zD]at h;have:=hh.choose_spec.choose_spec;rw[h]at this;exact⟨_,this⟩
 ·cases h
theorem aF{X ρ:Type}(f:X->Option (X⊕ρ))(x:X):aA f x=match f x with
  | none=>none
  | some (.inl y)=>aA f y
  | some (.inr r)=>some r:=by
 have up:∀ {y:X} {r:ρ} {n:Nat},iter f n y=some r->aA f y=some r:=by
  intro y r n a;have hh:∃n r,iter f n y=some r:=⟨n,r,a⟩;unfold aA;rw[dif_pos hh];exact congrArg some (KH hh.choose_spec.choose_spec a)
 have none_of:∀ {y:X},(∀n r,iter f n y≠some r)->aA f y=none:=by
  intro y d;unfold aA;rw[dif_neg];rintro⟨n,r,h⟩;exact d n r h
 split
 ·rename_i b;refine none_of fun n r a=>?_
  cases n with
  | zero=>cases a
  | succ n=>simp only[iter,b]at a;cases a
 ·rename_i y b;cases c:aA f y with
  | some r=>
   obtain⟨n,a⟩:=qH c;exact up (n:=n+1) (by simp only[iter,b];exact a)
  | none=>
   refine none_of fun n r a=>?_
   cases n with
   | zero=>cases a
   | succ n=>
    simp only[iter,b]at a;rw[up a]at c;cases c
 ·rename_i r b;exact up (n:=1) (by simp only[iter,b])
end Go.Abs
namespace Go.Abs
open Go.RowKit
def Ex.up:Ex->Exit
 | .normal=>.normal
 | .exit id=>.exit id
 | .ret=>.ret
section code
variable {P:Program} {w0:Bs} {E:Env} {an:List (Nat×LA)}
theorem ab4{c:Code}{ρ:Type}{r:ρ}{la:LA}{f:Its la.its->Option (Its la.its⊕ρ)}{n0:Nat}{l:Its la.its}(o:iter f n0 l=some r){B:Gh}{a:Act}{w:World}(K:Inv w0 B (la.put l) a w)
  {k:Ex->St->Option ρ} {Q:Exit->Act->World->Prop}
  (hround:∀(x:Its la.its) (res:Its la.its⊕ρ) (a:Act) (w:World) (G:Gh),f x=some res->Inv w0 G (la.put x) a w->∀Q':Exit->Act->World->Prop,(∀y a' w' G',res=.inl y->Inv w0 G' (la.put y) a' w'->Q' .normal a' w') ->
   (∀(r:ρ) (e:Ex) S' a' w' G',res=.inr r->e≠.normal->k e S'=some r->Inv w0 G' S' a' w'->Q' e.up a' w')->c.wp P Q' a w)
  (C:∀e S' a' w' G',k e S'=some r->Inv w0 G' S' a' w'->Q e.up a' w'):(Code.loop c).wp P Q a w:=by
 let J:Nat->Act->World->Prop:=fun n a w=>∃(x:Its la.its) (G:Gh),iter f n x=some r/\Inv w0 G (la.put x) a w
 classical
 have least:∀ {a:Act} {w:World},(∃n,J n a w)->∃n,J n a w/\∀m,J m a w->n<=m:=by
  intro a w ⟨n,p⟩;have key:∀n,J n a w->∃n,J n a w/\∀m,J m a w->n<=m:=by
   intro n;induction n using Nat.strongRecOn with
   | _ n ih=>
    intro p;by_cases j:∃m,m<n/\J m a w
    ·obtain⟨m,q,d⟩:=j;exact ih m q d
    ·refine⟨n,p,fun m d=>?_⟩;rcases Nat.lt_or_ge m n with s | s
     ·exact absurd ⟨m,s,d⟩ j
     ·exact s
  exact key n p
 refine wp_loop (fun a w=>∃n,J n a w) (fun a w=>if hh:∃n,J n a w then (least hh).choose else 0) ⟨n0,l,B,o,K⟩ ?_;intro D w1 t;obtain⟨E,hmin⟩:=(least t).choose_spec;rw[dif_pos t];generalize (least t).choose=n at E hmin;obtain⟨x,F,b,H⟩:=E;cases n with
 | zero=>cases b
 | succ n=>
  simp only[iter]at b;split at b
  ·cases b
  ·rename_i y u;refine hround x _ D w1 F u H _ (fun z a' w' G' v i=>?_) (fun r' e S' a' w' G' g _ _ _=>by cases g);cases v
   have h:∃n,J n a' w':=⟨n,y,G',b,i⟩;show (∃n,J n a' w')/\_
   refine⟨h,?_⟩;rw[dif_pos h];have:=(least h).choose_spec.2 n ⟨y,G',b,i⟩;omega
  ·rename_i L u;simp only[zD]at b;subst b;refine hround x _ D w1 F u H _ (fun z a' w' G' v i=>by cases v) (fun r' e S' a' w' G' g A I i=>?_);cases g
   cases e with
   | normal=>exact absurd rfl A
   | exit id=>exact C (.exit id) S' a' w' G' I i
   | ret=>exact C .ret S' a' w' G' I i
theorem ni.split{w:World}{S:Nat->Nat->Prop}{dp:Bool}{t:Ty}{xs:List t.den}{cells:List Value}{lab:Nat->Prop}(h:ni w S dp t xs cells lab){m:Nat}(q:m<=xs.length) :
  ∃lab1 lab2:Nat->Prop,(∀c,lab1 c->lab c)/\(∀c,lab2 c->lab c)/\(∀c,lab1 c->lab2 c->False)/\ni w S dp t (xs.take m) (cells.take (m*t.size)) lab1/\ni w S dp t (xs.drop m) (cells.drop (m*t.size)) lab2:=by
 obtain⟨r,s,vs,fps,u,y,l⟩:=h;refine⟨fun c=>∃i j,i<m/\fps i j c,fun c=>∃i j,m<=i/\fps i j c,fun c ⟨i,j,_,a⟩=>y i j c a,fun c ⟨i,j,_,a⟩=>y i j c a,fun c ⟨i,j,hi,a⟩ ⟨i',j',z,b⟩=>?_,?_,?_⟩
 ·have:=(l i j i' j' c a b).1;omega
 ·refine⟨?_,fun v n=>s v (List.mem_of_mem_take n),vs,fun i j c=>i<m/\fps i j c,fun i x j d f k=>?_,fun i j c a=>⟨i,j,a⟩,fun i j i' j' c a b=>l i j i' j' c a.2 b.2⟩
  ·rw[a7,a7,r,Nat.min_eq_left q,Nat.min_eq_left (Nat.mul_le_mul_right _ q)]
  ·rw[List.getElem?_take]at f;split at f
   case isFalse=>cases f
   rename_i g;obtain⟨o,p⟩:=u i x j d f k;have A:j<t.size:=by rw[<- Ty.bQ t x];exact (zC.1 k).1
   refine⟨?_,p.sub (fun c a=>⟨g,a⟩) fun e=>e⟩;rw[List.getElem?_take,if_pos (yP g A)];exact o
 ·refine⟨?_,fun v n=>s v (List.mem_of_mem_drop n),fun i j=>vs (m+i) j,fun i j=>fps (m+i) j,fun i x j d f k=>?_,fun i j c a=>⟨m+i,j,by omega,a⟩,fun i j i' j' c a b=>?_⟩
  ·rw[List.length_drop,List.length_drop,r,Nat.sub_mul]
  ·rw[List.getElem?_drop]at f;obtain⟨o,p⟩:=u _ x j d f k;refine⟨?_,p⟩;rw[List.getElem?_drop,<- Nat.add_assoc,<- Nat.add_mul];exact o
  ·have:=l _ _ _ _ c a b;exact⟨by omega,this.2⟩
theorem afx{G:Gh}{S:St}{a:Act}{w:World}{s i B C:Nat}{ws:List W}(l:(ahZ s i B C).val S=some ws)(h:Inv w0 G S a w):∃G',Inv w0 G' (S.puts ws) a w:=by
 simp only[ahZ,Rd.val]at l;split at l
 case h_2=>cases l
 rename_i k j D;simp only[Rd.val]at l;split at l
 case h_2=>cases l
 rename_i t xs m hown;simp only[Rd.val,Rd.aC,zB]at l;obtain⟨n,_,m',z,w1,h1,w2,h2,l⟩:=l;split at l
 case isFalse=>cases l
 rename_i d;obtain⟨c1,c2,c3,c4,c5⟩:=d;simp only[Rd.val,zD]at l;subst l;obtain⟨X,rfl⟩:=iD h1;obtain⟨Y,rfl⟩:=iD h2;have r:m'<=xs.length:=by
  unfold cutAt at z;split at z
  ·rename_i hn;cases z;omega
  ·cases z
 have hslot:=h.jm s;rw[D]at hslot;obtain⟨hlk,Q,_⟩:=hslot;have hO:=h.owns k j;rw[hown]at hO;have Z:OwT w G.S true m t xs (G.ov k j) (iE G k j):=hO;have hA:=h.GI k j .dead trivial;have hdead:bF ((S.dI k ((S.aH k).set j .dead)).aH k) j=.dead:=Eh;have e1:(S.dI k ((S.aH k).set j .dead)).aH B=[]:=nN X;have e2:(S.dI k ((S.aH k).set j .dead)).aH C=[]:=nN Y;have etl:(S.dI k ((S.aH k).set j .dead)).tmps.length=S.tmps.length:=rfl;generalize hS1:S.dI k ((S.aH k).set j .dead)=V at *;have fin:∀ {F:Gh} (lab1 lab2:Nat->Prop) (L M:Value),Inv w0 F V a w->F.ow=G.ow->(∀c,lab1 c->iE G k j c)->(∀c,lab2 c->iE G k j c)->(∀c,lab1 c->lab2 c->False) ->
   BA w F.S t (xs.take m') L lab1->BA w F.S t (xs.drop m') M lab2 ->
   ((G.ov k j=.slice none 0 0/\m'=0/\L=.slice none 0 0/\M=.slice none 0 0) \/
    ∃b cap,G.ov k j=.slice (some ⟨b,0,none⟩) xs.length cap/\xs.length<=cap/\m'<=xs.length/\L=.slice (some ⟨b,0,none⟩) m' cap/\M=.slice (some ⟨b,if cap=m' then 0 else m'*t.size,none⟩) (xs.length-m') (cap-m')) ->
   ∃G',Inv w0 G' (((V.dI B [.seg t (xs.take m')]).dI C [.seg t (xs.drop m')]).jW s (.cut t xs.length m' B C)) a w:=by
  intro F lab1 lab2 L M hB H hl1 hl2 hdis hs1 hs2 hval;classical
  obtain⟨G2,hB2,hm2,q1,q2,q3,q4,q5⟩:=hB.yN B [.seg t (xs.take m')] (fun _=>L) (fun c=>if lab1 c then some 0 else none) e1 (by rw[etl];exact c4) (by simp)
   (fun c j' d=>by
    by_cases N:lab1 c
    ·have P:=hl1 c N;have g:=h.oh P;refine⟨g.1,g.2,fun i' q=>?_,fun k' j'' t2 I d2 m2 q=>?_⟩
     ·rw[H,show G.ow c=_ from P]at q;cases q
     ·rw[H,show G.ow c=_ from P]at q;cases q;rw[hdead];simp[O.iO]
    ·rw[if_neg N]at d;cases d)
   (fun j'=>by
    cases j' with
    | zero=>
     show BA w F.S t (xs.take m') L _
     exact hs1.move (fun b o D=>⟨D,rfl⟩) fun c d=>⟨if_pos d,rfl⟩
    | succ j'=>trivial)
  have e3:(V.dI B [.seg t (xs.take m')]).aH C=[]:=by
   rw[bY,if_neg (fun e=>c1 e.1)];exact e2
  obtain⟨G3,hB3,R,r1,r2,r3,r4,r5⟩:=hB2.yN C [.seg t (xs.drop m')] (fun _=>M) (fun c=>if lab2 c then some 0 else none) e3 (by show C<V.tmps.length;rw[etl];exact c5) (by simp)
   (fun c j' d=>by
    by_cases N:lab2 c
    ·have P:=hl2 c N;have g:=h.oh P;have T:G2.ow c=some (.own k j):=by
      rw[q5,if_neg (fun hh=>hdis c hh N)];show F.ow c=_
      rw[H];exact P
     refine⟨g.1,g.2,fun i' q=>?_,fun k' j'' t2 I d2 m2 q=>?_⟩
     ·rw[T]at q;cases q
     ·rw[T]at q;cases q;rw[bY,if_neg (fun e=>c2 e.1),hdead];simp[O.iO]
    ·rw[if_neg N]at d;cases d)
   (fun j'=>by
    cases j' with
    | zero=>
     show BA w G2.S t (xs.drop m') M _
     rw[q4];exact hs2.move (fun b o D=>⟨D,rfl⟩) fun c d=>⟨if_pos d,rfl⟩
    | succ j'=>trivial)
  refine⟨G3,hB3.VQ s ?_⟩;refine⟨(R.k B q1).1,r1,?_⟩;rw[(R.k B q1).2 0,q2,r2];rcases hval with ⟨f1,f2,f3,f4⟩ | ⟨b,cap,f1,f2,f3,f4,f5⟩
  ·exact .inl ⟨by rw[Q];exact f1,f2,f3,f4⟩
  ·exact .inr ⟨b,cap,by rw[Q];exact f1,f2,f3,f4,f5⟩
 show ∃G',Inv w0 G' ((S.dI k ((S.aH k).set j .dead)).puts _) a w
 rw[hS1];rcases Z.laid with ⟨J,K⟩ | ⟨b,cap,arr,E,rest,cells,J,q,hcap,hmax,hasz,v,harr,hL,hsS⟩
 ·have hm0:m'=0:=by rw[K]at r;simpa using r
  have hempty:∀(ys:List t.den),ys=[]->BA w G.S t ys (.slice none 0 0) (fun _=>False):=fun ys hy=>.inl ⟨⟨none,0,rfl,fun _=>rfl⟩,hy⟩
  exact fin (fun _=>False) (fun _=>False) (.slice none 0 0) (.slice none 0 0) hA rfl (fun _ hh=>hh.elim) (fun _ hh=>hh.elim) (fun _ hh=>hh.elim) (hempty _ (by rw[K];simp)) (hempty _ (by rw[K];simp)) (.inl ⟨J,hm0,rfl,rfl⟩)
 ·obtain⟨hB,hmB⟩:=hA.acG (fun b' o=>b'=b/\o<xs.length*t.size)
   (fun b' o x=>by
    obtain⟨rfl,_⟩:=x;have g:=h.oh v;refine⟨g.2,fun i' U=>?_,fun k' j' t2 I d2 m2 A len cap' hov' f=>?_⟩
    ·rw[show G.ow b'=_ from v]at U;cases U
    ·rw[show G.ow b'=_ from v]at f;cases f;rw[hdead]at A;cases A)
   (fun b' o x=>by obtain⟨rfl,_⟩:=x;exact (h.oh v).1)
   (fun b' o x k' j' t2 I A f=>by
    obtain⟨rfl,_⟩:=x;rw[show G.ow b'=_ from v]at f;cases f;rcases A with A | ⟨_,A⟩ | A<;>rw[hdead]at A<;>cases A)
  have hL':=hL.move (S':=fun b' o=>G.S b' o\/(b'=b/\o<xs.length*t.size)) (w':=w) (fun b' o D=>⟨.inl D,rfl⟩) (fun c d=>⟨d,rfl⟩);obtain⟨lab1,lab2,l1,l2,l3,l4,l5⟩:=hL'.split r;have hcell:∀p u,cells[p]?=some u->w.cell? ⟨b,p,none⟩=some u/\p<xs.length*t.size:=by
   intro p u y;have hp:=(zC.1 y).1;refine⟨?_,by rw[<- hL.1];exact hp⟩;rw[cell_of_row _ _ _ _ _ _ q,<- Array.getElem?_toList,harr,List.getElem?_append_left hp];exact y
  have hmul:m'*t.size<=xs.length*t.size:=Nat.mul_le_mul_right _ r;refine fin lab1 lab2 (.slice (some ⟨b,0,none⟩) m' cap) (.slice (some ⟨b,if cap=m' then 0 else m'*t.size,none⟩) (xs.length-m') (cap-m')) hB rfl (fun c d=>(l1 c d).1) (fun c d=>(l2 c d).1) l3 ?_ ?_ (.inr ⟨b,cap,J,hcap,r,rfl,rfl⟩)
  ·have hlen:(xs.take m').length=m':=by rw[a7];omega
   refine .inr ⟨b,0,cap,cells.take (m'*t.size),by rw[hlen],fun p u y=>?_,l4⟩;rw[List.getElem?_take]at y;split at y
   case isFalse=>cases y
   obtain⟨g1,g2⟩:=hcell p u y;rw[Nat.zero_add];exact⟨g1,.inr ⟨rfl,g2⟩⟩
  ·have hlen:(xs.drop m').length=xs.length-m':=List.length_drop;by_cases hz:xs.length=m'
   ·refine .inl ⟨⟨_,cap-m',by rw[hz,Nat.sub_self],fun hh=>by cases hh⟩,?_⟩;exact List.eq_nil_of_length_eq_zero (by rw[hlen];omega)
   ·have hcm:¬cap=m':=by omega
    rw[if_neg hcm];refine .inr ⟨b,m'*t.size,cap-m',cells.drop (m'*t.size),by rw[hlen],fun p u y=>?_,l5⟩;rw[List.getElem?_drop]at y;obtain⟨g1,g2⟩:=hcell _ u y;exact⟨g1,.inr ⟨rfl,g2⟩⟩
theorem Rq{G:Gh}{S:St}{a:Act}{w:World}{ρ:Type}{E:Env}{id:Nat}{k:St->Option ρ}{r:ρ}(b:ajT E id S k=some r)(h:Inv w0 G S a w):∃S' G',Inv w0 G' S' a w/\k S'=some r:=by
 unfold ajT at b;split at b
 ·exact⟨S,G,h,b⟩
 ·rw[Rd.lH,zB]at b;obtain⟨ws,c,d⟩:=b;obtain⟨G',e⟩:=afx c h;exact⟨_,G',e,d⟩
theorem jA(o:DT P E w0)(p:P.follows .mixedOrders=true):∀(c:Code) {ρ:Type} {r:ρ} {S:St} {a:Act} {w:World} {G:Gh} {k:Ex->St->Option ρ} {Q:Exit->Act->World->Prop},
  den E an c S k=some r->Inv w0 G S a w->(∀e S' a' w' G',k e S'=some r->Inv w0 G' S' a' w'->Q e.up a' w')->c.wp P Q a w
 | .skip,ρ,r,S,a,w,G,k,Q,d,h,f=>wp_skip (f .normal S a w G d h)
 | .label l,ρ,r,S,a,w,G,k,Q,d,h,f=>wp_label (f .normal S a w G d h)
 | .region id ops false,ρ,r,S,a,w,G,k,Q,d,h,f=>by
  obtain⟨N,K,u,n⟩:=Rq (k:=fun S=>alT E ops ops.toList S fun S=>k .normal S) d h;refine wp_region ?_;have:=abR (P:=P) (w0:=w0) (E:=E) (ops:=ops) (Q:=Q) o (k:=fun S=>k .normal S) (fun S' a' w' G' b m=>f .normal S' a' w' G' b m) (l:=ops.toList) (i:=0) (by simp) n u;rw[List.range_eq_range'];simpa using this
 | .region id ops true,ρ,r,S,a,w,G,k,Q,d,h,f=>by
  obtain⟨N,K,u,n⟩:=Rq (k:=fun S=>ai7 E ops id S fun S=>k .normal S) d h;exact acu o p (k:=fun S=>k .normal S) n u fun S' a' w' G' b m=>f .normal S' a' w' G' b m
 | .seq x y,ρ,r,S,a,w,G,k,Q,d,h,f=>by
  simp only[den]at d;split at d
  ·refine wp_seq (jA o p x (Q:=Exit.then (y.wp P Q) Q) d h fun e S' a' w' G' b m=>?_);cases e with
   | normal=>exact jA o p y b m f
   | exit id=>exact f (.exit id) S' a' w' G' b m
   | ret=>exact f .ret S' a' w' G' b m
  ·rename_i la A;unfold aht at d;rw[zB]at d;obtain⟨j,O,B⟩:=d;refine wp_seq (jA o p x (Q:=Exit.then (y.wp P Q) Q) O h fun e S' a' w' G' b m=>?_);cases e with
   | normal=>
    simp only at b;rw[Rd.lH,zB]at b;obtain⟨z,C,b⟩:=b;cases b
    obtain⟨L,D⟩:=QG m C;exact jA o p y B D f
   | exit id=>
    simp only at b;rw[zB]at b;obtain⟨r',b,g⟩:=b;cases g
    cases B
    exact f (.exit id) S' a' w' G' b m
   | ret=>
    simp only at b;rw[zB]at b;obtain⟨r',b,g⟩:=b;cases g
    cases B
    exact f .ret S' a' w' G' b m
 | .cond c x y,ρ,r,S,a,w,G,k,Q,d,h,f=>by
  simp only[den]at d;split at d
  ·rename_i t;have n:=UY d;have v:=h.jm t;split at n
   ·rename_i F;rw[F]at v;have g:Rep w G.S (.bool true) (a.eval (.tmp t)):=v;generalize q:a.eval (.tmp t)=vv at g;cases g
    exact wp_cond_true q (jA o p x n h f)
   ·rename_i F;rw[F]at v;have g:Rep w G.S (.bool false) (a.eval (.tmp t)):=v;generalize q:a.eval (.tmp t)=vv at g;cases g
    exact wp_cond_false q (jA o p y n h f)
   ·cases n
  ·cases d
 | .block id c,ρ,r,S,a,w,G,k,Q,d,h,f=>by
  refine wp_block (jA o p c (Q:=Exit.inBlock id Q) d h fun e S' a' w' G' b m=>?_);cases e with
  | normal=>exact f .normal S' a' w' G' b m
  | exit i=>
   simp only at b;show (if i=id then Q .normal a' w' else Q (.exit i) a' w')
   by_cases hi:i=id
   ·rw[if_pos hi]at b ⊢;exact f .normal S' a' w' G' b m
   ·rw[if_neg hi]at b ⊢;exact f (.exit i) S' a' w' G' b m
  | ret=>exact f .ret S' a' w' G' b m
 | .loop c,ρ,r,S,a,w,G,k,Q,d,h,f=>by
  simp only[den]at d;split at d
  ·cases d
  rename_i la A;rw[Rd.lH,zB]at d;obtain⟨V,H,R⟩:=d;obtain⟨n0,I⟩:=qH R;obtain⟨W,T⟩:=QG h H;refine ab4 I T (fun x res X w1 K J u Q' U M=>jA o p c J u fun e S' a' w' G' b m=>?_) (fun e S' a' w' G' b m=>f e S' a' w' G' b m);cases e with
  | normal=>
   simp only at b;rw[Rd.lH,zB]at b;obtain⟨z,C,b⟩:=b;obtain⟨L,D⟩:=QG m C;exact U z a' w' L (aM b).symm D
  | exit id=>
   simp only at b;rw[zB]at b;obtain⟨r',b,g⟩:=b;exact M r' (.exit id) S' a' w' G' (aM g).symm (by simp) b m
  | ret=>
   simp only at b;rw[zB]at b;obtain⟨r',b,g⟩:=b;exact M r' .ret S' a' w' G' (aM g).symm (by simp) b m
 | .exit id,ρ,r,S,a,w,G,k,Q,d,h,f=>wp_exit (f (.exit id) S a w G d h)
 | .ret,ρ,r,S,a,w,G,k,Q,d,h,f=>wp_ret (f .ret S a w G d h)
 | .scope c,ρ,r,S,a,w,G,k,Q,d,h,f=>by cases d
 | .goto l,ρ,r,S,a,w,G,k,Q,d,h,f=>by cases d
 | .rangeFunc ..,ρ,r,S,a,w,G,k,Q,d,h,f=>by cases d
 | .refuse s,ρ,r,S,a,w,G,k,Q,d,h,f=>by cases d
end code
section functions
variable {P:Program}
theorem ZQ{G:Gh}{w:World}{n:Nat}{s:Sh}{x:s.t.den}{u:Value}(h:ShR (fun _ d u=>Rep w G.S d u) n s x u):vY G w (ajQ s x) u:=by
 have key:∀ {n:Nat} {ds:List D} {vs:List Value},bI (fun _ d u=>Rep w G.S d u) n ds vs->dR G w (ds.map .d) vs:=by
  intro n ds;induction ds generalizing n with
  | nil=>intro vs h;cases vs with
   | nil=>trivial
   | cons=>exact h.elim
  | cons d ds ih=>intro vs h;cases vs with
   | nil=>exact h.elim
   | cons v vs=>exact⟨h.1,ih h.2⟩
 unfold ShR at h;unfold ajQ;split at h
 ·rename_i b;obtain⟨vs,rfl,a⟩:=h;rw[b];exact⟨vs,rfl,key a⟩
 ·rename_i b;rw[b];have a:=key h;match e:(s.t.cells x).map C.d,a with
  | [c],a=>exact a.1
theorem yZ{G:Gh}{w:World}:∀ {n:Nat} {ss:List Sh} {x:Tup ss} {us:List Value},kS (fun _ d u=>Rep w G.S d u) n ss x us->oZ G w (Ju ss x) us
 | n,[],x,[],_=>trivial
 | n,[s],x,[u],h=>⟨ZQ h,trivial⟩
 | n,s::s'::r,(x,y),u::us,h=>⟨ZQ h.1,yZ h.2⟩
end functions
end Go.Abs
namespace Go.Abs
open Go.RowKit
theorem Ow.anyS{w:World}{S S':Nat->Nat->Prop}{dp:Bool}{d:D}{v:Value}{fp:Nat->Prop}(h:Ow w S dp d v fp)(f:dp=true):Ow w S' dp d v fp:=by
 induction h with
 | int k n fp=>exact .int k n fp
 | bool b fp=>exact .bool b fp
 | str v fp=>exact .str v fp
 | nil t fp=>exact .nil t fp
 | ro d v fp a h=>rw[a]at f;cases f
 | list t xs b cap arr E vs fps fp g hcap hmax c e i l j hdis ih=>exact .list t xs b cap arr E vs fps fp g hcap hmax c e i ih j hdis
section functions
variable {P:Program}
theorem QT{w:World}{S0:Nat->Nat->Prop}(h:∀b o,S0 b o->b<w.heap.size){n:Nat}{vs:List V}{us:List Value}(l:∀G:Gh,G.S=S0->oZ G w vs us) :
  ∃G,Inv ⟨w,S0,fun _=>False,none⟩ G (Ah n vs) { tmps:=us.toArray++Array.replicate (n-us.toArray.size) undef,defers:=[] } w:=by
 let G:Gh:={ bk:=fun _=>0,ov:=fun _ _=>undef,ow:=fun _=>none,S:=S0,lk:=fun _=>False,lb:=fun _=>False };obtain⟨m,p⟩:=(l G rfl).get;have e:∀i,(Ah n vs).gW i=none:=by
  intro i;show (List.replicate _ (none:Option (List C))).getD i none=none
  rw[zE,List.getElem?_replicate];split<;>rfl
 have f:∀i,(Ah n vs).aH i=[]:=by
  intro i;show (List.replicate _ ([]:List O)).getD i []=[]
  rw[zE,List.getElem?_replicate];split<;>rfl
 refine⟨G,⟨tY.refl _ _ _,rfl,?_,?_,?_,?_,(fun b x q=>(by cases q)),(fun b o g=>⟨h b o g,fun i hi=>(by cases hi)⟩),?_,?_,(fun k r=>r.elim),(fun i hi=>hi.elim),(fun b o g _=>g),(fun b s=>by cases s)⟩⟩
 ·simp[Ah,m]
 ·simp[Ah]
 ·simp[Ah]
 ·intro i v a;simp only[Array.getElem?_append,List.size_toArray,List.getElem?_toArray]at a;show jV G w ((vs.map AV.v++List.replicate _ AV.undef).getD i .undef) v
  rw[zE,List.getElem?_append];by_cases hi:i<us.length
  ·rw[if_pos hi]at a;have c:i<vs.length:=by omega
   rw[if_pos (by simpa using c),List.getElem?_map,zF c];exact p i vs[i] v (by simp[c]) a
  ·rw[if_neg (by simp;omega),List.getElem?_replicate];split<;>trivial
 ·intro i cs d;rw[e]at d;cases d
 ·intro k j;rw[f];trivial
def zU(tmps:Array Value):ResultVar->Sem Value
 | .tmp t=>pure (tmps.getD t undef)
 | .cell p t=>do loadVar t (<- asAddr (tmps.getD p undef))
theorem agB{w0:Bs}{E:Env}(u:E.tt.ok P=true){G:Gh}{S:St}{a:Act}{w:World}(h:Inv w0 G S a w){rv:ResultVar}{x:V}(c:(resV E rv).val S=some x) :
  ∃v,(zU a.tmps rv).run P w=.ok v w/\vY G w x v:=by
 cases rv with
 | tmp t=>
  simp only[resV,Rd.val]at c;exact⟨_,rfl,qY c (h.jm t)⟩
 | cell p t=>
  simp only[resV]at c;split at c
  ·cases c
  ·rename_i agg n z;obtain⟨d,i,o,hi,A,q⟩:=TT.G7 u z;have r:=h.jm p;change Rd.val (match S.jm p with
   | .v (.one (.ptr b off))=>.gB b fun
    | some cs=>.opt (mkV agg (seg cs off n)) fun v=>if (seg cs off n).length=n then .ret v else .fail
    | none=>.fail
   | _=>.fail) S=some x at c
   split at c
   ·rename_i b off B;rw[B]at r;have f:a.tmps.getD p undef=.pointer (some ⟨G.bk b,off,none⟩):=r.2;change Rd.val (match S.gW b with
     | some cs=>.opt (mkV agg (seg cs off n)) fun v=>if (seg cs off n).length=n then .ret v else .fail
     | none=>.fail) S=some x at c
    split at c
    ·rename_i cs k;simp only[Rd.val,zB]at c;obtain⟨y,C,c⟩:=c;split at c
     ·rename_i H;simp only[Rd.val,zD]at c;subst c;obtain⟨_,vs,e,hh,s⟩:=h.box b cs k;obtain⟨D,F⟩:=Xf C (s.seg off n);have hlen:=(s.seg off n).length;have hcell:∀(j:Nat) (v:Value),(seg vs off n)[j]?=some v->w.cell? ⟨G.bk b,off+j,none⟩=some v:=fun j v g=>by
       rw[cell_of_row w _ _ _ _ _ hh];simp only[Abs.seg,List.getElem?_take,List.getElem?_drop]at g;split at g
       ·simpa using g
       ·cases g
      cases agg with
      | true=>
       have:=sD (P:=P) (w:=w) t (G.bk b) off d i o hi q (seg vs off n) (by omega) hcell;exact⟨_,by simp only[zU,f,asAddr,Sem.run_bind,Sem.run_pure,Result.andThen_ok,this],D rfl⟩
      | false=>
       obtain⟨v,l,m⟩:=F rfl;have:=Bg (P:=P) (w:=w) t (G.bk b) off d o q v (by have:=hcell 0 v (by rw[l];rfl);simpa using this);exact⟨_,by simp only[zU,f,asAddr,Sem.run_bind,Sem.run_pure,Result.andThen_ok,this],m⟩
     ·cases c
    ·cases c
   ·cases c
theorem wL{w0:Bs}{E:Env}(c:E.tt.ok P=true){G:Gh}{S:St}{a:Act}{w:World}(h:Inv w0 G S a w):∀ {rvs:List ResultVar} {xs:List V},(FU E rvs).val S=some xs ->
  ∃us,(rvs.mapM (zU a.tmps)).run P w=.ok us w/\oZ G w xs us
 | [],xs,b=>by
  simp only[FU,Rd.val,zD]at b;subst b;exact⟨[],rfl,trivial⟩
 | rv::r,xs,b=>by
  simp only[FU,Rd.aC,zB,Rd.val,zD]at b;obtain⟨x,d,xs',e,rfl⟩:=b;obtain⟨v,f,g⟩:=agB c h d;obtain⟨us,i,j⟩:=wL c h e;refine⟨v::us,?_,g,j⟩;simp only[List.mapM_cons,Sem.run_bind,f,Result.andThen_ok,i,Sem.run_pure]
theorem Vb{w0:Bs}{G:Gh}{S:St}{a:Act}{w:World}(h:Inv w0 G S a w){all:List C}(hall:(xR all).val S=some true):∀ {tys:List (Option Ty)} {cs:List C} {ds:List D} {vs:List Value} {n:Nat} {pre post:List C},(cDs tys cs).val S=some ds ->
  tys.length=cs.length->dR G w cs vs->all=pre++cs++post->pre.length=n->bI (fun i d v=>Ow w (fun _ _=>False) true d v (fun b=>∃c,all[i]?=some c/\rowsOf G S c b)) n ds vs
 | [],[],ds,[],n,pre,post,f,_,_,_,_=>by
  simp only[cDs,Rd.val,zD]at f;subst f;trivial
 | ty::tys,c::cs,ds,v::vs,n,pre,post,f,s,p,q,r=>by
  simp only[cDs,Rd.aC,zB,Rd.val,zD]at f;obtain⟨d,t,ds',u,rfl⟩:=f;have g:all[n]?=some c:=by
   rw[q,a6,List.getElem?_append_right (by omega),r];simp
  obtain⟨b,l,m⟩:=AP hall n c g;have x:=XE h t p.1 l m (S':=fun b o=>G.S b o\/AK G S (aQ all) b o) (keys:=aQ all) (fun _ _ hh=>hh) (fun k j e=>iL (e▸zG g));exact⟨(x.anyS rfl).sub (fun b y=>⟨c,g,y⟩) id,Vb h hall (pre:=pre++[c]) (post:=post) u (by simpa using s) p.2 (by rw[q];simp) (by simp[r])⟩
theorem afQ{w0:Bs}{G:Gh}{S:St}{a:Act}{w:World}(h:Inv w0 G S a w){all:List C}(hall:(xR all).val S=some true){s:Sh}{x:V}{y:s.t.den}{v:Value}{n:Nat}{pre post:List C}(e:(vT s x).val S=some y)(m:vY G w x v)
  (o:all=pre++x.cells++post) (p:pre.length=n):ShR (fun i d v=>Ow w (fun _ _=>False) true d v (fun b=>∃c,all[i]?=some c/\rowsOf G S c b)) n s y v/\x.cells.length=s.t.size:=by
 simp only[vT]at e;split at e
 ·rename_i f;simp only[Rd.aC,zB,Rd.val]at e;obtain⟨ds,q,z,r,k⟩:=e;simp only[zD]at k;subst k;obtain⟨vs,u,g,j⟩:=m.cells;have:=Vb h hall q (by rw[qh];exact f.2.symm) u o p;rw[<- Ty.fU r]at this;refine⟨?_,f.2⟩;unfold ShR;cases l:s.agg with
  | true=>exact⟨vs,g (by rw[f.1,l]),this⟩
  | false=>rw[j (by rw[f.1,l])]at this;exact this
 ·cases e
theorem VD{w0:Bs}{G:Gh}{S:St}{a:Act}{w:World}(h:Inv w0 G S a w){all:List C}(hall:(xR all).val S=some true):∀ {ss:List Sh} {xs:List V} {y:Tup ss} {us:List Value} {n:Nat} {pre post:List C},(vTs ss xs).val S=some y->oZ G w xs us ->
  all=pre++xs.flatMap V.cells++post->pre.length=n->kS (fun i d v=>Ow w (fun _ _=>False) true d v (fun b=>∃c,all[i]?=some c/\rowsOf G S c b)) n ss y us
 | [],[],y,[],n,pre,post,_,_,_,_=>trivial
 | [s],[x],y,[u],n,pre,post,e,f,g,j=>(afQ h hall (post:=post) e f.1 (by rw[g];simp) j).1
 | s::s'::r,x::xs,y,u::us,n,pre,post,e,f,g,j=>by
  simp only[vTs,Rd.aC,zB,Rd.val,zD]at e;obtain⟨p,k,q,l,rfl⟩:=e;obtain⟨m,o⟩:=afQ h hall (post:=xs.flatMap V.cells++post) k f.1 (by rw[g];simp) j;exact⟨m,VD h hall (pre:=pre++x.cells) (post:=post) l f.2 (by rw[g];simp) (by simp[j,o])⟩
 | [s],x::x'::xs,y,us,n,pre,post,e,_,_,_=>by simp[vTs,Rd.val]at e
 | [s],[],y,us,n,pre,post,e,_,_,_=>by simp[vTs,Rd.val]at e
 | [],_::_,y,us,n,pre,post,e,_,_,_=>by simp[vTs,Rd.val]at e
 | s::s'::r,[],y,us,n,pre,post,e,_,_,_=>by simp[vTs,Rd.val]at e
theorem XA{w:World}{S0:Nat->Nat->Prop}{E:Env}(A:E.tt.ok P=true){fn:Func}{rs:List Sh}{ex:Bool}{G:Gh}{S:St}{a:Act}{w':World}{y:Tup rs}(g:(finish E fn rs ex).val S=some y)(h:Inv ⟨w,S0,fun _=>False,none⟩ G S a w') :
  ∃v,(results fn a.tmps).run P w'=.ok v w'/\ad1 w.heap.size w' S0 ex rs y v:=by
 simp only[finish,Rd.aC,zB]at g;obtain⟨xs,B,ok,s,g⟩:=g;split at g
 case isFalse=>cases g
 rename_i m;subst m;obtain⟨us,C,l⟩:=wL A h B;refine⟨pack us,?_,us,rfl,?_⟩
 ·have e:(results fn a.tmps).run P w'=.ok (if h:us.toArray.size=1 then us.toArray[0]else .tuple us.toArray) w':=by
   change ((fn.results.mapM (zU a.tmps)) >>= fun vs=>pure (if h:vs.size=1 then vs[0]else .tuple vs)).run P w'=_;simp only[Array.mapM_eq_mapM_toList,Sem.run_bind,Sem.run_map,C,Result.andThen_ok,Sem.run_pure]
  rw[e];match us with
  | []=>rfl
  | [u]=>rfl
  | u::u'::r=>rw[dif_neg (by simp)];rfl
 ·cases ex with
  | true=>
   simp only[if_true,ajP,Rd.aC,zB,Rd.val,zD]at s;obtain⟨b,D,t⟩:=s;rw[zI]at t;obtain⟨rfl,n⟩:=t;refine⟨fun i b=>∃c,(xs.flatMap V.cells)[i]?=some c/\rowsOf G S c b,VD h D (pre:=[]) (post:=[]) g l (by simp) rfl,?_,?_⟩
   ·rintro i c ⟨cc,_,k,j,_,d,_⟩;exact h.oh d
   ·rintro i i' c ⟨cc,F,k,j,rfl,d,_⟩ ⟨cc',p,k',j',rfl,f,_⟩;rw[d]at f;cases f
    exact iK n F p
  | false=>
   refine⟨fun b o=>G.S b o\/AK G S (aQ (xs.flatMap V.cells)) b o,wC h _ 0 g l fun k j x H I=>uq H I,?_⟩;rintro b o (z | ⟨k,j,_,_,_,_,_,_,d,_⟩)
   ·refine⟨?_,(h.sok b o z).1⟩;rcases Nat.lt_or_ge b w.heap.size with q | q
    ·exact .inl (h.sfr b o z q)
    ·exact .inr q
   ·have:=h.oh d;exact⟨.inr this.1,this.2⟩
theorem Sound.weaken{fid:Nat}{ps rs:List Sh}{ex sh:Bool}{f g:Tup ps->Option (Tup rs)}(h:Sound P { fid:=fid,ps:=ps,rs:=rs,ex:=ex,sh:=sh,fn:=f })(a:∀x y,g x=some y->f x=some y):Sound P { fid:=fid,ps:=ps,rs:=rs,ex:=ex,sh:=sh,fn:=g }:=
 fun w S args x y b=>h w S args x y (a x y b)
theorem Sound.two{fid:Nat}{ps rs:List Sh}{ex sh:Bool}{f g:Tup ps->Option (Tup rs)}(b:Sound P { fid:=fid,ps:=ps,rs:=rs,ex:=ex,sh:=sh,fn:=f })(c:Sound P { fid:=fid,ps:=ps,rs:=rs,ex:=ex,sh:=sh,fn:=g }):Sound P { fid:=fid,ps:=ps,rs:=rs,ex:=ex,sh:=sh,fn:=fun x=>(f x).or (g x) }:=
 fun w S args x y a=>by
  have a:(f x).or (g x)=some y:=a;cases e:f x with
  | some z=>exact b w S args x y (by rw[e]at a;exact e.trans a)
  | none=>exact c w S args x y (by rw[e]at a;exact a)
theorem G6{E:Env}(k:jK P E)(l:P.follows .mixedOrders=true)(an:List (Nat×LA)){s:Fsp}{fn:Func}(f:P.funcs[s.fid]?=some fn)
  (hden:∀x,ahV E an fn s.ps s.rs s.ex x=s.fn x):Sound P s:=by
 intro w S args x y d g hargs m;rw[<- hden x]at d;unfold ahV at d;split at d
 ·cases d
 ·rename_i c o;obtain⟨G,h⟩:=QT m (n:=fn.ntmps) (vs:=Ju s.ps x) (us:=args) (fun G p=>yZ (by rw[p];exact hargs));refine calls_of_wp f o (jA (k.at (.none g)) l c d h fun e S' a' w' G' a i=>?_);have key:(finish E fn s.rs s.ex).val S'=some y->bodyPost P fn (fun e w'=>∃v,e=.returned v/\Below w.heap.size w w'/\ad1 w.heap.size w' S s.ex s.rs y v) .ret a' w':=by
   intro q;obtain⟨v,r,t⟩:=XA k.1 q i;exact⟨i.nodef,v,r,v,rfl,i.below.VI fun _ f=>f,t⟩
  cases e with
  | normal=>
   change (finish E fn s.rs s.ex).runK S' some=some y at a;rw[Rd.lH,zB]at a;obtain⟨z,j,b⟩:=a;cases b
   exact key j
  | exit id=>cases a
  | ret=>
   change (finish E fn s.rs s.ex).runK S' some=some y at a;rw[Rd.lH,zB]at a;obtain⟨z,j,b⟩:=a;cases b
   exact key j
theorem bI.shift{Q:D->Value->Prop}:∀ {n m:Nat} {ds:List D} {vs:List Value},bI (fun _ d u=>Q d u) n ds vs->bI (fun _ d u=>Q d u) m ds vs
 | n,m,[],[],_=>trivial
 | n,m,d::ds,v::vs,h=>⟨h.1,bI.shift h.2⟩
theorem ShR.shift{Q:D->Value->Prop}{n m:Nat}{s:Sh}{x:s.t.den}{u:Value}(h:ShR (fun _ d u=>Q d u) n s x u):ShR (fun _ d u=>Q d u) m s x u:=by
 unfold ShR at *;split at h
 ·obtain⟨vs,e,a⟩:=h;exact⟨vs,e,a.shift⟩
 ·exact bI.shift h
theorem kS.shift{Q:D->Value->Prop}:∀ {n m:Nat} {ss:List Sh} {y:Tup ss} {us:List Value},kS (fun _ d u=>Q d u) n ss y us->kS (fun _ d u=>Q d u) m ss y us
 | n,m,[],y,[],_=>trivial
 | n,m,[s],y,[u],h=>ShR.shift (s:=s) h
 | n,m,s::s'::r,y,u::us,h=>⟨h.1.shift,h.2.shift⟩
theorem kS.split{Q:D->Value->Prop}{n:Nat}{c:Sh}{rs:List Sh}{y:Tup (c::rs)}{u:Value}{us:List Value}(h:kS (fun _ d u=>Q d u) n (c::rs) y (u::us)) :
  ShR (fun _ d u=>Q d u) 0 c (BG y) u/\kS (fun _ d u=>Q d u) 0 rs (Ul y) us:=by
 cases rs with
 | nil=>cases us with
  | nil=>exact⟨ShR.shift (s:=c) h,trivial⟩
  | cons=>exact h.elim
 | cons s r=>exact⟨h.1.shift,h.2.shift⟩
theorem ShR.agg{Q:D->Value->Prop}{c:Sh}{x:c.t.den}{vs:List Value}(a:c.agg=true)(h:ShR (fun _ d u=>Q d u) 0 c x (.agg vs.toArray)):bI (fun _ d u=>Q d u) 0 (c.t.cells x) vs:=by
 unfold ShR at h;rw[a]at h;obtain⟨vs',e,h⟩:=h;have:vs=vs':=by simpa using e
 rw[this];exact h
theorem zT{fn:Func}{a:Act}{w':World}{us:List Value}(b:(fn.results.toList.mapM (zU a.tmps)).run P w'=.ok us w'):(results fn a.tmps).run P w'=.ok (pack us) w':=by
 have e:(results fn a.tmps).run P w'=.ok (if h:us.toArray.size=1 then us.toArray[0]else .tuple us.toArray) w':=by
  change ((fn.results.mapM (zU a.tmps)) >>= fun vs=>pure (if h:vs.size=1 then vs[0]else .tuple vs)).run P w'=_;simp only[Array.mapM_eq_mapM_toList,Sem.run_bind,Sem.run_map,b,Result.andThen_ok,Sem.run_pure]
 rw[e];match us with
 | []=>rfl
 | [u]=>rfl
 | u::u'::r=>rw[dif_neg (by simp)];rfl
theorem aff{w:World}{S0:Nat->Nat->Prop}{bb:Nat}(y:∀b o,S0 b o->b<w.heap.size/\b≠bb){f:List Value}{Et:TypeId}(hh:w.heap[bb]?=some (.cells f.toArray Et (0,0))){n:Nat}{cs:List C}{vs:List V}{us:List Value}
  (z:∀G:Gh,G.S=S0->dR G w cs f/\oZ G w vs us) :
  ∃G,Inv ⟨w,S0,fun c=>c=bb,some bb⟩ G (Ag n cs vs) { tmps:=(Value.pointer (some ⟨bb,0,none⟩)::us).toArray++Array.replicate (n-(Value.pointer (some ⟨bb,0,none⟩)::us).toArray.size) undef,defers:=[] } w:=by
 let G:Gh:={ bk:=fun _=>bb,ov:=fun _ _=>undef,ow:=fun c=>if c=bb then some (.box 0)else none,S:=S0,lk:=fun _=>False,lb:=fun i=>i=0 };obtain⟨q,r⟩:=z G rfl;obtain⟨A,B⟩:=r.get;have s:bb<w.heap.size:=(aL.1 hh).1;have h:∀c x,G.ow c=some x->c=bb/\x=.box 0:=fun c x t=>by
  have g:(if c=bb then some (Bv.box 0)else none)=some x:=t;split at g
  ·rename_i e;cases g;exact⟨e,rfl⟩
  ·cases g
 have l:∀i,(Ag n cs vs).gW i=if i=0 then some cs else none:=by
  intro i;show (some cs::List.replicate _ (none:Option (List C))).getD i none=_
  cases i with
  | zero=>rfl
  | succ i=>
   rw[zE,List.getElem?_cons_succ,List.getElem?_replicate,if_neg (Nat.succ_ne_zero i)];split<;>rfl
 have u:∀i,(Ag n cs vs).aH i=[]:=by
  intro i;show (List.replicate _ ([]:List O)).getD i []=[]
  rw[zE,List.getElem?_replicate];split<;>rfl
 refine⟨G,⟨tY.refl _ _ _,rfl,?_,?_,?_,?_,(fun b x t=>?_),(fun b o p=>⟨(y b o p).1,fun i hi=>(y b o p).2 (h _ _ hi).1⟩),?_,?_,(fun k D=>D.elim),?_,(fun b o p _=>p),(fun b E=>by cases E;exact⟨rfl,fun _=>.refl _ _⟩)⟩⟩
 ·simp[Ag,A];omega
 ·simp[Ag]
 ·simp[Ag];omega
 ·intro i v d;simp only[Array.getElem?_append,List.size_toArray,List.getElem?_toArray]at d;show jV G w ((.v (.one (.ptr 0 0))::vs.map AV.v++List.replicate _ AV.undef).getD i .undef) v
  rw[zE,List.getElem?_append];by_cases hi:i<us.length+1
  ·rw[if_pos (by simpa using hi)]at d;rw[if_pos (by simp;omega)];cases i with
   | zero=>
    simp at d;subst d;exact⟨rfl,rfl⟩
   | succ i=>
    simp only[List.getElem?_cons_succ]at d ⊢;have m:i<vs.length:=by omega
    rw[List.getElem?_map,zF m];exact B i vs[i] v (by simp[m]) d
  ·rw[if_neg (by simp;omega),List.getElem?_replicate];split<;>trivial
 ·obtain⟨rfl,rfl⟩:=h b x t;exact⟨.inr ⟨rfl,rfl⟩,s⟩
 ·intro i cs' a;rw[l]at a;split at a
  ·rename_i e;cases a
   subst e;exact⟨if_pos rfl,f,Et,hh,q⟩
  ·cases a
 ·intro k j;rw[u];trivial
 ·intro i hi;rw[l,if_pos hi];simp
theorem aj1{w0:Bs}{G:Gh}{S:St}{a:Act}{w:World}(h:Inv w0 G S a w){ty:Option Ty}{c:C}{d:D}{v:Value}(f:(cD ty c).val S=some d)(g:qc G w c v)(p:(cSh c).val S=some true):NV w G.S d v (rowsOf G S c):=by
 cases c with
 | undef=>cases f
 | ptr=>cases f
 | d x=>
  simp only[cD,Rd.val,zD]at f;subst f;cases x with
  | list t xs=>simp[cSh,Rd.val]at p
  | int=>exact g
  | bool=>exact g
  | str=>exact g
 | nil=>
  cases ty with
  | none=>cases f
  | some t=>
   simp only[cD,Rd.val,zD]at f;subst f;exact .inl ⟨g,rfl⟩
 | own k j=>
  simp only[cSh,Rd.val]at p;simp only[cD,Rd.val]at f;have F:=h.owns k j;split at p
  ·rename_i t xs dp l;rw[l]at f F;simp only[Rd.val,zD]at f;subst f;have q:OwT w G.S dp true t xs (G.ov k j) (iE G k j):=F;show OwT w G.S false true t xs v _
   rw[g.2.1];rcases q with H | ⟨b,cap,arr,E,vs,fps,e,I,hcap,hmax,r,s,u,y,m,hdis,z⟩
   ·exact .inl H
   ·have n:∀x,iE G k j x->rowsOf G S (.own k j) x:=fun x A=>⟨k,j,rfl,A,t,xs,dp,true,by rw[l];rfl⟩
    exact .inr ⟨b,cap,arr,E,vs,fps,e,I,hcap,hmax,r,n _ s,u,fun i x j' d' A B=>(y i x j' d' A B).sub (fun _ hh=>hh) (fun hh=>by cases hh),fun i j' c o=>⟨n _ (m i j' c o).1,(m i j' c o).2⟩,hdis,z⟩
  ·simp[Rd.val]at p
theorem ZW{S:St}:∀ {cs:List C} {b:Bool},(ajU cs).val S=some b->b=true->∀c,c∈cs->(cSh c).val S=some true
 | [],_,_,_,c,a=>by cases a
 | i::cs,b,d,g,c,a=>by
  simp only[ajU,Rd.aC,zB,Rd.val,zD]at d;obtain⟨j,f,k,h,e⟩:=d;rw[g,zI]at e;rcases a8.1 a with rfl | a
  ·rw[e.1]at f;exact f
  ·exact ZW h e.2 c a
theorem NV.sub{w:World}{S:Nat->Nat->Prop}{d:D}{v:Value}{fp fp':Nat->Prop}(h:NV w S d v fp)(a:∀b,fp b->fp' b):NV w S d v fp':=by
 cases d with
 | list t xs=>exact OwT.rest (S:=S) h (fun _ _ hh=>hh) (fun _ _ _ hh=>hh) a
 | int=>exact h
 | bool=>exact h
 | str=>exact h
theorem Z8{w0:Bs}{G:Gh}{S:St}{a:Act}{w:World}(h:Inv w0 G S a w){all:List C}(hall:∀c,c∈all->(cSh c).val S=some true):∀ {tys:List (Option Ty)} {cs:List C} {ds:List D} {vs:List Value} {n:Nat} {pre post:List C},(cDs tys cs).val S=some ds ->
  tys.length=cs.length->dR G w cs vs->all=pre++cs++post->pre.length=n->bI (fun i d v=>NV w G.S d v (fun b=>∃c,all[i]?=some c/\rowsOf G S c b)) n ds vs
 | [],[],ds,[],n,pre,post,e,_,_,_,_=>by
  simp only[cDs,Rd.val,zD]at e;subst e;trivial
 | ty::tys,c::cs,ds,v::vs,n,pre,post,e,l,f,g,j=>by
  simp only[cDs,Rd.aC,zB,Rd.val,zD]at e;obtain⟨d,m,ds',o,rfl⟩:=e;have k:all[n]?=some c:=by
   rw[g,a6,List.getElem?_append_right (by omega),j];simp
  exact⟨(aj1 h m f.1 (hall c (zG k))).sub fun b p=>⟨c,k,p⟩,Z8 h hall (pre:=pre++[c]) (post:=post) o (by simpa using l) f.2 (by rw[g];simp) (by simp[j])⟩
theorem aki{w0:Bs}{G:Gh}{S:St}{a:Act}{w:World}(h:Inv w0 G S a w){all:List C}(hall:∀c,c∈all->(cSh c).val S=some true){s:Sh}{x:V}{y:s.t.den}{v:Value}{n:Nat}{pre post:List C}(e:(vT s x).val S=some y)(m:vY G w x v)
  (o:all=pre++x.cells++post) (p:pre.length=n):ShR (fun i d v=>NV w G.S d v (fun b=>∃c,all[i]?=some c/\rowsOf G S c b)) n s y v/\x.cells.length=s.t.size:=by
 simp only[vT]at e;split at e
 ·rename_i f;simp only[Rd.aC,zB,Rd.val]at e;obtain⟨ds,q,z,r,k⟩:=e;simp only[zD]at k;subst k;obtain⟨vs,u,g,j⟩:=m.cells;have:=Z8 h hall q (by rw[qh];exact f.2.symm) u o p;rw[<- Ty.fU r]at this;refine⟨?_,f.2⟩;unfold ShR;cases l:s.agg with
  | true=>exact⟨vs,g (by rw[f.1,l]),this⟩
  | false=>rw[j (by rw[f.1,l])]at this;exact this
 ·cases e
theorem afP{w0:Bs}{G:Gh}{S:St}{a:Act}{w:World}(h:Inv w0 G S a w){all:List C}(hall:∀c,c∈all->(cSh c).val S=some true):∀ {ss:List Sh} {xs:List V} {y:Tup ss} {us:List Value} {n:Nat} {pre post:List C},(vTs ss xs).val S=some y->oZ G w xs us ->
  all=pre++xs.flatMap V.cells++post->pre.length=n->kS (fun i d v=>NV w G.S d v (fun b=>∃c,all[i]?=some c/\rowsOf G S c b)) n ss y us
 | [],[],y,[],n,pre,post,_,_,_,_=>trivial
 | [s],[x],y,[u],n,pre,post,e,f,g,j=>(aki h hall (post:=post) e f.1 (by rw[g];simp) j).1
 | s::s'::r,x::xs,y,u::us,n,pre,post,e,f,g,j=>by
  simp only[vTs,Rd.aC,zB,Rd.val,zD]at e;obtain⟨p,k,q,l,rfl⟩:=e;obtain⟨m,o⟩:=aki h hall (post:=xs.flatMap V.cells++post) k f.1 (by rw[g];simp) j;exact⟨m,afP h hall (pre:=pre++x.cells) (post:=post) l f.2 (by rw[g];simp) (by simp[j,o])⟩
 | [s],x::x'::xs,y,us,n,pre,post,e,_,_,_=>by simp[vTs,Rd.val]at e
 | [s],[],y,us,n,pre,post,e,_,_,_=>by simp[vTs,Rd.val]at e
 | [],_::_,y,us,n,pre,post,e,_,_,_=>by simp[vTs,Rd.val]at e
 | s::s'::r,[],y,us,n,pre,post,e,_,_,_=>by simp[vTs,Rd.val]at e
theorem ad6{S:St}{c:Sh}{rs:List Sh}{x:V}{xs:List V}{y:Tup (c::rs)}(a:(vTs (c::rs) (x::xs)).val S=some y):(vT c x).val S=some (BG y)/\(vTs rs xs).val S=some (Ul y):=by
 cases rs with
 | nil=>cases xs with
  | nil=>exact⟨a,rfl⟩
  | cons=>simp[vTs,Rd.val]at a
 | cons s r=>
  simp only[vTs,Rd.aC,zB,Rd.val,zD]at a;obtain⟨p,b,q,d,rfl⟩:=a;exact⟨b,d⟩
theorem YP{w:World}{S0:Nat->Nat->Prop}{F:Nat->Prop}{bx:Option Nat}{G:Gh}{S:St}{a:Act}{w':World}(h:Inv ⟨w,S0,F,bx⟩ G S a w'){sh:Bool}{xs:List V}{us:List Value}(g:oZ G w' xs us){rs:List Sh}{y:Tup rs}{ok:Bool}
  (l:(if sh then WH (xs.flatMap V.cells)else Rd.ret true).val S=some ok) (t:ok=true) (q:(vTs rs xs).val S=some y) :
  ∃S':Nat->Nat->Prop,(∀b o,G.S b o->S' b o)/\Vp w.heap.size w' S' sh rs y us/\∀b o,S' b o->(S0 b o\/w.heap.size<=b)/\b<w'.heap.size:=by
 have r:∀b o,G.S b o->(S0 b o\/w.heap.size<=b)/\b<w'.heap.size:=fun b o f=>by
  refine⟨?_,(h.sok b o f).1⟩;rcases Nat.lt_or_ge b w.heap.size with m | m
  ·exact .inl (h.sfr b o f m)
  ·exact .inr m
 cases sh with
 | false=>
  refine⟨fun b o=>G.S b o\/AK G S (aQ (xs.flatMap V.cells)) b o,fun b o=>.inl,wC h _ 0 q g fun k j x u v=>uq u v,?_⟩;rintro b o (f | ⟨k,j,_,_,_,_,_,_,d,_⟩)
  ·exact r b o f
  ·have:=h.oh d;exact⟨.inr this.1,this.2⟩
 | true=>
  simp only[if_true,WH,Rd.aC,zB,Rd.val,zD]at l;obtain⟨b,z,s⟩:=l;rw[t,zI]at s;obtain⟨A,n⟩:=s;refine⟨G.S,fun b o f=>f,⟨fun i b=>∃c,(xs.flatMap V.cells)[i]?=some c/\rowsOf G S c b,afP h (ZW z A) (pre:=[]) (post:=[]) q g (by simp) rfl,?_,?_⟩,r⟩
  ·rintro i c ⟨cc,_,k,j,_,d,_⟩;exact h.oh d
  ·rintro i i' c ⟨cc,B,k,j,rfl,d,_⟩ ⟨cc',p,k',j',rfl,e,_⟩;rw[d]at e;cases e
   exact iK n B p
theorem cells_kept{w w':World}{S0 G:Nat->Nat->Prop}{bb:Nat}(E:tY (fun c=>c=bb) w.heap.size w w')(f:∀b o,S0 b o->b<w.heap.size/\b≠bb){t:Ty}{x A:t.den}{a vs':List Value}
  (q:∀(i:Nat) p l c,a[i]?=some (Value.slice p l c)->vs'[i]?=some (Value.slice p l c)) (g:bI (fun _ d u=>Rep w S0 d u) 0 (t.cells A) a) (h:bI (fun _ d u=>Rep w' G d u) 0 (t.cells x) vs'):bI (fun _ d u=>Rep w' S0 d u) 0 (t.cells x) vs':=by
 have key:∀ {ds e:List D} {n:Nat} {a vs':List Value},ds.map nG=e.map nG->(∀(i:Nat) p l c,a[i]?=some (Value.slice p l c)->vs'[i]?=some (Value.slice p l c))->bI (fun _ d u=>Rep w S0 d u) n e a->bI (fun _ d u=>Rep w' G d u) n ds vs'->bI (fun _ d u=>Rep w' S0 d u) n ds vs':=by
  intro ds;induction ds with
  | nil=>intro e n a vs' _ _ _ h;cases vs' with
   | nil=>trivial
   | cons=>exact h.elim
  | cons d ds ih=>
   intro e n a vs' j q g h;cases e with
   | nil=>cases j
   | cons B e=>
    cases vs' with
    | nil=>exact h.elim
    | cons v vs'=>
     cases a with
     | nil=>exact g.elim
     | cons v0 a=>
      simp only[List.map_cons,List.cons.injEq]at j;refine⟨?_,ih j.2 (fun i p l c hi=>q (i+1) p l c hi) g.2 h.2⟩;have r:=h.1;have m:=g.1;cases d with
      | int k n=>cases r;exact .int _ _
      | bool b=>cases r;exact .bool _
      | str s=>cases r;exact .str _
      | list t1 xs=>
       have y:∃p l c,v0=.slice p l c:=by
        have:nG B=some t1:=j.1.symm;cases m with
        | int=>cases this
        | bool=>cases this
        | str=>cases this
        | nil=>exact⟨_,_,_,rfl⟩
        | emp=>exact⟨_,_,_,rfl⟩
        | list=>exact⟨_,_,_,rfl⟩
       obtain⟨p,l,c,rfl⟩:=y;have:v=.slice p l c:=by
        have:=q 0 p l c rfl;simpa using this
       subst this;have C:Rep w' S0 B (.slice p l c):=m.move fun b o z=>⟨z,World.cell?_of_block (w:=w) (E.block b (f b o z).1 (f b o z).2)⟩
       rw[Rep.det r C j.1];exact C
 exact key ((OB t x).trans (OB t A).symm) q g h
theorem Ua{w:World}{S0:Nat->Nat->Prop}{bb:Nat}{E:Env}(Y:E.tt.ok P=true){fn:Func}{rs:List Sh}{ex sh:Bool}{G:Gh}{S:St}{a:Act}{w':World}{y:Tup rs}(f:(EG E fn rs ex sh).val S=some y)(h:Inv ⟨w,S0,fun c=>c=bb,some bb⟩ G S a w')
  (q:∀b o,S0 b o->b<w.heap.size/\b≠bb) {m:List Value} {O:TypeId} (r:w.heap[bb]?=some (.cells m.toArray O (0,0))) (C:ex=true->∀c rs',rs=c::rs'->∃R:c.t.den,bI (fun _ d u=>Rep w S0 d u) 0 (c.t.cells R) m) :
  ∃v,(results fn a.tmps).run P w'=.ok v w'/\akh w.heap.size w' S0 bb ex sh rs y v:=by
 unfold EG at f;split at f
 case isFalse=>cases f
 rename_i s;simp only[Rd.val]at f;split at f
 case h_2=>cases f
 rename_i cs D;split at f
 case isFalse=>cases f
 rename_i F;simp only[Rd.aC,zB]at f;obtain⟨xs,Z,ok,n,f⟩:=f;split at f
 case isFalse=>cases f
 rename_i T;obtain⟨us,H,x⟩:=wL Y h Z;obtain⟨ho,vs',Et,hh,I⟩:=h.box 0 cs D;rw[(h.fx bb rfl).1]at hh;refine⟨pack us,zT H,?_⟩;cases rs with
 | nil=>cases s
 | cons c rs=>
  obtain⟨e1,U⟩:=ad6 f;have W:=aav h [] 0 e1 (v:=.agg vs'.toArray) ⟨vs',rfl,I⟩ fun k j J=>by
   have:(k,j)∈aQ cs:=iL J;rw[F]at this;cases this
  cases ex with
  | false=>
   obtain⟨S',hS,hres,z⟩:=YP h x n T U;refine⟨S',vs',Et,us,rfl,hh,ShR.agg (c:=c) (Q:=fun d u=>Rep w' S' d u) s (W.imp fun i d v H=>H.move fun b o g=>⟨?_,rfl⟩),hres,fun b o g=>⟨(z b o g).1.imp id fun s=>⟨rfl,s⟩,(z b o g).2⟩⟩;rcases g with g | ⟨k,j,_,_,_,_,J,_⟩
   ·exact hS b o g
   ·cases J
  | true=>
   simp only[if_true,ajP,Rd.aC,zB,Rd.val,zD]at n;obtain⟨b0,h3,X⟩:=n;rw[T,zI]at X;obtain⟨rfl,K⟩:=X;obtain⟨A,E2,B,L⟩:=(h.fx bb rfl).2 (aL.1 r).1 m O r;have e:A=vs':=by
    rw[hh]at B;cases B
    rfl
   subst e;obtain⟨R,M⟩:=C rfl c rs rfl;refine⟨S0,A,Et,us,rfl,hh,cells_kept h.below q L M (ShR.agg (c:=c) (Q:=fun d u=>Rep w' (fun b o=>G.S b o\/AK G S [] b o) d u) s W),?_,fun b o g=>⟨.inl g,az (q b o g).1 h.below.size⟩⟩;refine⟨fun i b=>∃c,(xs.flatMap V.cells)[i]?=some c/\rowsOf G S c b,VD h h3 (pre:=[]) (post:=[]) U x (by simp) rfl,?_,?_⟩
   ·rintro i c ⟨cc,_,k,j,_,p,_⟩;exact h.oh p
   ·rintro i i' c ⟨cc,M,k,j,rfl,p,_⟩ ⟨cc',N,k',j',rfl,l,_⟩;rw[p]at l;cases l
    exact iK K M N
theorem TW{w:World}{S0:Nat->Nat->Prop}{E:Env}(g:E.tt.ok P=true){fn:Func}{rs:List Sh}{G:Gh}{S:St}{a:Act}{w':World}{y:Tup rs}(c:(ED E fn rs).val S=some y)(h:Inv ⟨w,S0,fun _=>False,none⟩ G S a w') :
  ∃v,(results fn a.tmps).run P w'=.ok v w'/\∃(S':Nat->Nat->Prop) (us:List Value),v=pack us/\Vp w.heap.size w' S' true rs y us/\∀b o,S' b o->(S0 b o\/w.heap.size<=b)/\b<w'.heap.size:=by
 unfold ED at c;simp only[Rd.aC,zB]at c;obtain⟨xs,i,ok,d,c⟩:=c;split at c
 case isFalse=>cases c
 rename_i j;obtain⟨us,k,e⟩:=wL g h i;obtain⟨S',_,hres,f⟩:=YP h (sh:=true) e (by simpa using d) j c;exact⟨pack us,zT k,S',us,rfl,hres,f⟩
theorem Sj{E:Env}(l:jK P E)(m:P.follows .mixedOrders=true)(an:List (Nat×LA)){s:Fsp}{fn:Func}(g:P.funcs[s.fid]?=some fn)
  (hden:∀x,ame E an fn s.ps s.rs x=s.fn x):RU P s:=by
 intro w S args x y f i hargs p;rw[<- hden x]at f;unfold ame at f;split at f
 ·cases f
 ·rename_i c q;obtain⟨G,h⟩:=QT p (n:=fn.ntmps) (vs:=Ju s.ps x) (us:=args) (fun G r=>yZ (by rw[r];exact hargs));refine calls_of_wp g q (jA (l.at (.none i)) m c f h fun e S' a' w' G' a j=>?_);have key:(ED E fn s.rs).val S'=some y->bodyPost P fn (fun e w'=>∃v,e=.returned v/\Below w.heap.size w w'/\∃(S':Nat->Nat->Prop) (us:List Value),v=pack us/\Vp w.heap.size w' S' true s.rs y us /\
    ∀b o,S' b o->(S b o\/w.heap.size<=b)/\b<w'.heap.size) .ret a' w':=by
   intro t;obtain⟨v,u,A⟩:=TW l.1 t j;exact⟨j.nodef,v,u,v,rfl,j.below.VI fun _ g=>g,A⟩
  cases e with
  | normal=>
   change (ED E fn s.rs).runK S' some=some y at a;rw[Rd.lH,zB]at a;obtain⟨z,k,d⟩:=a;cases d
   exact key k
  | exit id=>cases a
  | ret=>
   change (ED E fn s.rs).runK S' some=some y at a;rw[Rd.lH,zB]at a;obtain⟨z,k,d⟩:=a;cases d
   exact key k
theorem ah6{w:World}{S:Nat->Nat->Prop}{ps rs:List Sh}(a:sameBox ps rs=true){x:Tup ps}{b args:List Value}(hargs:kS (fun _ d u=>Rep w S d u) 0 ps x (.agg b.toArray::args)) :
  ∀c rs',rs=c::rs'->∃g:c.t.den,bI (fun _ d u=>Rep w S d u) 0 (c.t.cells g) b:=by
 intro c rs' h;cases ps with
 | nil=>cases a
 | cons p ps=>
  rw[h]at a;simp only[sameBox,zI,decide_eq_true_eq]at a;have i:ShR (fun _ d u=>Rep w S d u) 0 p (BG x) (.agg b.toArray):=by
   cases ps with
   | nil=>cases args with
    | nil=>exact hargs
    | cons=>exact hargs.elim
   | cons j ps=>exact hargs.1
  have f:=ShR.agg (c:=p) (Q:=fun d u=>Rep w S d u) a.1 i;generalize BG x=g at f;obtain⟨pa,pt⟩:=p;obtain⟨ca,ct⟩:=c;obtain⟨_,e⟩:=a;cases e
  exact⟨g,f⟩
theorem Ue{E:Env}(p:jK P E)(r:P.follows .mixedOrders=true)(an:List (Nat×LA)){s:Fsp}{fn:Func}(t:P.funcs[s.fid]?=some fn)
  (hden:∀x,amg E an fn s.ps s.rs s.ex s.sh x=s.fn x):kT P s:=by
 intro w S bb g Et args x y a i j hh hargs q;rw[<- hden x]at a;unfold amg at a;split at a
 case h_2=>cases a
 rename_i c cs vs u henc;split at a
 case isFalse=>cases a
 rename_i hsame;obtain⟨G,h⟩:=aff q hh (n:=fn.ntmps) (cs:=cs) (vs:=vs) (us:=args) (fun G A=>by
  have:=yZ (G:=G) (by rw[A];exact hargs);rw[henc]at this;obtain⟨⟨vs',e,k⟩,l⟩:=this;have e':g=vs':=by simpa using e
  rw[e'];exact⟨k,l⟩)
 refine calls_of_wp t u (jA (p.at (.box i j)) r c a h fun e S' a' w' G' b f=>?_);have key:(EG E fn s.rs s.ex s.sh).val S'=some y->bodyPost P fn (fun e w'=>∃v,e=.returned v/\tY (fun c=>c=bb) w.heap.size w w'/\xq w w' bb/\akh w.heap.size w' S bb s.ex s.sh s.rs y v) .ret a' w':=by
  intro B;obtain⟨v,k,l⟩:=Ua p.1 B f q hh fun m=>ah6 (hsame m) hargs
  exact⟨f.nodef,v,k,v,rfl,f.below,(f.fx bb rfl).2 (aL.1 hh).1,l⟩
 cases e with
 | normal=>
  change (EG E fn s.rs s.ex s.sh).runK S' some=some y at b;rw[Rd.lH,zB]at b;obtain⟨z,o,d⟩:=b;cases d
  exact key o
 | exit id=>cases b
 | ret=>
  change (EG E fn s.rs s.ex s.sh).runK S' some=some y at b;rw[Rd.lH,zB]at b;obtain⟨z,o,d⟩:=b;cases d
  exact key o
theorem TY{w:World}{S0:Nat->Nat->Prop}{fn:Func}{rs:List Sh}{G:Gh}{S:St}{a:Act}{w':World}{y:Tup rs}(f:(EF fn rs).val S=some y)(h:Inv ⟨w,S0,fun _=>False,none⟩ G S a w') :
  ∃bb,(results fn a.tmps).run P w'=.ok (.pointer (some ⟨bb,0,none⟩)) w'/\w.heap.size<=bb /\
  ∃(vs':List Value) (Et:TypeId) (S':Nat->Nat->Prop),w'.heap[bb]?=some (.cells vs'.toArray Et (0,0))/\bI (fun _ d u=>Rep w' S' d u) 0 (dO rs y) vs'/\∀b o,S' b o->(S0 b o\/w.heap.size<=b)/\b<w'.heap.size/\b≠bb:=by
 unfold EF at f;split at f
 case isFalse=>cases f
 rename_i z;split at f
 case h_2=>cases f
 rename_i t hres;simp only[Rd.val]at f;split at f
 case h_2=>cases f
 rename_i b C;simp only[Rd.val]at f;split at f
 case h_2=>cases f
 rename_i cs i;split at f
 case isFalse=>cases f
 rename_i l;have A:=h.jm t;rw[C]at A;obtain⟨m,vs',Et,hh,n⟩:=h.box b cs i;refine⟨G.bk b,?_,?_,vs',Et,fun b o=>G.S b o\/AK G S [] b o,hh,?_,?_⟩
 ·have:(fn.results.toList.mapM (zU a.tmps)).run P w'=.ok [Value.pointer (some ⟨G.bk b,0,none⟩)] w':=by
   rw[hres];simp only[List.mapM_cons,List.mapM_nil,Sem.run_bind,zU,Sem.run_pure,Result.andThen_ok];have:a.tmps.getD t undef=.pointer (some ⟨G.bk b,0,none⟩):=A.2;rw[this]
  exact zT this
 ·rcases (h.olt _ _ m).1 with p | ⟨_,p⟩
  ·exact p
  ·exact p.elim
 ·cases rs with
  | nil=>cases z
  | cons c rs=>
   have B:=wC h [] 0 f (us:=[.agg vs'.toArray]) ⟨⟨vs',rfl,n⟩,trivial⟩ fun k j z' q D=>by
    rcases a8.1 q with rfl | q
    ·have:(k,j)∈aQ cs:=iL D;rw[l]at this;cases this
    ·cases q
   cases rs with
   | nil=>
    have:=ShR.agg (c:=c) (Q:=fun d u=>Rep w' (fun b o=>G.S b o\/AK G S [] b o) d u) z B;simpa [dO] using this
   | cons s r=>exact absurd B.2 (by cases r<;>exact fun h=>h)
 ·rintro bo o (v | ⟨k,j,_,_,_,_,_,_,g,_⟩)
  ·refine⟨?_,(h.sok bo o v).1,fun e=>(h.sok bo o v).2 b (by rw[e];exact m)⟩;rcases Nat.lt_or_ge bo w.heap.size with x | x
   ·exact .inl (h.sfr bo o v x)
   ·exact .inr x
  ·have:=h.oh g;exact⟨.inr this.1,this.2,fun e=>by rw[e,m]at g;cases g⟩
theorem TG{E:Env}(m:jK P E)(p:P.follows .mixedOrders=true)(an:List (Nat×LA)){s:Fsp}{fn:Func}(i:P.funcs[s.fid]?=some fn)
  (hden:∀x,amf E an fn s.ps s.rs x=s.fn x):RV P s:=by
 intro w S args x y g j hargs q;rw[<- hden x]at g;unfold amf at g;split at g
 ·cases g
 ·rename_i c r;obtain⟨G,h⟩:=QT q (n:=fn.ntmps) (vs:=Ju s.ps x) (us:=args) (fun G t=>yZ (by rw[t];exact hargs));refine calls_of_wp i r (jA (m.at (.none j)) p c g h fun e S' a' w' G' a k=>?_);have key:(EF fn s.rs).val S'=some y->bodyPost P fn (fun e w'=>∃bb,e=.returned (.pointer (some ⟨bb,0,none⟩))/\Below w.heap.size w w'/\w.heap.size<=bb /\
    ∃(vs':List Value) (Et:TypeId) (S':Nat->Nat->Prop),w'.heap[bb]?=some (.cells vs'.toArray Et (0,0))/\bI (fun _ d u=>Rep w' S' d u) 0 (dO s.rs y) vs'/\∀b o,S' b o->(S b o\/w.heap.size<=b)/\b<w'.heap.size/\b≠bb) .ret a' w':=by
   intro v;obtain⟨bb,A,B,C⟩:=TY v k;exact⟨k.nodef,_,A,bb,rfl,k.below.VI fun _ i=>i,B,C⟩
  cases e with
  | normal=>
   change (EF fn s.rs).runK S' some=some y at a;rw[Rd.lH,zB]at a;obtain⟨z,l,f⟩:=a;cases f
   exact key l
  | exit id=>cases a
  | ret=>
   change (EF fn s.rs).runK S' some=some y at a;rw[Rd.lH,zB]at a;obtain⟨z,l,f⟩:=a;cases f
   exact key l
end functions
end Go.Abs
