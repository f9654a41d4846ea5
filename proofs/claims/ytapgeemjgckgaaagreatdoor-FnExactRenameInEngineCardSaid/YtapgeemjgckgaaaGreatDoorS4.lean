import Derived.Test.YtapgeemjgckgaaaGreatDoorS3
set_option linter.unusedSimpArgs false
set_option linter.unusedVariables false
/- Regions, loops, code, functions. -/
namespace Go.Abs
open Go.RowKit
theorem Vo{S:St}{t:Nat}{v:AV}(h:S.gZ t=v)(a:v≠.undef):S.iR t v=S:=by
 cases S with
 | mk tmps boxes owns=>
  simp only[St.iR,St.gZ]at *;congr 1;by_cases b:t<tmps.length
  ·rw[zE,zF b]at h;simp only[Option.getD_some]at h;rw[<- h,List.set_getElem_self]
  ·rw[List.set_eq_of_length_le (by omega)]
theorem VL{ρ:Type}{t:Nat}{S:St}{k:St->Option ρ}{r:ρ}(h:fork t S k=some r):k S=some r:=by
 unfold fork at h;split at h
 ·rename_i b a;cases b with
  | true=>rw[<- Vo a (by simp)];exact h
  | false=>rw[<- Vo a (by simp)];exact h
 ·exact h
theorem Am{ρ:Type}{x:Option Nat}{S:St}{k:St->Option ρ}{r:ρ}(h:MV x S k=some r):k S=some r:=by
 unfold MV at h;split at h
 ·exact h
 ·exact VL h
theorem agt{S:St}{x:W}{l:L}(h:x.loc≠l):agree S (S.put x) l:=by
 cases x<;>cases l<;>simp only[W.loc,ne_eq,L.t.injEq,L.b.injEq,L.o.injEq]at h<;>simp only[agree,St.put]<;>
  first
   | rfl
   | (rw[VK,if_neg fun e=>h e.1])
   | (rw[jV,if_neg fun e=>h e.1])
   | (rw[bH,if_neg fun e=>h e.1])
theorem ab2{S S' S'':St}{l:L}(h:agree S S' l)(a:agree S' S'' l):agree S S'' l:=by
 cases l<;>exact a.trans h
theorem Gn:∀(ws:List W) {S:St} {l:L},(∀x,x∈ws->x.loc≠l)->agree S (S.puts ws) l
 | [],S,l,_=>by cases l<;>rfl
 | x::r,S,l,h=>ab2 (agt (h x ar)) (Gn r fun y a=>h y (aq _ a))
theorem akK{S:St}{x y:W}(h:x.loc≠y.loc):(S.put x).put y=(S.put y).put x:=by
 have key:∀ {α:Type} {l:List α} {i j:Nat} {a b:α},i≠j->(l.set i a).set j b=(l.set j b).set i a:=fun c=>List.set_comm _ _ c
 cases x<;>cases y<;>simp only[W.loc,ne_eq,L.t.injEq,L.b.injEq,L.o.injEq]at h<;>simp only[St.put]<;>
  first
   | rfl
   | (simp only[St.iR];rw[key h])
   | (simp only[St.setB];rw[key h])
   | (rw[bH,if_neg (by omega),bH,if_neg (by omega)];simp only[St.di];rw[key h])
   | (rw[bH,if_neg (by omega)];simp only[St.di];rw[key h])
   | (simp only[St.di];rw[key h])
theorem aaf:∀(ws:List W) {S:St} {x:W},(∀y,y∈ws->y.loc≠x.loc)->(S.puts ws).put x=(S.put x).puts ws
 | [],S,x,_=>rfl
 | y::r,S,x,h=>by
  show ((S.put y).puts r).put x=((S.put x).put y).puts r
  rw[aaf r fun z a=>h z (aq _ a),akK (h y ar)]
theorem Vw:∀(vs ws:List W) {S:St},(∀x y,x∈vs->y∈ws->y.loc≠x.loc)->(S.puts ws).puts vs=(S.puts vs).puts ws
 | [],ws,S,_=>rfl
 | x::r,ws,S,h=>by
  show ((S.puts ws).put x).puts r=((S.put x).puts r).puts ws
  rw[aaf ws fun y a=>h x y ar a,Vw r ws fun z y b a=>h z y (aq _ b) a]
theorem BZ{a b:List L}(h:meets a b=false):∀x y,x∈a->y∈b->x≠y:=by
 intro x y c d e;simp only[meets,List.any_eq_false,List.any_eq_true,not_exists,not_and,decide_eq_true_eq]at h;exact h x c y d e
inductive Run(E:Env)(ops:Array Oper):List (Oper×Nat)->St->List Lg->St->Prop
 | nil (S:St):Run E ops [] S [] S
 | cons (o:Oper) (i:Nat) (r:List (Oper×Nat)) (S S':St) (ws:List W) (rs:List L) (g:List Lg) (h:(Hw E ops o).AZ S []=some (ws,rs)) (hr:Run E ops r (S.puts ws) g S') :
   Run E ops ((o,i)::r) S ({ i,reads:=rs,writes:=ws.map W.loc } :: g) S'
theorem Qp{ρ:Type}{E:Env}{ops:Array Oper}{k:St->List Lg->Option ρ}{r:ρ}:∀ {l:List (Oper×Nat)} {S:St} {g:List Lg},opsL E ops l S g k=some r ->
  ∃g' S',Run E ops l S g' S'/\k S' (g'.reverse++g)=some r
 | [],S,g,h=>⟨[],S,.nil S,h⟩
 | (o,i)::l,S,g,h=>by
  have a:=Am (Am h);rw[Rd.akJ,zB]at a;obtain⟨⟨ws,rs⟩,b,c⟩:=a;obtain⟨g',S',d,e⟩:=Qp c;exact⟨_,S',.cons o i l S S' ws rs g' b d,by simpa using e⟩
theorem Run.front{E:Env}{ops:Array Oper}{o:Oper}{i:Nat}{post:List (Oper×Nat)}:∀ {pre:List (Oper×Nat)} {S S':St} {g:List Lg},Run E ops (pre++(o,i)::post) S g S' ->
  (∀gpre gi gpost,g=gpre++gi::gpost->gpre.length=pre.length->∀b,b∈gpre->b.free gi=true) ->
  ∃ws rs gpre gpost,g=gpre ++ { i,reads:=rs,writes:=ws.map W.loc } :: gpost/\gpre.length=pre.length/\(Hw E ops o).AZ S []=some (ws,rs)/\Run E ops (pre++post) (S.puts ws) (gpre++gpost) S'
 | [],S,S',g,h,_=>by
  cases h with
  | cons _ _ _ _ _ ws rs g j k=>exact⟨ws,rs,[],g,rfl,rfl,j,k⟩
 | (m,p)::pre,S,S',g,h,n=>by
  cases h with
  | cons _ _ _ _ _ a c B j k=>
   obtain⟨ws,rs,gpre,gpost,rfl,f,q,r⟩:=Run.front k fun gpre gi gpost s f b t=>
    n (_::gpre) gi gpost (by rw[s];rfl) (by simp[f]) b (aq _ t)
   have hfree:=n (_::gpre) _ gpost rfl (by simp[f]) _ ar;simp only[Lg.free,zI,Bool.not_eq_true']at hfree;obtain⟨⟨u,v⟩,w⟩:=hfree;have z:(Hw E ops o).AZ S []=some (ws,rs):=Rd.Oy q fun x d=>by
    have:=Gn a (S:=S) (l:=x) fun y e=>BZ u y.loc x (List.mem_map_of_mem e) d
    cases x<;>exact Eq.symm this
   have A:(Hw E ops m).AZ (S.puts ws) []=some (a,c):=Rd.Oy j fun x d=>
    Gn ws fun y e=>BZ w y.loc x (List.mem_map_of_mem e) d
   refine⟨ws,rs,_::gpre,gpost,rfl,by simp[f],z,?_⟩;refine .cons m p _ _ _ a c _ A ?_;rw[Vw a ws fun x y d e=>Ne.symm (BZ v x.loc y.loc (List.mem_map_of_mem d) (List.mem_map_of_mem e))];exact r
theorem ai8{acc:List Nat}{o:Oper}{k:Nat}(h:(Cb acc o).testBit k=true):∃e,e∈o.after.toList/\Region.binds .any e=true/\(k=e.on\/(acc.getD e.on 0).testBit k=true):=by
 have key:∀(es:List Edge) (s:Nat),(es.foldl (fun s e=>if Region.binds .any e then s ||| 2 ^ e.on ||| acc.getD e.on 0 else s) s).testBit k=true->s.testBit k=true \/
   ∃e,e∈es/\Region.binds .any e=true/\(k=e.on\/(acc.getD e.on 0).testBit k=true):=by
  intro es;induction es with
  | nil=>intro s h;exact .inl h
  | cons e es ih=>
   intro s h;simp only[List.foldl_cons]at h;rcases ih _ h with a | ⟨e',b,d⟩
   ·split at a
    ·rename_i c;simp only[Nat.testBit_or,Bool.or_eq_true]at a;rcases a with (a | a) | a
     ·exact .inl a
     ·rw[Nat.testBit_two_pow]at a;exact .inr ⟨e,ar,c,.inl (by simp at a;exact a.symm)⟩
     ·exact .inr ⟨e,ar,c,.inr a⟩
    ·exact .inl a
   ·exact .inr ⟨e',aq _ b,d⟩
 rcases key _ _ h with a | a
 ·simp at a
 ·exact a
theorem VD:∀(l:List Oper) (acc:List Nat) (i:Nat),(∀i,i<acc.length->(masks acc l)[i]?=acc[i]?)/\(∀o,l[i]?=some o->∃acc',(∀j,j<acc'.length->(masks acc l)[j]?=acc'[j]?)/\acc'.length=acc.length+i/\(masks acc l)[acc.length+i]?=some (Cb acc' o))
 | [],acc,i=>⟨fun _ _=>rfl,fun o h=>by simp at h⟩
 | a::r,acc,i=>by
  have ih:=VD r (acc++[Cb acc a]);have c:∀i,i<acc.length->(masks acc (a::r))[i]?=acc[i]?:=fun i hi=>by
   show (masks (acc++[Cb acc a]) r)[i]?=_
   rw[(ih 0).1 i (by simp;omega),List.getElem?_append_left hi]
  refine⟨c,fun o b=>?_⟩;cases i with
  | zero=>
   simp at b;subst b;refine⟨acc,c,rfl,?_⟩;show (masks (acc++[Cb acc a]) r)[acc.length+0]?=_
   rw[(ih 0).1 _ (by simp)];simp
  | succ i=>
   obtain⟨acc',d,f,g⟩:=(ih i).2 o (by simpa using b);refine⟨acc',d,by simp at f;omega,?_⟩;have e:acc.length+(i+1)=(acc++[Cb acc a]).length+i:=by simp;omega
   rw[e];exact g
section regions
variable {P:Program} {w0:Bs} {E:Env} {ops:Array Oper} {Q:Exit->Act->World->Prop}
theorem Ws{G:Gh}{S:St}{a:Act}{w:World}(h:Inv w0 G S a w){o:Oper}{b:Bool}(hv:(Wu ops o).val S=some b):Region.wanted o (yielded ops a.tmps)=b:=by
 unfold Wu at hv;unfold Region.wanted;split at hv
 ·rename_i k;simp only[Rd.val,zD]at hv;rw[k];exact hv
 ·rename_i j want k;rw[k];split at hv
  ·cases hv
  ·rename_i t n;simp only[Rd.val]at hv;have g:=h.gZ t;have p:∀v,a.tmps.getD t undef=v->v≠undef->a.tmps[t]?=some v:=by
    intro v hv l;cases i:a.tmps[t]? with
    | none=>simp[i]at hv;exact absurd hv.symm l
    | some u=>simp[i]at hv;rw[hv]
   split at hv
   ·rename_i bb d;simp only[Rd.val,zD]at hv;rw[d]at g;have e:Rep w G.S (.bool bb) (a.tmps.getD t undef):=g;generalize c:a.tmps.getD t undef=vv at e;cases e
    have:=p _ c (by simp[undef]);simp only[yielded,n,zA,this];rw[<- hv];cases bb<;>cases want<;>rfl
   ·rename_i d;simp only[Rd.val,zD]at hv;rw[d]at g;obtain⟨us,c,m⟩:=g;have f:us=[]:=by cases us with
     | nil=>rfl
     | cons=>exact m.elim
    subst f;rw[<- hv];have:yielded ops a.tmps j=none:=by
     simp only[yielded,n,zA];cases i:a.tmps[t]? with
     | none=>rfl
     | some u=>
      simp[i]at c;rw[c]
    show (yielded ops a.tmps j==some want)=false
    rw[this];rfl
   ·cases hv
theorem O4{G:Gh}{S:St}{a:Act}{w:World}(e:Ba P E w0)(h:Inv w0 G S a w){o:Oper}{i:Nat}(hi:ops[i]?=some o){ws:List W}(hv:(Hw E ops o).val S=some ws){K:Act->World->Prop}
  (d:∀a' w' G',Inv w0 G' (S.puts ws) a' w'->K a' w'):wpOp P ops Q i K a w:=by
 unfold Hw at hv;rw[Rd.aF,zB]at hv;obtain⟨b,f,c⟩:=hv;have g:=Ws h f;unfold wpOp;rw[hi];simp only[g];cases b with
 | true=>exact .inl (VT h e c d)
 | false=>
  simp only[Rd.val,zD]at c;subst c;exact d _ _ _ (h.dst DF)
theorem Hy{j:Oper}{l:List Oper}{q:Srt×Operand×Nat×Nat×Nat×Oper}(h:Hz E j l=some q):∃(a d:Oper) (r:List Oper) (T:Nat) (x:Operand) (e g:Nat) (first cap:Array Operand) (i:Nat) (c:Call) (f b:Nat) (s:Srt),
  l=a::d::r/\j.op=.makeInterface T x/\j.dst=some e/\a.op=.makeFunc (.func g) first cap/\a.dst=some i/\d.op=.call c/\c.callee=.value (.func f)/\first.toList=[]/\cap.toList=[.tmp b]/\c.args.toList=[.tmp e,.tmp i] /\
  j.guard=none/\a.guard=none/\d.guard=none/\e≠i/\b≠e/\s∈E.so/\s.fid=f/\s.g=g/\s.T=T/\q=(s,x,b,e,i,d):=by
 unfold Hz at h;split at h
 case h_2=>cases h
 rename_i a d r;split at h
 case h_2=>cases h
 rename_i T x e g first cap i c o p t u v;split at h
 case h_2=>cases h
 rename_i f b w y z A B C;split at h
 case isFalse=>cases h
 rename_i m;simp only[zI,Option.isNone_iff_eq_none,beq_iff_eq,bne_iff_ne,ne_eq]at m;obtain⟨⟨⟨⟨⟨⟨D,F⟩,G⟩,H⟩,I⟩,J⟩,K⟩:=m;rw[Option.map_eq_some_iff]at h;obtain⟨s,n,rfl⟩:=h;have k:=List.find?_some n;simp only[zI,beq_iff_eq]at k;subst H I;exact⟨a,d,r,T,x,w,g,first,cap,y,c,f,b,s,rfl,o,p,t,u,v,z,A,B,C,D,F,G,J,K,List.mem_of_find?_eq_some n,k.1.1,k.1.2,k.2,rfl⟩
theorem TS{T:TypeId}{d:TypeDesc}(a:P.underlying T=some d)(hd:∀ms,d≠.interface ms)(v:Value)(w:World):(Instr.makeInterface T v).run P w=.ok (.iface T v) w:=by
 unfold Instr.makeInterface;have:=run_underlying a w;rw[Sem.run_bind,this];simp only[Result.andThen];cases d<;>first | rfl | exact absurd rfl (hd _)
theorem FM{a:Act}{d:Nat}{v:Value}(h:d<a.tmps.size):(a.put (some d) v).eval (.tmp d)=v:=by
 simp[Act.put,Act.eval,h]
theorem Dj{a:Act}{d e:Nat}{v:Value}(h:e≠d):(a.put (some d) v).eval (.tmp e)=a.eval (.tmp e):=by
 simp[Act.put,Act.eval,Array.getElem?_setIfInBounds,Ne.symm h]
theorem acB(hE:Ba P E w0){G:Gh}{S:St}{a:Act}{w:World}(h:Inv w0 G S a w){o1 o2 B:Oper}{r:List Oper}{q:Srt×Operand×Nat×Nat×Nat×Oper}(hq:Hz E o1 (o2::B::r)=some q)
  {ws:List W} (hv:(Ol q).val S=some ws) {K:Act->World->Prop} (hK:∀a' w' G',Inv w0 G' (S.puts ws) a' w'->K a' w') :
  o1.wp P a w (fun a1 w1=>o2.wp P a1 w1 (fun a2 w2=>B.wp P a2 w2 K Q) Q) Q:=by
 obtain⟨o2',o3',r',T,x,z,g,first,cap,C,c,f,b,s,hl,h1,h2,h3,h4,h5,k1,k2,k3,k4,g1,g2,g3,c3,c4,D,l,F,m,rfl⟩:=Hy hq;simp only[List.cons.injEq]at hl;obtain⟨rfl,rfl,rfl⟩:=hl;obtain⟨hcall,hsound,dd,hu,H⟩:=hE.2.2.2.2.2.2.1 s D;unfold Ol at hv;simp only[Rd.aF,zB]at hv;obtain⟨ax,e1,v,e2,hv⟩:=hv;split at hv
 case h_2=>cases hv
 rename_i k j;simp only[Rd.val]at hv;split at hv
 case h_2=>cases hv
 rename_i bi I;simp only[Rd.val]at hv;split at hv
 case h_2=>cases hv
 rename_i k' j' J;split at hv
 case isFalse=>cases hv
 rename_i L;obtain⟨rfl,rfl⟩:=L;simp only[Rd.val]at hv;split at hv
 case h_2=>cases hv
 rename_i t xs deep hown;split at hv
 case isFalse=>cases hv
 rename_i M;subst M;simp only[Rd.val,zB]at hv;obtain⟨ys,h7,hv⟩:=hv;split at hv
 case isFalse=>cases hv
 rename_i n;simp only[Rd.val,zD]at hv;subst hv;have N:vC G w (.one (.own k j)) (a.eval x):=qh e2 (bg h e1);have d:a.eval x=G.ov k j:=N.2.1;have O:jc G w (.v (.one (.ptr bi 0))) (a.eval (.tmp b)):=by rw[<- I];exact h.gZ b
 have R:a.eval (.tmp b)=.pointer (some ⟨G.bk bi,0,none⟩):=O.2;obtain⟨U,vs,Eb,hheap,V⟩:=h.box bi _ J;have X:vs=[a.eval x]:=by
  match vs,V with
  | [],i=>exact i.elim
  | [u],i=>rw[d,<- i.1.2.1]
  | _::_::_,i=>exact i.2.elim
 rw[X]at hheap;have Y:OwT w G.S deep true s.t xs (a.eval x) (gJ G k j):=by
  have:=h.owns k j;rw[hown]at this;rw[d];exact this
 have Z:¬gJ G k j (G.bk bi):=fun A=>by
  have A:G.ow (G.bk bi)=some (.own k j):=A;rw[U]at A;cases A
 have hC:=hsound w G.S deep (G.bk bi) Eb (a.eval x) xs ys (gJ G k j) h7 (hE.am.keep w h.below) Y (fun c i=>(h.olt _ _ i).2) (fun b o D=>(h.sok b o D).1) hheap Z;have hz1:z<a.tmps.size:=by rw[h.tsz];exact n.1
 have hz2:C<a.tmps.size:=by rw[h.tsz];exact n.2
 refine aS (v:=.iface T (a.eval x)) (w':=w) ?_ ?_
 ·unfold execOp;rw[h1];show ((Instr.makeInterface T (a.eval x)) >>= fun y=>pure (Next.value y)).run P w=_
  rw[Sem.run_bind,TS (m▸hu) H];rfl
 rw[h2];refine aS (v:=.func (.func g) #[] #[.pointer (some ⟨G.bk bi,0,none⟩)]) (w':=w) ?_ ?_
 ·unfold execOp;rw[h3];have ef:first = #[]:=by cases first;simp at k2;rw[k2]
  have ec:cap = #[.tmp b]:=by cases cap;simp at k3;rw[k3]
  subst ef ec;have:(a.put (some z) (.iface T (a.eval x))).eval (.tmp b)=.pointer (some ⟨G.bk bi,0,none⟩):=by rw[Dj c4,R]
  simp only[List.map_toArray,List.map_cons,List.map_nil,this];rfl
 rw[h4];have hargs:c.args.map ((a.put (some z) (.iface T (a.eval x))).put (some C) (.func (.func g) #[] #[.pointer (some ⟨G.bk bi,0,none⟩)])).eval = #[.iface s.T (a.eval x),.func (.func s.g) #[] #[.pointer (some ⟨G.bk bi,0,none⟩)]]:=by
  rw[nI k4];simp only[List.map_toArray,List.map_cons,List.map_nil];rw[Dj c3,FM hz1,FM (by simp[Act.put];exact hz2),m,F]
 unfold Oper.wp;rw[lC h5 k1 (l▸hcall),hargs];subst l;refine Calls.mono hC fun e w' he=>?_
 obtain⟨rfl,hoff,p⟩:=he;rw[d]at p;have h9:=aaj h hown hoff p;refine hK _ _ G ?_;rw[fK];have h10:=h9.iR z (av:=.undef) (v:=.iface T (a.eval x)) trivial;have h11:=h10.iR C (av:=.undef) (v:=.func (.func g) #[] #[.pointer (some ⟨G.bk bi,0,none⟩)]) trivial;exact h11.dst (o:=B) (av:=.tup []) (v:=.tuple #[]) ⟨[],rfl,trivial⟩
theorem yU{o:Oper}{i:Nat}(hi:ops[i]?=some o)(b:o.guard=none){K:Act->World->Prop}{a:Act}{w:World}(h:o.wp P a w K Q):wpOp P ops Q i K a w:=by
 unfold wpOp;have:Region.wanted o (yielded ops a.tmps)=true:=by unfold Region.wanted;rw[b]
 rw[hi];simp only[this];exact .inl h
theorem Gt{ρ:Type}(j:Ba P E w0){k:St->Option ρ}{r:ρ}(u:∀S' a' w' G',k S'=some r->Inv w0 G' S' a' w'->Q .normal a' w') :
  ∀(n:Nat) {l:List Oper} {i:Nat} {G:Gh} {S:St} {a:Act} {w:World},l.length<=n->ops.toList.drop i=l->TV E ops 0 l S k=some r->Inv w0 G S a w->wpOps P ops Q (List.range' i l.length) a w
 | _,[],i,G,S,a,w,_,_,hv,h=>u S a w G hv h
 | 0,o::l,i,G,S,a,w,m,_,_,_=>absurd m (by simp)
 | n+1,o::l,i,G,S,a,w,m,hd,hv,h=>by
  have get:∀(t:Nat) (y:Oper),(o::l)[t]?=some y->ops[i+t]?=some y:=fun t y H=>by
   have:(ops.toList.drop i)[t]?=some y:=by rw[hd];exact H
   rw[List.getElem?_drop]at this;simpa using this
  have dr:∀t,ops.toList.drop (i+t)=(o::l).drop t:=fun t=>by rw[<- hd,List.drop_drop]
  have hi:=get 0 o rfl;cases p:Hz E o l with
  | none=>
   have d:MV (adW ops o) S (fun S=>MV (aiJ o) S fun S=>(Hw E ops o).runK S fun ws=>TV E ops 0 l (S.puts ws) k)=some r:=by
    unfold TV at hv;rw[p]at hv;exact hv
   have e:=Am (Am d);rw[Rd.jH,zB]at e;obtain⟨ws,B,C⟩:=e;show wpOps P ops Q (i::List.range' (i+1) l.length) a w
   rw[wpOps_cons];exact O4 j h hi B fun a' w' G' v=>Gt j u n (by simpa using m) (dr 1) C v
  | some q=>
   obtain⟨D,F,l',T,x,W,g,first,cap,X,c,f,b,s,I,Y,B,C,Z,h5,k1,k2,k3,k4,J,L,M,c3,c4,hs,N,O,R,U⟩:=Hy p;subst I;have d:(Ol q).runK S (fun ws=>TV E ops 2 (D::F::l') (S.puts ws) k)=some r:=by
    unfold TV at hv;rw[p]at hv;exact hv
   rw[Rd.jH,zB]at d;obtain⟨ws,V,z⟩:=d;have z:TV E ops 0 l' (S.puts ws) k=some r:=z;show wpOps P ops Q (i::(i+1)::(i+1+1)::List.range' (i+1+1+1) l'.length) a w
   rw[wpOps_cons];refine yU hi J ?_;have:=acB (Q:=Q) j h p V (K:=wpOps P ops Q (List.range' (i+1+1+1) l'.length)) fun a' w' G' v=>Gt j u n (by simp at m ⊢;omega) (dr 3) z v
   refine Oper.wp_mono (fun a1 w1 hh=>?_) this;rw[wpOps_cons];refine yU (get 1 D rfl) L ?_;refine Oper.wp_mono (fun a2 w2 A=>?_) hh;rw[wpOps_cons];exact yU (get 2 F rfl) M A
theorem ade{ρ:Type}(b:Ba P E w0){k:St->Option ρ}{r:ρ}(c:∀S' a' w' G',k S'=some r->Inv w0 G' S' a' w'->Q .normal a' w')
  {l:List Oper} {i:Nat} {G:Gh} {S:St} {a:Act} {w:World} (hd:ops.toList.drop i=l) (hv:aoD E ops l S k=some r) (h:Inv w0 G S a w):wpOps P ops Q (List.range' i l.length) a w:=
 Gt b c l.length (aw _) hd hv h
end regions
end Go.Abs
namespace Go.Abs
open Go.RowKit
theorem adn{ops:Array Oper}{i k:Nat}(h:((masks [] ops.toList).getD i 0).testBit k=true) :
  ∃o e,ops[i]?=some o/\e∈o.after.toList/\Region.binds .any e=true/\(k=e.on\/(e.on<i/\((masks [] ops.toList).getD e.on 0).testBit k=true)):=by
 cases b:ops.toList[i]? with
 | none=>
  exfalso;have hlen:(masks [] ops.toList).length=ops.toList.length:=by
   have key:∀(l:List Oper) (acc:List Nat),(masks acc l).length=acc.length+l.length:=by
    intro l;induction l with
    | nil=>intro acc;rfl
    | cons o r ih=>intro acc;show (masks (acc++[Cb acc o]) r).length=_;rw[ih];simp;omega
   have:=key ops.toList [];simpa using this
  have hi:ops.toList.length<=i:=by simpa using b
  rw[zE,zJ (by omega)]at h;simp at h
 | some o=>
  obtain⟨acc',f,g,d⟩:=(VD ops.toList [] i).2 o b;simp only[List.length_nil,Nat.zero_add]at g d;rw[zE,d]at h;obtain⟨e,j,m,a⟩:=ai8 h;refine⟨o,e,by simpa using b,j,m,a.imp id fun a=>?_⟩;by_cases c:e.on<i
  ·refine⟨c,?_⟩;rw[zE,f _ (by omega),<- zE];exact a
  ·rw[zE,zJ (by omega)]at a;simp at a
def Closed(ops:Array Oper)(listed:Array Bool):Prop:=∀i o e,listed.getD i false=true->ops[i]?=some o->e∈o.after.toList->Region.binds .any e=true->listed.getD e.on false=true
theorem Nh{ops:Array Oper}{listed:Array Bool}(g:Closed ops listed):∀(n i k:Nat),i<n->(∀o e,ops[i]?=some o->e∈o.after.toList->Region.binds .any e=true->listed.getD e.on false=true) ->
  ((masks [] ops.toList).getD i 0).testBit k=true->listed.getD k false=true
 | 0,i,k,j,_,_=>by omega
 | n+1,i,k,j,hi,l=>by
  obtain⟨o,e,m,p,a,b⟩:=adn l;have h:=hi o e m p a;rcases b with rfl | ⟨q,b⟩
  ·exact h
  ·exact Nh g n e.on k (by omega) (fun o' e' c d f=>g e.on o' e' h c d f) b
theorem yQ{bf:List Nat}:∀ {g:List Lg},EN bf g=true->g.Pairwise fun a b=>(bf.getD a.i 0).testBit b.i=true\/b.free a=true
 | [],_=>.nil
 | a::r,h=>by
  simp only[EN,zI,List.all_eq_true,Bool.or_eq_true]at h;exact .cons (fun b c=>h.1 b c) (yQ h.2)
theorem Run.idx{E:Env}{ops:Array Oper}{l:List (Oper×Nat)}{S S':St}{g:List Lg}(h:Run E ops l S g S'):g.map Lg.i=l.map (·.2):=by
 induction h with
 | nil S=>rfl
 | cons o i r S S' ws rs g h a ih=>simp[ih]
section regions
variable {P:Program} {w0:Bs} {E:Env} {ops:Array Oper} {Q:Exit->Act->World->Prop}
theorem Wh(hE:Ba P E w0){S':St}(K:∀a' w' G',Inv w0 G' S' a' w'->Q .normal a' w')(hback:∀i o e,ops[i]?=some o->e∈o.after.toList->Region.binds .any e=true->e.on<i) :
  ∀(fuel:Nat) {listed:Array Bool} {l:List (Oper×Nat)} {S:St} {g:List Lg} {a:Act} {w:World} {G:Gh},listed.size=ops.size->Closed ops listed ->
   (∀o i,(o,i)∈l->ops[i]?=some o/\listed.getD i true=false)->(∀o i,ops[i]?=some o->listed.getD i true=false->(o,i)∈l)->l.Pairwise (fun x y=>x.2<y.2) ->
   Run E ops l S g S'->g.Pairwise (fun b a=>((masks [] ops.toList).getD a.i 0).testBit b.i=true\/b.free a=true)->Inv w0 G S a w->l.length<=fuel->wpAny P .any ops Q fuel listed a w
 | 0,listed,l,S,g,a,w,G,_,_,_,z,_,A,_,h,hf=>by
  have hl:l=[]:=List.eq_nil_of_length_eq_zero (by omega);subst hl;cases A
  refine⟨?_,K _ _ _ h⟩;rw[List.eq_nil_iff_forall_not_mem];intro j hj;obtain⟨h0,o,k,_⟩:=mem_ready.1 hj;exact absurd (z o j k h0) (by simp)
 | fuel+1,listed,l,S,g,a,w,G,L,B,J,z,s,A,u,h,hf=>by
  refine⟨fun hnil=>?_,fun i hi=>?_⟩
  ·cases l with
   | nil=>cases A;exact K _ _ _ h
   | cons x r=>
    obtain⟨o,i⟩:=x;exfalso;obtain⟨k,t⟩:=J o i ar;have hm:i∈Region.ready .any ops listed:=by
     refine mem_ready.2 ⟨t,o,k,fun e he n=>?_⟩;have hlt:=hback i o e k (by simpa using he) n;have M:i<ops.size:=(aM.1 k).1;cases v:listed.getD e.on false with
     | true=>rfl
     | false=>
      have N:listed.getD e.on true=false:=by
       have:e.on<listed.size:=by omega
       simp[this]at v ⊢;exact v
      have hmem:=z ops[e.on] e.on (by simp) N;rcases ba.1 hmem with d | d
      ·have:=congrArg Prod.snd d;simp at this;omega
      ·have:=(List.pairwise_cons.1 s).1 _ d;simp at this;omega
    rw[hnil]at hm;cases hm
  ·obtain⟨t,o,k,hall⟩:=mem_ready.1 hi;have hmem:=z o i k t;obtain⟨pre,post,rfl⟩:=List.append_of_mem hmem;have hidx:=A.idx;obtain⟨ws,rs,gpre,gpost,rfl,p,hv,O⟩:=A.front fun gpre gi gpost R p b C=>by
    subst R;have T:gi.i=i:=by
     have:=congrArg (fun l=>l[pre.length]?) hidx;simp[<- p]at this;simpa [p] using this
    have U:b.i∈pre.map (·.2):=by
     have e1:(gpre.map Lg.i)=pre.map (·.2):=by
      have:=congrArg (List.take pre.length) hidx;simp only[List.map_append,List.map_cons]at this;rw[List.take_left' (by simp[p]),List.take_left' (by simp)]at this;exact this
     rw[<- e1];exact List.mem_map_of_mem C
    rw[List.pairwise_append]at u;have:=u.2.2 b C gi ar;rcases this with hbit | V
    ·exfalso;rw[T]at hbit;have hlst:=Nh B (i+1) i b.i (by omega) (fun o' e' f d W=>by
      rw[k]at f;cases f;exact hall e' (by simpa using d) W) hbit
     obtain⟨⟨o2,X⟩,D,F⟩:=List.mem_map.1 U;have:=(J o2 X (by simp[D])).2;simp only at F;rw[<- F]at hlst;have Y:X<listed.size:=by
      have:=(J o2 X (by simp[D])).1;have:=(aM.1 this).1;omega
     simp[Y]at hlst this;rw[hlst]at this;cases this
    ·exact V
   refine O4 hE h k (Rd.ahA hv) fun a' w' G' h'=>?_
   have M:i<ops.size:=(aM.1 k).1;rw[List.pairwise_append]at s u;refine Wh hE K hback fuel (l:=pre++post) (by simp[L]) ?_ ?_ ?_ ?_ O ?_ h' (by simp at hf ⊢;omega)
   ·intro i' o' e' H f d n;by_cases I:i=i'
    ·subst I;rw[k]at f;cases f;exact getD_set_true (hall e' (by simpa using d) n)
    ·rw[getD_set_ne false I]at H;exact getD_set_true (B i' o' e' H f d n)
   ·intro o' i' c;have q:i≠i':=by
     rcases List.mem_append.1 c with c | c
     ·have:=s.2.2 _ c _ ar;simp at this;omega
     ·have:=(List.pairwise_cons.1 s.2.1).1 _ c;simp at this;omega
    have:=J o' i' (by rcases List.mem_append.1 c with c | c<;>simp[c])
    exact⟨this.1,by rw[getD_set_ne true q];exact this.2⟩
   ·intro o' i' f m;have q:i≠i':=by
     rintro rfl;have:i<listed.size:=by omega
     simp[this]at m
    rw[getD_set_ne true q]at m;have:=z o' i' f m;rcases List.mem_append.1 this with c | c
    ·exact List.mem_append_left _ c
    ·rcases ba.1 c with d | c
     ·have:=congrArg Prod.snd d;simp at this;exact absurd this.symm q
     ·exact List.mem_append_right _ c
   ·rw[List.pairwise_append];exact⟨s.1,(List.pairwise_cons.1 s.2.1).2,fun x v y Z=>s.2.2 x v y (aq _ Z)⟩
   ·rw[List.pairwise_append];exact⟨u.1,(List.pairwise_cons.1 u.2.1).2,fun x v y Z=>u.2.2 x v y (aq _ Z)⟩
theorem abA(q:Ba P E w0){G:Gh}{S S':St}{a:Act}{w:World}{g:List Lg}(r:Run E ops ops.toList.zipIdx S g.reverse S')
  (k:Le ops.toList.zipIdx=true/\EN (masks [] ops.toList) g=true) (h:Inv w0 G S a w)
  (s:∀a' w' G',Inv w0 G' S' a' w'->Q .normal a' w'):wpAny P .any ops Q ops.size (Array.replicate ops.size false) a { w with drawn:=w.drawn+1 }:=by
 have hzip:∀o i,(o,i)∈ops.toList.zipIdx↔ops[i]?=some o:=by
  intro o i;rw[List.mem_zipIdx_iff_getElem?];simp
 have c:=yQ k.2;rw[<- List.pairwise_reverse]at c;refine Wh q (S':=S') s (fun i o e j t u=>?_) ops.size (l:=ops.toList.zipIdx) (by simp) ?_ (fun o i d=>⟨(hzip o i).1 d,?_⟩) (fun o i j _=>(hzip o i).2 j) ?_ r c (h.grow ((Below.refl _ _).drew)) (by simp)
 ·have:=List.all_eq_true.1 k.1 _ ((hzip o i).2 j);simp only[List.all_eq_true,Bool.or_eq_true,Bool.not_eq_true',decide_eq_true_eq]at this;rcases this e t with b | b
  ·rw[u]at b;cases b
  ·exact b
 ·intro i o e hi;by_cases m:i<ops.size
  ·simp[m]at hi
  ·simp[m]at hi
 ·have:=(aM.1 ((hzip o i).1 d)).1;simp[this]
 ·have key:∀(l:List Oper) (n:Nat),(l.zipIdx n).Pairwise (fun x y=>x.2<y.2)/\∀x∈l.zipIdx n,n<=x.2:=by
   intro l;induction l with
   | nil=>intro n;exact⟨.nil,fun x f=>by cases f⟩
   | cons o l ih=>
    intro n;obtain⟨b,p⟩:=ih (n+1);refine⟨.cons (fun y v=>?_) b,fun x f=>?_⟩
    ·have:=p y v;simp;omega
    ·rcases ba.1 f with rfl | f
     ·exact aw _
     ·have:=p x f;omega
  exact (key _ 0).1
theorem alk(b:Ba P E w0)(c:P.follows .mixedOrders=true){id:Nat}{G:Gh}{S S':St}{a:Act}{w:World}{g:List Lg}(d:Run E ops ops.toList.zipIdx S g.reverse S')
  (e:Le ops.toList.zipIdx=true/\EN (masks [] ops.toList) g=true) (h:Inv w0 G S a w)
  (f:∀a' w' G',Inv w0 G' S' a' w'->Q .normal a' w'):(Code.region id ops true).wp P Q a w:=wp_region_any c (abA b d e h f)
theorem uq:∀(keys:List (Nat×Nat)) {G:Gh} {S:St} {a:Act} {w:World},Inv w0 G S a w->∃G',Inv w0 G' (S.puts (keys.map fun q=>W.nomut q.1 q.2)) a w
 | [],G,S,a,w,h=>⟨G,h⟩
 | q::r,G,S,a,w,h=>by
  obtain⟨c,b,_⟩:=h.WH q.1 q.2;exact uq r b
theorem aee{ρ:Type}(e:Ba P E w0)(f:P.follows .mixedOrders=true){id:Nat}{k:St->Option ρ}{r:ρ}{G:Gh}{S:St}{a:Act}{w:World}
  (hv:agy E ops id S k=some r) (h:Inv w0 G S a w)
  (i:∀S' a' w' G',k S'=some r->Inv w0 G' S' a' w'->Q .normal a' w'):(Code.region id ops true).wp P Q a w:=by
 unfold agy at hv;obtain⟨j,l,c,b⟩:=Qp hv;simp only[List.append_nil]at b;split at b
 case isFalse=>cases b
 rename_i d;rw[zI]at d;obtain⟨o,m⟩:=uq (aiI E id) h;exact alk e f (g:=j.reverse) (by rw[List.reverse_reverse];exact c) d m fun a' w' G' n=>i l a' w' G' b n
end regions
end Go.Abs
namespace Go.Abs
open Go.RowKit
section loops
variable {w0:Bs} {G:Gh} {S:St} {a:Act} {w:World}
theorem wK:∀ {l:List (Nat×Nat)} {u:Unit},(Jq l).val S=some u->∀b n,(b,n)∈l->∃cs,S.fP b=some cs/\cs.length=n
 | [],_,_,b,n,a=>by cases a
 | (f,g)::r,u,h,b,n,a=>by
  simp only[Jq,Rd.val]at h;split at h
  ·rename_i cs c;split at h
   ·rename_i d;rcases ba.1 a with e | a
    ·cases e;exact⟨cs,c,d⟩
    ·exact wK h b n a
   ·cases h
  ·cases h
theorem Qh:∀ {l:List (Nat×Nat×Nat)} {u:Unit},(Qi l).val S=some u->∀i b off,(i,b,off)∈l->S.gZ i=.v (.one (.ptr b off))
 | [],_,_,i,b,off,a=>by cases a
 | (f,g,off0)::r,u,h,i,b,off,a=>by
  simp only[Qi,Rd.val]at h;split at h
  ·rename_i b' off' d;split at h
   ·rename_i e;obtain⟨rfl,rfl⟩:=e;rcases ba.1 a with c | a
    ·cases c;exact d
    ·exact Qh h i b off a
   ·cases h
  ·cases h
def cellV(G:Gh)(a:Act)(w:World):It->Value->Prop
 | .t i _,v=>a.tmps.getD i undef=v
 | .b b off _,v=>w.cell? ⟨G.bk b,off,none⟩=some v
theorem aly(h:Inv w0 G S a w){it:It}{c:C}(d:(cAt it).val S=some c):∃v,cellV G a w it v/\oQ G w c v:=by
 cases it with
 | t i s=>
  simp only[cAt,Rd.val]at d;have g:=h.gZ i;unfold avC at d;split at d
  ·rename_i c' k;simp only[Rd.val,zD]at d;subst d;rw[k]at g;exact⟨_,rfl,g⟩
  ·cases d
 | b b off s=>
  simp only[cAt,Rd.val]at d;split at d
  ·rename_i cs j;simp only[Rd.val,zB,zD]at d;obtain⟨c',e,rfl⟩:=d;obtain⟨_,vs,E,hh,g⟩:=h.box b cs j;obtain⟨m,l⟩:=g.get;have f:off<vs.length:=by have:=(zC.1 e).1;omega
   refine⟨vs[off],?_,l off c' vs[off] e (by simp[f])⟩;show w.cell? _=_
   rw[cell_of_row _ _ _ _ _ _ hh];simp[f]
  ·cases d
def Sr.live:Sr->Bool
 | .ro _=>false
 | _=>true
def akl(S0:Nat->Nat->Prop)(w:World):(sr:Sr)->sr.den->Value->(Nat->Prop)->Prop
 | .ro t,x,v,_=>∃d,t.cells x=[d]/\Rep w S0 d v
 | .own t deep m _,xs,v,lab=>OwT w S0 deep m t xs v lab
 | .part t _,z,v,lab=>ja w S0 t z.1 z.2 v lab
theorem OwT.weak{S0:Nat->Nat->Prop}{deep deep' m m':Bool}{t:Ty}{xs:List t.den}{v:Value}{fp fp':Nat->Prop}(h:OwT w S0 deep' m' t xs v fp)(hd:deep=true->deep'=true)(p:m=true->m'=true)(a:∀b,fp b->fp' b) :
  OwT w S0 deep m t xs v fp':=by
 rcases h with q | ⟨b,cap,arr,E,vs,fps,r,s,u,y,z,A,B,C,l,f,g⟩
 ·exact .inl q
 ·refine .inr ⟨b,cap,arr,E,vs,fps,r,s,u,y,z,a _ A,B,fun i x j' d D j=>(C i x j' d D j).sub (fun _ hh=>hh) hd,fun i j' c e=>⟨a _ (l i j' c e).1,(l i j' c e).2⟩,f,fun o F=>?_⟩;obtain⟨n,G⟩:=g o F;refine⟨?_,G⟩;cases k:m with
  | false=>rfl
  | true=>rw[p k]at n;cases n
def aoZ(S0:Nat->Nat->Prop)(w:World)(it:It)(x:it.sr.den)(v:Value)(lab:Nat->Prop):Prop:=akl S0 w it.sr x v lab
theorem alb(h:Inv w0 G S a w){sr:Sr}{c:C}{x:sr.den}{v:Value}(f:(ag3 sr c).val S=some x)(r:oQ G w c v){S0:Nat->Nat->Prop}(roks:List (Nat×Nat))
  (K:∀b o,(G.S b o\/AK G S roks b o)->S0 b o) (D:∀t,sr=.ro t->∀k j,c=.own k j->(k,j)∈roks)
  (B:∀k j,c=.own k j->sr.live=true->∀b o,S0 b o->G.ow b=some (.own k j)->G.S b o) :
  akl S0 w sr x v (fun b=>∃k j,c=.own k j/\G.ow b=some (.own k j)):=by
 cases sr with
 | ro t=>
  simp only[ag3]at f;split at f
  ·rename_i E;simp only[Rd.aF,zB,Rd.val,zD]at f;obtain⟨ds,F,y,L,M⟩:=f;subst M;have H:t.tys.length=1:=by
    rw[oU];cases t with
    | base b=>cases b<;>first | rfl | cases E
    | list t=>rfl
   obtain⟨N,O⟩:=Y0 F (by simpa using H);match ds,N with
   | [d],_=>
    obtain⟨c',ty,s,I⟩:=O 0 d rfl;simp at s;subst s;refine⟨d,(Ty.dA L),?_⟩;exact (SG h I r roks fun k j e=>D t rfl k j e).move fun b o n=>⟨K b o n,rfl⟩
  ·cases f
 | own t deep m key=>
  simp only[ag3]at f;split at f
  ·simp only[Rd.val,zD]at f;subst f;exact .inl ⟨r,rfl⟩
  ·rename_i k j;simp only[Rd.val]at f;split at f
   ·rename_i t' xs deep' m' hown;split at f
    ·rename_i l;subst l;split at f
     ·rename_i u;simp only[Rd.val,zD]at f;subst f;have p:=h.owns k j;rw[hown]at p;have q:OwT w G.S deep' m' t' xs (G.ov k j) (gJ G k j):=p;rw[<- r.2.1]at q;have F:OwT w S0 deep' m' t' xs v (gJ G k j):=OwT.move q (fun b o n=>⟨K b o (.inl n),rfl⟩) (fun b g=>⟨g,rfl⟩) fun b len cap hv g o n=>.inl (B k j rfl rfl b o n g)
      exact F.weak u.1 u.2 fun b g=>⟨k,j,rfl,g⟩
     ·cases f
    ·cases f
   ·rename_i t' xs hown;split at f
    ·rename_i l;subst l;simp only[Rd.val,zD]at f;subst f;have p:=h.owns k j;rw[hown]at p;obtain⟨fp,z,A,J⟩:=p;rw[<- r.2.1]at A;exact (OwT.Qw A z fun b o n g=>J b o (B k j rfl rfl b o n (z b g)) g).weak (fun _=>rfl) (fun _=>rfl) fun b g=>⟨k,j,rfl,g⟩
    ·cases f
   ·cases f
  ·cases f
 | part t key=>
  simp only[ag3]at f;split at f
  ·rename_i k j;simp only[Rd.val]at f;split at f
   ·rename_i t' xs hown;split at f
    ·rename_i l;subst l;simp only[Rd.val,zD]at f;subst f;have p:=h.owns k j;rw[hown]at p;obtain⟨fp,z,A,J⟩:=p;rw[<- r.2.1]at A;exact ja.Qw A (fun b g=>⟨k,j,rfl,z b g⟩) fun b o n g=>J b o (B k j rfl rfl b o n (z b g)) g
    ·cases f
   ·rename_i t' xs i hown;split at f
    ·rename_i l;subst l;simp only[Rd.val,zD]at f;subst f;have p:=h.owns k j;rw[hown]at p;have q:ja w G.S t' xs i (G.ov k j) (gJ G k j):=p;rw[<- r.2.1]at q;exact ja.move q (fun b g=>⟨⟨k,j,rfl,g⟩,rfl⟩) fun b o g n=>B k j rfl rfl b o n g
    ·cases f
   ·cases f
  ·cases f
theorem Inv.JP(h:Inv w0 G S a w)(i:Nat){av:AV}(hv:jc G w av (a.tmps.getD i undef)):Inv w0 G (S.iR i av) a w:=by
 have c:=h.iR i hv;have e:a.put (some i) (a.tmps.getD i undef)=a:=by
  simp only[Act.put];cases a with
  | mk tmps defers=>
   congr 1;show tmps.setIfInBounds i (tmps.getD i undef)=tmps
   by_cases b:i<tmps.size
   ·have d:i<tmps.toList.length:=by simpa using b
    have f:tmps.getD i undef=tmps.toList[i]:=by simp[b]
    rw[<- Array.toList_inj,Array.toList_setIfInBounds,f,List.set_getElem_self]
   ·rw[Array.setIfInBounds_eq_of_size_le (Nat.le_of_not_lt b)]
 rw[e]at c;exact c
theorem Inv.Zx(h:Inv w0 G S a w)(b off:Nat){cs:List C}(g:S.fP b=some cs){c:C}{v:Value}(hv:w.cell? ⟨G.bk b,off,none⟩=some v)(j:oQ G w c v) :
  Inv w0 G (S.setB b (some (cs.set off c))) a w:=by
 refine⟨h.below,h.nodef,h.tsz,by simp[St.setB,h.bsz],by simp[St.setB,h.osz],h.tmps,h.olt,h.sok,?_,h.owns,h.lk,?_,h.sfr,h.fx⟩
 ·intro i cs' d;rw[jV]at d;split at d
  ·rename_i hi;obtain⟨rfl,_⟩:=hi;cases d
   obtain⟨k,vs,E,hh,l⟩:=h.box b cs g;refine⟨k,vs,E,hh,?_⟩;obtain⟨m,n⟩:=l.get;refine dH.mk (by simpa using m) fun i c' v' e f=>?_
   rw[List.getElem?_set]at e;split at e
   ·rename_i hi;subst hi;split at e
    ·cases e
     rw[cell_of_row _ _ _ _ _ _ hh]at hv;simp at hv;rw[f]at hv;cases hv
     exact j
    ·cases e
   ·exact n i c' v' e f
  ·exact h.box i cs' d
 ·intro i hi;rw[jV];split
  ·simp
  ·exact h.lb i hi
theorem Inv.vF(h:Inv w0 G S a w){it:It}{c:C}{v:Value}(hv:cellV G a w it v)(e:oQ G w c v)(f:∀b off s,it=.b b off s->∃cs,S.fP b=some cs):Inv w0 G (S.vF it c) a w:=by
 cases it with
 | t i s=>exact h.JP i (by rw[show a.tmps.getD i undef=v from hv];exact e)
 | b b off s=>
  obtain⟨cs,d⟩:=f b off s rfl;simp only[St.vF,d];exact h.Zx b off d hv e
theorem KW(S:St)(it:It)(c:C)(b:Nat)(h:∃cs,S.fP b=some cs):∃cs,(S.vF it c).fP b=some cs:=by
 obtain⟨cs,a⟩:=h;cases it with
 | t i s=>exact⟨cs,a⟩
 | b b' off s=>
  simp only[St.vF];split
  ·rw[jV];split
   ·exact⟨_,rfl⟩
   ·exact⟨cs,a⟩
  ·exact⟨cs,a⟩
theorem KU(S:St)(it:It)(c:C)(k:Nat):(S.vF it c).aJ k=S.aJ k:=by
 cases it with
 | t i s=>rfl
 | b b off s=>simp only[St.vF];split<;>rfl
theorem JG(S:St)(it:It)(c:C):(S.vF it c).tmps.length=S.tmps.length:=by
 cases it with
 | t i s=>simp[St.vF,St.iR]
 | b b off s=>simp only[St.vF];split<;>rfl
end loops
end Go.Abs
namespace Go.Abs
open Go.RowKit
theorem foldl_set{α β:Type}(f:β->Nat)(g:β->α)(d:α):∀(l:List β) (init:List α) (t:Nat),(l.foldl (fun acc p=>acc.set (f p) (g p)) init).length=init.length /\
  ((l.foldl (fun acc p=>acc.set (f p) (g p)) init).getD t d=init.getD t d/\(t<init.length->∀p∈l,f p≠t)\/∃p,p∈l/\f p=t/\(l.foldl (fun acc p=>acc.set (f p) (g p)) init).getD t d=g p)
 | [],init,t=>⟨rfl,.inl ⟨rfl,fun _ p i=>by cases i⟩⟩
 | p::r,init,t=>by
  obtain⟨j,a⟩:=foldl_set f g d r (init.set (f p) (g p)) t;simp only[List.foldl_cons];refine⟨by rw[j];simp,?_⟩;rcases a with ⟨a,k⟩ | ⟨q,b,m,n⟩
  ·by_cases c:f p=t
   ·by_cases e:t<init.length
    ·refine .inr ⟨p,ar,c,?_⟩;rw[a,zE,List.getElem?_set,if_pos c,if_pos (by omega)];rfl
    ·refine .inl ⟨?_,fun h=>absurd h e⟩;rw[a,List.set_eq_of_length_le (by omega)]
   ·refine .inl ⟨?_,fun e q b=>?_⟩
    ·rw[a,zE,List.getElem?_set,if_neg c,<- zE]
    ·rcases ba.1 b with rfl | b
     ·exact c
     ·exact k (by simpa using e) q b
  ·exact .inr ⟨q,aq _ b,m,n⟩
section loops
variable {w0:Bs} {G:Gh} {S:St} {a:Act} {w:World}
theorem ahv(la:LA)(t:Nat):la.base.gZ t=.undef\/∃p,p∈la.ptrs/\p.1=t/\la.base.gZ t=.v (.one (.ptr p.2.1 p.2.2)):=by
 have:=(foldl_set (fun p:Nat×Nat×Nat=>p.1) (fun p=>AV.v (.one (.ptr p.2.1 p.2.2))) AV.undef la.ptrs (List.replicate la.n .undef) t).2;rcases this with ⟨a,_⟩ | a
 ·left;have e:la.base.gZ t=(la.ptrs.foldl (fun acc (p:Nat×Nat×Nat)=>acc.set p.1 (AV.v (.one (.ptr p.2.1 p.2.2)))) (List.replicate la.n AV.undef)).getD t .undef:=rfl;rw[e,a,zE,List.getElem?_replicate];split<;>rfl
 ·exact .inr a
theorem Lj(la:LA)(t:Nat):(la.base.fP t=none/\(t<la.n->∀p∈la.boxes,p.1≠t))\/∃p,p∈la.boxes/\p.1=t/\la.base.fP t=some (List.replicate p.2 .undef):=by
 have:=(foldl_set (fun p:Nat×Nat=>p.1) (fun p=>some (List.replicate p.2 C.undef)) none la.boxes (List.replicate la.n none) t).2;rcases this with ⟨a,b⟩ | a
 ·left;refine⟨?_,by simpa using b⟩;have e:la.base.fP t=(la.boxes.foldl (fun acc (p:Nat×Nat)=>acc.set p.1 (some (List.replicate p.2 C.undef))) (List.replicate la.n none)).getD t none:=rfl;rw[e,a,zE,List.getElem?_replicate];split<;>rfl
 ·exact .inr a
theorem V9(la:LA)(t:Nat):la.base.aJ t=[]:=by
 show (List.replicate la.n ([]:List O)).getD t []=_
 rw[zE,List.getElem?_replicate];split<;>rfl
theorem abU(la:LA):la.base.tmps.length=la.n/\la.base.boxes.length=la.n/\la.base.owns.length=la.n:=by
 refine⟨?_,?_,?_⟩
 ·have:=(foldl_set (fun p:Nat×Nat×Nat=>p.1) (fun p=>AV.v (.one (.ptr p.2.1 p.2.2))) AV.undef la.ptrs (List.replicate la.n .undef) 0).1;simpa [LA.base] using this
 ·have:=(foldl_set (fun p:Nat×Nat=>p.1) (fun p=>some (List.replicate p.2 C.undef)) none la.boxes (List.replicate la.n none) 0).1;simpa [LA.base] using this
 ·simp[LA.base]
def Eh(la:LA)(i:Nat):Prop:=∃n,(i,n)∈la.boxes
open Classical in
theorem aj9(h:Inv w0 G S a w){la:LA}(K:S.tmps.length=la.n){u:Unit}(L:(Jq la.boxes).val S=some u){u':Unit}(N:(Qi la.ptrs).val S=some u')
  (C:la.ptrs.all (fun p=>la.boxes.any fun q=>q.1==p.2.1)=true) (roks:List (Nat×Nat)) :
  ∃r,Inv w0 r la.base a w/\r.bk=G.bk/\(∀b o,(G.S b o\/AK G S roks b o)↔r.S b o)/\(∀c k j,r.ow c≠some (.own k j))/\(∀c i,r.ow c=some (.box i)->G.ow c=some (.box i)):=by
 let D:Nat->Option AY:=fun b=>match G.ow b with
  | some (.box i)=>if Eh la i then some (.box i)else none
  | _=>none
 let r:Gh:={ bk:=G.bk,ov:=G.ov,ow:=D,S:=fun b o=>G.S b o\/AK G S roks b o,lk:=fun _=>False,lb:=Eh la };have hbox0:∀c i,r.ow c=some (.box i)->G.ow c=some (.box i)/\Eh la i:=by
  intro c i s;have d:(match G.ow c with | some (.box i)=>if Eh la i then some (AY.box i)else none | _=>none)=some (.box i):=s;split at d
  ·rename_i j O;split at d
   ·rename_i F;cases d;exact⟨O,F⟩
   ·cases d
  ·cases d
 have hnown:∀c k j,r.ow c≠some (.own k j):=by
  intro c k j s;have d:(match G.ow c with | some (.box i)=>if Eh la i then some (AY.box i)else none | _=>none)=some (.own k j):=s;split at d
  ·split at d<;>cases d
  ·cases d
 obtain⟨H,P,Q⟩:=abU la;have hblt:∀i n,(i,n)∈la.boxes->i<la.n:=by
  intro i n l;obtain⟨cs,e,_⟩:=wK L i n l;have:i<S.boxes.length:=by
   rcases Nat.lt_or_ge i S.boxes.length with y | y
   ·exact y
   ·simp[St.fP,zE,zJ y]at e
  rw[h.bsz,K]at this;exact this
 refine⟨r,⟨h.below,h.nodef,by rw[h.tsz,K,H],by rw[H,P],by rw[H,Q],?_,?_,?_,?_,?_,fun k R=>R.elim,?_,fun b o m y=>m.elim (fun m=>h.sfr b o m y) fun⟨_,_,_,_,_,_,_,_,f,_⟩=>absurd (h.nM f).1 (by omega),h.fx⟩,rfl,fun b o=>Iff.rfl,hnown,fun c i s=>(hbox0 c i s).1⟩
 ·intro i v hv;rcases ahv la i with g | ⟨⟨i',b,off⟩,l,rfl,g⟩
  ·rw[g];trivial
  ·rw[g];have z:=h.tmps _ v hv;rw[Qh N _ b off l]at z;have:=List.all_eq_true.1 C _ l;obtain⟨⟨b',n⟩,I,A⟩:=List.any_eq_true.1 this;simp at A;exact⟨⟨n,A▸I⟩,z.2⟩
 ·intro b x M;cases x with
  | box i=>exact h.olt _ _ (hbox0 b i M).1
  | own k j=>exact absurd M (hnown b k j)
 ·intro b o m;refine⟨?_,fun i hi=>?_⟩
  ·rcases m with m | ⟨k,j,_,_,_,_,_,_,f,_⟩
   ·exact (h.sok b o m).1
   ·exact (h.olt _ _ f).2
  ·have t:=(hbox0 b i hi).1;rcases m with m | ⟨k,j,_,_,_,_,_,_,f,_⟩
   ·exact (h.sok b o m).2 i t
   ·rw[f]at t;cases t
 ·intro i cs e;rcases Lj la i with ⟨g,_⟩ | ⟨⟨i',n⟩,l,rfl,g⟩
  ·rw[g]at e;cases e
  ·rw[g]at e;cases e
   obtain⟨J,B,T⟩:=wK L _ n l;obtain⟨U,vs,E,hh,z⟩:=h.box _ J B;refine⟨?_,vs,E,hh,?_⟩
   ·show (match G.ow (G.bk i')with | some (.box i)=>if Eh la i then some (AY.box i)else none | _=>none)=_
    rw[U];exact if_pos ⟨n,l⟩
   ·have hlen:=z.length;refine dH.mk (by simp;omega) fun j c v s hv=>?_
    have:c=.undef:=(List.mem_replicate.1 (zG s)).2;subst this;exact z.one v (zG hv)
 ·intro k j;rw[V9];trivial
 ·intro i hi;obtain⟨n,l⟩:=hi;rcases Lj la i with ⟨_,g⟩ | ⟨p,_,_,g⟩
  ·exact absurd rfl (g (hblt i n l) _ l)
  ·rw[g];simp
theorem MJ{x:Nat}{r:List Nat}(h:Gv (x::r)=true):x∉r/\Gv r=true:=by
 simp only[Gv,zI,Bool.not_eq_true',List.any_eq_false,beq_iff_eq]at h;exact⟨fun a=>h.1 x a rfl,h.2⟩
theorem aiF(h:Inv w0 G S a w){U:Gh}(K:G.bk=U.bk){it:It}{x:it.sr.den}{v:Value}{lab:Nat->Prop}(hv:cellV U a w it v)(l:aoZ G.S w it x v lab)
  (hlab:∀c,lab c->w0.w.heap.size<=c/\c<w.heap.size/\(∀i,G.ow c≠some (.box i))/\∀k j,G.ow c≠some (.own k j)) (z:∀b off s,it=.b b off s->∃cs,S.fP b=some cs)
  (V:∀key,key∈dW [it]->key<S.tmps.length/\S.aJ key=[]) :
  ∃G',Inv w0 G' (S.Qg it x) a w/\G'.bk=G.bk/\G'.S=G.S/\(∀c y,G'.ow c=some y->G.ow c=some y\/(lab c/\∀i,y≠.box i))/\(∀b,(∃cs,S.fP b=some cs)->∃cs,(S.Qg it x).fP b=some cs) /\
   (∀key,key∉dW [it]->(S.Qg it x).aJ key=S.aJ key)/\(S.Qg it x).tmps.length=S.tmps.length:=by
 have r:cellV G a w it v:=by
  cases it with
  | t i s=>exact hv
  | b b off s=>show w.cell? ⟨G.bk b,off,none⟩=_;rw[K];exact hv
 unfold aoZ at l;unfold St.Qg;generalize I:it.sr=sr at *;unfold akl at l;cases sr with
 | ro t=>
  obtain⟨d,hd,hrep⟩:=l;have L:dOf t x=.d d:=by unfold dOf;rw[hd]
  simp only[L];exact⟨G,h.vF r (c:=.d d) hrep z,rfl,rfl,fun c y f=>.inl f,fun b p=>KW S it _ b p,fun key _=>KU S it _ key,JG S it _⟩
 | own t deep m key=>
  have hkey:key∈dW [it]:=by simp[dW,I]
  obtain⟨A,B⟩:=V key hkey;classical
  obtain⟨G',M,W,C,D,g,F,u⟩:=h.yc key [.own t x deep m] (fun _=>v) (fun c=>if lab c then some 0 else none) B A (by simp)
   (fun c j f=>by
    by_cases q:lab c
    ·obtain⟨N,O,P,Q⟩:=hlab c q;exact⟨N,O,P,fun k' j' _ _ _ _ p=>absurd p (Q k' j')⟩
    ·rw[if_neg q]at f;cases f)
   (fun j=>by
    cases j with
    | zero=>
     show OwT w G.S deep m t x v _
     exact OwT.move l (fun b o J=>⟨J,rfl⟩) (fun b p=>⟨if_pos p,rfl⟩) (fun _ _ _ _ _ o J=>.inl J)
    | succ j=>trivial)
  have R:Inv w0 G' ((S.di key [.own t x deep m]).vF it (.own key 0)) a w:=by
   refine M.vF (v:=v) ?_ ⟨C,(D 0).symm,(OwT.ow l).one⟩ fun b off s T=>z b off s T
   cases it with
   | t i s=>exact r
   | b b off s=>show w.cell? ⟨G'.bk b,off,none⟩=_;rw[g];exact r
  refine⟨G',R,g,F,fun c y f=>?_,fun b p=>KW _ it _ b p,fun key' H=>?_,?_⟩
  ·rw[u]at f;by_cases q:lab c
   ·rw[if_pos q]at f;refine .inr ⟨q,fun i e=>?_⟩;rw[e]at f;cases f
   ·rw[if_neg q]at f;exact .inl f
  ·show ((S.di key _).vF it _).aJ key'=_
   rw[KU,bH,if_neg (fun e:key=key'/\_=>H (e.1▸hkey))]
  ·show ((S.di key _).vF it _).tmps.length=_
   rw[JG];rfl
 | part t key=>
  obtain⟨xs,n⟩:=x;have hkey:key∈dW [it]:=by simp[dW,I]
  obtain⟨A,B⟩:=V key hkey;have hone:v.oneCell'=true:=by
   rcases l with ⟨rfl,_⟩ | ⟨b,cap,arr,E,vs,fps,rfl,_⟩<;>rfl
  classical
  obtain⟨G',M,W,C,D,g,F,u⟩:=h.yc key [.part t xs n] (fun _=>v) (fun c=>if lab c then some 0 else none) B A (by simp)
   (fun c j f=>by
    by_cases q:lab c
    ·obtain⟨N,O,P,Q⟩:=hlab c q;exact⟨N,O,P,fun k' j' _ _ _ _ p=>absurd p (Q k' j')⟩
    ·rw[if_neg q]at f;cases f)
   (fun j=>by
    cases j with
    | zero=>
     show ja w G.S t xs n v _
     exact ja.move l (fun b p=>⟨if_pos p,rfl⟩) (fun _ _ _ J=>J)
    | succ j=>trivial)
  have R:Inv w0 G' ((S.di key [.part t xs n]).vF it (.own key 0)) a w:=by
   refine M.vF (v:=v) ?_ ⟨C,(D 0).symm,hone⟩ fun b off s T=>z b off s T
   cases it with
   | t i s=>exact r
   | b b off s=>show w.cell? ⟨G'.bk b,off,none⟩=_;rw[g];exact r
  refine⟨G',R,g,F,fun c y f=>?_,fun b p=>KW _ it _ b p,fun key' H=>?_,?_⟩
  ·rw[u]at f;by_cases q:lab c
   ·rw[if_pos q]at f;refine .inr ⟨q,fun i e=>?_⟩;rw[e]at f;cases f
   ·rw[if_neg q]at f;exact .inl f
  ·show ((S.di key _).vF it _).aJ key'=_
   rw[KU,bH,if_neg (fun e:key=key'/\_=>H (e.1▸hkey))]
  ·show ((S.di key _).vF it _).tmps.length=_
   rw[JG];rfl
end loops
end Go.Abs
namespace Go.Abs
open Go.RowKit
section loops
variable {w0:Bs} {G:Gh} {S:St} {a:Act} {w:World}
theorem zT(it:It)(r:List It):dW (it::r)=dW [it]++dW r:=by
 simp only[dW];split<;>rfl
theorem aeY{f:Gh}{roks used:List (Nat×Nat)}{q:St}(B:Inv w0 f q a w)(h:Inv w0 G S a w)(r:G.bk=f.bk)(D:∀b o,(f.S b o\/AK f q roks b o)↔G.S b o)
  (hown:∀b k j,G.ow b=some (.own k j)->∃k' j',(k',j')∈used/\f.ow b=some (.own k' j')) (hbox:∀b i,G.ow b=some (.box i)->f.ow b=some (.box i))
  {it:It} {y:it.sr.den} {c:C} (P:(cAt it).val q=some c) (Q:(ag3 it.sr c).val q=some y) (E:∀t,it.sr=.ro t->∀k j,c=.own k j->(k,j)∈roks)
  (hnew:it.sr.live=true->∀k j,c=.own k j->(k,j)∉used/\(k,j)∉roks) (R:∀key,key∈dW [it]->key<S.tmps.length/\S.aJ key=[])
  (F:∀b off s,it=.b b off s->∃cs,S.fP b=some cs) :
  ∃l,Inv w0 l (S.Qg it y) a w/\l.bk=f.bk/\(∀b o,(f.S b o\/AK f q roks b o)↔l.S b o)/\(∀b k j,l.ow b=some (.own k j)->∃k' j',(k',j')∈used++aP [c]/\f.ow b=some (.own k' j')) /\
   (∀b i,l.ow b=some (.box i)->f.ow b=some (.box i))/\(∀b,(∃cs,S.fP b=some cs)->∃cs,(S.Qg it y).fP b=some cs)/\(∀key,key∉dW [it]->(S.Qg it y).aJ key=S.aJ key)/\(S.Qg it y).tmps.length=S.tmps.length:=by
 obtain⟨v,hv,H⟩:=aly B P;have I:=alb B Q H (S0:=G.S) roks (fun b o u=>(D b o).1 u) E (fun k j e n b o u d=>by
  rcases (D b o).2 u with u | ⟨k',j',_,_,_,_,hmem,_,x,_⟩
  ·exact u
  ·rw[d]at x;cases x
   exact absurd hmem (hnew n k j e).2)
 have J:∃lab:Nat->Prop,aoZ G.S w it y v lab/\∀b,lab b->∃k j,c=.own k j/\f.ow b=some (.own k j)/\it.sr.live=true:=by
  have key:∀(sr:Sr) (z:sr.den),akl G.S w sr z v (fun b=>∃k j,c=.own k j/\f.ow b=some (.own k j)) ->
    ∃lab:Nat->Prop,akl G.S w sr z v lab/\∀b,lab b->∃k j,c=.own k j/\f.ow b=some (.own k j)/\sr.live=true:=by
   intro sr z K;cases sr with
   | ro t=>exact⟨fun _=>False,K,fun _ d=>d.elim⟩
   | own t deep m key=>exact⟨_,K,fun b ⟨k,j,p,g⟩=>⟨k,j,p,g,rfl⟩⟩
   | part t key=>exact⟨_,K,fun b ⟨k,j,p,g⟩=>⟨k,j,p,g,rfl⟩⟩
  exact key it.sr y I
 obtain⟨lab,L,hlab⟩:=J;obtain⟨l,T,U,V,N,W,X,Y⟩:=aiF h r hv L (fun b d=>by
  obtain⟨k,j,p,g,n⟩:=hlab b d;have A:=B.nM g;refine⟨A.1,A.2,fun i hi=>?_,fun k' j' hi=>?_⟩
  ·rw[hbox b i hi]at g;cases g
  ·obtain⟨Z,j2,M,O⟩:=hown b k' j' hi;rw[g]at O;cases O
   exact (hnew n k j p).1 M) F R
 refine⟨l,T,U.trans r,fun b o=>by rw[V];exact D b o,fun b k j d=>?_,fun b i d=>?_,W,X,Y⟩
 ·rcases N b _ d with d | ⟨d,_⟩
  ·obtain⟨k',j',M,e⟩:=hown b k j d;exact⟨k',j',List.mem_append_left _ M,e⟩
  ·obtain⟨k',j',p,g,_⟩:=hlab b d;exact⟨k',j',List.mem_append_right _ (by rw[p];simp[aP]),g⟩
 ·rcases N b _ d with d | ⟨_,d⟩
  ·exact hbox b i d
  ·exact absurd rfl (d i)
theorem Vx{H:Gh}{roks:List (Nat×Nat)}{L:St}(U:Inv w0 H L a w):∀(l:List It) (x:Its l) (p:List (Nat×Nat)×List (Nat×Nat)) (used:List (Nat×Nat)) {G:Gh} {S:St},Inv w0 G S a w->G.bk=H.bk ->
  (∀b o,(H.S b o\/AK H L roks b o)↔G.S b o)->(∀b k j,G.ow b=some (.own k j)->∃k' j',(k',j')∈used/\H.ow b=some (.own k' j'))->(∀b i,G.ow b=some (.box i)->H.ow b=some (.box i)) ->
  (afi l).val L=some x->(keysOf l).val L=some p->nodupB p.1=true->(∀q,q∈p.1->q∉used/\q∉roks)->(∀q,q∈p.2->q∈roks) ->
  Gv (dW l)=true->(∀key,key∈dW l->key<S.tmps.length/\S.aJ key=[])->(∀b off s,It.b b off s∈l->∃cs,S.fP b=some cs) ->
  ∃G',Inv w0 G' (S.aeU l x) a w/\G'.bk=H.bk
 | [],x,p,used,G,S,h,D,_,_,_,_,_,_,_,_,_,_,_=>⟨G,h,D⟩
 | it::r,x,p,used,G,S,h,D,hS,hown,hbox,V,v,u,y,A,z,M,N=>by
  simp only[keysOf,Rd.aF,zB]at v;obtain⟨c,T,p',W,v⟩:=v;have O:∀t,it.sr=.ro t->∀k j,c=.own k j->(k,j)∈roks:=by
   intro t n k j e;rw[n]at v;simp only[Rd.val,zD]at v;subst v;subst e;exact A _ (by simp[aP])
  have hnew:it.sr.live=true->∀k j,c=.own k j->(k,j)∉used/\(k,j)∉roks:=by
   intro hl k j e;cases n:it.sr with
   | ro t=>rw[n]at hl;cases hl
   | own t deep m key=>
    rw[n]at v;simp only[Rd.val,zD]at v;subst v;subst e;exact y _ (by simp[aP])
   | part t key=>
    rw[n]at v;simp only[Rd.val,zD]at v;subst v;subst e;exact y _ (by simp[aP])
  have hrest:nodupB p'.1=true/\(∀q,q∈p'.1->q∉used++aP [c]/\q∉roks)/\(∀q,q∈p'.2->q∈roks):=by
   cases n:it.sr with
   | ro t=>
    rw[n]at v;simp only[Rd.val,zD]at v;subst v;refine⟨u,fun q f=>⟨fun g=>?_,(y q f).2⟩,fun q f=>A q (List.mem_append_right _ f)⟩;rcases List.mem_append.1 g with g | g
    ·exact (y q f).1 g
    ·exact (y q f).2 (A q (List.mem_append_left _ g))
   | own t deep m key=>
    rw[n]at v;simp only[Rd.val,zD]at v;subst v;have hcase:nodupB p'.1=true/\∀q,q∈aP [c]->q∉p'.1:=by
     cases c with
     | own k j=>
      have B:nodupB ((k,j)::p'.1)=true:=u;obtain⟨I,J⟩:=lF B;exact⟨J,fun q f=>by simp[aP]at f;rw[f];exact I⟩
     | undef=>exact⟨u,fun q f=>by cases f⟩
     | d x=>exact⟨u,fun q f=>by cases f⟩
     | nil=>exact⟨u,fun q f=>by cases f⟩
     | ptr b off=>exact⟨u,fun q f=>by cases f⟩
    refine⟨hcase.1,fun q f=>⟨fun g=>?_,(y q (List.mem_append_right _ f)).2⟩,A⟩;rcases List.mem_append.1 g with g | g
    ·exact (y q (List.mem_append_right _ f)).1 g
    ·exact hcase.2 q g f
   | part t key=>
    rw[n]at v;simp only[Rd.val,zD]at v;subst v;have hcase:nodupB p'.1=true/\∀q,q∈aP [c]->q∉p'.1:=by
     cases c with
     | own k j=>
      have B:nodupB ((k,j)::p'.1)=true:=u;obtain⟨I,J⟩:=lF B;exact⟨J,fun q f=>by simp[aP]at f;rw[f];exact I⟩
     | undef=>exact⟨u,fun q f=>by cases f⟩
     | d x=>exact⟨u,fun q f=>by cases f⟩
     | nil=>exact⟨u,fun q f=>by cases f⟩
     | ptr b off=>exact⟨u,fun q f=>by cases f⟩
    refine⟨hcase.1,fun q f=>⟨fun g=>?_,(y q (List.mem_append_right _ f)).2⟩,A⟩;rcases List.mem_append.1 g with g | g
    ·exact (y q (List.mem_append_right _ f)).1 g
    ·exact hcase.2 q g f
  have P:∀key,key∈dW [it]->key<S.tmps.length/\S.aJ key=[]:=fun key g=>M key (by rw[zT];exact List.mem_append_left _ g)
  have E:∀b off s,it=.b b off s->∃cs,S.fP b=some cs:=fun b off s e=>N b off s (e▸ar)
  cases r with
  | nil=>
   have Q:(ajD it).val L=some x:=V;simp only[ajD,Rd.aF,zB]at Q;obtain⟨c',C,X⟩:=Q;rw[T]at C;cases C
   obtain⟨G2,Y,Z,_⟩:=aeY U h D hS hown hbox T X O hnew P E;exact⟨G2,Y,Z⟩
  | cons K r=>
   simp only[afi,Rd.aF,zB,Rd.val,zD]at V;obtain⟨x1,R,x2,hx2,rfl⟩:=V;simp only[ajD,Rd.aF,zB]at R;obtain⟨c',C,X⟩:=R;rw[T]at C;cases C
   obtain⟨G2,Y,Z,q3,q4,q5,q6,q7,q8⟩:=aeY U h D hS hown hbox T X O hnew P E;have F:Gv (dW (K::r))=true/\∀key,key∈dW [it]->key∉dW (K::r):=by
    rw[zT]at z;cases n:it.sr with
    | ro t=>
     have:dW [it]=[]:=by simp[dW,n]
     rw[this]at z ⊢;exact⟨z,fun key g=>by cases g⟩
    | own t deep m key=>
     have:dW [it]=[key]:=by simp[dW,n]
     rw[this]at z ⊢;obtain⟨I,J⟩:=MJ z;exact⟨J,fun key' g=>by simp at g;rw[g];exact I⟩
    | part t key=>
     have:dW [it]=[key]:=by simp[dW,n]
     rw[this]at z ⊢;obtain⟨I,J⟩:=MJ z;exact⟨J,fun key' g=>by simp at g;rw[g];exact I⟩
   refine Vx U (K::r) x2 p' (used++aP [c]) Y Z q3 q4 q5 hx2 W hrest.1 hrest.2.1 hrest.2.2 F.1 (fun key g=>?_) fun b off s g=>q6 b (N b off s (aq _ g))
   have hne:key∉dW [it]:=fun hm'=>F.2 key hm' g
   have:=M key (by rw[zT];exact List.mem_append_right _ g);rw[q7 key hne,q8];exact this
theorem Wi:∀ {l:List (Nat×Nat×Nat)} {u:Unit},(afr l).val S=some u->∀i b off,(i,b,off)∈l->∃k j cs,S.gZ i=.v (.one (.own k j))/\S.fP b=some cs/\cs[off]?=some (.own k j)
 | [],_,_,i,b,off,a=>(by cases a)
 | (i',b',off')::r,u,h,i,b,off,a=>by
  simp only[afr,Rd.val]at h;split at h
  case h_2=>cases h
  rename_i k j c;simp only[Rd.val]at h;split at h
  case h_2=>cases h
  rename_i cs d;split at h
  case h_2=>cases h
  rename_i k' j' f;split at h
  case isFalse=>cases h
  rename_i g;obtain⟨rfl,rfl⟩:=g;rcases ba.1 a with e | a
  ·cases e;exact⟨k,j,cs,c,d,f⟩
  ·exact Wi h i b off a
theorem zN{G':Gh}:∀ {l:List (Nat×Nat×Nat)} {S':St},Inv w0 G' S' a w ->
  (∀i b off,(i,b,off)∈l->∃(vs:List Value) (E:TypeId),w.heap[G'.bk b]?=some (.cells vs.toArray E (0,0))/\vs[off]?=some (a.tmps.getD i undef))->Inv w0 G' (S'.Ko l) a w
 | [],S',h,_=>h
 | (i,b,off)::r,S',h,hv=>by
  have d:=fun i' b' off' f=>hv i' b' off' (aq _ f)
  unfold St.Ko;split
  ·rename_i cs g;split
   ·rename_i k j m;refine zN (h.JP i ?_) d;obtain⟨vs,E,n,o⟩:=hv i b off ar;obtain⟨_,vs',E',c,p⟩:=h.box b cs g;rw[n]at c;have e:vs=vs':=by
     injection c with c;injection c with c _ _;simpa using congrArg Array.toList c
    subst e;obtain⟨_,q⟩:=p.get;exact q off _ _ m o
   ·exact zN h d
  ·exact zN h d
theorem V8:∀ {l:List (Nat×Nat×Nat×Nat)} {u:Unit},(afq l).val S=some u->∀b' off' b off,(b',off',b,off)∈l->∃k j cs' cs,S.fP b'=some cs'/\S.fP b=some cs/\cs'[off']?=some (.own k j)/\cs[off]?=some (.own k j)
 | [],_,_,b',off',b,off,a=>(by cases a)
 | (b1',off1',m,off1)::r,u,h,b',off',b,off,a=>by
  simp only[afq,Rd.val]at h;split at h
  case h_2=>cases h
  rename_i cs' c;simp only[Rd.val]at h;split at h
  case h_2=>cases h
  rename_i cs f;split at h
  case h_2=>cases h
  rename_i k' j' k j d g;split at h
  case isFalse=>cases h
  rename_i i;obtain⟨rfl,rfl⟩:=i;rcases ba.1 a with e | a
  ·cases e;exact⟨k,j,cs',cs,c,f,d,g⟩
  ·exact V8 h b' off' b off a
theorem zM{G':Gh}:∀ {l:List (Nat×Nat×Nat×Nat)} {S':St},Inv w0 G' S' a w ->
  (∀b' off' b off,(b',off',b,off)∈l->∃v,w.cell? ⟨G'.bk b',off',none⟩=some v/\w.cell? ⟨G'.bk b,off,none⟩=some v)->Inv w0 G' (S'.J9 l) a w
 | [],S',h,_=>h
 | (b',off',b,off)::r,S',h,hv=>by
  have c:=fun f g i m n=>hv f g i m (aq _ n)
  unfold St.J9;split
  ·rename_i cs' cs d o;split
   ·rename_i k j p;obtain⟨v,q,e⟩:=hv b' off' b off ar;obtain⟨_,vs,E,s,t⟩:=h.box b cs o;obtain⟨x,u⟩:=t.get;rw[cell_of_row _ _ _ _ _ _ s]at e;exact zM (h.Zx b' off' d q (u off _ v p (by simpa using e))) c
   ·exact zM h c
  ·exact zM h c
theorem Vd:∀ {l:List (Nat×Nat)} {u:Unit},(aeB l).val S=some u->∀i i',(i,i')∈l->∃k j,S.gZ i=.v (.one (.own k j))/\S.gZ i'=.v (.one (.own k j))
 | [],_,_,i,i',a=>(by cases a)
 | (f,i1')::r,u,h,i,i',a=>by
  simp only[aeB,Rd.val]at h;split at h
  case h_2=>cases h
  rename_i k j c;simp only[Rd.val]at h;split at h
  case h_2=>cases h
  rename_i k' j' b;split at h
  case isFalse=>cases h
  rename_i d;obtain⟨rfl,rfl⟩:=d;rcases ba.1 a with e | a
  ·cases e;exact⟨k,j,c,b⟩
  ·exact Vd h i i' a
theorem Gp{G':Gh}:∀ {l:List (Nat×Nat)} {S':St},Inv w0 G' S' a w ->
  (∀i i',(i,i')∈l->a.tmps.getD i undef=a.tmps.getD i' undef)->Inv w0 G' (S'.Qd l) a w
 | [],S',h,_=>h
 | (i,i')::r,S',h,hv=>by
  have b:=fun x y c=>hv x y (aq _ c)
  unfold St.Qd;split
  ·rename_i k j d;refine Gp (h.JP i ?_) b;rw[hv i i' ar,<- d];exact h.gZ i'
  ·exact Gp h b
theorem QI(h:Inv w0 G S a w){la:LA}{x:Its la.its}(e:la.get.val S=some x):∃G',Inv w0 G' (la.put x) a w:=by
 simp only[LA.get,Rd.val]at e;split at e
 case isFalse=>cases e
 rename_i m;obtain⟨U,B,C,D,F⟩:=m;simp only[Rd.aF,zB]at e;obtain⟨u,V,u',W,ua,H,ub,I,uc,J,p,X,e⟩:=e;split at e
 case isFalse=>cases e
 rename_i K;rw[zI]at K;obtain⟨G0,Y,L,M,Z,e4⟩:=aj9 h U V W D p.2;suffices hs:∃G',Inv w0 G' (la.base.aeU la.its x) a w/\G'.bk=G.bk by
  obtain⟨G',h',g⟩:=hs;refine⟨G',Gp (zM (zN h' fun i b off c=>?_) fun b' off' b off c=>?_) fun i i' c=>?_⟩
  case refine_3=>
   obtain⟨k,j,o,r⟩:=Vd J i i' c
   have r1:jc G w (.v (.one (.own k j))) (a.tmps.getD i undef):=by rw[<- o];exact h.gZ i
   have r2:jc G w (.v (.one (.own k j))) (a.tmps.getD i' undef):=by rw[<- r];exact h.gZ i'
   exact r1.2.1.trans r2.2.1.symm
  case refine_2=>
   obtain⟨k,j,cs',cs,o,r,t,A⟩:=V8 I b' off' b off c
   obtain⟨_,vs',E',q1,q2⟩:=h.box b' cs' o
   obtain⟨_,vs,E,q3,q4⟩:=h.box b cs r
   obtain⟨N,O⟩:=q2.get
   obtain⟨l,m⟩:=q4.get
   have f:off'<vs'.length:=by rw[<- N];exact (zC.1 t).1
   have d:off<vs.length:=by rw[<- l];exact (zC.1 A).1
   have L:=O off' _ _ t (zF f)
   have M:=m off _ _ A (zF d)
   refine⟨G.ov k j,?_,?_⟩
   ·rw[g,cell_of_row _ _ _ _ _ _ q1,List.getElem?_toArray,zF f,L.2.1]
   ·rw[g,cell_of_row _ _ _ _ _ _ q3,List.getElem?_toArray,zF d,M.2.1]
  obtain⟨k,j,cs,o,r,t⟩:=Wi H i b off c;obtain⟨_,vs,E,A,k5⟩:=h.box b cs r;refine⟨vs,E,by rw[g];exact A,?_⟩;have hr:jc G w (.v (.one (.own k j))) (a.tmps.getD i undef):=by rw[<- o];exact h.gZ i
  obtain⟨l,m⟩:=k5.get;have d:off<vs.length:=by rw[<- l];exact (zC.1 t).1
  have:=m off _ _ t (zF d);rw[zF d,this.2.1,<- hr.2.1]
 refine Vx h la.its x p [] Y L M (fun b k j hh=>absurd hh (Z b k j)) e4 e X K.1 (fun q P=>⟨by simp,fun c=>?_⟩) (fun q P=>P) B (fun key c=>?_) fun b off s c=>?_
 ·have:=List.all_eq_true.1 K.2 q P;simp only[Bool.not_eq_true',List.any_eq_false,zI,beq_iff_eq,not_and]at this;exact this q c rfl rfl
 ·have:=List.all_eq_true.1 C key c;rw[(abU la).1];exact⟨by simpa using this,V9 la key⟩
 ·have:=List.all_eq_true.1 F _ c;simp only at this;obtain⟨⟨b',n⟩,y,z⟩:=List.any_eq_true.1 this;simp at z;subst z;obtain⟨cs,Q,_⟩:=wK V b' n y;have R:b'<la.n:=by
   have:b'<S.boxes.length:=by
    rcases Nat.lt_or_ge b' S.boxes.length with l | l
    ·exact l
    ·simp[St.fP,zE,zJ l]at Q
   rw[h.bsz,U]at this;exact this
  rcases Lj la b' with ⟨_,T⟩ | ⟨q,_,_,T⟩
  ·exact absurd rfl (T R _ y)
  ·exact⟨_,T⟩
end loops
theorem KE{X ρ:Type}{f:X->Option (X⊕ρ)}:∀ {n:Nat} {x:X} {r:ρ},iter f n x=some r->∀ {m:Nat} {r':ρ},iter f m x=some r'->r=r'
 | 0,x,r,h,_,_,_=>by cases h
 | n+1,x,r,h,0,r',a=>by cases a
 | n+1,x,r,h,m+1,r',a=>by
  simp only[iter]at h a;split at h
  ·cases h
  ·rename_i y b;rw[b]at a;exact KE h a
  ·rename_i c b;rw[b]at a;simp only[zD]at h a;rw[<- h,<- a]
theorem uI{X ρ:Type}{f:X->Option (X⊕ρ)}{x:X}{r:ρ}(h:ak f x=some r):∃n,iter f n x=some r:=by
 unfold ak at h;split at h
 ·rename_i hh;simp only[zD]at h;have:=hh.choose_spec.choose_spec;rw[h]at this;exact⟨_,this⟩
 ·cases h
theorem aI{X ρ:Type}(f:X->Option (X⊕ρ))(x:X):ak f x=match f x with
  | none=>none
  | some (.inl y)=>ak f y
  | some (.inr r)=>some r:=by
 have up:∀ {y:X} {r:ρ} {n:Nat},iter f n y=some r->ak f y=some r:=by
  intro y r n a;have hh:∃n r,iter f n y=some r:=⟨n,r,a⟩;unfold ak;rw[dif_pos hh];exact congrArg some (KE hh.choose_spec.choose_spec a)
 have none_of:∀ {y:X},(∀n r,iter f n y≠some r)->ak f y=none:=by
  intro y d;unfold ak;rw[dif_neg];rintro⟨n,r,h⟩;exact d n r h
 split
 ·rename_i b;refine none_of fun n r a=>?_
  cases n with
  | zero=>cases a
  | succ n=>simp only[iter,b]at a;cases a
 ·rename_i y b;cases c:ak f y with
  | some r=>
   obtain⟨n,a⟩:=uI c;exact up (n:=n+1) (by simp only[iter,b];exact a)
  | none=>
   refine none_of fun n r a=>?_
   cases n with
   | zero=>cases a
   | succ n=>
    simp only[iter,b]at a;rw[up a]at c;cases c
 ·rename_i r b;exact up (n:=1) (by simp only[iter,b])
end Go.Abs
namespace Go.Abs
open Go.RowKit
def Ex.up:Ex->Exit
 | .normal=>.normal
 | .exit id=>.exit id
 | .ret=>.ret
section code
variable {P:Program} {w0:Bs} {E:Env} {an:List (Nat×LA)}
theorem adr{c:Code}{ρ:Type}{r:ρ}{la:LA}{f:Its la.its->Option (Its la.its⊕ρ)}{B:Nat}{l:Its la.its}(o:iter f B l=some r){C:Gh}{a:Act}{w:World}(M:Inv w0 C (la.put l) a w)
  {k:Ex->St->Option ρ} {Q:Exit->Act->World->Prop}
  (hround:∀(x:Its la.its) (res:Its la.its⊕ρ) (a:Act) (w:World) (G:Gh),f x=some res->Inv w0 G (la.put x) a w->∀Q':Exit->Act->World->Prop,(∀y a' w' G',res=.inl y->Inv w0 G' (la.put y) a' w'->Q' .normal a' w') ->
   (∀(r:ρ) (e:Ex) S' a' w' G',res=.inr r->e≠.normal->k e S'=some r->Inv w0 G' S' a' w'->Q' e.up a' w')->c.wp P Q' a w)
  (D:∀e S' a' w' G',k e S'=some r->Inv w0 G' S' a' w'->Q e.up a' w'):(Code.loop c).wp P Q a w:=by
 let J:Nat->Act->World->Prop:=fun n a w=>∃(x:Its la.its) (G:Gh),iter f n x=some r/\Inv w0 G (la.put x) a w
 classical
 have least:∀ {a:Act} {w:World},(∃n,J n a w)->∃n,J n a w/\∀m,J m a w->n<=m:=by
  intro a w ⟨n,p⟩;have key:∀n,J n a w->∃n,J n a w/\∀m,J m a w->n<=m:=by
   intro n;induction n using Nat.strongRecOn with
   | _ n ih=>
    intro p;by_cases j:∃m,m<n/\J m a w
    ·obtain⟨m,q,d⟩:=j;exact ih m q d
    ·refine⟨n,p,fun m d=>?_⟩;rcases Nat.lt_or_ge m n with s | s
     ·exact absurd ⟨m,s,d⟩ j
     ·exact s
  exact key n p
 refine wp_loop (fun a w=>∃n,J n a w) (fun a w=>if hh:∃n,J n a w then (least hh).choose else 0) ⟨B,l,C,o,M⟩ ?_;intro E F t;obtain⟨H,hmin⟩:=(least t).choose_spec;rw[dif_pos t];generalize (least t).choose=n at H hmin;obtain⟨x,I,b,K⟩:=H;cases n with
 | zero=>cases b
 | succ n=>
  simp only[iter]at b;split at b
  ·cases b
  ·rename_i y u;refine hround x _ E F I u K _ (fun z a' w' G' v i=>?_) (fun r' e S' a' w' G' g _ _ _=>by cases g);cases v
   have h:∃n,J n a' w':=⟨n,y,G',b,i⟩;show (∃n,J n a' w')/\_
   refine⟨h,?_⟩;rw[dif_pos h];have:=(least h).choose_spec.2 n ⟨y,G',b,i⟩;omega
  ·rename_i N u;simp only[zD]at b;subst b;refine hround x _ E F I u K _ (fun z a' w' G' v i=>by cases v) (fun r' e S' a' w' G' g A L i=>?_);cases g
   cases e with
   | normal=>exact absurd rfl A
   | exit id=>exact D (.exit id) S' a' w' G' L i
   | ret=>exact D .ret S' a' w' G' L i
theorem mr.split{w:World}{S:Nat->Nat->Prop}{dp:Bool}{t:Ty}{xs:List t.den}{cells:List Value}{lab:Nat->Prop}(h:mr w S dp t xs cells lab){m:Nat}(o:m<=xs.length) :
  ∃lab1 lab2:Nat->Prop,(∀c,lab1 c->lab c)/\(∀c,lab2 c->lab c)/\(∀c,lab1 c->lab2 c->False)/\mr w S dp t (xs.take m) (cells.take (m*t.size)) lab1/\mr w S dp t (xs.drop m) (cells.drop (m*t.size)) lab2:=by
 obtain⟨p,q,vs,fps,r,s,k⟩:=h;refine⟨fun c=>∃i j,i<m/\fps i j c,fun c=>∃i j,m<=i/\fps i j c,fun c ⟨i,j,_,a⟩=>s i j c a,fun c ⟨i,j,_,a⟩=>s i j c a,fun c ⟨i,j,hi,a⟩ ⟨i',j',u,b⟩=>?_,?_,?_⟩
 ·have:=(k i j i' j' c a b).1;omega
 ·refine⟨?_,fun v hv=>q v (List.mem_of_mem_take hv),vs,fun i j c=>i<m/\fps i j c,fun i x j d f hd=>?_,fun i j c a=>⟨i,j,a⟩,fun i j i' j' c a b=>k i j i' j' c a.2 b.2⟩
  ·rw[a8,a8,p,Nat.min_eq_left o,Nat.min_eq_left (Nat.mul_le_mul_right _ o)]
  ·rw[List.getElem?_take]at f;split at f
   case isFalse=>cases f
   rename_i g;obtain⟨l,n⟩:=r i x j d f hd;have y:j<t.size:=by rw[<- Ty.aZ t x];exact (zC.1 hd).1
   refine⟨?_,n.sub (fun c a=>⟨g,a⟩) fun e=>e⟩;rw[List.getElem?_take,if_pos (yt g y)];exact l
 ·refine⟨?_,fun v hv=>q v (List.mem_of_mem_drop hv),fun i j=>vs (m+i) j,fun i j=>fps (m+i) j,fun i x j d f hd=>?_,fun i j c a=>⟨m+i,j,by omega,a⟩,fun i j i' j' c a b=>?_⟩
  ·rw[List.length_drop,List.length_drop,p,Nat.sub_mul]
  ·rw[List.getElem?_drop]at f;obtain⟨l,n⟩:=r _ x j d f hd;refine⟨?_,n⟩;rw[List.getElem?_drop,<- Nat.add_assoc,<- Nat.add_mul];exact l
  ·have:=k _ _ _ _ c a b;exact⟨by omega,this.2⟩
theorem ahp{G:Gh}{S:St}{a:Act}{w:World}{s i A B:Nat}{ws:List W}(hv:(ajZ s i A B).val S=some ws)(h:Inv w0 G S a w):∃G',Inv w0 G' (S.puts ws) a w:=by
 simp only[ajZ,Rd.val]at hv;split at hv
 case h_2=>cases hv
 rename_i k j C;simp only[Rd.val]at hv;split at hv
 case h_2=>cases hv
 rename_i t xs m hown;simp only[Rd.val,Rd.aF,zB]at hv;obtain⟨n,_,m',y,w1,h1,w2,h2,hv⟩:=hv;split at hv
 case isFalse=>cases hv
 rename_i d;obtain⟨c1,c2,c3,c4,c5⟩:=d;simp only[Rd.val,zD]at hv;subst hv;obtain⟨V,rfl⟩:=gI h1;obtain⟨X,rfl⟩:=gI h2;have q:m'<=xs.length:=by
  unfold cutAt at y;split at y
  ·rename_i hn;cases y;omega
  ·cases y
 have hslot:=h.gZ s;rw[C]at hslot;obtain⟨hlk,P,_⟩:=hslot;have hO:=h.owns k j;rw[hown]at hO;have Y:OwT w G.S true m t xs (G.ov k j) (gJ G k j):=hO;have hA:=h.Hl k j .dead trivial;have hdead:bC ((S.di k ((S.aJ k).set j .dead)).aJ k) j=.dead:=DZ;have e1:(S.di k ((S.aJ k).set j .dead)).aJ A=[]:=mV V;have e2:(S.di k ((S.aJ k).set j .dead)).aJ B=[]:=mV X;have etl:(S.di k ((S.aJ k).set j .dead)).tmps.length=S.tmps.length:=rfl;generalize Z:S.di k ((S.aJ k).set j .dead)=U at *;have fin:∀ {D:Gh} (lab1 lab2:Nat->Prop) (K L:Value),Inv w0 D U a w->D.ow=G.ow->(∀c,lab1 c->gJ G k j c)->(∀c,lab2 c->gJ G k j c)->(∀c,lab1 c->lab2 c->False) ->
   A8 w D.S t (xs.take m') K lab1->A8 w D.S t (xs.drop m') L lab2 ->
   ((G.ov k j=.slice none 0 0/\m'=0/\K=.slice none 0 0/\L=.slice none 0 0) \/
    ∃b cap,G.ov k j=.slice (some ⟨b,0,none⟩) xs.length cap/\xs.length<=cap/\m'<=xs.length/\K=.slice (some ⟨b,0,none⟩) m' cap/\L=.slice (some ⟨b,if cap=m' then 0 else m'*t.size,none⟩) (xs.length-m') (cap-m')) ->
   ∃G',Inv w0 G' (((U.di A [.seg t (xs.take m')]).di B [.seg t (xs.drop m')]).iR s (.cut t xs.length m' A B)) a w:=by
  intro D lab1 lab2 K L hB F hl1 hl2 hdis hs1 hs2 hval;classical
  obtain⟨G2,hB2,hm2,q1,q2,q3,q4,q5⟩:=hB.yc A [.seg t (xs.take m')] (fun _=>K) (fun c=>if lab1 c then some 0 else none) e1 (by rw[etl];exact c4) (by simp)
   (fun c j' d=>by
    by_cases M:lab1 c
    ·have N:=hl1 c M;have g:=h.nM N;refine⟨g.1,g.2,fun i' l=>?_,fun k' j'' t2 H d2 m2 l=>?_⟩
     ·rw[F,show G.ow c=_ from N]at l;cases l
     ·rw[F,show G.ow c=_ from N]at l;cases l;rw[hdead];simp[O.iq]
    ·rw[if_neg M]at d;cases d)
   (fun j'=>by
    cases j' with
    | zero=>
     show A8 w D.S t (xs.take m') K _
     exact hs1.move (fun b o C=>⟨C,rfl⟩) fun c d=>⟨if_pos d,rfl⟩
    | succ j'=>trivial)
  have e3:(U.di A [.seg t (xs.take m')]).aJ B=[]:=by
   rw[bH,if_neg (fun e=>c1 e.1)];exact e2
  obtain⟨G3,hB3,Q,r1,r2,r3,r4,r5⟩:=hB2.yc B [.seg t (xs.drop m')] (fun _=>L) (fun c=>if lab2 c then some 0 else none) e3 (by show B<U.tmps.length;rw[etl];exact c5) (by simp)
   (fun c j' d=>by
    by_cases M:lab2 c
    ·have N:=hl2 c M;have g:=h.nM N;have R:G2.ow c=some (.own k j):=by
      rw[q5,if_neg (fun hh=>hdis c hh M)];show D.ow c=_
      rw[F];exact N
     refine⟨g.1,g.2,fun i' l=>?_,fun k' j'' t2 H d2 m2 l=>?_⟩
     ·rw[R]at l;cases l
     ·rw[R]at l;cases l;rw[bH,if_neg (fun e=>c2 e.1),hdead];simp[O.iq]
    ·rw[if_neg M]at d;cases d)
   (fun j'=>by
    cases j' with
    | zero=>
     show A8 w G2.S t (xs.drop m') L _
     rw[q4];exact hs2.move (fun b o C=>⟨C,rfl⟩) fun c d=>⟨if_pos d,rfl⟩
    | succ j'=>trivial)
  refine⟨G3,hB3.JP s ?_⟩;refine⟨(Q.k A q1).1,r1,?_⟩;rw[(Q.k A q1).2 0,q2,r2];rcases hval with ⟨f1,f2,f3,f4⟩ | ⟨b,cap,f1,f2,f3,f4,f5⟩
  ·exact .inl ⟨by rw[P];exact f1,f2,f3,f4⟩
  ·exact .inr ⟨b,cap,by rw[P];exact f1,f2,f3,f4,f5⟩
 show ∃G',Inv w0 G' ((S.di k ((S.aJ k).set j .dead)).puts _) a w
 rw[Z];rcases Y.laid with ⟨I,J⟩ | ⟨b,cap,arr,E,rest,cells,I,l,hcap,hmax,hasz,r,harr,hL,hsS⟩
 ·have hm0:m'=0:=by rw[J]at q;simpa using q
  have hempty:∀(ys:List t.den),ys=[]->A8 w G.S t ys (.slice none 0 0) (fun _=>False):=fun ys hy=>.inl ⟨⟨none,0,rfl,fun _=>rfl⟩,hy⟩
  exact fin (fun _=>False) (fun _=>False) (.slice none 0 0) (.slice none 0 0) hA rfl (fun _ hh=>hh.elim) (fun _ hh=>hh.elim) (fun _ hh=>hh.elim) (hempty _ (by rw[J];simp)) (hempty _ (by rw[J];simp)) (.inl ⟨I,hm0,rfl,rfl⟩)
 ·obtain⟨hB,hmB⟩:=hA.aeo (fun b' o=>b'=b/\o<xs.length*t.size)
   (fun b' o v=>by
    obtain⟨rfl,_⟩:=v;have g:=h.nM r;refine⟨g.2,fun i' T=>?_,fun k' j' t2 H d2 m2 z len cap' hov' f=>?_⟩
    ·rw[show G.ow b'=_ from r]at T;cases T
    ·rw[show G.ow b'=_ from r]at f;cases f;rw[hdead]at z;cases z)
   (fun b' o v=>by obtain⟨rfl,_⟩:=v;exact (h.nM r).1)
   (fun b' o v k' j' t2 H z f=>by
    obtain⟨rfl,_⟩:=v;rw[show G.ow b'=_ from r]at f;cases f;rcases z with z | ⟨_,z⟩ | z<;>rw[hdead]at z<;>cases z)
  have hL':=hL.move (S':=fun b' o=>G.S b' o\/(b'=b/\o<xs.length*t.size)) (w':=w) (fun b' o C=>⟨.inl C,rfl⟩) (fun c d=>⟨d,rfl⟩);obtain⟨lab1,lab2,l1,l2,l3,l4,l5⟩:=hL'.split q;have hcell:∀p u,cells[p]?=some u->w.cell? ⟨b,p,none⟩=some u/\p<xs.length*t.size:=by
   intro p u x;have hp:=(zC.1 x).1;refine⟨?_,by rw[<- hL.1];exact hp⟩;rw[cell_of_row _ _ _ _ _ _ l,<- Array.getElem?_toList,harr,List.getElem?_append_left hp];exact x
  have hmul:m'*t.size<=xs.length*t.size:=Nat.mul_le_mul_right _ q;refine fin lab1 lab2 (.slice (some ⟨b,0,none⟩) m' cap) (.slice (some ⟨b,if cap=m' then 0 else m'*t.size,none⟩) (xs.length-m') (cap-m')) hB rfl (fun c d=>(l1 c d).1) (fun c d=>(l2 c d).1) l3 ?_ ?_ (.inr ⟨b,cap,I,hcap,q,rfl,rfl⟩)
  ·have hlen:(xs.take m').length=m':=by rw[a8];omega
   refine .inr ⟨b,0,cap,cells.take (m'*t.size),by rw[hlen],fun p u x=>?_,l4⟩;rw[List.getElem?_take]at x;split at x
   case isFalse=>cases x
   obtain⟨g1,g2⟩:=hcell p u x;rw[Nat.zero_add];exact⟨g1,.inr ⟨rfl,g2⟩⟩
  ·have hlen:(xs.drop m').length=xs.length-m':=List.length_drop;by_cases hz:xs.length=m'
   ·refine .inl ⟨⟨_,cap-m',by rw[hz,Nat.sub_self],fun hh=>by cases hh⟩,?_⟩;exact List.eq_nil_of_length_eq_zero (by rw[hlen];omega)
   ·have hcm:¬cap=m':=by omega
    rw[if_neg hcm];refine .inr ⟨b,m'*t.size,cap-m',cells.drop (m'*t.size),by rw[hlen],fun p u x=>?_,l5⟩;rw[List.getElem?_drop]at x;obtain⟨g1,g2⟩:=hcell _ u x;exact⟨g1,.inr ⟨rfl,g2⟩⟩
theorem Sl{G:Gh}{S:St}{a:Act}{w:World}{ρ:Type}{E:Env}{id:Nat}{k:St->Option ρ}{r:ρ}(hv:alo E id S k=some r)(h:Inv w0 G S a w):∃S' G',Inv w0 G' S' a w/\k S'=some r:=by
 unfold alo at hv;split at hv
 ·exact⟨S,G,h,hv⟩
 ·rw[Rd.jH,zB]at hv;obtain⟨ws,b,c⟩:=hv;obtain⟨G',d⟩:=ahp b h;exact⟨_,G',d,c⟩
theorem jY(n:Ba P E w0)(o:P.follows .mixedOrders=true):∀(c:Code) {ρ:Type} {r:ρ} {S:St} {a:Act} {w:World} {G:Gh} {k:Ex->St->Option ρ} {Q:Exit->Act->World->Prop},
  den E an c S k=some r->Inv w0 G S a w->(∀e S' a' w' G',k e S'=some r->Inv w0 G' S' a' w'->Q e.up a' w')->c.wp P Q a w
 | .skip,ρ,r,S,a,w,G,k,Q,hv,h,d=>wp_skip (d .normal S a w G hv h)
 | .label l,ρ,r,S,a,w,G,k,Q,hv,h,d=>wp_label (d .normal S a w G hv h)
 | .region id ops false,ρ,r,S,a,w,G,k,Q,hv,h,d=>by
  obtain⟨M,J,q,m⟩:=Sl (k:=fun S=>aoD E ops ops.toList S fun S=>k .normal S) hv h;refine wp_region ?_;have:=ade (P:=P) (w0:=w0) (E:=E) (ops:=ops) (Q:=Q) n (k:=fun S=>k .normal S) (fun S' a' w' G' b g=>d .normal S' a' w' G' b g) (l:=ops.toList) (i:=0) (by simp) m q;rw[List.range_eq_range'];simpa using this
 | .region id ops true,ρ,r,S,a,w,G,k,Q,hv,h,d=>by
  obtain⟨M,J,q,m⟩:=Sl (k:=fun S=>agy E ops id S fun S=>k .normal S) hv h;exact aee n o (k:=fun S=>k .normal S) m q fun S' a' w' G' b g=>d .normal S' a' w' G' b g
 | .seq x y,ρ,r,S,a,w,G,k,Q,hv,h,d=>by
  simp only[den]at hv;split at hv
  ·refine wp_seq (jY n o x (Q:=Exit.then (y.wp P Q) Q) hv h fun e S' a' w' G' b g=>?_);cases e with
   | normal=>exact jY n o y b g d
   | exit id=>exact d (.exit id) S' a' w' G' b g
   | ret=>exact d .ret S' a' w' G' b g
  ·rename_i la v;unfold aok at hv;rw[zB]at hv;obtain⟨j,N,A⟩:=hv;refine wp_seq (jY n o x (Q:=Exit.then (y.wp P Q) Q) N h fun e S' a' w' G' b g=>?_);cases e with
   | normal=>
    simp only at b;rw[Rd.jH,zB]at b;obtain⟨z,B,b⟩:=b;cases b
    obtain⟨K,C⟩:=QI g B;exact jY n o y A C d
   | exit id=>
    simp only at b;rw[zB]at b;obtain⟨r',b,f⟩:=b;cases f
    cases A
    exact d (.exit id) S' a' w' G' b g
   | ret=>
    simp only at b;rw[zB]at b;obtain⟨r',b,f⟩:=b;cases f
    cases A
    exact d .ret S' a' w' G' b g
 | .cond c x y,ρ,r,S,a,w,G,k,Q,hv,h,d=>by
  simp only[den]at hv;split at hv
  ·rename_i t;have m:=VL hv;have u:=h.gZ t;split at m
   ·rename_i D;rw[D]at u;have f:Rep w G.S (.bool true) (a.eval (.tmp t)):=u;generalize p:a.eval (.tmp t)=vv at f;cases f
    exact wp_cond_true p (jY n o x m h d)
   ·rename_i D;rw[D]at u;have f:Rep w G.S (.bool false) (a.eval (.tmp t)):=u;generalize p:a.eval (.tmp t)=vv at f;cases f
    exact wp_cond_false p (jY n o y m h d)
   ·cases m
  ·cases hv
 | .block id c,ρ,r,S,a,w,G,k,Q,hv,h,d=>by
  refine wp_block (jY n o c (Q:=Exit.inBlock id Q) hv h fun e S' a' w' G' b g=>?_);cases e with
  | normal=>exact d .normal S' a' w' G' b g
  | exit i=>
   simp only at b;show (if i=id then Q .normal a' w' else Q (.exit i) a' w')
   by_cases hi:i=id
   ·rw[if_pos hi]at b ⊢;exact d .normal S' a' w' G' b g
   ·rw[if_neg hi]at b ⊢;exact d (.exit i) S' a' w' G' b g
  | ret=>exact d .ret S' a' w' G' b g
 | .loop c,ρ,r,S,a,w,G,k,Q,hv,h,d=>by
  simp only[den]at hv;split at hv
  ·cases hv
  rename_i la v;rw[Rd.jH,zB]at hv;obtain⟨U,F,O⟩:=hv;obtain⟨V,H⟩:=uI O;obtain⟨W,R⟩:=QI h F;refine adr H R (fun x res X Y J I q Q' T L=>jY n o c I q fun e S' a' w' G' b g=>?_) (fun e S' a' w' G' b g=>d e S' a' w' G' b g);cases e with
  | normal=>
   simp only at b;rw[Rd.jH,zB]at b;obtain⟨z,B,b⟩:=b;obtain⟨K,C⟩:=QI g B;exact T z a' w' K (aR b).symm C
  | exit id=>
   simp only at b;rw[zB]at b;obtain⟨r',b,f⟩:=b;exact L r' (.exit id) S' a' w' G' (aR f).symm (by simp) b g
  | ret=>
   simp only at b;rw[zB]at b;obtain⟨r',b,f⟩:=b;exact L r' .ret S' a' w' G' (aR f).symm (by simp) b g
 | .exit id,ρ,r,S,a,w,G,k,Q,hv,h,d=>wp_exit (d (.exit id) S a w G hv h)
 | .ret,ρ,r,S,a,w,G,k,Q,hv,h,d=>wp_ret (d .ret S a w G hv h)
 | .scope c,ρ,r,S,a,w,G,k,Q,hv,h,d=>by cases hv
 | .goto l,ρ,r,S,a,w,G,k,Q,hv,h,d=>by cases hv
 | .rangeFunc ..,ρ,r,S,a,w,G,k,Q,hv,h,d=>by cases hv
 | .refuse s,ρ,r,S,a,w,G,k,Q,hv,h,d=>by cases hv
end code
section functions
variable {P:Program}
theorem aby{G:Gh}{w:World}{n:Nat}{s:Sh}{x:s.t.den}{u:Value}(h:ShR (fun _ d u=>Rep w G.S d u) n s x u):vC G w (ali s x) u:=by
 have key:∀ {n:Nat} {ds:List D} {vs:List Value},aW (fun _ d u=>Rep w G.S d u) n ds vs->dH G w (ds.map .d) vs:=by
  intro n ds;induction ds generalizing n with
  | nil=>intro vs h;cases vs with
   | nil=>trivial
   | cons=>exact h.elim
  | cons d ds ih=>intro vs h;cases vs with
   | nil=>exact h.elim
   | cons v vs=>exact⟨h.1,ih h.2⟩
 unfold ShR at h;unfold ali;split at h
 ·rename_i b;obtain⟨vs,rfl,a⟩:=h;rw[b];exact⟨vs,rfl,key a⟩
 ·rename_i b;rw[b];have a:=key h;match e:(s.t.cells x).map C.d,a with
  | [c],a=>exact a.1
theorem EJ{G:Gh}{w:World}:∀ {n:Nat} {ss:List Sh} {x:Tup ss} {us:List Value},kH (fun _ d u=>Rep w G.S d u) n ss x us->oC G w (Si ss x) us
 | n,[],x,[],_=>trivial
 | n,[s],x,[u],h=>⟨aby h,trivial⟩
 | n,s::s'::r,(x,y),u::us,h=>⟨aby h.1,EJ h.2⟩
end functions
end Go.Abs
namespace Go.Abs
open Go.RowKit
theorem Ow.anyS{w:World}{S S':Nat->Nat->Prop}{dp:Bool}{d:D}{v:Value}{fp:Nat->Prop}(h:Ow w S dp d v fp)(hd:dp=true):Ow w S' dp d v fp:=by
 induction h with
 | int k n fp=>exact .int k n fp
 | bool b fp=>exact .bool b fp
 | str v fp=>exact .str v fp
 | nil t fp=>exact .nil t fp
 | ro d v fp a h=>rw[a]at hd;cases hd
 | list t xs b cap arr E vs fps fp f hcap hmax c e g j i hdis ih=>exact .list t xs b cap arr E vs fps fp f hcap hmax c e g ih i hdis
section functions
variable {P:Program}
theorem aaO{w:World}{S0:Nat->Nat->Prop}(h:∀b o,S0 b o->b<w.heap.size){n:Nat}{vs:List V}{us:List Value}(hv:∀G:Gh,G.S=S0->oC G w vs us) :
  ∃G,Inv ⟨w,S0,fun _=>False,none⟩ G (Cj n vs) { tmps:=us.toArray++Array.replicate (n-us.toArray.size) undef,defers:=[] } w:=by
 let G:Gh:={ bk:=fun _=>0,ov:=fun _ _=>undef,ow:=fun _=>none,S:=S0,lk:=fun _=>False,lb:=fun _=>False };obtain⟨l,m⟩:=(hv G rfl).get;have e:∀i,(Cj n vs).fP i=none:=by
  intro i;show (List.replicate _ (none:Option (List C))).getD i none=none
  rw[zE,List.getElem?_replicate];split<;>rfl
 have f:∀i,(Cj n vs).aJ i=[]:=by
  intro i;show (List.replicate _ ([]:List O)).getD i []=[]
  rw[zE,List.getElem?_replicate];split<;>rfl
 refine⟨G,⟨pR.refl _ _ _,rfl,?_,?_,?_,?_,(fun b x p=>(by cases p)),(fun b o g=>⟨h b o g,fun i hi=>(by cases hi)⟩),?_,?_,(fun k q=>q.elim),(fun i hi=>hi.elim),(fun b o g _=>g),(fun b r=>by cases r)⟩⟩
 ·simp[Cj,l]
 ·simp[Cj]
 ·simp[Cj]
 ·intro i v a;simp only[Array.getElem?_append,List.size_toArray,List.getElem?_toArray]at a;show jc G w ((vs.map AV.v++List.replicate _ AV.undef).getD i .undef) v
  rw[zE,List.getElem?_append];by_cases hi:i<us.length
  ·rw[if_pos hi]at a;have c:i<vs.length:=by omega
   rw[if_pos (by simpa using c),List.getElem?_map,zF c];exact m i vs[i] v (by simp[c]) a
  ·rw[if_neg (by simp;omega),List.getElem?_replicate];split<;>trivial
 ·intro i cs d;rw[e]at d;cases d
 ·intro k j;rw[f];trivial
def zL(tmps:Array Value):ResultVar->Sem Value
 | .tmp t=>pure (tmps.getD t undef)
 | .cell p t=>do loadVar t (<- asAddr (tmps.getD p undef))
theorem aiv{w0:Bs}{E:Env}(r:E.tt.ok P=true){G:Gh}{S:St}{a:Act}{w:World}(h:Inv w0 G S a w){rv:ResultVar}{x:V}(c:(resV E rv).val S=some x) :
  ∃v,(zL a.tmps rv).run P w=.ok v w/\vC G w x v:=by
 cases rv with
 | tmp t=>
  simp only[resV,Rd.val]at c;exact⟨_,rfl,qh c (h.gZ t)⟩
 | cell p t=>
  simp only[resV]at c;split at c
  ·cases c
  ·rename_i agg n s;obtain⟨d,i,m,hi,u,hd⟩:=TT.xA r s;have o:=h.gZ p;change Rd.val (match S.gZ p with
   | .v (.one (.ptr b off))=>.gB b fun
    | some cs=>.opt (mkV agg (seg cs off n)) fun v=>if (seg cs off n).length=n then .ret v else .fail
    | none=>.fail
   | _=>.fail) S=some x at c
   split at c
   ·rename_i b off z;rw[z]at o;have f:a.tmps.getD p undef=.pointer (some ⟨G.bk b,off,none⟩):=o.2;change Rd.val (match S.fP b with
     | some cs=>.opt (mkV agg (seg cs off n)) fun v=>if (seg cs off n).length=n then .ret v else .fail
     | none=>.fail) S=some x at c
    split at c
    ·rename_i cs g;simp only[Rd.val,zB]at c;obtain⟨y,A,c⟩:=c;split at c
     ·rename_i D;simp only[Rd.val,zD]at c;subst c;obtain⟨_,vs,e,hh,q⟩:=h.box b cs g;obtain⟨B,C⟩:=XT A (q.seg off n);have hlen:=(q.seg off n).length;have hcell:∀(j:Nat) (v:Value),(seg vs off n)[j]?=some v->w.cell? ⟨G.bk b,off+j,none⟩=some v:=fun j v hv=>by
       rw[cell_of_row w _ _ _ _ _ hh];simp only[Abs.seg,List.getElem?_take,List.getElem?_drop]at hv;split at hv
       ·simpa using hv
       ·cases hv
      cases agg with
      | true=>
       have:=ni (P:=P) (w:=w) t (G.bk b) off d i m hi hd (seg vs off n) (by omega) hcell;exact⟨_,by simp only[zL,f,asAddr,Sem.run_bind,Sem.run_pure,Result.andThen_ok,this],B rfl⟩
      | false=>
       obtain⟨v,k,l⟩:=C rfl;have:=qL (P:=P) (w:=w) t (G.bk b) off d m hd v (by have:=hcell 0 v (by rw[k];rfl);simpa using this);exact⟨_,by simp only[zL,f,asAddr,Sem.run_bind,Sem.run_pure,Result.andThen_ok,this],l⟩
     ·cases c
    ·cases c
   ·cases c
theorem vU{w0:Bs}{E:Env}(c:E.tt.ok P=true){G:Gh}{S:St}{a:Act}{w:World}(h:Inv w0 G S a w):∀ {rvs:List ResultVar} {xs:List V},(Gi E rvs).val S=some xs ->
  ∃us,(rvs.mapM (zL a.tmps)).run P w=.ok us w/\oC G w xs us
 | [],xs,b=>by
  simp only[Gi,Rd.val,zD]at b;subst b;exact⟨[],rfl,trivial⟩
 | rv::r,xs,b=>by
  simp only[Gi,Rd.aF,zB,Rd.val,zD]at b;obtain⟨x,d,xs',e,rfl⟩:=b;obtain⟨v,f,g⟩:=aiv c h d;obtain⟨us,i,j⟩:=vU c h e;refine⟨v::us,?_,g,j⟩;simp only[List.mapM_cons,Sem.run_bind,f,Result.andThen_ok,i,Sem.run_pure]
theorem V5{w0:Bs}{G:Gh}{S:St}{a:Act}{w:World}(h:Inv w0 G S a w){all:List C}(hall:(xq all).val S=some true):∀ {tys:List (Option Ty)} {cs:List C} {ds:List D} {vs:List Value} {n:Nat} {pre post:List C},(cDs tys cs).val S=some ds ->
  tys.length=cs.length->dH G w cs vs->all=pre++cs++post->pre.length=n->aW (fun i d v=>Ow w (fun _ _=>False) true d v (fun b=>∃c,all[i]?=some c/\rowsOf G S c b)) n ds vs
 | [],[],ds,[],n,pre,post,hd,_,_,_,_=>by
  simp only[cDs,Rd.val,zD]at hd;subst hd;trivial
 | ty::tys,c::cs,ds,v::vs,n,pre,post,hd,r,m,p,q=>by
  simp only[cDs,Rd.aF,zB,Rd.val,zD]at hd;obtain⟨d,s,ds',t,rfl⟩:=hd;have f:all[n]?=some c:=by
   rw[p,a7,List.getElem?_append_right (by omega),q];simp
  obtain⟨b,g,l⟩:=Aq hall n c f;have u:=YX h s m.1 g l (S':=fun b o=>G.S b o\/AK G S (aP all) b o) (keys:=aP all) (fun _ _ hh=>hh) (fun k j e=>iO (e▸zG f));exact⟨(u.anyS rfl).sub (fun b x=>⟨c,f,x⟩) id,V5 h hall (pre:=pre++[c]) (post:=post) t (by simpa using r) m.2 (by rw[p];simp) (by simp[q])⟩
theorem ahC{w0:Bs}{G:Gh}{S:St}{a:Act}{w:World}(h:Inv w0 G S a w){all:List C}(hall:(xq all).val S=some true){s:Sh}{x:V}{y:s.t.den}{v:Value}{n:Nat}{pre post:List C}(e:(vT s x).val S=some y)(m:vC G w x v)
  (o:all=pre++x.cells++post) (p:pre.length=n):ShR (fun i d v=>Ow w (fun _ _=>False) true d v (fun b=>∃c,all[i]?=some c/\rowsOf G S c b)) n s y v/\x.cells.length=s.t.size:=by
 simp only[vT]at e;split at e
 ·rename_i f;simp only[Rd.aF,zB,Rd.val]at e;obtain⟨ds,q,z,r,k⟩:=e;simp only[zD]at k;subst k;obtain⟨vs,u,g,j⟩:=m.cells;have:=V5 h hall q (by rw[oU];exact f.2.symm) u o p;rw[<- Ty.dA r]at this;refine⟨?_,f.2⟩;unfold ShR;cases l:s.agg with
  | true=>exact⟨vs,g (by rw[f.1,l]),this⟩
  | false=>rw[j (by rw[f.1,l])]at this;exact this
 ·cases e
theorem Wy{w0:Bs}{G:Gh}{S:St}{a:Act}{w:World}(h:Inv w0 G S a w){all:List C}(hall:(xq all).val S=some true):∀ {ss:List Sh} {xs:List V} {y:Tup ss} {us:List Value} {n:Nat} {pre post:List C},(vTs ss xs).val S=some y->oC G w xs us ->
  all=pre++xs.flatMap V.cells++post->pre.length=n->kH (fun i d v=>Ow w (fun _ _=>False) true d v (fun b=>∃c,all[i]?=some c/\rowsOf G S c b)) n ss y us
 | [],[],y,[],n,pre,post,_,_,_,_=>trivial
 | [s],[x],y,[u],n,pre,post,e,f,g,j=>(ahC h hall (post:=post) e f.1 (by rw[g];simp) j).1
 | s::s'::r,x::xs,y,u::us,n,pre,post,e,f,g,j=>by
  simp only[vTs,Rd.aF,zB,Rd.val,zD]at e;obtain⟨p,k,q,l,rfl⟩:=e;obtain⟨m,o⟩:=ahC h hall (post:=xs.flatMap V.cells++post) k f.1 (by rw[g];simp) j;exact⟨m,Wy h hall (pre:=pre++x.cells) (post:=post) l f.2 (by rw[g];simp) (by simp[j,o])⟩
 | [s],x::x'::xs,y,us,n,pre,post,e,_,_,_=>by simp[vTs,Rd.val]at e
 | [s],[],y,us,n,pre,post,e,_,_,_=>by simp[vTs,Rd.val]at e
 | [],_::_,y,us,n,pre,post,e,_,_,_=>by simp[vTs,Rd.val]at e
 | s::s'::r,[],y,us,n,pre,post,e,_,_,_=>by simp[vTs,Rd.val]at e
theorem YF{w:World}{S0:Nat->Nat->Prop}{E:Env}(z:E.tt.ok P=true){fn:Func}{rs:List Sh}{ex:Bool}{G:Gh}{S:St}{a:Act}{w':World}{y:Tup rs}(hv:(finish E fn rs ex).val S=some y)(h:Inv ⟨w,S0,fun _=>False,none⟩ G S a w') :
  ∃v,(results fn a.tmps).run P w'=.ok v w'/\Dv w.heap.size w' S0 ex rs y v:=by
 simp only[finish,Rd.aF,zB]at hv;obtain⟨xs,A,ok,q,hv⟩:=hv;split at hv
 case isFalse=>cases hv
 rename_i l;subst l;obtain⟨us,B,g⟩:=vU z h A;refine⟨pack us,?_,us,rfl,?_⟩
 ·have e:(results fn a.tmps).run P w'=.ok (if h:us.toArray.size=1 then us.toArray[0]else .tuple us.toArray) w':=by
   change ((fn.results.mapM (zL a.tmps)) >>= fun vs=>pure (if h:vs.size=1 then vs[0]else .tuple vs)).run P w'=_;simp only[Array.mapM_eq_mapM_toList,Sem.run_bind,Sem.run_map,B,Result.andThen_ok,Sem.run_pure]
  rw[e];match us with
  | []=>rfl
  | [u]=>rfl
  | u::u'::r=>rw[dif_neg (by simp)];rfl
 ·cases ex with
  | true=>
   simp only[if_true,alf,Rd.aF,zB,Rd.val,zD]at q;obtain⟨b,C,s⟩:=q;rw[zI]at s;obtain⟨rfl,m⟩:=s;refine⟨fun i b=>∃c,(xs.flatMap V.cells)[i]?=some c/\rowsOf G S c b,Wy h C (pre:=[]) (post:=[]) hv g (by simp) rfl,?_,?_⟩
   ·rintro i c ⟨cc,_,k,j,_,d,_⟩;exact h.nM d
   ·rintro i i' c ⟨cc,D,k,j,rfl,d,_⟩ ⟨cc',n,k',j',rfl,f,_⟩;rw[d]at f;cases f
    exact gX m D n
  | false=>
   refine⟨fun b o=>G.S b o\/AK G S (aP (xs.flatMap V.cells)) b o,yX h _ 0 hv g fun k j x F H=>sW F H,?_⟩;rintro b o (t | ⟨k,j,_,_,_,_,_,_,d,_⟩)
   ·refine⟨?_,(h.sok b o t).1⟩;rcases Nat.lt_or_ge b w.heap.size with p | p
    ·exact .inl (h.sfr b o t p)
    ·exact .inr p
   ·have:=h.nM d;exact⟨.inr this.1,this.2⟩
theorem Sound.weaken{fid:Nat}{ps rs:List Sh}{ex sh:Bool}{f g:Tup ps->Option (Tup rs)}(h:Sound P { fid:=fid,ps:=ps,rs:=rs,ex:=ex,sh:=sh,fn:=f })(a:∀x y,g x=some y->f x=some y):Sound P { fid:=fid,ps:=ps,rs:=rs,ex:=ex,sh:=sh,fn:=g }:=
 fun w S args x y b=>h w S args x y (a x y b)
theorem Sound.two{fid:Nat}{ps rs:List Sh}{ex sh:Bool}{f g:Tup ps->Option (Tup rs)}(b:Sound P { fid:=fid,ps:=ps,rs:=rs,ex:=ex,sh:=sh,fn:=f })(c:Sound P { fid:=fid,ps:=ps,rs:=rs,ex:=ex,sh:=sh,fn:=g }):Sound P { fid:=fid,ps:=ps,rs:=rs,ex:=ex,sh:=sh,fn:=fun x=>(f x).or (g x) }:=
 fun w S args x y a=>by
  have a:(f x).or (g x)=some y:=a;cases e:f x with
  | some z=>exact b w S args x y (by rw[e]at a;exact e.trans a)
  | none=>exact c w S args x y (by rw[e]at a;exact a)
theorem zi{E:Env}(k:gq P E)(l:P.follows .mixedOrders=true)(an:List (Nat×LA)){s:Fsp}{fn:Func}(f:P.funcs[s.fid]?=some fn)
  (hden:∀x,aef E an fn s.ps s.rs s.ex x=s.fn x):Sound P s:=by
 intro w S args x y d g hargs m;rw[<- hden x]at d;unfold aef at d;split at d
 ·cases d
 ·rename_i c o;obtain⟨G,h⟩:=aaO m (n:=fn.ntmps) (vs:=Si s.ps x) (us:=args) (fun G p=>EJ (by rw[p];exact hargs));refine calls_of_wp f o (jY (k.at (.none g)) l c d h fun e S' a' w' G' a i=>?_);have key:(finish E fn s.rs s.ex).val S'=some y->bodyPost P fn (fun e w'=>∃v,e=.returned v/\Below w.heap.size w w'/\Dv w.heap.size w' S s.ex s.rs y v) .ret a' w':=by
   intro hv;obtain⟨v,q,r⟩:=YF k.1 hv i;exact⟨i.nodef,v,q,v,rfl,i.below.NU fun _ f=>f,r⟩
  cases e with
  | normal=>
   change (finish E fn s.rs s.ex).runK S' some=some y at a;rw[Rd.jH,zB]at a;obtain⟨z,j,b⟩:=a;cases b
   exact key j
  | exit id=>cases a
  | ret=>
   change (finish E fn s.rs s.ex).runK S' some=some y at a;rw[Rd.jH,zB]at a;obtain⟨z,j,b⟩:=a;cases b
   exact key j
theorem aW.shift{Q:D->Value->Prop}:∀ {n m:Nat} {ds:List D} {vs:List Value},aW (fun _ d u=>Q d u) n ds vs->aW (fun _ d u=>Q d u) m ds vs
 | n,m,[],[],_=>trivial
 | n,m,d::ds,v::vs,h=>⟨h.1,aW.shift h.2⟩
theorem ShR.shift{Q:D->Value->Prop}{n m:Nat}{s:Sh}{x:s.t.den}{u:Value}(h:ShR (fun _ d u=>Q d u) n s x u):ShR (fun _ d u=>Q d u) m s x u:=by
 unfold ShR at *;split at h
 ·obtain⟨vs,e,a⟩:=h;exact⟨vs,e,a.shift⟩
 ·exact aW.shift h
theorem kH.shift{Q:D->Value->Prop}:∀ {n m:Nat} {ss:List Sh} {y:Tup ss} {us:List Value},kH (fun _ d u=>Q d u) n ss y us->kH (fun _ d u=>Q d u) m ss y us
 | n,m,[],y,[],_=>trivial
 | n,m,[s],y,[u],h=>ShR.shift (s:=s) h
 | n,m,s::s'::r,y,u::us,h=>⟨h.1.shift,h.2.shift⟩
theorem kH.split{Q:D->Value->Prop}{n:Nat}{c:Sh}{rs:List Sh}{y:Tup (c::rs)}{u:Value}{us:List Value}(h:kH (fun _ d u=>Q d u) n (c::rs) y (u::us)) :
  ShR (fun _ d u=>Q d u) 0 c (Bd y) u/\kH (fun _ d u=>Q d u) 0 rs (Va y) us:=by
 cases rs with
 | nil=>cases us with
  | nil=>exact⟨ShR.shift (s:=c) h,trivial⟩
  | cons=>exact h.elim
 | cons s r=>exact⟨h.1.shift,h.2.shift⟩
theorem ShR.agg{Q:D->Value->Prop}{c:Sh}{x:c.t.den}{vs:List Value}(a:c.agg=true)(h:ShR (fun _ d u=>Q d u) 0 c x (.agg vs.toArray)):aW (fun _ d u=>Q d u) 0 (c.t.cells x) vs:=by
 unfold ShR at h;rw[a]at h;obtain⟨vs',e,h⟩:=h;have:vs=vs':=by simpa using e
 rw[this];exact h
theorem Ik{fn:Func}{a:Act}{w':World}{us:List Value}(b:(fn.results.toList.mapM (zL a.tmps)).run P w'=.ok us w'):(results fn a.tmps).run P w'=.ok (pack us) w':=by
 have e:(results fn a.tmps).run P w'=.ok (if h:us.toArray.size=1 then us.toArray[0]else .tuple us.toArray) w':=by
  change ((fn.results.mapM (zL a.tmps)) >>= fun vs=>pure (if h:vs.size=1 then vs[0]else .tuple vs)).run P w'=_;simp only[Array.mapM_eq_mapM_toList,Sem.run_bind,Sem.run_map,b,Result.andThen_ok,Sem.run_pure]
 rw[e];match us with
 | []=>rfl
 | [u]=>rfl
 | u::u'::r=>rw[dif_neg (by simp)];rfl
theorem agQ{w:World}{S0:Nat->Nat->Prop}{bb:Nat}(y:∀b o,S0 b o->b<w.heap.size/\b≠bb){f:List Value}{Et:TypeId}(hh:w.heap[bb]?=some (.cells f.toArray Et (0,0))){n:Nat}{cs:List C}{vs:List V}{us:List Value}
  (hv:∀G:Gh,G.S=S0->dH G w cs f/\oC G w vs us) :
  ∃G,Inv ⟨w,S0,fun c=>c=bb,some bb⟩ G (zY n cs vs) { tmps:=(Value.pointer (some ⟨bb,0,none⟩)::us).toArray++Array.replicate (n-(Value.pointer (some ⟨bb,0,none⟩)::us).toArray.size) undef,defers:=[] } w:=by
 let G:Gh:={ bk:=fun _=>bb,ov:=fun _ _=>undef,ow:=fun c=>if c=bb then some (.box 0)else none,S:=S0,lk:=fun _=>False,lb:=fun i=>i=0 };obtain⟨q,r⟩:=hv G rfl;obtain⟨z,A⟩:=r.get;have s:bb<w.heap.size:=(aM.1 hh).1;have h:∀c x,G.ow c=some x->c=bb/\x=.box 0:=fun c x t=>by
  have g:(if c=bb then some (AY.box 0)else none)=some x:=t;split at g
  ·rename_i e;cases g;exact⟨e,rfl⟩
  ·cases g
 have l:∀i,(zY n cs vs).fP i=if i=0 then some cs else none:=by
  intro i;show (some cs::List.replicate _ (none:Option (List C))).getD i none=_
  cases i with
  | zero=>rfl
  | succ i=>
   rw[zE,List.getElem?_cons_succ,List.getElem?_replicate,if_neg (Nat.succ_ne_zero i)];split<;>rfl
 have u:∀i,(zY n cs vs).aJ i=[]:=by
  intro i;show (List.replicate _ ([]:List O)).getD i []=[]
  rw[zE,List.getElem?_replicate];split<;>rfl
 refine⟨G,⟨pR.refl _ _ _,rfl,?_,?_,?_,?_,(fun b x t=>?_),(fun b o p=>⟨(y b o p).1,fun i hi=>(y b o p).2 (h _ _ hi).1⟩),?_,?_,(fun k B=>B.elim),?_,(fun b o p _=>p),(fun b D=>by cases D;exact⟨rfl,fun _=>.refl _ _⟩)⟩⟩
 ·simp[zY,z];omega
 ·simp[zY]
 ·simp[zY];omega
 ·intro i v d;simp only[Array.getElem?_append,List.size_toArray,List.getElem?_toArray]at d;show jc G w ((.v (.one (.ptr 0 0))::vs.map AV.v++List.replicate _ AV.undef).getD i .undef) v
  rw[zE,List.getElem?_append];by_cases hi:i<us.length+1
  ·rw[if_pos (by simpa using hi)]at d;rw[if_pos (by simp;omega)];cases i with
   | zero=>
    simp at d;subst d;exact⟨rfl,rfl⟩
   | succ i=>
    simp only[List.getElem?_cons_succ]at d ⊢;have m:i<vs.length:=by omega
    rw[List.getElem?_map,zF m];exact A i vs[i] v (by simp[m]) d
  ·rw[if_neg (by simp;omega),List.getElem?_replicate];split<;>trivial
 ·obtain⟨rfl,rfl⟩:=h b x t;exact⟨.inr ⟨rfl,rfl⟩,s⟩
 ·intro i cs' a;rw[l]at a;split at a
  ·rename_i e;cases a
   subst e;exact⟨if_pos rfl,f,Et,hh,q⟩
  ·cases a
 ·intro k j;rw[u];trivial
 ·intro i hi;rw[l,if_pos hi];simp
theorem alu{w0:Bs}{G:Gh}{S:St}{a:Act}{w:World}(h:Inv w0 G S a w){ty:Option Ty}{c:C}{d:D}{v:Value}(hd:(cD ty c).val S=some d)(f:oQ G w c v)(o:(cSh c).val S=some true):NM w G.S d v (rowsOf G S c):=by
 cases c with
 | undef=>cases hd
 | ptr=>cases hd
 | d x=>
  simp only[cD,Rd.val,zD]at hd;subst hd;cases x with
  | list t xs=>simp[cSh,Rd.val]at o
  | int=>exact f
  | bool=>exact f
  | str=>exact f
 | nil=>
  cases ty with
  | none=>cases hd
  | some t=>
   simp only[cD,Rd.val,zD]at hd;subst hd;exact .inl ⟨f,rfl⟩
 | own k j=>
  simp only[cSh,Rd.val]at o;simp only[cD,Rd.val]at hd;have B:=h.owns k j;split at o
  ·rename_i t xs dp g;rw[g]at hd B;simp only[Rd.val,zD]at hd;subst hd;have p:OwT w G.S dp true t xs (G.ov k j) (gJ G k j):=B;show OwT w G.S false true t xs v _
   rw[f.2.1];rcases p with F | ⟨b,cap,arr,E,vs,fps,e,H,hcap,hmax,q,r,s,u,l,hdis,y⟩
   ·exact .inl F
   ·have m:∀x,gJ G k j x->rowsOf G S (.own k j) x:=fun x z=>⟨k,j,rfl,z,t,xs,dp,true,by rw[g];rfl⟩
    exact .inr ⟨b,cap,arr,E,vs,fps,e,H,hcap,hmax,q,m _ r,s,fun i x j' d' z A=>(u i x j' d' z A).sub (fun _ hh=>hh) (fun hh=>by cases hh),fun i j' c n=>⟨m _ (l i j' c n).1,(l i j' c n).2⟩,hdis,y⟩
  ·simp[Rd.val]at o
theorem abH{S:St}:∀ {cs:List C} {b:Bool},(alp cs).val S=some b->b=true->∀c,c∈cs->(cSh c).val S=some true
 | [],_,_,_,c,a=>by cases a
 | h::cs,b,hv,f,c,a=>by
  simp only[alp,Rd.aF,zB,Rd.val,zD]at hv;obtain⟨i,d,j,g,e⟩:=hv;rw[f,zI]at e;rcases ba.1 a with rfl | a
  ·rw[e.1]at d;exact d
  ·exact abH g e.2 c a
theorem NM.sub{w:World}{S:Nat->Nat->Prop}{d:D}{v:Value}{fp fp':Nat->Prop}(h:NM w S d v fp)(a:∀b,fp b->fp' b):NM w S d v fp':=by
 cases d with
 | list t xs=>exact OwT.rest (S:=S) h (fun _ _ hh=>hh) (fun _ _ _ hh=>hh) a
 | int=>exact h
 | bool=>exact h
 | str=>exact h
theorem abP{w0:Bs}{G:Gh}{S:St}{a:Act}{w:World}(h:Inv w0 G S a w){all:List C}(hall:∀c,c∈all->(cSh c).val S=some true):∀ {tys:List (Option Ty)} {cs:List C} {ds:List D} {vs:List Value} {n:Nat} {pre post:List C},(cDs tys cs).val S=some ds ->
  tys.length=cs.length->dH G w cs vs->all=pre++cs++post->pre.length=n->aW (fun i d v=>NM w G.S d v (fun b=>∃c,all[i]?=some c/\rowsOf G S c b)) n ds vs
 | [],[],ds,[],n,pre,post,hd,_,_,_,_=>by
  simp only[cDs,Rd.val,zD]at hd;subst hd;trivial
 | ty::tys,c::cs,ds,v::vs,n,pre,post,hd,k,e,f,g=>by
  simp only[cDs,Rd.aF,zB,Rd.val,zD]at hd;obtain⟨d,l,ds',m,rfl⟩:=hd;have j:all[n]?=some c:=by
   rw[f,a7,List.getElem?_append_right (by omega),g];simp
  exact⟨(alu h l e.1 (hall c (zG j))).sub fun b o=>⟨c,j,o⟩,abP h hall (pre:=pre++[c]) (post:=post) m (by simpa using k) e.2 (by rw[f];simp) (by simp[g])⟩
theorem alD{w0:Bs}{G:Gh}{S:St}{a:Act}{w:World}(h:Inv w0 G S a w){all:List C}(hall:∀c,c∈all->(cSh c).val S=some true){s:Sh}{x:V}{y:s.t.den}{v:Value}{n:Nat}{pre post:List C}(e:(vT s x).val S=some y)(m:vC G w x v)
  (o:all=pre++x.cells++post) (p:pre.length=n):ShR (fun i d v=>NM w G.S d v (fun b=>∃c,all[i]?=some c/\rowsOf G S c b)) n s y v/\x.cells.length=s.t.size:=by
 simp only[vT]at e;split at e
 ·rename_i f;simp only[Rd.aF,zB,Rd.val]at e;obtain⟨ds,q,z,r,k⟩:=e;simp only[zD]at k;subst k;obtain⟨vs,u,g,j⟩:=m.cells;have:=abP h hall q (by rw[oU];exact f.2.symm) u o p;rw[<- Ty.dA r]at this;refine⟨?_,f.2⟩;unfold ShR;cases l:s.agg with
  | true=>exact⟨vs,g (by rw[f.1,l]),this⟩
  | false=>rw[j (by rw[f.1,l])]at this;exact this
 ·cases e
theorem ahB{w0:Bs}{G:Gh}{S:St}{a:Act}{w:World}(h:Inv w0 G S a w){all:List C}(hall:∀c,c∈all->(cSh c).val S=some true):∀ {ss:List Sh} {xs:List V} {y:Tup ss} {us:List Value} {n:Nat} {pre post:List C},(vTs ss xs).val S=some y->oC G w xs us ->
  all=pre++xs.flatMap V.cells++post->pre.length=n->kH (fun i d v=>NM w G.S d v (fun b=>∃c,all[i]?=some c/\rowsOf G S c b)) n ss y us
 | [],[],y,[],n,pre,post,_,_,_,_=>trivial
 | [s],[x],y,[u],n,pre,post,e,f,g,j=>(alD h hall (post:=post) e f.1 (by rw[g];simp) j).1
 | s::s'::r,x::xs,y,u::us,n,pre,post,e,f,g,j=>by
  simp only[vTs,Rd.aF,zB,Rd.val,zD]at e;obtain⟨p,k,q,l,rfl⟩:=e;obtain⟨m,o⟩:=alD h hall (post:=xs.flatMap V.cells++post) k f.1 (by rw[g];simp) j;exact⟨m,ahB h hall (pre:=pre++x.cells) (post:=post) l f.2 (by rw[g];simp) (by simp[j,o])⟩
 | [s],x::x'::xs,y,us,n,pre,post,e,_,_,_=>by simp[vTs,Rd.val]at e
 | [s],[],y,us,n,pre,post,e,_,_,_=>by simp[vTs,Rd.val]at e
 | [],_::_,y,us,n,pre,post,e,_,_,_=>by simp[vTs,Rd.val]at e
 | s::s'::r,[],y,us,n,pre,post,e,_,_,_=>by simp[vTs,Rd.val]at e
theorem afw{S:St}{c:Sh}{rs:List Sh}{x:V}{xs:List V}{y:Tup (c::rs)}(a:(vTs (c::rs) (x::xs)).val S=some y):(vT c x).val S=some (Bd y)/\(vTs rs xs).val S=some (Va y):=by
 cases rs with
 | nil=>cases xs with
  | nil=>exact⟨a,rfl⟩
  | cons=>simp[vTs,Rd.val]at a
 | cons s r=>
  simp only[vTs,Rd.aF,zB,Rd.val,zD]at a;obtain⟨p,b,q,d,rfl⟩:=a;exact⟨b,d⟩
theorem Z7{w:World}{S0:Nat->Nat->Prop}{F:Nat->Prop}{bx:Option Nat}{G:Gh}{S:St}{a:Act}{w':World}(h:Inv ⟨w,S0,F,bx⟩ G S a w'){sh:Bool}{xs:List V}{us:List Value}(g:oC G w' xs us){rs:List Sh}{y:Tup rs}{ok:Bool}
  (l:(if sh then Xw (xs.flatMap V.cells)else Rd.ret true).val S=some ok) (t:ok=true) (q:(vTs rs xs).val S=some y) :
  ∃S':Nat->Nat->Prop,(∀b o,G.S b o->S' b o)/\Wl w.heap.size w' S' sh rs y us/\∀b o,S' b o->(S0 b o\/w.heap.size<=b)/\b<w'.heap.size:=by
 have r:∀b o,G.S b o->(S0 b o\/w.heap.size<=b)/\b<w'.heap.size:=fun b o f=>by
  refine⟨?_,(h.sok b o f).1⟩;rcases Nat.lt_or_ge b w.heap.size with m | m
  ·exact .inl (h.sfr b o f m)
  ·exact .inr m
 cases sh with
 | false=>
  refine⟨fun b o=>G.S b o\/AK G S (aP (xs.flatMap V.cells)) b o,fun b o=>.inl,yX h _ 0 q g fun k j x u v=>sW u v,?_⟩;rintro b o (f | ⟨k,j,_,_,_,_,_,_,d,_⟩)
  ·exact r b o f
  ·have:=h.nM d;exact⟨.inr this.1,this.2⟩
 | true=>
  simp only[if_true,Xw,Rd.aF,zB,Rd.val,zD]at l;obtain⟨b,z,s⟩:=l;rw[t,zI]at s;obtain⟨A,n⟩:=s;refine⟨G.S,fun b o f=>f,⟨fun i b=>∃c,(xs.flatMap V.cells)[i]?=some c/\rowsOf G S c b,ahB h (abH z A) (pre:=[]) (post:=[]) q g (by simp) rfl,?_,?_⟩,r⟩
  ·rintro i c ⟨cc,_,k,j,_,d,_⟩;exact h.nM d
  ·rintro i i' c ⟨cc,B,k,j,rfl,d,_⟩ ⟨cc',p,k',j',rfl,e,_⟩;rw[d]at e;cases e
   exact gX n B p
theorem cells_kept{w w':World}{S0 G:Nat->Nat->Prop}{bb:Nat}(E:pR (fun c=>c=bb) w.heap.size w w')(f:∀b o,S0 b o->b<w.heap.size/\b≠bb){t:Ty}{x A:t.den}{a vs':List Value}
  (q:∀(i:Nat) p l c,a[i]?=some (Value.slice p l c)->vs'[i]?=some (Value.slice p l c)) (g:aW (fun _ d u=>Rep w S0 d u) 0 (t.cells A) a) (h:aW (fun _ d u=>Rep w' G d u) 0 (t.cells x) vs'):aW (fun _ d u=>Rep w' S0 d u) 0 (t.cells x) vs':=by
 have key:∀ {ds e:List D} {n:Nat} {a vs':List Value},ds.map kU=e.map kU->(∀(i:Nat) p l c,a[i]?=some (Value.slice p l c)->vs'[i]?=some (Value.slice p l c))->aW (fun _ d u=>Rep w S0 d u) n e a->aW (fun _ d u=>Rep w' G d u) n ds vs'->aW (fun _ d u=>Rep w' S0 d u) n ds vs':=by
  intro ds;induction ds with
  | nil=>intro e n a vs' _ _ _ h;cases vs' with
   | nil=>trivial
   | cons=>exact h.elim
  | cons d ds ih=>
   intro e n a vs' j q g h;cases e with
   | nil=>cases j
   | cons B e=>
    cases vs' with
    | nil=>exact h.elim
    | cons v vs'=>
     cases a with
     | nil=>exact g.elim
     | cons v0 a=>
      simp only[List.map_cons,List.cons.injEq]at j;refine⟨?_,ih j.2 (fun i p l c hi=>q (i+1) p l c hi) g.2 h.2⟩;have r:=h.1;have m:=g.1;cases d with
      | int k n=>cases r;exact .int _ _
      | bool b=>cases r;exact .bool _
      | str s=>cases r;exact .str _
      | list F xs=>
       have y:∃p l c,v0=.slice p l c:=by
        have:kU B=some F:=j.1.symm;cases m with
        | int=>cases this
        | bool=>cases this
        | str=>cases this
        | nil=>exact⟨_,_,_,rfl⟩
        | emp=>exact⟨_,_,_,rfl⟩
        | list=>exact⟨_,_,_,rfl⟩
       obtain⟨p,l,c,rfl⟩:=y;have:v=.slice p l c:=by
        have:=q 0 p l c rfl;simpa using this
       subst this;have C:Rep w' S0 B (.slice p l c):=m.move fun b o z=>⟨z,World.cell?_of_block (w:=w) (E.block b (f b o z).1 (f b o z).2)⟩
       rw[Rep.det r C j.1];exact C
 exact key ((OA t x).trans (OA t A).symm) q g h
theorem UU{w:World}{S0:Nat->Nat->Prop}{bb:Nat}{E:Env}(X:E.tt.ok P=true){fn:Func}{rs:List Sh}{ex sh:Bool}{G:Gh}{S:St}{a:Act}{w':World}{y:Tup rs}(hv:(EH E fn rs ex sh).val S=some y)(h:Inv ⟨w,S0,fun c=>c=bb,some bb⟩ G S a w')
  (p:∀b o,S0 b o->b<w.heap.size/\b≠bb) {l:List Value} {N:TypeId} (q:w.heap[bb]?=some (.cells l.toArray N (0,0))) (B:ex=true->∀c rs',rs=c::rs'->∃O:c.t.den,aW (fun _ d u=>Rep w S0 d u) 0 (c.t.cells O) l) :
  ∃v,(results fn a.tmps).run P w'=.ok v w'/\alC w.heap.size w' S0 bb ex sh rs y v:=by
 unfold EH at hv;split at hv
 case isFalse=>cases hv
 rename_i r;simp only[Rd.val]at hv;split at hv
 case h_2=>cases hv
 rename_i cs C;split at hv
 case isFalse=>cases hv
 rename_i D;simp only[Rd.aF,zB]at hv;obtain⟨xs,Y,ok,m,hv⟩:=hv;split at hv
 case isFalse=>cases hv
 rename_i R;obtain⟨us,F,s⟩:=vU X h Y;obtain⟨ho,vs',Et,hh,H⟩:=h.box 0 cs C;rw[(h.fx bb rfl).1]at hh;refine⟨pack us,Ik F,?_⟩;cases rs with
 | nil=>cases r
 | cons c rs=>
  obtain⟨Z,T⟩:=afw hv;have U:=ab6 h [] 0 Z (v:=.agg vs'.toArray) ⟨vs',rfl,H⟩ fun k j I=>by
   have:(k,j)∈aP cs:=iO I;rw[D]at this;cases this
  cases ex with
  | false=>
   obtain⟨S',hS,hres,x⟩:=Z7 h s m R T;refine⟨S',vs',Et,us,rfl,hh,ShR.agg (c:=c) (Q:=fun d u=>Rep w' S' d u) r (U.imp fun i d v F=>F.move fun b o f=>⟨?_,rfl⟩),hres,fun b o f=>⟨(x b o f).1.imp id fun r=>⟨rfl,r⟩,(x b o f).2⟩⟩;rcases f with f | ⟨k,j,_,_,_,_,I,_⟩
   ·exact hS b o f
   ·cases I
  | true=>
   simp only[if_true,alf,Rd.aF,zB,Rd.val,zD]at m;obtain⟨b0,h3,W⟩:=m;rw[R,zI]at W;obtain⟨rfl,J⟩:=W;obtain⟨z,E2,A,K⟩:=(h.fx bb rfl).2 (aM.1 q).1 l N q;have e:z=vs':=by
    rw[hh]at A;cases A
    rfl
   subst e;obtain⟨O,L⟩:=B rfl c rs rfl;refine⟨S0,z,Et,us,rfl,hh,cells_kept h.below p K L (ShR.agg (c:=c) (Q:=fun d u=>Rep w' (fun b o=>G.S b o\/AK G S [] b o) d u) r U),?_,fun b o f=>⟨.inl f,aD (p b o f).1 h.below.size⟩⟩;refine⟨fun i b=>∃c,(xs.flatMap V.cells)[i]?=some c/\rowsOf G S c b,Wy h h3 (pre:=[]) (post:=[]) T s (by simp) rfl,?_,?_⟩
   ·rintro i c ⟨cc,_,k,j,_,n,_⟩;exact h.nM n
   ·rintro i i' c ⟨cc,L,k,j,rfl,n,_⟩ ⟨cc',M,k',j',rfl,g,_⟩;rw[n]at g;cases g
    exact gX J L M
theorem UR{w:World}{S0:Nat->Nat->Prop}{E:Env}(f:E.tt.ok P=true){fn:Func}{rs:List Sh}{G:Gh}{S:St}{a:Act}{w':World}{y:Tup rs}(hv:(EG E fn rs).val S=some y)(h:Inv ⟨w,S0,fun _=>False,none⟩ G S a w') :
  ∃v,(results fn a.tmps).run P w'=.ok v w'/\∃(S':Nat->Nat->Prop) (us:List Value),v=pack us/\Wl w.heap.size w' S' true rs y us/\∀b o,S' b o->(S0 b o\/w.heap.size<=b)/\b<w'.heap.size:=by
 unfold EG at hv;simp only[Rd.aF,zB]at hv;obtain⟨xs,g,ok,c,hv⟩:=hv;split at hv
 case isFalse=>cases hv
 rename_i i;obtain⟨us,j,d⟩:=vU f h g;obtain⟨S',_,hres,e⟩:=Z7 h (sh:=true) d (by simpa using c) i hv;exact⟨pack us,Ik j,S',us,rfl,hres,e⟩
theorem Tm{E:Env}(l:gq P E)(m:P.follows .mixedOrders=true)(an:List (Nat×LA)){s:Fsp}{fn:Func}(g:P.funcs[s.fid]?=some fn)
  (hden:∀x,aoS E an fn s.ps s.rs x=s.fn x):SV P s:=by
 intro w S args x y f i hargs p;rw[<- hden x]at f;unfold aoS at f;split at f
 ·cases f
 ·rename_i c q;obtain⟨G,h⟩:=aaO p (n:=fn.ntmps) (vs:=Si s.ps x) (us:=args) (fun G r=>EJ (by rw[r];exact hargs));refine calls_of_wp g q (jY (l.at (.none i)) m c f h fun e S' a' w' G' a j=>?_);have key:(EG E fn s.rs).val S'=some y->bodyPost P fn (fun e w'=>∃v,e=.returned v/\Below w.heap.size w w'/\∃(S':Nat->Nat->Prop) (us:List Value),v=pack us/\Wl w.heap.size w' S' true s.rs y us /\
    ∀b o,S' b o->(S b o\/w.heap.size<=b)/\b<w'.heap.size) .ret a' w':=by
   intro hv;obtain⟨v,t,u⟩:=UR l.1 hv j;exact⟨j.nodef,v,t,v,rfl,j.below.NU fun _ g=>g,u⟩
  cases e with
  | normal=>
   change (EG E fn s.rs).runK S' some=some y at a;rw[Rd.jH,zB]at a;obtain⟨z,k,d⟩:=a;cases d
   exact key k
  | exit id=>cases a
  | ret=>
   change (EG E fn s.rs).runK S' some=some y at a;rw[Rd.jH,zB]at a;obtain⟨z,k,d⟩:=a;cases d
   exact key k
theorem aj3{w:World}{S:Nat->Nat->Prop}{ps rs:List Sh}(a:sameBox ps rs=true){x:Tup ps}{b args:List Value}(hargs:kH (fun _ d u=>Rep w S d u) 0 ps x (.agg b.toArray::args)) :
  ∀c rs',rs=c::rs'->∃g:c.t.den,aW (fun _ d u=>Rep w S d u) 0 (c.t.cells g) b:=by
 intro c rs' h;cases ps with
 | nil=>cases a
 | cons p ps=>
  rw[h]at a;simp only[sameBox,zI,decide_eq_true_eq]at a;have i:ShR (fun _ d u=>Rep w S d u) 0 p (Bd x) (.agg b.toArray):=by
   cases ps with
   | nil=>cases args with
    | nil=>exact hargs
    | cons=>exact hargs.elim
   | cons j ps=>exact hargs.1
  have f:=ShR.agg (c:=p) (Q:=fun d u=>Rep w S d u) a.1 i;generalize Bd x=g at f;obtain⟨pa,pt⟩:=p;obtain⟨ca,ct⟩:=c;obtain⟨_,e⟩:=a;cases e
  exact⟨g,f⟩
theorem U4{E:Env}(p:gq P E)(r:P.follows .mixedOrders=true)(an:List (Nat×LA)){s:Fsp}{fn:Func}(t:P.funcs[s.fid]?=some fn)
  (hden:∀x,aoT E an fn s.ps s.rs s.ex s.sh x=s.fn x):gQ P s:=by
 intro w S bb g Et args x y a i j hh hargs q;rw[<- hden x]at a;unfold aoT at a;split at a
 case h_2=>cases a
 rename_i c cs vs u henc;split at a
 case isFalse=>cases a
 rename_i hsame;obtain⟨G,h⟩:=agQ q hh (n:=fn.ntmps) (cs:=cs) (vs:=vs) (us:=args) (fun G A=>by
  have:=EJ (G:=G) (by rw[A];exact hargs);rw[henc]at this;obtain⟨⟨vs',e,k⟩,l⟩:=this;have e':g=vs':=by simpa using e
  rw[e'];exact⟨k,l⟩)
 refine calls_of_wp t u (jY (p.at (.box i j)) r c a h fun e S' a' w' G' b f=>?_);have key:(EH E fn s.rs s.ex s.sh).val S'=some y->bodyPost P fn (fun e w'=>∃v,e=.returned v/\pR (fun c=>c=bb) w.heap.size w w'/\wP w w' bb/\alC w.heap.size w' S bb s.ex s.sh s.rs y v) .ret a' w':=by
  intro hv;obtain⟨v,k,l⟩:=UU p.1 hv f q hh fun m=>aj3 (hsame m) hargs
  exact⟨f.nodef,v,k,v,rfl,f.below,(f.fx bb rfl).2 (aM.1 hh).1,l⟩
 cases e with
 | normal=>
  change (EH E fn s.rs s.ex s.sh).runK S' some=some y at b;rw[Rd.jH,zB]at b;obtain⟨z,o,d⟩:=b;cases d
  exact key o
 | exit id=>cases b
 | ret=>
  change (EH E fn s.rs s.ex s.sh).runK S' some=some y at b;rw[Rd.jH,zB]at b;obtain⟨z,o,d⟩:=b;cases d
  exact key o
end functions
end Go.Abs
