import Derived.Test.YtjbajpfonnnfoaaGreatDoorS1
import Derived.Laws.BytesString
set_option linter.unusedSimpArgs false
set_option linter.unusedVariables false
/- Operations: arithmetic, strings, structs, new lists. -/
namespace Go.Abs
open Go.RowKit
section ops
variable {P:Program} {w0:Bs} {G:Gh} {S:St} {a:Act} {w:World} {o:Oper} {K:Act->World->Prop} {Q:Exit->Act->World->Prop}
theorem XV{op:BinOp}{T:TypeId}{x y:Operand}{d:D}{u v:Value}(a:Rep w G.S d u):(eqGuard op T x y u v).run P w=.ok () w:=by
 unfold eqGuard;cases a<;>(split<;>rfl)
theorem cu.repL{ds:List D}{vs:List Value}(h:cu G w (ds.map .d) vs):J6 w G.S ds vs:=by
 obtain⟨a,b⟩:=h.get;exact⟨by simpa using a,λi d v c e=>b i (.d d) v (by simp[c]) e⟩
theorem aeA(h:Inv w0 G S a w){bo:BinOp}{T T':TypeId}{x y:Operand}(t:o.op=.binOp bo T x y T'){E:Env}(N:E.tt.ok P=true){ws:List W}(b:(eff E o).val S=some ws)
  (A:∀a' w' G',Inv w0 G' (S.puts ws) a' w'->K a' w'):o.wp P a w K Q:=by
 unfold eff at b;rw[t]at b;simp only[Rd.aH,zB]at b;obtain⟨av,O,av',R,b⟩:=b;have f:=aY h O;have g:=aY h R;split at b
 ·rename_i cs cs';split at b
  ·cases b
  rename_i ks B;obtain⟨hk,C,fs,U⟩:=TT.akr N B;split at b
  case h_2=>cases b
  rename_i ds ds' F s;obtain⟨rfl,V⟩:=IY F;obtain⟨rfl,X⟩:=IY s;obtain⟨vs,j,H⟩:=f;obtain⟨us,k,I⟩:=g;have i:=XU (P:=P) (w:=w) 9 9991 T ks ds ds' vs us hk V X H.repL I.repL;simp only[yM,U]at i;have u:∀op,(eqGuard op T x y (.agg vs.toArray) (.agg us.toArray)).run P w=.ok () w:=λop=>run_eqGuard_agg w op T x y _ _ C
  split at b
  ·simp only[Rd.val,zD]at b;subst b;refine aW (v:=.bool (Cf ds ds')) (w':=w) ?_ (A _ _ _ (h.dst (Rep.bool _)));unfold execOp;simp only[t,j,k,Sem.run_bind,u,Result.andThen_ok,run_eql_struct,i,Sem.run_pure]
  ·simp only[Rd.val,zD]at b;subst b;refine aW (v:=.bool (!(Cf ds ds'))) (w':=w) ?_ (A _ _ _ (h.dst (Rep.bool _)));unfold execOp;simp only[t,j,k,Sem.run_bind,u,Result.andThen_ok,run_neq_struct,i,Sem.run_pure]
  ·cases b
 ·simp only[Rd.aH,zB]at b;obtain⟨dx,Y,dy,Z,b⟩:=b;have f:=oZ Y f;have g:=oZ Z g;have u:(eqGuard bo T x y (a.eval x) (a.eval y)).run P w=.ok () w:=XV f;have fin:∀ {z:D} {r:Value},(binOp bo T (a.eval x) (a.eval y)).run P w=.ok r w->Rep w G.S z r->ws=fF o (.v (.one (.d z)))->o.wp P a w K Q:=by
   intro z r i hrep J;subst J;refine aW (v:=r) (w':=w) ?_ (A _ _ _ (h.dst (av:=.v (.one (.d z))) hrep));unfold execOp;simp only[t,Sem.run_bind,u,Result.andThen_ok,i,Sem.run_pure]
  generalize j:a.eval x=xv at f fin;generalize k:a.eval y=yv at g fin;split at b
  ·split at b
   case isFalse=>cases b
   rename_i l;subst l;simp only[Rd.val,zB,zD]at b;obtain⟨z,c,rfl⟩:=b;cases f;cases g
   unfold quoI at c;split at c
   ·cases c
   ·rename_i m;cases c
    exact fin (by simp[binOp,Op.intDiv,m]) (Rep.int _ _) rfl
  ·split at b
   case isFalse=>cases b
   rename_i l;subst l;simp only[Rd.val,zB,zD]at b;obtain⟨z,c,rfl⟩:=b;cases f;cases g
   unfold Qb at c;split at c
   ·cases c
   ·rename_i m;cases c
    exact fin (by simp[binOp,Op.intDiv,m]) (Rep.int _ _) rfl
  ·simp only[Rd.val,zB,zD]at b;obtain⟨z,c,rfl⟩:=b;cases f;cases g
   unfold shlI at c;split at c
   ·cases c
   ·rename_i m;cases c
    exact fin (by simp[binOp,Op.shift,m]) (Rep.int _ _) rfl
  ·simp only[Rd.val,zB,zD]at b;obtain⟨z,c,rfl⟩:=b;cases f;cases g
   unfold shrI at c;split at c
   ·cases c
   ·rename_i m;cases c
    exact fin (by simp[binOp,Op.shift,m]) (Rep.int _ _) rfl
  ·simp only[Rd.val,zB,zD]at b;obtain⟨_,n,rfl⟩:=b;rename_i p q _;have L:List.length p+List.length q<=34359738368:=by
    unfold gd at n;split at n
    ·rename_i M;exact M
    ·cases n
   obtain⟨r,i,hrep⟩:=Yz (P:=P) f g L T;exact fin i hrep rfl
  ·split at b
   ·rename_i hb;simp only[Rd.val,zB,zD]at b;obtain⟨z,c,rfl⟩:=b;obtain⟨r,i,hrep⟩:=afF (P:=P) c f g T (λp q e _=>TT.ahB N (hb (by rw[e];rfl)));exact fin i hrep rfl
   ·cases b
theorem agH(h:Inv w0 G S a w){uo:UnOp}{T:TypeId}{x:Operand}(e:o.op=.unOp uo T x){E:Env}{ws:List W}(c:(eff E o).val S=some ws)
  (g:∀a' w' G',Inv w0 G' (S.puts ws) a' w'->K a' w'):o.wp P a w K Q:=by
 unfold eff at c;rw[e]at c;simp only[Rd.aH,zB]at c;obtain⟨av,i,dx,j,c⟩:=c;have f:=oZ j (aY h i);generalize d:a.eval x=xv at f;split at c
 ·rename_i b;split at c
  ·simp only[Rd.val,zD]at c;subst c;cases f
   refine aW (v:=.bool (!b)) (w':=w) ?_ (g _ _ _ (h.dst (Rep.bool _)));unfold execOp;simp[e,d,Op.unary]
  ·cases c
 ·rename_i k n;split at c
  ·simp only[Rd.val,zD]at c;subst c;cases f
   refine aW (v:=.int k (k.wrap (0-n))) (w':=w) ?_ (g _ _ _ (h.dst (Rep.int _ _)));unfold execOp;simp[e,d,Op.unary,Op.intArith]
  ·cases c
 ·cases c
theorem WW(h:Inv w0 G S a w){x:Operand}(d:o.op=.nilCheck x){E:Env}{ws:List W}(c:(eff E o).val S=some ws)
  (f:∀a' w' G',Inv w0 G' (S.puts ws) a' w'->K a' w'):o.wp P a w K Q:=by
 unfold eff at c;rw[d]at c;simp only[Rd.aH,zB]at c;obtain⟨av,g,c⟩:=c;have e:=aY h g;split at c
 ·rename_i b off;simp only[Rd.val,zD]at c;subst c;refine aW (v:=a.eval x) (w':=w) ?_ (f _ _ _ (h.dst e));have:a.eval x=.pointer (some ⟨G.bk b,off,none⟩):=e.2;unfold execOp;simp[d,this]
 ·cases c
theorem kV{c:Call}{b:Builtin}(d:o.op=.call c)(hc:c.callee=.builtin b){r:Value}{w':World}
  (e:(builtin b c.argTypes o.type (c.args.map λ| .const _=>true | _=>false) (c.args.map a.eval)).run P w=.ok (.value r) w') :
  (execOp a.eval o).run P w=.ok (.value r) w':=by
 unfold execOp;simp only[d,resolve,hc,Sem.run_bind,Sem.run_pure,Result.andThen_ok,invoke];exact e
theorem Dc{α:Type}{xs:Array α}{x:α}(h:xs.toList=[x]):xs = #[x]:=by
 cases xs;simp at h;rw[h]
theorem nX{α:Type}{xs:Array α}{x y:α}(h:xs.toList=[x,y]):xs = #[x,y]:=by
 cases xs;simp at h;rw[h]
theorem aj2(h:Inv w0 G S a w){c:Call}(r:o.op=.call c)(i:c.callee=.builtin .len){E:Env}(A:E.tt.ok P=true){ws:List W}(d:(eff E o).val S=some ws)
  (l:∀a' w' G',Inv w0 G' (S.puts ws) a' w'->K a' w'):o.wp P a w K Q:=by
 unfold eff at d;rw[r]at d;simp only[i]at d;split at d
 ·rename_i x T p u;have hargs:=Dc p;have htys:=Dc u;simp only[Rd.aH,zB]at d;obtain⟨av,B,d⟩:=d;have g:=aY h B;have str:∀s:ByteArray,a.eval x=.string s->E.tt.strs.contains T=true->(execOp a.eval o).run P w=.ok (.value (.int .i64 s.size)) w:=by
   intro s f hc;refine kV r i ?_;simp[builtin,hargs,htys,f,Builtin.len_,run_underlying (TT.Lu A hc),goInt]
  have sli:∀ad n cap,a.eval x=.slice ad n cap->(lk E.tt.elem T).isSome=true->(execOp a.eval o).run P w=.ok (.value (.int .i64 n)) w:=by
   intro ad n cap f hc;obtain⟨t,C⟩:=Option.isSome_iff_exists.1 hc;obtain⟨e,_,_,D,_⟩:=TT.jE A C;refine kV r i ?_;simp[builtin,hargs,htys,f,Builtin.len_,run_underlying D,goInt]
  have rep:∀(t:Ty) (xs:List t.den) v,Rep w G.S (.list t xs) v->a.eval x=v->(lk E.tt.elem T).isSome=true->(execOp a.eval o).run P w=.ok (.value (.int .i64 xs.length)) w:=by
   intro t xs v hrep d hc;cases hrep with
   | nil=>exact sli _ _ _ d hc
   | emp=>exact sli _ _ _ d hc
   | list _ _ b off cap vs hcap _ _=>exact sli _ _ _ d hc
  split at d
  ·rename_i s;split at d
   ·rename_i f;simp only[Rd.val,zD]at d;subst d;generalize y:a.eval x=xv at g;cases g with
    | str v=>exact aW (str v y f) (l _ _ _ (h.dst (by rw[oJ];exact Rep.int _ _)))
   ·cases d
  ·rename_i t xs;split at d
   ·rename_i f;simp only[Rd.val,zD]at d;subst d;exact aW (rep t xs _ g rfl f) (l _ _ _ (h.dst (Rep.int _ _)))
   ·cases d
  ·split at d
   ·rename_i f;simp only[Rd.val,zD]at d;subst d;exact aW (sli _ _ _ g f) (l _ _ _ (h.dst (Rep.int _ _)))
   ·cases d
  ·rename_i k j;split at d
   ·rename_i f;simp only[Rd.val]at d;split at d
    ·rename_i t xs deep m hown;simp only[Rd.val,zD]at d;subst d;have q:=h.owns k j;rw[hown]at q;refine aW ?_ (l _ _ _ (h.dst (Rep.int _ _)));rcases q with ⟨z,F⟩ | ⟨b,cap,arr,e',vs,fps,z,_⟩
     ·subst F;exact sli _ _ _ (g.2.1.trans z) f
     ·exact sli _ _ _ (g.2.1.trans z) f
    ·rename_i t xs hown;simp only[Rd.val,zD]at d;subst d;exact aW (rep t xs _ (h.Uy hown) g.2.1 f) (l _ _ _ (h.dst (Rep.int _ _)))
    ·rename_i t xs hown;simp only[Rd.val,zD]at d;subst d;have q:=h.aee (k:=k) (j:=j) (t:=t) (xs:=xs) (deep:=true) (m:=true) (by rw[hown];rfl);refine aW (v:=.int .i64 xs.length) (w':=w) ?_ (l _ _ _ (h.dst (Rep.int _ _)));rcases q with ⟨p,rfl⟩ | ⟨b,cap,_,_,_,_,p,_⟩
     ·exact sli none 0 0 (by rw[g.2.1];exact p) f
     ·exact sli _ _ cap (by rw[g.2.1];exact p) f
    ·cases d
   ·cases d
  ·cases d
 ·cases d
end ops
theorem uN{α:Type}(cs:List α)(off:Nat)(vs:List α)(h:off+vs.length<=cs.length):(dN cs off vs).length=cs.length:=by
 simp[dN];omega
theorem VU{α:Type}(cs:List α)(off:Nat)(v:α)(vs:List α)(h:off+(vs.length+1)<=cs.length):dN (cs.set off v) (off+1) vs=dN cs off (v::vs):=by
 apply List.ext_getElem?;intro i;simp only[dN,List.getElem?_append,List.getElem?_take,List.getElem?_drop,List.getElem?_set,a6,a8,List.length_set,List.length_cons,List.getElem?_cons];have f:min (off+1) cs.length=off+1:=by omega
 have g:min off cs.length=off:=by omega
 rw[f,g];by_cases d:i<off
 ·have b:i<off+1:=by omega
  have c:i<off+1+vs.length:=by omega
  have a:i<off+(vs.length+1):=by omega
  have j:off≠i:=by omega
  simp[d,b,c,a,j]
 ·by_cases k:i=off
  ·subst k;have c:i<i+1+vs.length:=by omega
   have l:i<cs.length:=by omega
   simp[c,l]
  ·have b:¬i<off+1:=by omega
   by_cases e:i<off+1+vs.length
   ·have a:i<off+(vs.length+1):=by omega
    have m:i-off≠0:=by omega
    have n:i-off-1=i-(off+1):=by omega
    simp[d,b,e,a,m,n]
   ·have a:¬i<off+(vs.length+1):=by omega
    have o:off≠off+1+vs.length+(i-(off+1+vs.length)):=by omega
    simp only[e,a,o,if_false];congr 1;omega
theorem XJ:∀(vs:List Value) (k off:Nat) (cs:Array Value),off+k+vs.length<=cs.size ->
  (vs.zipIdx k).foldl (λ(cs:Array Value) (p:Value×Nat)=>cs.setIfInBounds (off+p.2) p.1) cs=(dN cs.toList (off+k) vs).toArray
 | [],k,off,cs,_=>by simp[dN]
 | v::vs,k,off,cs,h=>by
  simp only[List.zipIdx_cons,List.foldl_cons];rw[XJ vs (k+1) off _ (by simp at h ⊢;omega)];simp only[Array.toList_setIfInBounds];congr 1;exact VU cs.toList (off+k) v vs (by simp at h ⊢;omega)
section ops
variable {P:Program} {w0:Bs} {G:Gh} {S:St} {a:Act} {w:World} {o:Oper} {K:Act->World->Prop} {Q:Exit->Act->World->Prop}
theorem Q9(h:Inv w0 G S a w){c:Call}(j:o.op=.call c)(e:c.callee=.builtin .max\/c.callee=.builtin .min){E:Env}{ws:List W}(b:(eff E o).val S=some ws)
  (p:∀a' w' G',Inv w0 G' (S.puts ws) a' w'->K a' w'):o.wp P a w K Q:=by
 unfold eff at b;rw[j]at b;rcases e with e | e
 all_goals
  simp only[e]at b
  split at b
  ·rename_i x y i;have hargs:=nX i;simp only[Rd.aH,zB]at b;obtain⟨av,q,d,r,b⟩:=b;have k:=oZ r (aY h q);generalize f:a.eval x=xv at k;split at b
   ·rename_i m;simp only[Rd.aH,zB]at b;obtain⟨av',s,d',t,b⟩:=b;have l:=oZ t (aY h s);generalize g:a.eval y=yv at l;split at b
    ·rename_i n;simp only[Rd.val,zD]at b;subst b;cases k
     cases l
     refine aW ?_ (p _ _ _ (h.dst (Rep.int _ _)));refine kV j e ?_;first
      | (have:=run_max_int2 (P:=P) w c.argTypes o.type .i64 .i64 m n
         simp[builtin,hargs,f,g,this];done)
      | (have:=run_min_int2 (P:=P) w c.argTypes o.type .i64 .i64 m n
         simp[builtin,hargs,f,g,this];done)
    ·cases b
   ·cases b
  ·cases b
theorem O8:∀(ns:List Int) (s:ByteArray),(ns.foldl (λr n=>r.push (UInt8.ofNat n.toNat)) s).data.toList=s.data.toList++ns.map λn=>UInt8.ofNat n.toNat
 | [],s=>by simp
 | n::ns,s=>by
  rw[List.foldl_cons,O8 ns];simp[ByteArray.push]
theorem ab1{S0:Nat->Nat->Prop}{xs:List Int}{v:Value}(h:Rep w S0 (.list (.base .u8) xs) v):∃b:ByteArray,(Conv.bytesToString v).run P w=.ok (.string b) w/\b.data.toList=bytesOf xs:=by
 have some_:∀(ad:Addr) (cap:Nat),(loadCells ad xs.length).run P w=.ok (xs.map (Value.int .u8)).toArray w->∃b:ByteArray,(Conv.bytesToString (.slice (some ad) xs.length cap)).run P w=.ok (.string b) w/\b.data.toList=bytesOf xs:=by
  intro ad cap i;exact⟨_,run_bytesToString w ad xs.length cap xs i,by rw[O8];rfl⟩
 generalize a:D.list (.base .u8) xs=dd at h;cases h<;>cases a
 ·exact⟨ByteArray.empty,by simp[Conv.bytesToString],rfl⟩
 ·rename_i ad cap;exact some_ ad cap (run_loadCells_list (P:=P) w ad [] (by simp))
 ·rename_i b off cap vs hcap hc k;refine some_ _ cap ?_;have hlen:(xs.map (Value.int .u8)).length=xs.length:=by simp
  rw[<- hlen];refine run_loadCells_list (P:=P) w _ _ λj v c=>?_
  simp only[List.getElem?_map,Option.map_eq_some_iff]at c;obtain⟨x,d,rfl⟩:=c;have l:=hc j x 0 (.int .u8 x) d rfl;have f:=k j x 0 (.int .u8 x) d rfl;have e:vs j 0=.int .u8 x:=by
   generalize vs j 0=v at f;cases f
   rfl
  rw[addr_add];have g:=l.1;rw[e]at g;simpa [Ty.size,Base.size] using g
theorem Zk(h:Inv w0 G S a w){m T:TypeId}{x:Operand}(p:o.op=.convert m T x){E:Env}(g:E.tt.ok P=true){ws:List W}(f:(eff E o).val S=some ws)
  (C:∀a' w' G',Inv w0 G' (S.puts ws) a' w'->K a' w'):o.wp P a w K Q:=by
 unfold eff at f;rw[p]at f;simp only[Rd.aH,zB]at f;obtain⟨av,J,f⟩:=f;have F:=aY h J;split at f
 ·rename_i k0 k q hk;have r:=TT.aeU g hk;have s:=TT.aeU g q;simp only[Rd.aH,zB,Rd.val,zD]at f;obtain⟨n,t,rfl⟩:=f;obtain⟨kk,L⟩:=wZ t F;refine aW (v:=.int k (k.wrap n)) (w':=w) ?_ (C _ _ _ (h.dst (Rep.int _ _)));have hc:(convert m T (.int kk n)).run P w=.ok (.int k (k.wrap n)) w:=by
   simp[convert,run_underlying s,run_underlying r,Conv.intToInt]
  unfold execOp;simp[p,L,hc]
 ·split at f
  case isFalse=>cases f
  rename_i u;have r:=TT.Lu g u.1;obtain⟨e,inf,z,i,X,M,_,Y,N,O⟩:=TT.jE g u.2;split at f
  case h_2=>cases f
  rename_i c;simp only[listOf,Rd.aH,zB,Rd.val,zD]at f;obtain⟨xs,⟨d,t,xs',R,U⟩,rfl⟩:=f;subst U;have V:=D.bG R;subst V;have hrep:=Eg h t F (aP [c]) (λk j e=>by subst e;simp[aP]);obtain⟨b,H,y⟩:=ab1 (P:=P) hrep;refine aW (v:=.string b) (w':=w) ?_ (C _ _ _ (h.dst (by rw[<- y];exact Rep.str _)));have A:∃ad l cc,a.eval x=.slice ad l cc:=by
   generalize a.eval x=v at hrep;cases hrep<;>exact⟨_,_,_,rfl⟩
  obtain⟨ad,l,cc,I⟩:=A;rw[I]at H;have B:P.underlying e=some (.int .u8):=TT.akK g u.2 i;have hc:(convert m T (.slice ad l cc)).run P w=.ok (.string b) w:=by
   rw[run_convert_bytes_string w m T e ad l cc i B r];exact H
  unfold execOp;simp[p,I,hc]
theorem aes(h:Inv w0 G S a w){T:TypeId}{x:Operand}{f:Nat}(g:o.op=.field T x f){E:Env}(s:E.tt.ok P=true){ws:List W}(b:(eff E o).val S=some ws)
  (p:∀a' w' G',Inv w0 G' (S.puts ws) a' w'->K a' w'):o.wp P a w K Q:=by
 unfold eff at b;rw[g]at b;simp only at b;split at b
 ·cases b
 rename_i fo agg n hf;obtain⟨F,fd,d,i,q,r,hoff,j,t,u,k,hpos⟩:=TT.XP s hf;simp only[Rd.aH,zB]at b;obtain⟨av,z,b⟩:=b;have A:=aY h z;split at b
 ·rename_i cs;simp only[Rd.val,zB]at b;obtain⟨y,B,b⟩:=b;split at b
  ·rename_i H;simp only[Rd.val,zD]at b;subst b;obtain⟨vs,c,hc⟩:=A;obtain⟨C,D⟩:=UY B (hc.seg fo n);have hagg:(isAgg fd.type).run P w=.ok agg w:=by
    unfold isAgg;rw[Sem.run_bind,run_underlying j w,<- u];cases d<;>rfl
   cases agg with
   | true=>
    refine aW (v:=.agg (seg vs fo n).toArray) (w':=w) ?_ (p _ _ _ (h.dst (rf (C rfl))));unfold execOp;simp[g,c,Instr.field,run_underlying q,r,asAgg,part,hagg,sizeOf,typeInfo,t,hoff,k,Abs.seg]
   | false=>
    obtain⟨v,l,m⟩:=D rfl;refine aW (v:=v) (w':=w) ?_ (p _ _ _ (h.dst (rf m)));have:vs[fo]?=some v:=by
     have e:(seg vs fo n)[0]?=some v:=by rw[l];rfl
     simp only[Abs.seg,List.getElem?_take,List.getElem?_drop]at e;rw[if_pos hpos]at e;exact e
    unfold execOp;simp[g,c,Instr.field,run_underlying q,r,asAgg,part,hagg,hoff,this]
  ·cases b
 ·cases b
theorem XM{place:Nat->Option (Nat×Nat)}{i:Nat}{off n:Nat}{v:Value}{vs:List Value}{cells:Array Value}{rest:List (Nat×Value)}(hp:place i=some (off,n))(b:v.cells=vs.toArray)
  (a:vs.length=n) (c:off+n<=cells.size):Instr.fill place cells ((i,v)::rest)=Instr.fill place (dN cells.toList off vs).toArray rest:=by
 have e:=XJ vs 0 off cells (by omega);simp only[Instr.fill,hp,b];have d:¬(vs.toArray.size≠n\/off+vs.toArray.size>cells.size):=by simp[a];omega
 simp only[Bool.or_eq_true,decide_eq_true_eq,List.size_toArray]at *;rw[if_neg (by simp[a];omega)];congr 1;rw[<- Array.foldl_toList];simpa using e
theorem RI(h:Inv w0 G S a w){fs:List (Nat×Bool×Nat)}:∀ {parts:List (Nat×Operand)} {z cs:List C} {vs:List Value},(eff.fillA fs parts z).val S=some cs->cu G w z vs ->
  ∃us:List Value,cu G w cs us/\Instr.fill ((fs.map λx=>(x.1,x.2.2)).toArray[·]?) vs.toArray (parts.map λp=>(p.1,a.eval p.2))=some us.toArray
 | [],z,cs,vs,b,d=>by
  simp only[eff.fillA,Rd.val,zD]at b;subst b;exact⟨vs,d,rfl⟩
 | (i,x)::r,z,cs,vs,b,d=>by
  simp only[eff.fillA]at b;split at b
  ·cases b
  rename_i fo agg n hf;simp only[Rd.aH,zB]at b;obtain⟨av,f,x',g,b⟩:=b;split at b
  ·rename_i o;have j:=oW g (aY h f);obtain⟨us,e,c⟩:=j.SX;have q:=c.length;have k:=d.length;obtain⟨us',l,m⟩:=RI h b (d.dN c fo);refine⟨us',l,?_⟩;rw[<- m];simp only[List.map_cons];rw[XM (n:=n) (off:=fo) (by simp[hf]) e (by omega) (by simp;omega)]
  ·cases b
theorem aey(h:Inv w0 G S a w){T:TypeId}{parts:Array (Nat×Operand)}(f:o.op=.build T parts){E:Env}(g:E.tt.ok P=true){ws:List W}(b:(eff E o).val S=some ws)
  (j:∀a' w' G',Inv w0 G' (S.puts ws) a' w'->K a' w'):o.wp P a w K Q:=by
 unfold eff at b;rw[f]at b;simp only at b;split at b
 ·rename_i z fs k hf;obtain⟨i,zv,l,c,m⟩:=TT.aag g k;obtain⟨F,n,d⟩:=TT.acK g hf;simp only[Rd.aH,zB,Rd.val,zD]at b;obtain⟨cs,p,rfl⟩:=b;obtain⟨us,e,hfill⟩:=RI h p (lU (G:=G) (w:=w) _ _ m);refine aW (v:=.agg us.toArray) (w':=w) ?_ (j _ _ _ (h.dst (av:=.v (.agg cs)) ⟨us,rfl,e⟩));have q:P.built T (parts.map λ(i,x)=>(i,a.eval x)).toList=some us.toArray:=by
   unfold Program.built;simp only[l,n,c,d];simpa using hfill
  have:=run_build (P:=P) w T _ _ q;unfold execOp;simp[f,this]
 ·cases b
end ops
theorem fG{d:Nat}{os:List O}{S:St}{ws:List W}(h:(fresh d os).val S=some ws):S.aI d=[]/\ws=[.o d os]:=by
 simp only[fresh,Rd.val]at h;split at h
 ·rename_i a;simp only[Rd.val,zD]at h;exact⟨a,h.symm⟩
 ·cases h
theorem eP(S:St)(a b:List W):S.puts (a++b)=(S.puts a).puts b:=by
 induction a generalizing S with
 | nil=>rfl
 | cons x r ih=>exact ih _
theorem gQ{q:Nat×Nat}{r:List (Nat×Nat)}(h:nodupB (q::r)=true):q∉r/\nodupB r=true:=by
 simp only[nodupB,zI,Bool.not_eq_true',List.any_eq_false,zI,beq_iff_eq,not_and]at h;refine⟨λa=>?_,h.2⟩;exact h.1 q a rfl rfl
section ops
variable {P:Program} {w0:Bs} {G:Gh} {S:St} {a:Act} {w:World}
structure More(G G':Gh)(A:Nat->Nat->Prop):Prop where
 ow:G'.ow=G.ow
 ov:G'.ov=G.ov
 bk:G'.bk=G.bk
 lk:G'.lk=G.lk
 lb:G'.lb=G.lb
 s:∀b o,G'.S b o↔(G.S b o\/A b o)
theorem More.mv{G':Gh}{A:Nat->Nat->Prop}(h:More G G' A)(w:World):Mv G G' w w:=
 ⟨λb o a=>⟨(h.s b o).2 (.inl a),rfl⟩,λk hk=>⟨by rw[h.lk];exact hk,λj=>by rw[h.ov]⟩,λi c=>⟨by rw[h.lb];exact c,by rw[h.bk]⟩⟩
theorem Inv.BZ(h:Inv w0 G S a w)(k j:Nat):∃G',Inv w0 G' (S.put (.ro k j)) a w/\More G G' (AK G S [(k,j)]):=by
 let G':Gh:={ G with S:=λb o=>G.S b o\/AK G S [(k,j)] b o };have hmore:More G G' (AK G S [(k,j)]):=⟨rfl,rfl,rfl,rfl,rfl,λb o=>Iff.rfl⟩;have p:=hmore.mv w;have A:∀b o,AK G S [(k,j)] b o->G.ow b=some (.own k j):=by
  rintro b o ⟨k',j',t,xs,deep,m,hmem,_,l,_⟩;simp only[List.mem_singleton,Prod.mk.injEq]at hmem;rw[hmem.1,hmem.2]at l;exact l
 refine⟨G',⟨h.below,h.nodef,h.tsz,by simp[St.put,St.bI,h.bsz],by simp[St.put,St.bI,h.osz],λi v I=>(h.tmps i v I).move p,h.olt,?_,?_,?_,?_,h.lb,λb o c B=>c.elim (λc=>h.sfr b o c B) λc=>.inr (Bs.nwF (h.iR (A b o c)).1 B),h.Px p,h.fx⟩,hmore⟩
 ·intro b o c;rcases c with c | c
  ·exact h.sok b o c
  ·have:=A b o c;exact⟨(h.olt _ _ this).2,λi e=>by rw[this]at e;cases e⟩
 ·intro i cs C;obtain⟨l,vs,E,hh,hc⟩:=h.box i cs C;exact⟨l,vs,E,hh,hc.move p⟩
 ·intro k' j';show tq G' w k' j' (aZ ((S.bI k ((S.aI k).set j (aZ (S.aI k) j).BZ)).aI k') j')
  rw[bg];have keep:(k',j')≠(k,j)->tq G' w k' j' (aZ (S.aI k') j'):=λr=>
   (h.owns k' j').same (G':=G') rfl p.s (λt xs deep m g=>⟨λb d=>⟨d,rfl⟩,λb len cap I d o c=>by
    rcases c with c | c
    ·exact .inl c
    ·have D:=A b o c;have u:G.ow b=some (.own k' j'):=d;rw[D]at u;cases u
     exact absurd rfl r⟩) λt xs g b d=>⟨d,rfl,λo c=>by
    rcases c with c | c
    ·exact c
    ·have D:=A b o c;have u:G.ow b=some (.own k' j'):=d;rw[D]at u;cases u
     exact absurd rfl r⟩
  have turn:tq G' w k j (aZ (S.aI k) j).BZ:=by
   have n:=h.owns k j;cases g:aZ (S.aI k) j with
   | dead=>trivial
   | ro t xs=>rw[g]at n;exact Rep.move n p.s
   | own t xs deep m=>exact h.KA g [(k,j)] (by simp)
   | tree t xs=>exact h.Nu (by rw[g];rfl) [(k,j)] (by simp)
   | part t xs i=>
    rw[g]at n;refine iD.move n (λb d=>⟨d,rfl⟩) λb o d c=>?_
    rcases c with c | ⟨J,K,L,F,M,N,hmem,f,_⟩
    ·exact c
    ·simp only[List.mem_singleton,Prod.mk.injEq]at hmem;rw[hmem.1,hmem.2,g]at f;cases f
   | seg t xs=>rw[g]at n;exact yT.move n p.s λb d=>⟨d,rfl⟩
   | hole t xs i q=>
    rw[g]at n;obtain⟨fp,O,P,Q⟩:=n;refine⟨fp,O,P,λb o c=>?_⟩;rcases c with c | ⟨J,K,L,F,M,N,hmem,f,_⟩
    ·exact Q b o c
    ·simp only[List.mem_singleton,Prod.mk.injEq]at hmem;rw[hmem.1,hmem.2,g]at f;cases f
  by_cases hk:k=k'/\k<S.owns.length
  ·rw[if_pos hk,gu];obtain⟨rfl,R⟩:=hk;by_cases H:j=j'/\j<(S.aI k).length
   ·rw[if_pos H];obtain⟨rfl,_⟩:=H;exact turn
   ·rw[if_neg H];by_cases x:j=j'
    ·subst x;have:aZ (S.aI k) j=.dead:=by
      simp only[aZ,zE];rw[zJ (by omega)];rfl
     rw[this];trivial
    ·exact keep (by simp[Ne.symm x])
  ·rw[if_neg hk];by_cases y:(k',j')=(k,j)
   ·cases y
    have T:S.aI k=[]:=by
     have:¬k<S.owns.length:=λB=>hk ⟨rfl,B⟩
     simp only[St.aI,zE];rw[zJ (by omega)];rfl
    rw[T];trivial
   ·exact keep y
 ·intro k' z;show (S.bI k ((S.aI k).set j (aZ (S.aI k) j).BZ)).aI k'≠[]
  rw[bg];split
  ·rename_i hk;intro e;have:(S.aI k).length=0:=by simpa using congrArg List.length e
   exact h.lk k' z (by rw[<- hk.1];exact List.eq_nil_of_length_eq_zero this)
  ·exact h.lk k' z
theorem Jj(S:St)(k j k' j':Nat):aZ ((S.put (.ro k j)).aI k') j'=if (k,j)=(k',j')then (aZ (S.aI k') j').BZ else aZ (S.aI k') j':=by
 show aZ ((S.bI k ((S.aI k).set j (aZ (S.aI k) j).BZ)).aI k') j'=_
 rw[bg];by_cases hk:k=k'/\k<S.owns.length
 ·rw[if_pos hk,gu];obtain⟨rfl,_⟩:=hk;by_cases a:j=j'
  ·subst a;simp only[true_and,if_true];split
   ·rfl
   ·have:aZ (S.aI k) j=.dead:=by
     simp only[aZ,zE];rw[zJ (by omega)];rfl
    rw[this];rfl
  ·have:¬((k,j)=(k,j')):=by simp[a]
   rw[if_neg (λe=>a e.1),if_neg this]
 ·rw[if_neg hk];split
  ·rename_i e;cases e
   have b:S.aI k=[]:=by
    have:¬k<S.owns.length:=λc=>hk ⟨rfl,c⟩
    simp only[St.aI,zE];rw[zJ (by omega)];rfl
   rw[b];rfl
  ·rfl
theorem J3{S:St}{k j d:Nat}(h:S.aI d=[]):(S.put (.ro k j)).aI d=[]:=by
 show (S.bI k ((S.aI k).set j (aZ (S.aI k) j).BZ)).aI d=[]
 rw[bg];split
 ·rename_i hk;rw[hk.1,h];rfl
 ·exact h
theorem Inv.VQ:∀(keys:List (Nat×Nat)) {G:Gh} {S:St},Inv w0 G S a w->nodupB keys=true ->
  ∃G',Inv w0 G' (S.puts (keys.map λq=>.ro q.1 q.2)) a w/\More G G' (AK G S keys) /\
   (∀k j,aZ ((S.puts (keys.map λq=>.ro q.1 q.2)).aI k) j=if (k,j)∈keys then (aZ (S.aI k) j).BZ else aZ (S.aI k) j) /\
   (∀d,S.aI d=[]->(S.puts (keys.map λq=>.ro q.1 q.2)).aI d=[])
 | [],G,S,h,_=>⟨G,h,⟨rfl,rfl,rfl,rfl,rfl,λb o=>⟨.inl,λhh=>hh.elim id λ⟨_,_,_,_,_,_,c,_⟩=>by cases c⟩⟩,λk j=>by simp[St.puts],λd u=>u⟩
 | (k,j)::r,G,S,h,z=>by
  obtain⟨y,v⟩:=gQ z;obtain⟨F,A,f⟩:=h.BZ k j;obtain⟨B,C,n,D,E⟩:=Inv.VQ r A v;have hput:∀k' j',(k',j')∈r->aZ ((S.put (.ro k j)).aI k') j'=aZ (S.aI k') j':=λk' j' c=>by
   rw[Jj,if_neg λe:(k,j)=(k',j')=>y (e▸c)]
  refine⟨B,C,⟨n.ow.trans f.ow,n.ov.trans f.ov,n.bk.trans f.bk,n.lk.trans f.lk,n.lb.trans f.lb,λb o=>?_⟩,λk' j'=>?_,λd u=>E d (J3 u)⟩
  ·rw[n.s,f.s];constructor
   ·rintro ((x | ⟨k',j',t,xs,deep,m,c,l⟩) | ⟨k',j',t,xs,deep,m,c,l,g,i⟩)
    ·exact .inl x
    ·simp only[List.mem_singleton]at c;exact .inr ⟨k',j',t,xs,deep,m,by rw[c];exact aq,l⟩
    ·rw[hput k' j' c]at l;exact .inr ⟨k',j',t,xs,deep,m,ao _ c,l,by rw[<- f.ow];exact g,by rw[<- f.ov];exact i⟩
   ·rintro (x | ⟨k',j',t,xs,deep,m,c,l,g,i⟩)
    ·exact .inl (.inl x)
    ·rcases ba.1 c with c | c
     ·exact .inl (.inr ⟨k',j',t,xs,deep,m,by simp[c],l,g,i⟩)
     ·exact .inr ⟨k',j',t,xs,deep,m,c,by rw[hput k' j' c];exact l,by rw[f.ow];exact g,by rw[f.ov];exact i⟩
  ·show aZ (((S.put (.ro k j)).puts (r.map λq=>.ro q.1 q.2)).aI k') j'=_
   rw[D,Jj];by_cases c:(k',j')∈r
   ·have:¬((k,j)=(k',j')):=λe=>y (e▸c)
    rw[if_pos c,if_neg this,if_pos (ao _ c)]
   ·rw[if_neg c];by_cases p:(k,j)=(k',j')
    ·rw[if_pos p,if_pos (by rw[p];exact aq)]
    ·rw[if_neg p,if_neg λe=>(ba.1 e).elim (λe=>p e.symm) c]
def rowsOf(G:Gh)(S:St)(c:C)(b:Nat):Prop:=∃k j,c=.own k j/\G.ow b=some (.own k j)/\∃t xs deep m,(aZ (S.aI k) j).sV=.own t xs deep m
theorem yB:∀ {cs:List C} {dp:Bool},(vz cs).val S=some dp->∀(i:Nat) (c:C),cs[i]?=some c->∃b,(CV c).val S=some b/\(dp=true->b=true)
 | [],dp,_,i,c,hc=>by simp at hc
 | c0::cs,dp,a,i,c,hc=>by
  simp only[vz,Rd.aH,zB,Rd.val,zD]at a;obtain⟨b,d,b',f,rfl⟩:=a;cases i with
  | zero=>simp at hc;subst hc;exact⟨b,d,λe=>(zI _ _▸e).1⟩
  | succ i=>
   obtain⟨b'',g,h⟩:=yB f i c (by simpa using hc);exact⟨b'',g,λe=>h (zI _ _▸e).2⟩
theorem VD(h:Inv w0 G S a w){ty:Option Ty}{c:C}{d:D}{v:Value}{b dp:Bool}(f:(cD ty c).val S=some d)(hc:l9 G w c v)(g:(CV c).val S=some b)(q:dp=true->b=true)
  {S':Nat->Nat->Prop} {keys:List (Nat×Nat)} (r:∀x o,(G.S x o\/AK G S keys x o)->S' x o) (hk:∀k j,c=.own k j->(k,j)∈keys):Ow w S' dp d v (rowsOf G S c):=by
 cases dp with
 | false=>exact .ro d v _ rfl ((Eg h f hc keys hk).move λx o l=>⟨r x o l,rfl⟩)
 | true=>
  have u:=q rfl;subst u;cases c with
  | undef=>cases f
  | d x=>
   simp only[cD,Rd.val,zD]at f;subst f;cases x with
   | list t xs=>simp[CV,Rd.val]at g
   | int k n=>cases hc;exact .int k n _
   | bool p=>cases hc;exact .bool p _
   | str s=>cases hc;exact .str _ _
  | nil=>
   simp only[cD]at f;split at f
   ·simp only[Rd.val,zD]at f;subst f;rw[show v=_ from hc];exact .nil _ _
   ·cases f
  | own k j=>
   simp only[cD,Rd.val]at f;simp only[CV,Rd.val]at g;rw[hc.2.1];have z:=h.owns k j;split at f
   ·rename_i t xs deep m i;rw[i]at g z;simp only[Rd.val,zD]at f g;subst f;subst g;have:=OwT.ow z;refine (this.move (λx o l=>⟨r x o (.inl l),rfl⟩) λ_ _=>rfl).sub (λx y=>⟨k,j,rfl,y,t,xs,true,m,by rw[i];rfl⟩) λe=>e
   ·rename_i t xs i;rw[i]at g;simp[Rd.val]at g
   ·rename_i t xs i;simp only[Rd.val,zD]at f;subst f;have:=OwT.ow (h.aee (k:=k) (j:=j) (t:=t) (xs:=xs) (deep:=true) (m:=true) (by rw[i];rfl));refine (this.move (λx o l=>⟨r x o (.inl l),rfl⟩) λ_ _=>rfl).sub (λx y=>⟨k,j,rfl,y,t,xs,true,true,by rw[i];rfl⟩) λe=>e
   ·cases f
   ·cases f
   ·cases f
   ·cases f
  | ptr b off=>cases f
end ops
theorem flat_get{α β:Type}(f:α->List β)(n:Nat):∀(xs:List α),(∀x∈xs,(f x).length=n)->∀(i j:Nat) (x:α),xs[i]?=some x->j<n->(xs.flatMap f)[i*n+j]?=(f x)[j]?
 | [],_,i,j,x,h,_=>by simp at h
 | c::xs,a,i,j,x,h,d=>by
  have b:=a c aq;cases i with
  | zero=>
   simp at h;subst h;simp only[List.flatMap_cons,Nat.zero_mul,Nat.zero_add];rw[List.getElem?_append_left (by omega)]
  | succ i=>
   have ih:=flat_get f n xs (λy e=>a y (ao _ e)) i j x (by simpa using h) d;rw[<- ih];simp only[List.flatMap_cons];rw[List.getElem?_append_right (by rw[b,Nat.succ_mul];omega)];congr 1;rw[b,Nat.succ_mul];omega
theorem flat_length{α β:Type}(f:α->List β)(n:Nat):∀(xs:List α),(∀x∈xs,(f x).length=n)->(xs.flatMap f).length=xs.length*n
 | [],_=>by simp
 | b::xs,a=>by
  rw[List.flatMap_cons,a6,a b aq,flat_length f n xs λy c=>a y (ao _ c),List.length_cons,Nat.succ_mul];omega
theorem gJ:∀ {cs:List C},nodupB (aP cs)=true->∀ {p q k j:Nat},cs[p]?=some (.own k j)->cs[q]?=some (.own k j)->p=q
 | [],_,p,q,k,j,hp,_=>by simp at hp
 | c::cs,d,p,q,k,j,hp,b=>by
  have a:nodupB (aP cs)=true/\∀k j,c=.own k j->(k,j)∉aP cs:=by
   cases c<;>simp only[aP]at d<;>first
    | exact⟨d,λ_ _ e=>by cases e⟩
    | (obtain⟨f,g⟩:=gQ d;exact⟨g,λ_ _ e=>by cases e;exact f⟩)
  cases p with
  | zero=>
   simp at hp;cases q with
   | zero=>rfl
   | succ q=>simp at b;exact absurd (fD (zG b)) (a.2 k j hp)
  | succ p=>
   simp at hp;cases q with
   | zero=>simp at b;exact absurd (fD (zG hp)) (a.2 k j b)
   | succ q=>simp at b;rw[gJ a.1 hp b]
theorem QL{i j i' j' n:Nat}(b:j<n)(a:j'<n)(h:i*n+j=i'*n+j'):i=i'/\j=j':=by
 have c:i=i':=by
  have d:(i*n+j) / n=i:=by rw[Nat.mul_comm,Nat.mul_add_div (by omega),Nat.div_eq_of_lt b];omega
  have e:(i'*n+j') / n=i':=by rw[Nat.mul_comm,Nat.mul_add_div (by omega),Nat.div_eq_of_lt a];omega
  rw[<- d,<- e,h]
 subst c;omega
section ops
variable {P:Program} {w0:Bs} {G:Gh} {S:St} {a:Act} {w:World} {o:Oper} {K:Act->World->Prop} {Q:Exit->Act->World->Prop}
theorem Inv.KH(h:Inv w0 G S a w)(d:Nat){t:Ty}{xs:List t.den}{deep m:Bool}{v:Value}(lab:Nat->Prop)(p:S.aI d=[])
  (hlab:∀c,lab c->w0.nw c/\c<w.heap.size/\(∀i,G.ow c≠some (.box i))/\∀k' j' t xs deep m,G.ow c=some (.own k' j')->(aZ (S.aI k') j').dY≠.own t xs deep m)
  (f:OwT w G.S deep m t xs v lab) :
  ∃G',Inv w0 G' ((S.bI d [.own t xs deep m]).iV d (.v (.one (.own d 0)))) (a.put (some d) v) w:=by
 by_cases e:d<S.tmps.length
 case neg=>
  refine⟨G,?_⟩
  rw[Bl h.tsz e,vI (by rw[h.osz];exact e),vH e]
  exact h
 classical
 obtain⟨G',q,s,g,k⟩:=h.UX d [.own t xs deep m] (λ_=>v) (λc=>if lab c then some 0 else none) p e (by simp)
  (λc j hc=>by
   by_cases n:lab c
   ·exact hlab c n
   ·rw[if_neg n]at hc;cases hc)
  (λj=>by
   cases j with
   | zero=>
    show OwT w G.S deep m t xs v _
    exact OwT.move f (λb o l=>⟨l,rfl⟩) (λb r=>⟨if_pos r,rfl⟩) (λ_ _ _ _ _ o l=>.inl l)
   | succ j=>trivial)
 exact⟨G',q.iV d (av:=.v (.one (.own d 0))) ⟨g,(k 0).symm,(OwT.ow f).one⟩⟩
theorem Lc{t:Ty}:∀ {vs:List V} {xs:List t.den},(abl t vs).val S=some xs->xs.length=vs.length/\(∀v∈vs,v.cells.length=t.size) /\
  ∀(i:Nat) (x:t.den),xs[i]?=some x->∃v,vs[i]?=some v/\∀(j:Nat) (d:D),(t.cells x)[j]?=some d->∃c ty,v.cells[j]?=some c/\(cD ty c).val S=some d
 | [],xs,h=>by
  simp only[abl,Rd.val,zD]at h;subst h;exact⟨rfl,λv l=>(by cases l),λi x m=>(by simp at m)⟩
 | v::vs,xs,h=>by
  simp only[abl,Rd.aH,zB,Rd.val,zD]at h;obtain⟨x,b,xs',n,rfl⟩:=h;obtain⟨o,hc,p⟩:=Lc n;simp only[vEl]at b;split at b
  ·rename_i e;simp only[Rd.aH,zB,Rd.val,zD]at b;obtain⟨ds,q,y,r,s⟩:=b;subst s;refine⟨by simp[o],λu f=>?_,λi z g=>?_⟩
   ·rcases ba.1 f with rfl | f
    ·exact e
    ·exact hc u f
   ·cases i with
    | zero=>
     simp at g;subst g;refine⟨v,rfl,λj d a=>?_⟩;rw[Ty.dU r]at a;have key:∀(tys:List (Option Ty)) (cs:List C) (ds:List D),(cDs tys cs).val S=some ds->∀(j:Nat) (d:D),ds[j]?=some d->∃c ty,cs[j]?=some c/\(cD ty c).val S=some d:=by
      intro tys;induction tys with
      | nil=>intro cs ds hh j d a;simp only[cDs,Rd.val,zD]at hh;subst hh;simp at a
      | cons ty tys ih=>
       intro cs ds hh j d a;cases cs with
       | nil=>simp only[cDs,Rd.val,zD]at hh;subst hh;simp at a
       | cons c cs=>
        simp only[cDs,Rd.aH,zB,Rd.val,zD]at hh;obtain⟨B,w,k,A,rfl⟩:=hh;cases j with
        | zero=>simp at a;subst a;exact⟨c,ty,rfl,w⟩
        | succ j=>exact ih cs k A j d (by simpa using a)
     exact key _ _ _ q j d a
    | succ i=>exact p i z (by simpa using g)
  ·cases b
theorem acM(h:Inv w0 G S a w){t:Ty}{vs:List V}{xs:List t.den}(z:(abl t vs).val S=some xs){vals:List Value}(hc:cu G w (vs.flatMap V.cells) vals)
  {dp:Bool} (l:(vz (vs.flatMap V.cells)).val S=some dp) {S':Nat->Nat->Prop} (A:∀x o,(G.S x o\/AK G S (aP (vs.flatMap V.cells)) x o)->S' x o) :
  ∀(i:Nat) (x:t.den) (j:Nat) (d:D),xs[i]?=some x->(t.cells x)[j]?=some d ->
   ∃c v,(vs.flatMap V.cells)[i*t.size+j]?=some c/\vals[i*t.size+j]?=some v/\Ow w S' dp d v (rowsOf G S c):=by
 intro i x j d m y;obtain⟨F,n,B⟩:=Lc z;obtain⟨v,C,hcell⟩:=B i x m;obtain⟨c,ty,p,q⟩:=hcell j d y;have E:j<t.size:=by
  have:=(zC.1 y).1;rwa [Ty.bn]at this
 have f:(vs.flatMap V.cells)[i*t.size+j]?=some c:=by rw[flat_get V.cells t.size vs n i j v C E];exact p
 obtain⟨hlen,hrep⟩:=hc.get;have g:i*t.size+j<vals.length:=by have:=(zC.1 f).1;omega
 have r:=hrep _ c vals[i*t.size+j] f (by simp[g]);obtain⟨b,s,u⟩:=yB l _ c f;exact⟨c,vals[i*t.size+j],f,by simp[g],VD h q r s u A λk j' e=>fD (e▸zG f)⟩
theorem Nq(h:Inv w0 G S a w)(sz:Nat):∀ {parts:List (Nat×Operand)} {k:Nat} {vs:List V} {arr:Array Value},(Nr parts k).val S=some vs->(∀v∈vs,v.cells.length=sz)->(k+vs.length)*sz<=arr.size ->
  ∃vals:List Value,cu G w (vs.flatMap V.cells) vals/\Instr.fill (λi=>some (i*sz,sz)) arr (parts.map λp=>(p.1,a.eval p.2))=some (dN arr.toList (k*sz) vals).toArray
 | [],k,vs,arr,b,_,_=>by
  simp only[Nr,Rd.val,zD]at b;subst b;exact⟨[],trivial,by simp[Instr.fill,dN]⟩
 | (i,x)::r,k,vs,arr,b,j,m=>by
  simp only[Nr]at b;split at b
  ·rename_i o;subst o;simp only[Rd.aH,zB,Rd.val,zD]at b;obtain⟨av,C,v,D,vs',E,rfl⟩:=b;have F:=oW D (aY h C);obtain⟨us,q,l⟩:=F.SX;have H:=j v aq;have I:=l.length;have s:i*sz+sz<=arr.size:=by
    have:(i+1)*sz<=arr.size:=Nat.le_trans (Nat.mul_le_mul_right _ (by simp)) m;rwa [Nat.succ_mul]at this
   obtain⟨vals,J,K⟩:=Nq h sz (arr:=(dN arr.toList (i*sz) us).toArray) E (λu d=>j u (ao _ d))
    (by
     have e:=uN arr.toList (i*sz) us (by simp;omega);have L:i+1+vs'.length=i+(vs'.length+1):=by omega
     simp only[List.length_cons]at m;rw[L];show _<=(dN arr.toList (i*sz) us).length
     rw[e];exact m)
   refine⟨us++vals,?_,?_⟩
   ·simp only[List.flatMap_cons];obtain⟨A,M⟩:=l.get;obtain⟨N,O⟩:=J.get;refine cu.mk (by simp only[a6,A,N]) λp c u hc d=>?_
    rw[List.getElem?_append]at hc d;split at hc
    ·rename_i hp;rw[if_pos (by omega)]at d;exact M p c u hc d
    ·rename_i hp;rw[if_neg (by omega)]at d;rw[A]at hc;exact O _ c u hc d
   ·simp only[List.map_cons];rw[XM (n:=sz) (off:=i*sz) rfl q (by omega) s,K];congr 1;simp only[dN];have e:(i+1)*sz=i*sz+sz:=Nat.succ_mul _ _;rw[e];have t:us.length=sz:=by omega
    congr 1;apply List.ext_getElem?;intro p;simp only[List.getElem?_append,List.getElem?_take,List.getElem?_drop,a6,a8,Array.length_toList,t];have P:min (i*sz) arr.size=i*sz:=by omega
    have Q:min (i*sz+sz) (i*sz+sz+(arr.size-(i*sz+sz)))=i*sz+sz:=by omega
    simp only[P,List.length_drop,Array.length_toList,Q];by_cases y:p<i*sz
    ·have:p<i*sz+sz:=by omega
     have g:p<i*sz+sz+vals.length:=by omega
     have f:p<i*sz+(sz+vals.length):=by omega
     simp[y,this,g,f]
    ·by_cases B:p<i*sz+sz
     ·have g:p<i*sz+sz+vals.length:=by omega
      have f:p<i*sz+(sz+vals.length):=by omega
      have z:p-i*sz<sz:=by omega
      simp[y,B,g,f,z]
     ·by_cases g:p<i*sz+sz+vals.length
      ·have f:p<i*sz+(sz+vals.length):=by omega
       have z:¬p-i*sz<sz:=by omega
       have R:p-(i*sz+sz)=p-i*sz-sz:=by omega
       simp[y,B,g,f,z,R]
      ·have f:¬p<i*sz+(sz+vals.length):=by omega
       have T:¬(i*sz+sz+vals.length+(p-(i*sz+sz+vals.length))<i*sz):=by omega
       have U:¬(i*sz+sz+vals.length+(p-(i*sz+sz+vals.length))<i*sz+sz):=by omega
       simp only[g,f,T,U,if_false];congr 1;omega
  ·cases b
theorem Qh(h:Inv w0 G S a w){T:TypeId}{n:Nat}{parts:Array (Nat×Operand)}(ho:o.op=.buildSlice T n parts){E:Env}(hT:E.tt.ok P=true){ws:List W}(b:(eff E o).val S=some ws)
  (hK:∀a' w' G',Inv w0 G' (S.puts ws) a' w'->K a' w'):o.wp P a w K Q:=by
 unfold eff at b;rw[ho]at b;simp only at b;split at b
 ·rename_i d t hd ht;obtain⟨e,inf,z,hu,hi,y,hby,hz,hzs,hzm⟩:=TT.jE hT ht;simp only[Rd.aH,zB]at b;obtain⟨vs,h1,b⟩:=b;split at b
  ·rename_i H;simp only[Rd.aH,zB]at b;obtain⟨xs,h2,dp,h3,b⟩:=b;split at b
   ·rename_i J;simp only[Rd.aH,zB,Rd.val,zD]at b;obtain⟨ws',h4,rfl⟩:=b;obtain⟨Y,rfl⟩:=fG h4;obtain⟨L,hvsz,_⟩:=Lc h2;let arr0:Array Value:=(Array.range (n*t.size)).map (λm=>(if n*t.size=0 then (#[]:Array Value)else z.cells)[m % (if n*t.size=0 then (#[]:Array Value)else z.cells).size]!);have harr0:arr0.size=n*t.size:=by simp[arr0]
    obtain⟨vals,hvals,hfill⟩:=Nq h t.size (arr:=arr0) h1 hvsz (by rw[Nat.zero_add,H.1,harr0];exact ar _);have M:vals.length=n*t.size:=by rw[<- hvals.length,flat_length V.cells t.size vs hvsz,H.1]
    have hset:dN arr0.toList (0*t.size) vals=vals:=by
     simp[dN,M,harr0]
    rw[hset]at hfill;obtain⟨Z,h5,N,e5,n5⟩:=Inv.VQ (aP (vs.flatMap V.cells)) h J;have hbel:Below w.heap.size w (w.alloc (.cells vals.toArray e)):=(Below.refl _ _).alloc (ar _) _;have h6:=h5.grow hbel;have hnew:=heap_alloc_new w (.cells vals.toArray e);have hO:OwT (w.alloc (.cells vals.toArray e)) Z.S dp true t xs (.slice (some ⟨w.heap.size,0,none⟩) n n)
      (λc=>c=w.heap.size\/∃(p:Nat) (cc:C),(vs.flatMap V.cells)[p]?=some cc/\rowsOf G S cc c):=by
     have R:=acM h h2 hvals h3 (S':=Z.S) λx o I=>(N.s x o).2 I
     refine .inr ⟨w.heap.size,n,vals.toArray,e,λi j=>vals.getD (i*t.size+j) undef,
      λi j c=>j<t.size/\i<xs.length/\∃cc:C,(vs.flatMap V.cells)[i*t.size+j]?=some cc/\rowsOf G S cc c,?_,hnew,?_,?_,?_,.inl rfl,?_,?_,?_,?_,?_⟩
     ·rw[L,H.1]
     ·rw[L,H.1];exact ar _
     ·have:=H.2;have hp:=t.size_pos;have:n<=n*t.size:=Nat.le_mul_of_pos_right _ hp;unfold maxLen;omega
     ·simp[M]
     ·intro i x j dd A B;obtain⟨c,v,_,b,_⟩:=R i x j dd A B;simp only[List.getElem?_toArray,zE,b,Option.getD_some]
     ·intro i x j dd A B;obtain⟨c,v,hc,b,hw⟩:=R i x j dd A B;have hj:j<t.size:=by
       have:=(zC.1 B).1;rwa [Ty.bn]at this
      simp only[zE,b,Option.getD_some];refine (hw.move (S':=Z.S) (λx o I=>⟨I,hbel.cell (p:=⟨x,o,none⟩) (h5.sok x o I).1⟩) λc' F=>?_).sub (λc' F=>⟨hj,(zC.1 A).1,c,hc,F⟩) λe=>e
      obtain⟨k,jj,_,g,_⟩:=F;exact hbel.block _ (h.olt _ _ g).2
     ·rintro i j c ⟨_,_,cc,r,hrow⟩;refine⟨.inr ⟨_,cc,r,hrow⟩,?_⟩;obtain⟨k,jj,_,g,_⟩:=hrow;have:=(h.olt _ _ g).2;omega
     ·rintro i j i' j' c ⟨hj,hi',cc,r,k,l,rfl,g,_⟩ ⟨hj',_,cc',U,k',l',rfl,D,_⟩;rw[g]at D;cases D
      exact QL hj hj' (gJ J r U)
     ·intro oo I;exact absurd (h5.sok _ oo I).1 (Nat.lt_irrefl _)
    obtain⟨G2,h7⟩:=h6.KH d (v:=.slice (some ⟨w.heap.size,0,none⟩) n n) (λc=>c=w.heap.size\/∃(p:Nat) (cc:C),(vs.flatMap V.cells)[p]?=some cc/\rowsOf G S cc c) (n5 d Y) (λc hc=>by
     rcases hc with rfl | ⟨p,cc,r,k,jj,rfl,g,t',xs',deep',m',hown⟩
     ·refine⟨.inl h.below.size,by simp,λi u=>?_,λk' j' _ _ _ _ u=>?_⟩
      ·rw[N.ow]at u;exact absurd (h.olt _ _ u).2 (Nat.lt_irrefl _)
      ·rw[N.ow]at u;exact absurd (h.olt _ _ u).2 (Nat.lt_irrefl _)
     ·have hlt:=h.iR g;refine⟨hlt.1,by simp;omega,λi u=>?_,λk' j' t2 xs2 d2 m2 u=>?_⟩
      ·rw[N.ow,g]at u;cases u
      ·rw[N.ow,g]at u;cases u
       rw[e5,if_pos (fD (zG r))];exact O.Lr hown _ _ _ _) hO
    refine aW (v:=.slice (some ⟨w.heap.size,0,none⟩) n n) (w':=w.alloc (.cells vals.toArray e)) ?_ (hK _ _ G2 ?_)
    ·have q:Instr.fill (λi=>some (i*inf.size,inf.size)) arr0 (parts.toList.map λp=>(p.1,a.eval p.2))=some vals.toArray:=by rw[y];exact hfill
     unfold execOp;simp only[ho,Instr.buildSlice,Sem.run_bind,run_underlying hu,Result.andThen_ok,sizeOf,typeInfo,run_program,hi,Sem.run_pure,y];have hle:¬n*t.size>2 ^ 24:=by have:=H.2;omega
     simp only[hle,if_false];have e0:∀f:Nat->Value,Array.map f (Array.range 0) = #[]:=λf=>Array.eq_empty_of_size_eq_zero (by simp)
     by_cases X:n*t.size=0
     ·simp only[X,if_true];simp only[arr0,X,if_true,e0]at q;rw[y]at q;simp[q,newRow,e0]
     ·simp only[X,if_false,Sem.run_bind,zeroValue,typeInfo,run_program,Result.andThen_ok,hi,Sem.run_pure,hz];simp only[arr0,X,if_false]at q;rw[y]at q;simp[q,newRow]
    ·rw[hd,eP,eP];exact h7
   ·cases b
  ·cases b
 ·cases b
end ops
theorem QJ{w:World}{S:Nat->Nat->Prop}{dp:Bool}{fp:Nat->Prop}:∀(ds:List D) (vs:List Value),lm (ds.map .d) vs=true->∀(j:Nat) (d:D) (v:Value),ds[j]?=some d->vs[j]?=some v->Ow w S dp d v fp
 | [],vs,_,j,d,v,f,_=>by simp at f
 | l::ds,[],h,j,d,v,_,g=>by simp at g
 | l::ds,m::vs,h,j,d,v,f,g=>by
  have key:Ow w S dp l m fp/\lm (ds.map .d) vs=true:=by
   simp only[List.map_cons]at h;unfold lm at h;split at h
   ·simp_all
   ·rename_i k n cs' k' n' vs' a c;cases c
    injection a with a e;injection a with a;subst a;subst e;simp only[zI,decide_eq_true_eq]at h;obtain⟨⟨rfl,rfl⟩,i⟩:=h;exact⟨.int _ _ _,i⟩
   ·rename_i b cs' b' vs' a c;cases c
    injection a with a e;injection a with a;subst a;subst e;simp only[zI,beq_iff_eq]at h;obtain⟨rfl,i⟩:=h;exact⟨.bool _ _,i⟩
   ·rename_i s cs' v' vs' a c;cases c
    injection a with a e;injection a with a;subst a;subst e;simp only[zI,decide_eq_true_eq]at h;obtain⟨rfl,i⟩:=h;exact⟨.str _ _,i⟩
   ·rename_i cs' vs' a c;injection a with a e;cases a
   ·rename_i t cs' vs' a c;cases c
    injection a with a e;injection a with a;subst a;subst e;exact⟨.nil _ _,h⟩
   ·cases h
  cases j with
  | zero=>simp at f g;subst f;subst g;exact key.1
  | succ j=>exact QJ ds vs key.2 j d v (by simpa using f) (by simpa using g)
section ops
variable {P:Program} {w0:Bs} {G:Gh} {S:St} {a:Act} {w:World} {o:Oper} {K:Act->World->Prop} {Q:Exit->Act->World->Prop}
theorem UG(h:Inv w0 G S a w){T:TypeId}{l c:Operand}(L:o.op=.makeSlice T l c){E:Env}(R:E.tt.ok P=true){ws:List W}(b:(eff E o).val S=some ws)
  (U:∀a' w' G',Inv w0 G' (S.puts ws) a' w'->K a' w'):o.wp P a w K Q:=by
 unfold eff at b;rw[L]at b;simp only at b;split at b
 ·rename_i d t V X;obtain⟨e,inf,z,Y,s,q,hby,hz,u,y⟩:=TT.jE R X;split at b
  ·rename_i i j;split at b
   ·rename_i A;subst A;simp only[Rd.aH,zB,Rd.val,zD]at b;obtain⟨av,M,n,h2,m,r,ws',h4,rfl⟩:=b;obtain⟨kk,hn⟩:=wZ h2 (aY h M);obtain⟨B,rfl⟩:=fG h4;unfold mk at r;split at r
    case isFalse=>cases r
    rename_i C;simp only[zD]at r;subst r;have hwrap:IntKind.i64.wrap n=n:=IntWalk.i64_in (by omega) (by omega);let Z:Array Value:=if n.toNat*t.size=0 then #[]else z.cells
    let arr:Array Value:=(Array.range (n.toNat*t.size)).map (λm=>Z[m % Z.size]!);have hbel:Below w.heap.size w (w.alloc (.cells arr e)):=(Below.refl _ _).alloc (ar _) _;have h6:=h.grow hbel;have hnew:=heap_alloc_new w (.cells arr e);have hp:=t.size_pos;have hO:OwT (w.alloc (.cells arr e)) G.S true true t (List.replicate n.toNat t.zero) (.slice (some ⟨w.heap.size,0,none⟩) n.toNat n.toNat) (λc=>c=w.heap.size):=by
     refine .inr ⟨w.heap.size,n.toNat,arr,e,λ_ j=>z.cells.toList.getD j undef,λ_ _ _=>False,by simp,hnew,by simp,?_,by simp[arr],rfl,?_,?_,?_,?_,?_⟩
     ·unfold maxLen;omega
     ·intro i x j dd p g;have D:i<n.toNat:=by have:=(zC.1 p).1;simpa using this
      have N:j<t.size:=by
       have:=(zC.1 g).1;rwa [Ty.bn]at this
      have F:i*t.size+j<n.toNat*t.size:=by
       have:(i+1)*t.size<=n.toNat*t.size:=Nat.mul_le_mul_right _ D;rw[Nat.succ_mul]at this;omega
      have hZ:Z=z.cells:=if_neg (by omega);have hmod:(i*t.size+j) % t.size=j:=by rw[Nat.mul_comm,Nat.mul_add_mod,Nat.mod_eq_of_lt N]
      have k:j<z.cells.size:=by omega
      simp[arr,F,hZ,u,hmod];rw[getElem!_pos z.cells j k,getElem?_pos z.cells j k];rfl
     ·intro i x j dd p g;have H:x=t.zero:=by
       have:=zG p;exact (List.mem_replicate.1 this).2
      subst H;have N:j<t.size:=by
       have:=(zC.1 g).1;rwa [Ty.bn]at this
      have k:j<z.cells.toList.length:=by simp;omega
      exact QJ _ _ y j dd _ g (by show z.cells.toList[j]?=some (z.cells.toList.getD j undef);rw[zE,zF k];rfl)
     ·intro _ _ _ hf;exact hf.elim
     ·intro _ _ _ _ _ hf;exact hf.elim
     ·intro oo hs;exact absurd (h.sok _ oo hs).1 (Nat.lt_irrefl _)
    obtain⟨G2,h7⟩:=h6.KH d (v:=.slice (some ⟨w.heap.size,0,none⟩) n.toNat n.toNat) (λc=>c=w.heap.size) B (λc hc=>by
     subst hc;exact⟨.inl h.below.size,by simp,λi I=>absurd (h.olt _ _ I).2 (Nat.lt_irrefl _),λk' j' _ _ _ _ I=>absurd (h.olt _ _ I).2 (Nat.lt_irrefl _)⟩) hO
    refine aW (v:=.slice (some ⟨w.heap.size,0,none⟩) n.toNat n.toNat) (w':=w.alloc (.cells arr e)) ?_ (U _ _ G2 ?_)
    ·have hb2:(inf.bytes:Int)*n<=140737488355328:=by
      have M:(inf.bytes:Int)*n<=4096*n:=Int.mul_le_mul_of_nonneg_right (by omega) C.1;omega
     have J:(decide (n<0)||decide ((inf.bytes:Int)*n>2 ^ 48))=false:=by
      simp only[Bool.or_eq_false_iff,decide_eq_false_iff_not];omega
     unfold execOp;simp only[L,Instr.makeSlice,Sem.run_bind,run_underlying Y,Result.andThen_ok,hn,asInt,asIntOf,Sem.run_pure,typeInfo,run_program,s,hwrap,J,sizeOf];have h0n:¬n<0:=by omega
     simp only[h0n,decide_false,Bool.false_or,gt_iff_lt,Int.lt_irrefl,aE,if_false];have e0:∀f:Nat->Value,Array.map f (Array.range 0) = #[]:=λf=>Array.eq_empty_of_size_eq_zero (by simp)
     by_cases O:n.toNat*t.size=0
     ·simp[O,e0,newRow,arr,s,q]
     ·simp[O,zeroValue,typeInfo,s,hz,q,newRow,arr,Z]
    ·rw[V];exact h7
   ·cases b
  ·cases b
 ·cases b
end ops
section ops
variable {P:Program} {w0:Bs} {G:Gh} {S:St} {a:Act} {w:World} {o:Oper} {K:Act->World->Prop} {Q:Exit->Act->World->Prop}
theorem yX{n p:Nat}:p=p / n*n+p % n:=by
 have:=Nat.div_add_mod p n;rw[Nat.mul_comm]at this;omega
theorem wF{i j n m:Nat}(a:i<m)(b:j<n):i*n+j<m*n:=by
 have:(i+1)*n<=m*n:=Nat.mul_le_mul_right _ a;rw[Nat.succ_mul]at this;omega
theorem Gn{t:Ty}{xs:List t.den}{p:Nat}(hp:p<xs.length*t.size):∃x d,xs[p / t.size]?=some x/\(t.cells x)[p % t.size]?=some d:=by
 have b:=t.size_pos;have c:p / t.size<xs.length:=Nat.div_lt_of_lt_mul (by rw[Nat.mul_comm];exact hp);have e:p % t.size<t.size:=Nat.mod_lt _ b;have a:p % t.size<(t.cells xs[p / t.size]).length:=by rw[Ty.bn];exact e
 exact⟨xs[p / t.size],(t.cells xs[p / t.size])[p % t.size],by simp[c],by simp[a]⟩
theorem OwT.laid{S:Nat->Nat->Prop}{deep m:Bool}{t:Ty}{xs:List t.den}{v:Value}{fp:Nat->Prop}(h:OwT w S deep m t xs v fp) :
  (v=.slice none 0 0/\xs=[])\/∃b cap arr E rest cells,v=.slice (some ⟨b,0,none⟩) xs.length cap/\w.heap[b]?=some (.cells arr E (0,0))/\xs.length<=cap/\cap<=maxLen/\arr.size=cap*t.size/\fp b /\
   arr.toList=cells++rest/\lg w S deep t xs cells (λc=>fp c/\c≠b)/\(∀o,S b o->m=false/\o<xs.length*t.size):=by
 rcases h with h | ⟨b,cap,arr,E,vs,fps,rfl,r,hcap,hmax,g,l,hc,q,hf,hdis,s⟩
 ·exact .inl h
 ·have u:xs.length*t.size<=arr.toList.length:=by
   have e:arr.toList.length=arr.size:=Array.length_toList;rw[e,g];exact Nat.mul_le_mul_right _ hcap
  have hcell:∀(i:Nat) (x:t.den) (j:Nat) (d:D),xs[i]?=some x->(t.cells x)[j]?=some d->(arr.toList.take (xs.length*t.size))[i*t.size+j]?=some (vs i j):=by
   intro i x j d a f;have y:i<xs.length:=(zC.1 a).1;have z:j<t.size:=by
    have:=(zC.1 f).1;rwa [Ty.bn]at this
   rw[List.getElem?_take,if_pos (wF y z)];simpa using hc i x j d a f
  refine .inr ⟨b,cap,arr,E,arr.toList.drop (xs.length*t.size),arr.toList.take (xs.length*t.size),rfl,r,hcap,hmax,g,l,(List.take_append_drop _ _).symm,⟨?_,?_,vs,fps,λi x j d a f=>⟨hcell i x j d a f,q i x j d a f⟩,hf,hdis⟩,s⟩
  ·rw[a8];omega
  ·intro v A;obtain⟨p,k,rfl⟩:=List.mem_iff_getElem.1 A;have hp:=k;rw[a8]at hp;obtain⟨x,d,a,f⟩:=Gn (t:=t) (xs:=xs) (p:=p) (by omega);have e:=hcell _ _ _ _ a f;rw[<- yX (n:=t.size)]at e;have B:(arr.toList.take (xs.length*t.size))[p]?=some (arr.toList.take (xs.length*t.size))[p]:=zF k;rw[B]at e;rw[aR e];exact (q _ _ _ _ a f).one
theorem Jl{w':World}{S S':Nat->Nat->Prop}{deep dp m:Bool}{t:Ty}{xs ys:List t.den}{olds news rest:List Value}{labD labS:Nat->Prop}
  (D:lg w S deep t xs olds labD) (F:lg w S dp t ys news labS) (n:∀c,labD c->labS c->False)
  {g cap:Nat} {arr:Array Value} {E:TypeId} (G:w'.heap[g]?=some (.cells arr E (0,0))) (harr:arr.toList=olds++news++rest) (hcap:xs.length+ys.length<=cap) (hmax:cap<=maxLen) (s:arr.size=cap*t.size)
  {lab:Nat->Prop} (H:lab g) (p:∀c,labD c\/labS c->lab c/\c≠g/\w'.heap[c]?=w.heap[c]?) (B:∀b o,S b o->S' b o/\w'.cell? ⟨b,o,none⟩=w.cell? ⟨b,o,none⟩)
  (I:∀o,S' g o->m=false/\o<(xs.length+ys.length)*t.size) :
  OwT w' S' (deep&&dp) m t (xs++ys) (.slice (some ⟨g,0,none⟩) (xs.length+ys.length) cap) lab:=by
 obtain⟨J,N,u,fps1,c1,q,K⟩:=D;obtain⟨O,o2,v,fps2,c2,r,L⟩:=F;refine .inr ⟨g,cap,arr,E,λi j=>if i<xs.length then u i j else v (i-xs.length) j,λi j c=>if i<xs.length then fps1 i j c else fps2 (i-xs.length) j c,by rw[a6],G,by rw[a6];exact hcap,hmax,s,H,?_,?_,?_,?_,?_⟩
 ·intro i x j d k l;have C:j<t.size:=by
   have:=(zC.1 l).1;rwa [Ty.bn]at this
  rw[<- Array.getElem?_toList,harr];by_cases f:i<xs.length
  ·rw[List.getElem?_append_left f]at k;have y:=(c1 i x j d k l).1;have z:=wF f C;rw[a7,List.getElem?_append_left (by omega),y];simp[f]
  ·rw[List.getElem?_append_right (by omega)]at k;have y:=(c2 (i-xs.length) x j d k l).1;have A:i-xs.length<ys.length:=(zC.1 k).1;have z:=wF A C;have e:i*t.size+j=xs.length*t.size+((i-xs.length)*t.size+j):=by
    rw[<- Nat.add_assoc,<- Nat.add_mul];congr 2;omega
   rw[a7,List.getElem?_append_right (by omega),List.getElem?_append_left (by omega),J,e,Nat.add_sub_cancel_left,y];simp[f]
 ·intro i x j d k l;by_cases f:i<xs.length
  ·rw[List.getElem?_append_left f]at k;simp only[f,if_true];exact ((c1 i x j d k l).2.move B λc hc=>(p c (.inl (q i j c hc))).2.2).sub (λ_ hc=>hc) λe=>(zI _ _▸e).1
  ·rw[List.getElem?_append_right (by omega)]at k;simp only[f,if_false];exact ((c2 _ x j d k l).2.move B λc hc=>(p c (.inr (r _ j c hc))).2.2).sub (λ_ hc=>hc) λe=>(zI _ _▸e).2
 ·intro i j c hc;by_cases f:i<xs.length
  ·simp only[f,if_true]at hc;have:=p c (.inl (q i j c hc));exact⟨this.1,this.2.1⟩
  ·simp only[f,if_false]at hc;have:=p c (.inr (r _ j c hc));exact⟨this.1,this.2.1⟩
 ·intro i j i' j' c hc a;by_cases f:i<xs.length
  ·simp only[f,if_true]at hc;by_cases h:i'<xs.length
   ·simp only[h,if_true]at a;exact K _ _ _ _ _ hc a
   ·simp only[h,if_false]at a;exact (n c (q _ _ _ hc) (r _ _ _ a)).elim
  ·simp only[f,if_false]at hc;by_cases h:i'<xs.length
   ·simp only[h,if_true]at a;exact (n c (q _ _ _ a) (r _ _ _ hc)).elim
   ·simp only[h,if_false]at a;have:=L _ _ _ _ _ hc a;omega
 ·intro oo M;rw[a6];exact I oo M
theorem qh{t:Ty}(hf:t.flat=true){x:t.den}{j:Nat}{d:D}(b:(t.cells x)[j]?=some d):mr d=none:=by
 have a:((t.cells x).map mr)[j]?=some (mr d):=by simp[b]
 rw[Ll]at a;have:=List.all_eq_true.1 hf _ (zG a);simpa using this
theorem G7{S S':Nat->Nat->Prop}{dp:Bool}{d:D}{v:Value}{fp:Nat->Prop}(c:mr d=none)(h:Rep w S d v):Ow w S' dp d v fp:=by
 cases h with
 | int k n=>exact .int k n fp
 | bool b=>exact .bool b fp
 | str s=>exact .str s fp
 | nil t=>cases c
 | emp t a cap=>cases c
 | list t xs b off cap vs hcap hc e=>cases c
theorem Eu(h:Inv w0 G S a w){t:Ty}{ys:List t.den}{c:C}{v:Value}{dp:Bool}(s:(cD (some t) c).val S=some (.list t ys))(hc:l9 G w c v)
  (l:((if t.flat then Rd.ret true else CV c)).val S=some dp) {S':Nat->Nat->Prop} (Q:∀x o,(G.S x o\/AK G S (aP [c]) x o)->S' x o) :
  ((∃(ad:Option Addr) (cap:Nat),v=.slice ad 0 cap/\(ad=none->cap=0))/\ys=[])\/∃b off cap news,v=.slice (some ⟨b,off,none⟩) ys.length cap/\(∀p u,news[p]?=some u->w.cell? ⟨b,off+p,none⟩=some u) /\
   lg w S' dp t ys news (λx=>t.flat=false/\rowsOf G S c x):=by
 have hrep:=Eg h s hc (aP [c]) (λk j e=>by subst e;simp[aP]);generalize r:D.list t ys=dd at hrep;cases hrep with
 | int=>cases r
 | bool=>cases r
 | str=>cases r
 | nil t'=>cases r;exact .inl ⟨⟨none,0,rfl,λ_=>rfl⟩,rfl⟩
 | emp t' ad cap=>cases r;exact .inl ⟨⟨some ad,cap,rfl,λhh=>(by cases hh)⟩,rfl⟩
 | list t' xs' b off cap vs hcap A I=>
  cases r
  have hnews:∀(p:Nat) (u:Value),((List.range (ys.length*t.size)).map λp=>vs (p / t.size) (p % t.size))[p]?=some u->p<ys.length*t.size/\u=vs (p / t.size) (p % t.size):=by
   intro p u z;simp only[List.getElem?_map,Option.map_eq_some_iff]at z;obtain⟨q,J,rfl⟩:=z;have g:p<ys.length*t.size:=by have:=(zC.1 J).1;simpa using this
   have:q=p:=by simp[g]at J;exact J.symm
   rw[this];exact⟨g,rfl⟩
  have hget:∀(i j:Nat),i<ys.length->j<t.size->((List.range (ys.length*t.size)).map λp=>vs (p / t.size) (p % t.size))[i*t.size+j]?=some (vs i j):=by
   intro i j U B;have g:=wF U B;have y:(i*t.size+j) / t.size=i:=by rw[Nat.mul_comm,Nat.mul_add_div t.size_pos,Nat.div_eq_of_lt B];omega
   have R:(i*t.size+j) % t.size=j:=by rw[Nat.mul_comm,Nat.mul_add_mod,Nat.mod_eq_of_lt B]
   simp[g,y,R]
  refine .inr ⟨b,off,cap,(List.range (ys.length*t.size)).map λp=>vs (p / t.size) (p % t.size),rfl,?_,by simp,?_,?_⟩
  ·intro p u z;obtain⟨g,rfl⟩:=hnews p u z;obtain⟨x,d,m,f⟩:=Gn (t:=t) (xs:=ys) g;have:=(A _ _ _ _ m f).1;rw[<- yX (n:=t.size)]at this;exact this
  ·intro u z;obtain⟨p,H⟩:=List.mem_iff_getElem?.1 z;obtain⟨g,rfl⟩:=hnews p u H;obtain⟨x,d,m,f⟩:=Gn (t:=t) (xs:=ys) g;exact (I _ _ _ _ m f).one
  ·by_cases hf:t.flat=true
   ·refine⟨vs,λ_ _ _=>False,λi x j d m f=>⟨hget i j (zC.1 m).1 (by have:=(zC.1 f).1;rwa [Ty.bn]at this),G7 (qh hf f) (I _ _ _ _ m f)⟩,λ_ _ _ hh=>hh.elim,λ_ _ _ _ _ hh=>hh.elim⟩
   ·have K:t.flat=false:=by simpa using hf
    rw[if_neg hf]at l;cases dp with
    | false=>
     exact⟨vs,λ_ _ _=>False,λi x j d m f=>⟨hget i j (zC.1 m).1 (by have:=(zC.1 f).1;rwa [Ty.bn]at this),.ro _ _ _ rfl ((I _ _ _ _ m f).move λx o L=>⟨Q x o L,rfl⟩)⟩,λ_ _ _ hh=>hh.elim,λ_ _ _ _ _ hh=>hh.elim⟩
    | true=>
     cases c with
     | undef=>cases s
     | d x=>
      simp only[cD,Rd.val,zD]at s;subst s;simp[CV,Rd.val]at l
     | nil=>
      have:Value.slice (some ⟨b,off,none⟩) ys.length cap=.slice none 0 0:=hc;cases this
     | ptr b' off'=>cases s
     | own k j=>
      simp only[CV,Rd.val]at l;simp only[cD,Rd.val]at s;have hcore:∀ {m':Bool},(aZ (S.aI k) j).sV=.own t ys true m'->∃(E:Nat->Nat->Value) (fps:Nat->Nat->Nat->Prop),(∀(i:Nat) (x:t.den) (j':Nat) (d:D),ys[i]?=some x->(t.cells x)[j']?=some d ->
        ((List.range (ys.length*t.size)).map λp=>vs (p / t.size) (p % t.size))[i*t.size+j']?=some (E i j')/\Ow w S' true d (E i j') (fps i j'))/\(∀i j' c,fps i j' c->t.flat=false/\rowsOf G S (C.own k j) c)/\∀i j' i' j'' c,fps i j' c->fps i' j'' c->i=i'/\j'=j'':=by
       intro m' hown;have V:=h.aee hown;rcases V with ⟨H,_⟩ | ⟨b',cap',arr,e,vs',fps',F,M,hcap',_,_,_,N,O,P,hdis',_⟩
       ·rw[<- hc.2.1]at H;cases H
       ·rw[<- hc.2.1]at F;injection F with y R X;injection y with y;injection y with y W _;subst y;subst W;refine⟨vs,λi j c=>fps' i j c,λi x j' d m f=>?_,λi j' c hh=>⟨K,k,j,rfl,(P i j' c hh).1,_,_,_,_,hown⟩,hdis'⟩;have B:j'<t.size:=by
         have:=(zC.1 f).1;rwa [Ty.bn]at this
        refine⟨hget i j' (zC.1 m).1 B,?_⟩;have ee:vs i j'=vs' i j':=by
         have T:=(A i x j' d m f).1;rw[Nat.zero_add,cell_of_row w _ _ _ _ _ M,N i x j' d m f]at T;exact (aR T).symm
        rw[ee];exact (O i x j' d m f).move (λx o L=>⟨Q x o (.inl L),rfl⟩) λ_ _=>rfl
      split at l
      ·rename_i t' xs' deep' m' hown;simp only[Rd.val,zD]at l;subst l;rw[hown]at s;simp only[Rd.val,zD]at s;cases s
       exact hcore (m':=m') (by rw[hown];rfl)
      ·rename_i t' xs' hown;rw[hown]at s;simp only[Rd.val,zD]at s;cases s
       exact hcore (m':=true) (by rw[hown];rfl)
      ·simp[Rd.val]at l
end ops
